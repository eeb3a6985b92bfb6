import Derived.Test.YthnnbpnocefmgaaGreatSysL
import Derived.Test.YthnnbpnocefmgaaGreatQop9
import Derived.Test.YthnnbpnocefmgaaGreatOpenS
import Derived.Deep.QuietTactic
import Derived.BigQuiet
namespace Go.Proofs.YthnnbpnocefmgaaGreat
set_option linter.unusedVariables false
set_option linter.unusedSimpArgs false
open Go.RowKit
theorem BoxQ.put4 {w : World} {g : Nat} {q q' : Rat} {L L' : Nat} (h : BoxQ w g q L) {t : Bool} {A B : Option Addr} {n c m d : Nat} (hq : QV w (.agg #[.bool t, .slice A n c, .bool false, .slice B m d]) q' L') :
  BoxQ ((((w.setCell ⟨g, 0, none⟩ (.bool t)).setCell ⟨g, 1, none⟩ (.slice A n c)).setCell ⟨g, 2, none⟩ (.bool false)).setCell ⟨g, 3, none⟩ (.slice B m d)) g q' L' := by
 obtain ⟨t0, A0, n0, c0, B0, m0, d0, h1, _⟩ := h
 obtain ⟨x, y, e, h2, h3⟩ := hq
 exact ⟨t, A, n, c, B, m, d, by simp [World.setCell, Array.getElem?_modify, h1], x, y, e, put4_lim h2 h1 (by decide), put4_lim h3 h1 (by decide)⟩
theorem LstV.q_at {w : World} {A : Option Addr} {n c : Nat} {qs : List Rat} {L : Nat} (h : QRowE L w (.slice A n c) qs) : n = qs.length ∧ qs.length ≤ c ∧ c ≤ maxLen ∧ (0 < qs.length → ∃ b o, A = some ⟨b, o, none⟩ ∧ ∀ k, k < qs.length →
  ∃ s A1 n1 c1 B1 m1 d1, w.cell? ⟨b, o + k * 4, none⟩ = some (.bool s) ∧ w.cell? ⟨b, o + k * 4 + 1, none⟩ = some (.slice A1 n1 c1) ∧ w.cell? ⟨b, o + k * 4 + 2, none⟩ = some (.bool false) ∧ w.cell? ⟨b, o + k * 4 + 3, none⟩ = some (.slice B1 m1 d1) ∧
   QV w (.agg #[.bool s, .slice A1 n1 c1, .bool false, .slice B1 m1 d1]) (qs.getD k 0) L) := by
 obtain ⟨A', c', e, h1, h2, h3⟩ := h
 injection e with e1 e2 e3
 subst e1 e2 e3
 refine ⟨rfl, h1, h2, fun hx => ?_⟩
 obtain ⟨b, o, rfl, ht, hc⟩ := h3 hx
 refine ⟨b, o, rfl, fun k hk => ?_⟩
 obtain ⟨u, hs, hcu, hq⟩ := hc k (qs.getD k 0) (by simp [List.getD, hk])
 replace hq : QV w u (qs.getD k 0) L := hq
 obtain ⟨s, A1, n1, c1, B1, m1, d1, rfl, _⟩ := hq.parts
 exact ⟨s, A1, n1, c1, B1, m1, d1, hcu 0 (by rw [hs]; decide), hcu 1 (by rw [hs]; decide), hcu 2 (by rw [hs]; decide), hcu 3 (by rw [hs]; decide), hq⟩
theorem LstV.row_at {α : Type} {T T' : TypeId} {sz : Nat} {R : World → Value → α → Prop} {w : World} {A : Option Addr} {n c : Nat} {rows : List (List α)} (h : LstV T 1 (LstV T' sz R) w (.slice A n c) rows) : n = rows.length ∧ rows.length ≤ c ∧ c ≤ maxLen ∧ (0 < rows.length → ∃ b o, A = some ⟨b, o, none⟩ ∧ ∀ k, k < rows.length →
  ∃ A1 c1, w.cell? ⟨b, o + k, none⟩ = some (.slice A1 (rows.getD k []).length c1) ∧ LstV T' sz R w (.slice A1 (rows.getD k []).length c1) (rows.getD k [])) := by
 obtain ⟨A', c', e, h1, h2, h3⟩ := h
 injection e with e1 e2 e3
 subst e1 e2 e3
 refine ⟨rfl, h1, h2, fun hx => ?_⟩
 obtain ⟨b, o, rfl, ht, hc⟩ := h3 hx
 refine ⟨b, o, rfl, fun k hk => ?_⟩
 obtain ⟨u, hs, hcu, hq⟩ := hc k (rows.getD k []) (by simp [List.getD, hk])
 obtain ⟨A1, c1, rfl, _⟩ := id hq
 have := hcu 0 (by rw [hs]; decide)
 rw [Nat.mul_one, Nat.add_zero] at this
 exact ⟨A1, c1, this, hq⟩
def QRows (L : Nat) : World → Value → List (List Rat) → Prop := LstV 27 1 (QRowE L)
theorem stB_qrows (L : Nat) : StB (QRows L) := stB_lst (stB_qrow L)
theorem QRows.below {w w' : World} {v : Value} {rows : List (List Rat)} {L : Nat} (h : QRows L w v rows) (hb : Below w.heap.size w w') : QRows L w' v rows := stB_qrows L _ _ _ _ hb h
theorem QRowE.below {w w' : World} {v : Value} {qs : List Rat} {L : Nat} (h : QRowE L w v qs) (hb : Below w.heap.size w w') : QRowE L w' v qs := stB_qrow L _ _ _ _ hb h
theorem sgnQ_nz {x : Rat} (h : x ≠ 0) : sgnQ x ≠ 0 := by
 have hn : x.num ≠ 0 := fun e => h (Rat.num_eq_zero.1 e)
 unfold sgnQ
 split
 ·omega
 ·rw [if_pos (by omega)]; omega
theorem columns_c (w : World) (v : Value) (rows : List (List Rat)) (L : Nat) (h : QRows L w v rows) :
  Calls Tryz.prog 51 #[v] w (Ret (fun v w' => v = .int .i64 ((rows.getD 0 []).length : Nat) ∧ w = w')) := by
 obtain ⟨A, c, rfl, hc, hm, _⟩ := id h
 obtain ⟨-, -, -, hat⟩ := LstV.row_at h
 unfold maxLen at hm
 by_cases h0 : 0 < rows.length
 ·obtain ⟨b, o, rfl, hat2⟩ := hat h0
  obtain ⟨A1, c1, hc1, hr⟩ := hat2 0 h0
  obtain ⟨_, hr1, hr2, _⟩ := LstV.q_at hr
  unfold maxLen at hr2
  rw [Nat.add_zero] at hc1
  have hne : ((rows.length : Int) == 0) = false := by rw [beq_eq_false_iff_ne]; omega
  clear hat hat2 hr
  go_enter Tryz.func51, Tryz.ntmps51
  go_wp2
  go_ret
  exact ⟨_, rfl, rfl, rfl⟩
 ·obtain ⟨n, hn⟩ : ∃ n, n = rows.length := ⟨_, rfl⟩
  have hn0 : n = 0 := by omega
  rw [← hn]
  subst hn0
  have hz : (rows.getD 0 []).length = 0 := by rw [List.eq_nil_of_length_eq_zero hn.symm]; rfl
  rw [hz]
  clear hat h hc hn hz h0
  go_enter Tryz.func51, Tryz.ntmps51
  go_wp2
  go_ret
  exact ⟨_, rfl, rfl, rfl⟩
set_option maxRecDepth 100000 in
set_option maxHeartbeats 4000000 in
theorem system_ok (w : World) (va vb : Value) (rows : List (List Rat)) (bs : List Rat) (L : Nat) (ha : QRows L w va rows) (hb : QRowE L w vb bs) (hL : L ≤ 1000000000) (h40 : rows.length ≤ 40) (hw40 : (rows.getD 0 []).length ≤ 40)
  (hwd : ∀ i, i < rows.length → (rows.getD i []).length = (rows.getD 0 []).length) (hbl : bs.length = rows.length) (hd : ∀ i j, digitsB 60 (ent rows i j) = false) (hdb : ∀ i, digitsB 60 (bs.getD i 0) = false) :
  Calls Tryz.prog 56 #[va, vb, .bool true] w (Ret (fun v w' => v = .int .i64 0 ∧ Below w.heap.size w w')) := by
 obtain ⟨A, c, rfl, hc, hm, _⟩ := id ha
 obtain ⟨B, d, rfl, hd1, hd2, _⟩ := id hb
 unfold maxLen at hm hd2
 have HA := hide (ai ha (ai hb (ai hwd (ai hbl (ai hd hdb)))))
 clear ha hb hwd hd hdb
 obtain ⟨N, hN⟩ : ∃ N, N = rows.length := ⟨_, rfl⟩
 obtain ⟨wd, hwd⟩ : ∃ wd, wd = (rows.getD 0 []).length := ⟨_, rfl⟩
 rw [hbl] at hd1 ⊢
 rw [← hN] at hc h40 hd1 ⊢
 rw [← hwd] at hw40
 have HN := hide (ai hN hwd)
 clear hN hwd hbl
 have d1 : decide (40 < (N : Int)) = false := by apply decide_eq_false; omega
 go_enter Tryz.func56, Tryz.ntmps56
 go_wp2_with fail
 refine (columns_c _ _ rows L (by have := HA.out.1; rwa [← HN.out.1] at this)).mono ?_
 rintro e w1 ⟨_, rfl, rfl, rfl⟩
 rw [← HN.out.2]
 have d2 : decide (40 < (wd : Int)) = false := by apply decide_eq_false; omega
 go_wp2
 go_loopw [7] (fun s7 wr => ∃ i : Nat, i ≤ N ∧ s7 = .int .i64 i ∧ Below w.heap.size w wr) (fun s7 _ => N - (intOf s7).toNat)
 case atStart => exact ⟨0, Nat.zero_le _, rfl, Below.refl _ _⟩
 case round =>
  obtain ⟨i, hi, rfl, hbel⟩ := hrel
  have HB := hide hbel
  clear hbel
  by_cases hil : i < N
  ·have hq := (HA.out.1.below HB.out)
   obtain ⟨-, -, -, hat⟩ := LstV.row_at hq
   obtain ⟨b, o, eA, hat2⟩ := hat (by rw [← HN.out.1]; omega)
   obtain rfl := eA
   obtain ⟨A1, c1, hc1, hr⟩ := hat2 i (by rw [← HN.out.1]; omega)
   obtain ⟨A0, c0, hc0, hr0⟩ := hat2 0 (by rw [← HN.out.1]; omega)
   rw [HA.out.2.2.1 i (by rw [← HN.out.1]; omega), ← HN.out.2] at hc1
   rw [← HN.out.2, Nat.add_zero] at hc0
   clear hq hat hat2 hr hr0
   have i0 : (0 : Int) ≤ (i : Int) := by omega
   have i1 : (i : Int) < (N : Int) := by omega
   have i2 : (0 : Int) < (N : Int) := by omega
   go_wp2_with fail
   go_quiet (fail)
   go_wp2
   case roundEnd => exact ⟨⟨i + 1, by omega, by go_num, below_drewN HB.out _⟩, by simp [intOf]; omega⟩
  ·have d3 : decide (i < N) = false := decide_eq_false hil
   clear hil
   go_wp2
   go_loopw [8] (fun s8 wr => ∃ k : Nat, k ≤ N ∧ s8 = .int .i64 k ∧ Below w.heap.size w wr) (fun s8 _ => N - (intOf s8).toNat)
   case atStart => exact ⟨0, Nat.zero_le _, rfl, HB.out⟩
   case round =>
    obtain ⟨k, hk, rfl, hbel⟩ := hrel
    obtain ⟨wo, rfl⟩ : ∃ wo : World, wo = wr := ⟨_, rfl⟩
    have HB2 := hide hbel
    clear hbel
    by_cases hkl : k < N
    ·have hq := (HA.out.1.below HB2.out)
     obtain ⟨-, -, -, hat⟩ := LstV.row_at hq
     obtain ⟨b, o, eA, hat2⟩ := hat (by rw [← HN.out.1]; omega)
     obtain rfl := eA
     obtain ⟨A1, c1, hc1, hr⟩ := hat2 k (by rw [← HN.out.1]; omega)
     rw [HA.out.2.2.1 k (by rw [← HN.out.1]; omega), ← HN.out.2] at hc1 hr
     have HR := hide (ai hc1 hr)
     have hbo := lt_of_cell hc1
     clear hq hat hat2 hr hc1
     go_wp2
     go_loopw [9] (fun s9 wr => ∃ j : Nat, j ≤ wd ∧ s9 = .int .i64 j ∧ Below wo.heap.size wo wr) (fun s9 _ => wd - (intOf s9).toNat)
     case atStart => exact ⟨0, Nat.zero_le _, rfl, Below.refl _ _⟩
     case round =>
      obtain ⟨j, hj, rfl, hbi⟩ := hrel
      have HI := hide hbi
      have hc2 := (hbi.cell (p := ⟨b, o + k, none⟩) hbo).trans HR.out.1
      clear hbi
      by_cases hjl : j < wd
      ·obtain ⟨enj, _, _, hatq⟩ := LstV.q_at (QRowE.below HR.out.2 HI.out)
       obtain ⟨bq, oq, eq, hatq2⟩ := hatq (by omega)
       obtain rfl := eq
       obtain ⟨s, A2, n2, c2, B2, m2, d2', e0, e1, e2, e3, hqv⟩ := hatq2 j (by omega)
       have HQ := hide hqv
       clear hatq hatq2 hqv enj
       go_wp2_with fail
       refine (digits_c _ _ _ L 60 HQ.out hL (by omega) (by omega)).mono ?_
       rintro e w7 ⟨_, rfl, rfl, hd7⟩
       rw [show digitsB 60 ((rows.getD k []).getD j 0) = false from HA.out.2.2.2.2.1 k j]
       have HI2 := hide (bnx HI.out hd7)
       clear hd7 e0 e1 e2 e3 hc2
       go_wp2
       case roundEnd => exact ⟨⟨j + 1, by omega, by go_num, HI2.out⟩, by simp [intOf]; omega⟩
      ·have d4 : decide (j < wd) = false := decide_eq_false hjl
       obtain ⟨enj, _, _, hatq⟩ := LstV.q_at (HA.out.2.1.below (HB2.out.trans (HI.out.mono HB2.out.size)))
       obtain ⟨bq, oq, eq, hatq2⟩ := hatq (by rw [HA.out.2.2.2.1, ← HN.out.1]; omega)
       obtain rfl := eq
       obtain ⟨s, A2, n2, c2, B2, m2, d2', e0, e1, e2, e3, hqv⟩ := hatq2 k (by rw [HA.out.2.2.2.1, ← HN.out.1]; omega)
       have HQ := hide hqv
       clear hatq hatq2 hqv enj hjl
       go_wp2_with fail
       refine (digits_c _ _ _ L 60 HQ.out hL (by omega) (by omega)).mono ?_
       rintro e w7 ⟨_, rfl, rfl, hd7⟩
       rw [HA.out.2.2.2.2.2 k]
       have HI2 := hide (HB2.out.trans ((bnx HI.out hd7).mono HB2.out.size))
       clear hd7 e0 e1 e2 e3 hc2
       go_wp2
       case roundEnd => exact ⟨⟨k + 1, by omega, by go_num, HI2.out⟩, by simp [intOf]; omega⟩
    ·have d4 : decide (k < N) = false := decide_eq_false hkl
     go_wp2
     refine bodyPost_ret (v := .int .i64 0) ?_ rfl ?_
     ·simp [results, Tryz.results56, go_sem]
     exact ⟨_, rfl, rfl, HB2.out⟩
set_option maxRecDepth 100000 in
set_option maxHeartbeats 8000000 in
theorem denies_r (w : World) (va vb vw : Value) (rows : List (List Rat)) (bs ws : List Rat) (L n : Nat) (ha : QRows L w va rows) (hb : QRowE L w vb bs) (hw : QRowE L w vw ws) (hn : n ≤ 1000000000) (hLn : L ≤ n / 9 + 1) (hn3 : 18 ≤ n) (h40 : rows.length ≤ 40) (hw40 : (rows.getD 0 []).length ≤ 40)
  (hwd : ∀ i, i < rows.length → (rows.getD i []).length = (rows.getD 0 []).length) (hbl : bs.length = rows.length) (hd : ∀ i j, digitsB 60 (ent rows i j) = false) (hdb : ∀ i, digitsB 60 (bs.getD i 0) = false)
  (hfd : ∀ k, FracQ n (dotN ws bs k)) (hfs : ∀ j k, FracQ n (sumN (colW rows ws j) k)) :
  Calls Tryz.prog 15 #[va, vb, vw] w (Ret (fun v w' => v = .bool (denB rows bs ws) ∧ Below w.heap.size w w')) := by
 obtain ⟨A, c, rfl, hc, hm, _⟩ := id ha
 obtain ⟨B, d, rfl, hd1, hd2, _⟩ := id hb
 obtain ⟨C, g, rfl, hg1, hg2, _⟩ := id hw
 unfold maxLen at hm hd2 hg2
 have HA := hide (ai ha (ai hb (ai hw (ai hwd (ai hbl (ai hd (ai hdb (ai hfd hfs))))))))
 have HS := hide (system_ok w _ _ rows bs L ha hb (by omega) h40 hw40 hwd hbl hd hdb)
 clear ha hb hw hwd hbl hd hdb hfd hfs
 go_enter Tryz.func15, Tryz.ntmps15
 go_wp2_with fail
 refine HS.out.mono ?_
 rintro e w1 ⟨_, rfl, rfl, hb1⟩
 have H1 := hide hb1
 clear hb1
 by_cases hlen : ws.length = rows.length
 ·have HLEN := hide hlen
  obtain ⟨N, hN⟩ : ∃ N, N = rows.length := ⟨_, rfl⟩
  obtain ⟨wd, hwd⟩ : ∃ wd, wd = (rows.getD 0 []).length := ⟨_, rfl⟩
  rw [hlen] at hg1 ⊢
  rw [← hN] at hc h40 hg1 ⊢
  rw [HA.out.2.2.2.2.1, ← hN] at hd1 ⊢
  rw [← hwd] at hw40
  have HN := hide (ai hN hwd)
  clear hN hwd hlen
  go_wp2
  go_loopw [7] (fun s7 wr => ∃ j : Nat, j ≤ wd ∧ s7 = .int .i64 j ∧ Hid (∀ i, i < j → sumN (colW rows ws i) rows.length = 0) ∧ Below w.heap.size w wr) (fun s7 _ => wd - (intOf s7).toNat)
  case atStart => exact ⟨0, Nat.zero_le _, rfl, hide (fun i hi => absurd hi (Nat.not_lt_zero i)), H1.out⟩
  case round =>
   obtain ⟨j, hj, rfl, hzero, hbel⟩ := hrel
   obtain ⟨wo, rfl⟩ : ∃ wo : World, wo = wr := ⟨_, rfl⟩
   have HO := hide (ai hzero hbel)
   clear hzero hbel
   go_wp2_with fail
   refine (columns_c _ _ rows L (by have := HA.out.1.below HO.out.2; rwa [← HN.out.1] at this)).mono ?_
   rintro e w2 ⟨_, rfl, rfl, rfl⟩
   rw [← HN.out.2]
   by_cases hjl : j < wd
   ·go_wp2_with fail
    refine (frac9_c _ 0 1 (by omega) (by omega) (by omega) (by omega) (by omega)).mono ?_
    rintro e w3 ⟨_, rfl, hy, hd3⟩
    rw [show Rat.divInt 0 1 = (0 : Rat) from rfl] at hy
    obtain ⟨sy, Ay, ny, cy, By, my, dy, rfl, _, _⟩ := hy.parts
    obtain ⟨W3, hW3⟩ : ∃ W3, W3 = w3.alloc (.cells #[.bool sy, .slice Ay ny cy, .bool false, .slice By my dy] 41) := ⟨_, rfl⟩
    have hda : Below w3.heap.size w3 W3 := by rw [hW3]; exact (Below.refl _ _).alloc (nr _) _
    have hbox : BoxQ W3 w3.heap.size (sumN (colW rows ws j) 0) (n / 9 + 1) := ⟨_, _, _, _, _, _, _, by rw [hW3]; exact at_new _ _, (hy.below hda).more (by omega)⟩
    have HZ := hide (ai hbox (ai (HO.out.2.trans ((bnx hd3 hda).mono HO.out.2.size)) (ai hda hW3)))
    have hw3 : w.heap.size ≤ w3.heap.size := by have := HO.out.2.size; have := hd3.size; omega
    have HD3 := hide (HO.out.2.trans (hd3.mono HO.out.2.size))
    clear hy hbox hda hW3 hd3
    go_wp2
    rw [← HZ.out.2.2.2]
    go_loopw [9] (fun s9 wr => ∃ k : Nat, k ≤ N ∧ s9 = .int .i64 k ∧ BoxQ wr w3.heap.size (sumN (colW rows ws j) k) (n / 9 + 1) ∧ Below w3.heap.size w3 wr) (fun s9 _ => N - (intOf s9).toNat)
    case atStart => exact ⟨0, Nat.zero_le _, rfl, HZ.out.1, HZ.out.2.2.1⟩
    case round =>
     obtain ⟨k, hk, rfl, hbx, hbi⟩ := hrel
     have hbw := HD3.out.trans (hbi.mono HD3.out.size)
     by_cases hkl : k < N
     ·have hba : Below wr.heap.size wr wr.drew := (Below.refl _ _).drew
      have hbwd : Below w.heap.size w wr.drew := hbw.drew
      obtain ⟨-, -, -, hat⟩ := LstV.row_at (HA.out.1.below hbwd)
      obtain ⟨b, o, eA, hat2⟩ := hat (by rw [← HN.out.1]; omega)
      obtain rfl := eA
      obtain ⟨A1, c1, hc1, hr⟩ := hat2 k (by rw [← HN.out.1]; omega)
      rw [HA.out.2.2.2.1 k (by rw [← HN.out.1]; omega), ← HN.out.2] at hc1 hr
      obtain ⟨-, -, -, hatq⟩ := LstV.q_at hr
      obtain ⟨bq, oq, eq, hatq2⟩ := hatq (by rw [HA.out.2.2.2.1 k (by rw [← HN.out.1]; omega), ← HN.out.2]; omega)
      obtain rfl := eq
      obtain ⟨s, A2, n2, c2, B2, m2, d2, z0, z1, z2, z3, hqv⟩ := hatq2 j (by rw [HA.out.2.2.2.1 k (by rw [← HN.out.1]; omega), ← HN.out.2]; omega)
      obtain ⟨-, -, -, hatw⟩ := LstV.q_at (HA.out.2.2.1.below hbwd)
      obtain ⟨bw, ow, ew, hatw2⟩ := hatw (by rw [HLEN.out, ← HN.out.1]; omega)
      obtain rfl := ew
      obtain ⟨s3, A3, n3, c3, B3, m3, d3, y0, y1, y2, y3, hqw⟩ := hatw2 k (by rw [HLEN.out, ← HN.out.1]; omega)
      have hbd := hbx.below hba
      obtain ⟨s5, A5, n5, c5, B5, m5, d5, hh5, hq5⟩ := id hbd
      obtain ⟨p0, p1, p2, p3, _⟩ := four_cells hh5
      have l1 : w3.heap.size < wr.drew.heap.size := lt_of_block hh5
      have HH := hide (ai hbd (ai hbi (ai hqv (ai hqw hq5))))
      clear hat hat2 hatq hatq2 hatw hatw2 hr hqv hqw hq5 hh5 hbd hbx hbw hbwd hbi
      go_wp2_with fail
      go_region_law (first
       | (go_simp; go_at_call 25; refine (times9_c _ _ _ (ws.getD k 0) ((rows.getD k []).getD j 0) L HH.out.2.2.2.1 HH.out.2.2.1 (by omega)).mono ?_; rintro e w5 ⟨u5, rfl, hu5, hd5⟩; have p0 := (hd5.cell (p := ⟨w3.heap.size, 0, none⟩) l1).trans p0; have p1 := (hd5.cell (p := ⟨w3.heap.size, 1, none⟩) l1).trans p1; have p2 := (hd5.cell (p := ⟨w3.heap.size, 2, none⟩) l1).trans p2; have p3 := (hd5.cell (p := ⟨w3.heap.size, 3, none⟩) l1).trans p3)
       | (go_simp; go_at_call 23; refine (plus9_c _ _ _ (sumN (colW rows ws j) k) (ws.getD k 0 * (rows.getD k []).getD j 0) (2 * (n / 9 + 1) + 1) ((HH.out.2.2.2.2.below hd5).more (by omega)) (hu5.more (by omega)) (by omega)).mono ?_; rintro e w6 ⟨u6, rfl, hu6, hd6⟩;
          rw [show sumN (colW rows ws j) k + ws.getD k 0 * (rows.getD k []).getD j 0 = sumN (colW rows ws j) (k + 1) from rfl] at hu6;
          replace hu6 := hu6.fit (HA.out.2.2.2.2.2.2.2.2 j (k + 1));
          obtain ⟨sn, An, nn, cn, Bn, mn, dn, rfl, _, _⟩ := hu6.parts;
          have hb6 := (HH.out.1.below hd5).below hd6;
          have hdd := bnx HH.out.2.1 (bnx hba (bnx hd5 hd6));
          have HU := hide (ai (hb6.put4 hu6) (below_put4 (B := w3.heap.size) (x := .bool sn) (y := .slice An nn cn) (z := .bool false) (u := .slice Bn mn dn) hdd (nr _)));
          clear p0 p1 p2 p3 y0 y1 y2 y3 z0 z1 z2 z3 hc1;
          obtain ⟨_, _, _, _, _, _, _, hh6, _⟩ := id hb6;
          obtain ⟨p0, p1, p2, p3, f0, f1, f2, f3⟩ := four_cells hh6;
          clear hh6 hb6 hu6 hdd))
      all_goals
       clear hd5 hd6 hu5
       go_wp2
       case roundEnd => exact ⟨⟨k + 1, by omega, by go_num, HU.out.1, HU.out.2⟩, by simp [intOf]; omega⟩
     ·have d4 : decide (k < N) = false := decide_eq_false hkl
      obtain ⟨s5, A5, n5, c5, B5, m5, d5, hh5, hq5⟩ := id hbx
      obtain ⟨p0, p1, p2, p3, _⟩ := four_cells hh5
      obtain ⟨x, hx⟩ : ∃ x, x = sumN (colW rows ws j) k := ⟨_, rfl⟩
      rw [← hx] at hq5
      have hkN : sumN (colW rows ws j) rows.length = x := by rw [hx, ← HN.out.1, show N = k by omega]
      have HQ := hide (ai hq5 (ai hkN hbw))
      clear hq5 hh5 hbx hbw hbi hx hkN hkl
      go_wp2_with fail
      refine (sgn9_c _ _ x _ HQ.out.1).mono ?_
      rintro e w7 ⟨_, rfl, rfl, hd7⟩
      have H7 := hide (HQ.out.2.2.trans (hd7.mono HQ.out.2.2.size))
      clear hd7 p0 p1 p2 p3
      by_cases hx0 : x = 0
      ·rw [show sgnQ x = 0 by rw [hx0]; rfl]
       have HX0 := hide hx0
       clear hx0
       go_wp2
       case roundEnd => exact ⟨⟨j + 1, by omega, by go_num, hide (fun i hi => by
        by_cases e : i = j
        ·rw [e, HQ.out.2.1]; exact HX0.out
        ·exact HO.out.1.out i (by omega)), H7.out⟩, by simp [intOf]; omega⟩
      ·obtain ⟨z, hz⟩ : ∃ z, z = sgnQ x := ⟨_, rfl⟩
       have hs : z ≠ 0 := by rw [hz]; exact sgnQ_nz hx0
       rw [← hz]
       have hzb : (z != 0) = true := by rw [bne_iff_ne]; exact hs
       have hno : ¬ isDen rows bs ws := fun h => hx0 (by rw [← HQ.out.2.1]; exact h.2.1 j (by rw [← HN.out.2]; exact hjl))
       have HNO := hide hno
       clear hno hx0 hz hs
       go_wp2
       refine bodyPost_ret (v := .bool false) ?_ rfl ?_
       ·simp [results, Tryz.results15, go_sem]
       exact ⟨_, rfl, by rw [denB_no HNO.out], H7.out⟩
   ·have d3 : decide (j < wd) = false := decide_eq_false hjl
    have hall : ∀ i, i < (rows.getD 0 []).length → sumN (colW rows ws i) rows.length = 0 := fun i hi => HO.out.1.out i (by rw [← HN.out.2] at hi; omega)
    have HALL := hide hall
    clear hall hjl
    go_wp2_with fail
    refine (frac9_c _ 0 1 (by omega) (by omega) (by omega) (by omega) (by omega)).mono ?_
    rintro e w3 ⟨_, rfl, hy, hd3⟩
    rw [show Rat.divInt 0 1 = (0 : Rat) from rfl] at hy
    obtain ⟨sy, Ay, ny, cy, By, my, dy, rfl, _, _⟩ := hy.parts
    obtain ⟨W3, hW3⟩ : ∃ W3, W3 = w3.alloc (.cells #[.bool sy, .slice Ay ny cy, .bool false, .slice By my dy] 41) := ⟨_, rfl⟩
    have hda : Below w3.heap.size w3 W3 := by rw [hW3]; exact (Below.refl _ _).alloc (nr _) _
    have hbox : BoxQ W3 w3.heap.size (dotN ws bs 0) (n / 9 + 1) := ⟨_, _, _, _, _, _, _, by rw [hW3]; exact at_new _ _, (hy.below hda).more (by omega)⟩
    have HZ := hide (ai hbox (ai (HO.out.2.trans ((bnx hd3 hda).mono HO.out.2.size)) (ai hda hW3)))
    have hw3 : w.heap.size ≤ w3.heap.size := by have := HO.out.2.size; have := hd3.size; omega
    have HD3 := hide (HO.out.2.trans (hd3.mono HO.out.2.size))
    clear hy hbox hda hW3 hd3
    go_wp2
    rw [← HZ.out.2.2.2]
    go_loopw [11] (fun s11 wr => ∃ k : Nat, k ≤ N ∧ s11 = .int .i64 k ∧ BoxQ wr w3.heap.size (dotN ws bs k) (n / 9 + 1) ∧ Below w3.heap.size w3 wr) (fun s11 _ => N - (intOf s11).toNat)
    case atStart => exact ⟨0, Nat.zero_le _, rfl, HZ.out.1, HZ.out.2.2.1⟩
    case round =>
     obtain ⟨k, hk, rfl, hbx, hbi⟩ := hrel
     have hbw := HD3.out.trans (hbi.mono HD3.out.size)
     by_cases hkl : k < N
     ·have hba : Below wr.heap.size wr wr.drew := (Below.refl _ _).drew
      have hbwd : Below w.heap.size w wr.drew := hbw.drew
      obtain ⟨-, -, -, hatq⟩ := LstV.q_at (HA.out.2.1.below hbwd)
      obtain ⟨bq, oq, eq, hatq2⟩ := hatq (by rw [HA.out.2.2.2.2.1, ← HN.out.1]; omega)
      obtain rfl := eq
      obtain ⟨s, A2, n2, c2, B2, m2, d2, z0, z1, z2, z3, hqv⟩ := hatq2 k (by rw [HA.out.2.2.2.2.1, ← HN.out.1]; omega)
      obtain ⟨-, -, -, hatw⟩ := LstV.q_at (HA.out.2.2.1.below hbwd)
      obtain ⟨bw, ow, ew, hatw2⟩ := hatw (by rw [HLEN.out, ← HN.out.1]; omega)
      obtain rfl := ew
      obtain ⟨s3, A3, n3, c3, B3, m3, d3, y0, y1, y2, y3, hqw⟩ := hatw2 k (by rw [HLEN.out, ← HN.out.1]; omega)
      have hbd := hbx.below hba
      obtain ⟨s5, A5, n5, c5, B5, m5, d5, hh5, hq5⟩ := id hbd
      obtain ⟨p0, p1, p2, p3, _⟩ := four_cells hh5
      have l1 : w3.heap.size < wr.drew.heap.size := lt_of_block hh5
      have HH := hide (ai hbd (ai hbi (ai hqv (ai hqw hq5))))
      clear hatq hatq2 hatw hatw2 hqv hqw hq5 hh5 hbd hbx hbw hbwd hbi
      go_wp2_with fail
      go_region_law (first
       | (go_simp; go_at_call 25; refine (times9_c _ _ _ (ws.getD k 0) (bs.getD k 0) L HH.out.2.2.2.1 HH.out.2.2.1 (by omega)).mono ?_; rintro e w5 ⟨u5, rfl, hu5, hd5⟩; have p0 := (hd5.cell (p := ⟨w3.heap.size, 0, none⟩) l1).trans p0; have p1 := (hd5.cell (p := ⟨w3.heap.size, 1, none⟩) l1).trans p1; have p2 := (hd5.cell (p := ⟨w3.heap.size, 2, none⟩) l1).trans p2; have p3 := (hd5.cell (p := ⟨w3.heap.size, 3, none⟩) l1).trans p3)
       | (go_simp; go_at_call 23; refine (plus9_c _ _ _ (dotN ws bs k) (ws.getD k 0 * bs.getD k 0) (2 * (n / 9 + 1) + 1) ((HH.out.2.2.2.2.below hd5).more (by omega)) (hu5.more (by omega)) (by omega)).mono ?_; rintro e w6 ⟨u6, rfl, hu6, hd6⟩;
          rw [show dotN ws bs k + ws.getD k 0 * bs.getD k 0 = dotN ws bs (k + 1) from rfl] at hu6;
          replace hu6 := hu6.fit (HA.out.2.2.2.2.2.2.2.1 (k + 1));
          obtain ⟨sn, An, nn, cn, Bn, mn, dn, rfl, _, _⟩ := hu6.parts;
          have hb6 := (HH.out.1.below hd5).below hd6;
          have hdd := bnx HH.out.2.1 (bnx hba (bnx hd5 hd6));
          have HU := hide (ai (hb6.put4 hu6) (below_put4 (B := w3.heap.size) (x := .bool sn) (y := .slice An nn cn) (z := .bool false) (u := .slice Bn mn dn) hdd (nr _)));
          clear p0 p1 p2 p3 y0 y1 y2 y3 z0 z1 z2 z3;
          obtain ⟨_, _, _, _, _, _, _, hh6, _⟩ := id hb6;
          obtain ⟨p0, p1, p2, p3, f0, f1, f2, f3⟩ := four_cells hh6;
          clear hh6 hb6 hu6 hdd))
      all_goals
       clear hd5 hd6 hu5
       go_wp2
       case roundEnd => exact ⟨⟨k + 1, by omega, by go_num, HU.out.1, HU.out.2⟩, by simp [intOf]; omega⟩
     ·have d4 : decide (k < N) = false := decide_eq_false hkl
      have hba : Below wr.heap.size wr wr.drew := (Below.refl _ _).drew
      have hbd := hbx.below hba
      obtain ⟨s5, A5, n5, c5, B5, m5, d5, hh5, hq5⟩ := id hbd
      obtain ⟨p0, p1, p2, p3, _⟩ := four_cells hh5
      have l1 : w3.heap.size < wr.drew.heap.size := lt_of_block hh5
      obtain ⟨x, hx⟩ : ∃ x, x = dotN ws bs k := ⟨_, rfl⟩
      rw [← hx] at hq5
      have hkN : dotL ws bs = x := by rw [hx]; unfold dotL; rw [HLEN.out, ← HN.out.1, show N = k by omega]
      have HQ := hide (ai hq5 (ai hkN hbw.drew))
      clear hq5 hh5 hbx hbw hbi hbd hx hkN hkl
      go_wp2_with fail
      go_region_law (first
       | (go_simp; go_at_call 48; refine (frac9_c _ 1 1 (by omega) (by omega) (by omega) (by omega) (by omega)).mono ?_; rintro e w5 ⟨u5, rfl, hu5, hd5⟩; rw [show Rat.divInt 1 1 = (1 : Rat) from Rat.num_divInt_den 1] at hu5; have p0 := (hd5.cell (p := ⟨w3.heap.size, 0, none⟩) l1).trans p0; have p1 := (hd5.cell (p := ⟨w3.heap.size, 1, none⟩) l1).trans p1; have p2 := (hd5.cell (p := ⟨w3.heap.size, 2, none⟩) l1).trans p2; have p3 := (hd5.cell (p := ⟨w3.heap.size, 3, none⟩) l1).trans p3)
       | (go_simp; go_at_call 27; refine (compare9_c _ _ _ x 1 (n / 9 + 1) (HQ.out.1.below hd5) (hu5.more (by omega)) (by omega)).mono ?_; rintro e w6 ⟨_, rfl, rfl, hd6⟩; have HU := hide (HQ.out.2.2.trans ((bnx hd5 hd6).mono HQ.out.2.2.size)); obtain ⟨z, hz⟩ : ∃ z, z = sgnQ (x - 1) := ⟨_, rfl⟩; rw [← hz]; have HZZ := hide hz; clear hz hd5 hd6 hu5))
      all_goals
       have hres : denB rows bs ws = (z == 0) := by
        by_cases h1 : x = 1
        ·rw [HZZ.out, h1, show sgnQ ((1 : Rat) - 1) = 0 by rw [show (1 : Rat) - 1 = 0 by grind]; rfl]
         exact denB_yes ⟨HLEN.out, HALL.out, by rw [HQ.out.2.1, h1]⟩
        ·rw [denB_no (fun h => h1 (by rw [← HQ.out.2.1]; exact h.2.2))]
         have := sgn_sub h1
         rw [← HZZ.out] at this
         exact (beq_eq_false_iff_ne.2 this).symm
       have HRES := hide hres
       clear hres p0 p1 p2 p3
       go_wp2
       refine bodyPost_ret (v := .bool (z == 0)) ?_ rfl ?_
       ·simp [results, Tryz.results15, go_sem]
       exact ⟨_, rfl, by rw [HRES.out], HU.out⟩
 ·have hno : ¬ isDen rows bs ws := fun h => hlen h.1
  have HNO := hide hno
  have hb3 : ((ws.length : Int) != (rows.length : Int)) = true := by rw [bne_iff_ne]; omega
  have hb2 : (ws.length == rows.length) = false := by simp [hlen]
  clear hno
  go_wp2
  refine bodyPost_ret (v := .bool false) ?_ rfl ?_
  ·simp [results, Tryz.results15, go_sem]
  exact ⟨_, rfl, by rw [denB_no HNO.out], H1.out⟩
end Go.Proofs.YthnnbpnocefmgaaGreat
