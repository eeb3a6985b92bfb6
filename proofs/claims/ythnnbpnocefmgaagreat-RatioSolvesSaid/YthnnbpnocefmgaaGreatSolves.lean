import Derived.Test.YthnnbpnocefmgaaGreatOpenS
import Derived.Test.YthnnbpnocefmgaaGreatDenR
import Derived.Test.YthnnbpnocefmgaaGreatSolveP
import Derived.Test.YthnnbpnocefmgaaGreatSolveR
import Derived.Test.YthnnbpnocefmgaaGreatSysL
import Derived.Test.YthnnbpnocefmgaaGreatAwake
namespace Go.Proofs.YthnnbpnocefmgaaGreat
set_option linter.unusedVariables false
set_option linter.unusedSimpArgs false
open Go.RowKit
theorem ratText_byts (q : Rat) : Byts (ratText q) := by
 have hd : ∀ x, Byts (decText x) := fun x b hb => by have := decText_digs x b hb; omega
 have hi : Byts (intText q.num) := by
  intro b hb
  unfold intText at hb
  rcases List.mem_append.1 hb with h | h
  ·split at h
   ·rw [List.mem_singleton] at h; omega
   ·cases h
  ·exact hd _ b h
 intro b hb
 unfold ratText at hb
 rcases List.mem_append.1 hb with h | h
 ·exact hi b h
 ·split at h
  ·cases h
  ·rcases List.mem_cons.1 h with h | h
   ·omega
   ·exact hd _ b h
theorem take_getD {qs : List Rat} {k : Nat} (hk : k < qs.length) : qs.take (k + 1) = qs.take k ++ [qs.getD k 0] := by
 rw [List.take_succ_eq_append_getElem hk]; simp [List.getD, hk]
set_option maxRecDepth 100000 in
set_option maxHeartbeats 4000000 in
theorem backl_c (w : World) (v : Value) (qs : List Rat) (L n : Nat) (hv : RowV w v qs L) (hL : L ≤ 1000000000) (hq : ∀ i, FracQ n (qs.getD i 0)) (hn1 : 1 ≤ n) (hn : n ≤ 100000000) (hl : qs.length ≤ 1000) :
  Calls Tryz.prog 53 #[v] w (Ret (fun v w' => QRowE (n / 9 + 1) w' v qs ∧ Below w.heap.size w w')) := by
 obtain ⟨A, c, rfl, hc1, hc2, -⟩ := id hv
 unfold maxLen at hc2
 have HA := hide (ai hv hq)
 clear hv hq
 go_enter Tryz.func53, Tryz.ntmps53
 go_wp2
 go_loopw [3, 4] (fun s3 s4 wr => ∃ k : Nat, k ≤ qs.length ∧ s4 = .int .i64 k ∧ OwnG 41 4 (QE (n / 9 + 1)) wr w.heap.size s3 (qs.take k) ∧ Below w.heap.size w wr) (fun _ s4 _ => qs.length - (intOf s4).toNat)
 case atStart => exact ⟨0, by omega, rfl, OwnG.nil _ _ _ _ _, Below.refl _ _⟩
 case round =>
  obtain ⟨k, hk, rfl, hown, hbel⟩ := hrel
  have HO := hide (ai hown hbel)
  obtain ⟨Ab, cb, eb, _⟩ := hown.len
  have hlk : (qs.take k).length = k := by simp; omega
  rw [hlk] at eb
  subst eb
  have HLK := hide hlk
  by_cases hkl : k < qs.length
  ·have d1 : decide (k < qs.length) = true := decide_eq_true hkl
   obtain ⟨-, -, -, hat⟩ := (HA.out.1.below hbel).at_
   obtain ⟨b, o, e, hat2⟩ := hat (by omega)
   obtain rfl := e
   obtain ⟨s, A1, n1, c1, A2, n2, c2, e0, e1, e2, hr⟩ := (hat2 k hkl).rat
   have HR := hide hr
   clear hat hat2 hr hown hbel hlk
   go_wp2_with fail
   refine (string_c _ _ (qs.getD k 0) L HR.out (by omega)).mono ?_
   rintro e w1 ⟨_, rfl, rfl, hd1⟩
   have H1 := hide hd1; clear hd1
   obtain ⟨tx, htx⟩ : ∃ tx, tx = ratText (qs.getD k 0) := ⟨_, rfl⟩
   rw [← htx]
   have HT := hide htx; clear htx
   go_wp2_with fail
   refine (read9_c _ tx (by rw [HT.out]; exact ratText_byts _) (by rw [HT.out]; have := text_len (HA.out.2 k) hn1; omega)).mono ?_
   rintro e w2 ⟨_, rfl, u, ok, rfl, hd2, hcase⟩
   rcases hcase with ⟨rfl, q', htext, hqv⟩ | ⟨-, hno, -⟩
   ·have hqe : q' = qs.getD k 0 := ratText_inj (htext.symm.trans HT.out)
    rw [hqe] at hqv
    have hq2 := hqv.fit (HA.out.2 k)
    obtain ⟨t, A3, n3, c3, B3, m3, d3, rfl, -⟩ := QV.parts hq2
    have H2 := hide (ai hq2 (bnx H1.out hd2))
    clear hq2 hqv hqe htext hd2 e0 e1 e2
    have hsz2 : w.heap.size ≤ w2.heap.size := by have := HO.out.2.size; have := H2.out.2.size; omega
    go_wp2_with (at_builtin; refine appG Tryz.qE (stK_q (n / 9 + 1) (by decide)) _ rfl _ _ rfl w.heap.size _ (qs.take k) (qs.getD k 0) rfl (OwnG.below (stB_q (n / 9 + 1)) HO.out.1 (below_al (below_al H2.out.2 _) _)) ⟨w2.heap.size + 1, 0, none⟩ _ rfl (.agg #[.bool t, .slice A3 n3 c3, .bool false, .slice B3 m3 d3]) (QV.below H2.out.1 (below_al (below_al (Below.refl _ _) _) _)) rfl (cells_new4 _ _ _ _ _ _ (by simp)) (one_q _ _ _ _ _ _ _ _) (by rw [HLK.out]; omega) (by simp; omega) ?_; intro g6 c6 w6 hown6 hb6 hg6; rw [HLK.out] at hown6 ⊢; have H6 := hide (ai hown6 ((HO.out.2.trans ((below_al (below_al H2.out.2 (.cells #[.bool t, .slice A3 n3 c3, .bool false, .slice B3 m3 d3] 41)) (.cells #[.bool t, .slice A3 n3 c3, .bool false, .slice B3 m3 d3] 41)).mono HO.out.2.size)).trans hb6)); clear hown6 hb6 hg6)
    case roundEnd => exact ⟨⟨k + 1, by omega, by go_num, by rw [take_getD hkl]; exact H6.out.1, H6.out.2⟩, by simp [intOf]; omega⟩
   ·exact absurd HT.out (hno _)
  ·have d1 : decide (k < qs.length) = false := decide_eq_false hkl
   have hall : qs.take k = qs := List.take_of_length_le (by omega)
   have HL := hide (ai hall hlk)
   clear hown hbel hlk hall
   go_wp2
   go_ret
   refine ⟨_, rfl, ?_, HO.out.2⟩
   have := HO.out.1.lst
   rw [HL.out.1] at this
   exact this
set_option maxRecDepth 100000 in
set_option maxHeartbeats 4000000 in
theorem samel_c (w : World) (va vb : Value) (qs : List Rat) (L : Nat) (ha : RowV w va qs L) (hb : QRowE L w vb qs) (hL : L ≤ 1073741000) :
  Calls Tryz.prog 54 #[va, vb] w (Ret (fun v w' => v = .bool true ∧ Below w.heap.size w w')) := by
 obtain ⟨A, c, rfl, hc1, hc2, -⟩ := id ha
 obtain ⟨B, d, rfl, hd1, hd2, -⟩ := id hb
 unfold maxLen at hc2 hd2
 have HA := hide (ai ha hb)
 clear ha hb
 go_enter Tryz.func54, Tryz.ntmps54
 go_wp2
 go_loopw [5] (fun s5 wr => ∃ k : Nat, k ≤ qs.length ∧ s5 = .int .i64 k ∧ Below w.heap.size w wr) (fun s5 _ => qs.length - (intOf s5).toNat)
 case atStart => exact ⟨0, by omega, rfl, Below.refl _ _⟩
 case round =>
  obtain ⟨k, hk, rfl, hbel⟩ := hrel
  by_cases hkl : k < qs.length
  ·have d1 : decide (k < qs.length) = true := decide_eq_true hkl
   obtain ⟨-, -, -, hat⟩ := (HA.out.1.below hbel).at_
   obtain ⟨b, o, e, hat2⟩ := hat (by omega)
   obtain rfl := e
   obtain ⟨s, A1, n1, c1, A2, n2, c2, e0, e1, e2, hr⟩ := (hat2 k hkl).rat
   obtain ⟨-, -, -, hatq⟩ := LstV.q_at (HA.out.2.below hbel)
   obtain ⟨b2, o2, e, hatq2⟩ := hatq (by omega)
   obtain rfl := e
   obtain ⟨t, A3, n3, c3, A4, n4, c4, y0, y1, y2, y3, hq⟩ := hatq2 k hkl
   have HR := hide (ai hr (ai hq hbel))
   clear hat hat2 hr hatq hatq2 hq hbel
   go_wp2_with fail
   have hba : Below wr.heap.size wr wr.drew := (Below.refl _ _).drew
   have l1 := lt_of_cell e0
   have l2 := lt_of_cell y0
   simp only at l1 l2
   have p0 := (hba.cell (p := ⟨b, o + k * 3, none⟩) (by exact l1)).trans e0
   have p1 := (hba.cell (p := ⟨b, o + k * 3 + 1, none⟩) (by exact l1)).trans e1
   have p2 := (hba.cell (p := ⟨b, o + k * 3 + 2, none⟩) (by exact l1)).trans e2
   have z0 := (hba.cell (p := ⟨b2, o2 + k * 4, none⟩) (by exact l2)).trans y0
   have z1 := (hba.cell (p := ⟨b2, o2 + k * 4 + 1, none⟩) (by exact l2)).trans y1
   have z2 := (hba.cell (p := ⟨b2, o2 + k * 4 + 2, none⟩) (by exact l2)).trans y2
   have z3 := (hba.cell (p := ⟨b2, o2 + k * 4 + 3, none⟩) (by exact l2)).trans y3
   clear e0 e1 e2 y0 y1 y2 y3
   go_region_law (first
    | (go_simp; go_at_call 28; refine (is_c _ _ _ (qs.getD k 0) L (HR.out.1.below hba) (HR.out.2.1.below hba) hL).mono ?_; rintro e w5 ⟨_, rfl, rfl, hd5⟩; have H5 := hide (bnx hba hd5); clear hd5))
   all_goals
    go_wp2
    case roundEnd => exact ⟨⟨k + 1, by omega, by go_num, bnx HR.out.2.2 H5.out⟩, by simp [intOf]; omega⟩
  ·have d1 : decide (k < qs.length) = false := decide_eq_false hkl
   have HB := hide hbel
   clear hbel
   go_wp2
   go_ret
   exact ⟨_, rfl, rfl, HB.out⟩
theorem QRowE.up {w : World} {v : Value} {qs : List Rat} {L L' : Nat} (h : QRowE L w v qs) (hL : L ≤ L') : QRowE L' w v qs := LstV.imp h fun u x _ hr => QV.more (show QV w u x L from hr) hL
theorem QRows.up {w : World} {v : Value} {rows : List (List Rat)} {L L' : Nat} (h : QRows L w v rows) (hL : L ≤ L') : QRows L' w v rows := LstV.imp h fun u x _ hr => QRowE.up hr hL
theorem RowV.upL {w : World} {v : Value} {qs : List Rat} {L L' : Nat} (h : RowV w v qs L) (hL : L ≤ L') : RowV w v qs L' := by
 obtain ⟨A, c, rfl, h1, h2, h3⟩ := h
 refine ⟨A, c, rfl, h1, h2, fun h0 => ?_⟩
 obtain ⟨b, o, e, h4⟩ := h3 h0
 refine ⟨b, o, e, fun i hi => ?_⟩
 obtain ⟨A1, n1, c1, A2, n2, c2, a1, a2, a3, a4, a5⟩ := h4 i hi
 exact ⟨A1, n1, c1, A2, n2, c2, a1, a2, a3, a4.more hL, a5.more hL⟩
set_option maxRecDepth 100000 in
set_option maxHeartbeats 8000000 in
theorem solves_law (w : World) (vl vb : Value) (ls : List (List ByteArray)) (bs0 : List ByteArray) {T : TypeId} (hl : LstV T 1 StrsE w vl ls) (hb : StrsE w vb bs0) :
  Calls Tryz.prog 9 #[vl, vb] w (Ret (fun v w' => v = .bool true ∧ Below w.heap.size w w')) := by
 go_enter Tryz.func9, Tryz.ntmps9
 go_wp2_with fail
 refine (tame_c w vl vb ls bs0 6 6 hl hb (by omega) (by omega)).mono ?_
 rintro e w1 ⟨_, rfl, va, vm, vv, vc, rows, bs, wd0, rfl, f1, f2, f3, f4, f5, f6, ha, hm, hv, hc, hd1⟩
 have hS0 : Sys wd0 rows bs := ⟨by omega, by omega, f3, f4, f5, f6⟩
 obtain ⟨wd, hwd⟩ : ∃ wd, wd = (rows.getD 0 []).length := ⟨_, rfl⟩
 have hS : Sys wd rows bs := ⟨hS0.n6, by rw [hwd]; exact hS0.wd_le, fun i hi => by rw [hwd]; exact hS0.wd_eq i hi, f4, f5, f6⟩
 obtain ⟨Aa, ca, rfl, ha1, ha2, _⟩ := id ha
 obtain ⟨Am, cm, rfl, hm1, hm2, _⟩ := id hm
 obtain ⟨Av, cv, rfl, hv1, hv2, _⟩ := id hv
 obtain ⟨Ac, cc, rfl, _⟩ := id hc
 have HS := hide (ai hS (ai ha (ai hm (ai hv (ai hc (ai hd1 hwd))))))
 clear hl hb f1 f2 f3 f4 f5 f6 ha hm hv hc hd1 hS hS0 hwd ha1 ha2 hm1 hm2 hv1 hv2
 go_wp2_with fail
 refine (solve_s _ _ _ rows bs wd (RatE.rows (RowsE.more (L' := 4000) HS.out.2.1 (by omega))) (LstV.rowV (RowE.more (L' := 4000) HS.out.2.2.2.1 (by omega))) HS.out.1).mono ?_
 rintro e w2 ⟨v2, rfl, hd2, hcase2⟩
 have H2 := hide (ai hd2 hcase2)
 obtain ⟨ux, ue, euv⟩ : ∃ ux ue, v2 = .tuple #[ux, ue] := by
  rcases hcase2 with ⟨_, e⟩ | ⟨_, _, e⟩ | ⟨_, _, u, e, _⟩
  ·exact ⟨_, _, e⟩
  ·exact ⟨_, _, e⟩
  ·exact ⟨_, _, e⟩
 subst euv
 clear hd2 hcase2
 go_wp2_with fail
 refine (deny_s _ _ _ rows bs wd (RatE.rows (RowsE.more (L' := 4000) (LstV.below (stB_row 23) HS.out.2.1 H2.out.1) (by omega))) (LstV.rowV (RowE.more (L' := 4000) (LstV.below (stB_rat 23) HS.out.2.2.2.1 H2.out.1) (by omega))) HS.out.1).mono ?_
 rintro e w3 ⟨v3, rfl, hd3, hcase3⟩
 have H3 := hide (ai hd3 (ai (bnx H2.out.1 hd3) hcase3))
 obtain ⟨dx, de, euv⟩ : ∃ ux ue, v3 = .tuple #[ux, ue] := by
  rcases hcase3 with ⟨_, u, g, e, _⟩ | ⟨_, e⟩
  ·exact ⟨_, _, e⟩
  ·exact ⟨_, _, e⟩
 subst euv
 clear hd3 hcase3
 go_wp2_with fail
 refine (solve_r _ _ _ rows bs wd (QRows.up (QRows.below HS.out.2.2.1 H3.out.2.1) (by omega)) (QRowE.up (QRowE.below HS.out.2.2.2.2.1 H3.out.2.1) (by omega)) HS.out.1 HS.out.2.2.2.2.2.2).mono ?_
 rintro e w4 ⟨v4, rfl, hd4, hcase4⟩
 have hd24 := bnx H3.out.2.1 hd4
 have hd34 := bnx H3.out.1 hd4
 rcases hcase4 with ⟨hden, rfl⟩ | ⟨hno, hmany, rfl⟩ | ⟨hno, hone, y, rfl, hy⟩
 ·
  obtain ⟨e1, e2⟩ : ux = .slice none 0 0 ∧ ue = .int .i64 4 := by
   rcases H2.out.2 with ⟨_, e⟩ | ⟨hn, _⟩ | ⟨hn, _⟩
   ·simpa using e
   ·exact absurd hden hn
   ·exact absurd hden hn
  subst e1 e2
  obtain ⟨g, e1, hdr⟩ : ∃ g, de = .bool true ∧ RV w3 dx g (denyRow rows bs) 4000 := by
   rcases H3.out.2.2 with ⟨_, u, g, e, hr⟩ | ⟨hn, _⟩
   ·have e' : dx = u ∧ de = .bool true := by simpa using e
    rw [e'.1]; exact ⟨g, e'.2, hr⟩
   ·exact absurd hden hn
  subst e1
  obtain ⟨cd, rfl, hc1, hc2, -⟩ := id hdr
  obtain ⟨hisd, hfit⟩ := HS.out.1.denied hden
  rw [hisd.1] at hc1 ⊢
  have hrv : RowV w4 (.slice (some ⟨g, 0, none⟩) (denyRow rows bs).length cd) (denyRow rows bs) 4000 := (RV.rowV hdr).below hd4
  have HD := hide (ai hrv (ai hisd (ai hfit (ai hd4 hd24))))
  clear hrv hisd hfit hd4 hd24 hd34 hden hdr hc1 hc2
  go_wp2_with fail
  refine (backl_c _ _ (denyRow rows bs) 4000 6401 (by have := HD.out.1; rwa [HD.out.2.1.1] at this) (by omega) (fun i => (HD.out.2.2.1 i).frac) (by omega) (by omega) (by rw [HD.out.2.1.1]; have := HS.out.1.n6; omega)).mono ?_
  rintro e w5 ⟨vy, rfl, hy, hd5⟩
  obtain ⟨A5, c5, rfl, -⟩ := id hy
  have H5 := hide (ai hy (ai (bnx HD.out.2.2.2.2 hd5) hd5))
  clear hy hd5
  go_wp2_with fail
  refine (denies_r _ _ _ _ rows bs (denyRow rows bs) 712 38581 (QRows.up (QRows.below HS.out.2.2.1 H5.out.2.1) (by omega)) (QRowE.up (QRowE.below HS.out.2.2.2.2.1 H5.out.2.1) (by omega)) H5.out.1 (by omega) (by omega) (by omega) (by have := HS.out.1.n6; omega) (by have := HS.out.1.wd_le; omega) HS.out.1.wd_eq HS.out.1.len HS.out.1.digits HS.out.1.digitsB
   (fun k => (dotW_fit HS.out.1.smallB HD.out.2.2.1 6 (by rw [HD.out.2.1.1]; exact HS.out.1.n6) k).frac) (fun j k => (colW_fit HS.out.1.small HD.out.2.2.1 6 (by rw [HD.out.2.1.1]; exact HS.out.1.n6) j k).frac)).mono ?_
  rintro e w6 ⟨_, rfl, rfl, hd6⟩
  rw [denB_yes HD.out.2.1]
  have H6 := hide (ai (bnx H5.out.2.1 hd6) (bnx H5.out.2.2 hd6))
  clear hd6
  go_wp2_with fail
  refine (denies_s _ _ _ _ rows bs (denyRow rows bs) wd 700 (RatE.rows (RowsE.more (LstV.below (stB_row 23) HS.out.2.1 H6.out.1) (by omega))) (LstV.rowV (RowE.more (LstV.below (stB_rat 23) HS.out.2.2.2.1 H6.out.1) (by omega))) (by have := (RowV.below HD.out.1 H6.out.2).upL (L' := 6 * (700 + 3)) (by omega); rwa [HD.out.2.1.1] at this) HS.out.1 (fun i => (HD.out.2.2.1 i).more (by omega)) (by rw [HD.out.2.1.1]; exact HS.out.1.n6) (by omega)).mono ?_
  rintro e w7 ⟨_, rfl, rfl, hd7⟩
  rw [denB_yes HD.out.2.1]
  have H7 := hide (bnx H6.out.1 hd7)
  clear hd7
  go_wp2_with fail
  refine (awake_c _).mono ?_
  rintro e w8 ⟨_, rfl, rfl, hd8⟩
  have H8 := hide (HS.out.2.2.2.2.2.1.trans ((bnx H7.out hd8).mono HS.out.2.2.2.2.2.1.size))
  clear hd8
  go_wp2
  go_ret
  exact ⟨_, rfl, rfl, H8.out⟩
 ·
  obtain ⟨e1, e2⟩ : ux = .slice none 0 0 ∧ ue = .int .i64 12 := by
   rcases H2.out.2 with ⟨hn, e⟩ | ⟨_, _, e⟩ | ⟨_, hn, _⟩
   ·exact absurd hn hno
   ·simpa using e
   ·exact absurd hn hmany
  subst e1 e2
  obtain ⟨e1, e2⟩ : dx = .slice none 0 0 ∧ de = .bool false := by
   rcases H3.out.2.2 with ⟨hn, _⟩ | ⟨_, e⟩
   ·exact absurd hn hno
   ·simpa using e
  subst e1 e2
  have H4 := hide hd24
  clear hd24 hd34 hd4 hno hmany
  go_wp2_with fail
  refine (awake_c _).mono ?_
  rintro e w8 ⟨_, rfl, rfl, hd8⟩
  have H8 := hide (HS.out.2.2.2.2.2.1.trans ((bnx H4.out hd8).mono HS.out.2.2.2.2.2.1.size))
  clear hd8
  go_wp2
  go_ret
  exact ⟨_, rfl, rfl, H8.out⟩
 ·
  obtain ⟨e1, hx⟩ : ue = .int .i64 0 ∧ RowV w2 ux (solX rows bs) 4000 := by
   rcases H2.out.2 with ⟨hn, e⟩ | ⟨_, hn, e⟩ | ⟨_, _, u, e, hu⟩
   ·exact absurd hn hno
   ·exact absurd hone hn
   ·have e' : ux = u ∧ ue = .int .i64 0 := by simpa using e
    rw [e'.1]; exact ⟨e'.2, hu⟩
  subst e1
  obtain ⟨e1, e2⟩ : dx = .slice none 0 0 ∧ de = .bool false := by
   rcases H3.out.2.2 with ⟨hn, _⟩ | ⟨_, e⟩
   ·exact absurd hn hno
   ·simpa using e
  subst e1 e2
  have H4 := hide (ai hd24 (ai (hx.below hd34) (QRowE.up (L' := 4000) hy (by omega))))
  obtain ⟨Ax, cx, rfl, -⟩ := id hx
  obtain ⟨Ay, cy, rfl, -⟩ := id hy
  clear hd24 hd34 hd4 hno hone hx hy
  go_wp2_with fail
  refine (samel_c _ _ _ (solX rows bs) 4000 H4.out.2.1 H4.out.2.2 (by omega)).mono ?_
  rintro e w5 ⟨_, rfl, rfl, hd5⟩
  have H5 := hide (bnx H4.out.1 hd5)
  clear hd5
  go_wp2_with fail
  refine (awake_c _).mono ?_
  rintro e w8 ⟨_, rfl, rfl, hd8⟩
  have H8 := hide (HS.out.2.2.2.2.2.1.trans ((bnx H5.out hd8).mono HS.out.2.2.2.2.2.1.size))
  clear hd8
  go_wp2
  go_ret
  exact ⟨_, rfl, rfl, H8.out⟩
end Go.Proofs.YthnnbpnocefmgaaGreat
