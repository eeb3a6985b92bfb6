import Derived.Test.YthnnbpnocefmgaaGreatElimS
import Derived.Test.YthnnbpnocefmgaaGreatOpenS
import Derived.Test.YthnnbpnocefmgaaGreatKept
import Derived.Test.YthnnbpnocefmgaaGreatDeny
import Derived.Test.YthnnbpnocefmgaaGreatTame
namespace Go.Proofs.YthnnbpnocefmgaaGreat
set_option linter.unusedVariables false
set_option linter.unusedSimpArgs false
open Go.RowKit
def colW (rows : List (List Rat)) (ws : List Rat) (j t : Nat) : Rat := ws.getD t 0 * ent rows t j
def isDen (rows : List (List Rat)) (bs ws : List Rat) : Prop :=
 ws.length = rows.length ∧ (∀ j, j < (rows.getD 0 []).length → sumN (colW rows ws j) rows.length = 0) ∧ dotL ws bs = 1
noncomputable def denB (rows : List (List Rat)) (bs ws : List Rat) : Bool := @decide (isDen rows bs ws) (Classical.propDecidable _)
theorem denB_yes {rows : List (List Rat)} {bs ws : List Rat} (h : isDen rows bs ws) : denB rows bs ws = true := by unfold denB; exact @decide_eq_true _ (Classical.propDecidable _) h
theorem denB_no {rows : List (List Rat)} {bs ws : List Rat} (h : ¬ isDen rows bs ws) : denB rows bs ws = false := by unfold denB; exact @decide_eq_false _ (Classical.propDecidable _) h
theorem sgn_sub {x : Rat} (h : x ≠ 1) : sgnQ (x - 1) ≠ 0 := by
 intro e
 have h0 : x - 1 ≠ 0 := by intro h2; apply h; grind
 have hn : (x - 1).num ≠ 0 := fun e => h0 (Rat.num_eq_zero.1 e)
 unfold sgnQ at e
 split at e
 ·omega
 ·rw [if_pos (by omega)] at e; omega
set_option maxRecDepth 100000 in
set_option maxHeartbeats 4000000 in
theorem denies_p (w : World) (va vb vw : Value) (rows : List (List Rat)) (bs ws : List Rat) (L : Nat) (ha : RowsV w va rows L) (hb : RowV w vb bs L) (hw : RowV w vw ws L) (hL : L ≤ 134217700) (hL1 : 2 ≤ L) (hc : checkQ rows bs = 0)
  (hwd : ∀ i, i < rows.length → (rows.getD i []).length = (rows.getD 0 []).length) (hn : rows.length ≤ 1073741824) (hw1 : (rows.getD 0 []).length ≤ 1073741824) (hbl : bs.length = rows.length)
  (hfd : ∀ k, k ≤ ws.length → FitQ L (dotN ws bs k)) (hfs : ∀ j k, FitQ L (sumN (colW rows ws j) k)) :
  Calls Tryz.prog 14 #[va, vb, vw] w (Ret (fun v w' => v = .bool (denB rows bs ws) ∧ Below w.heap.size w w')) := by
 have HA := hide (ai ha (ai hb (ai hw (ai hwd (ai hbl (ai hfd (ai hfs hc)))))))
 clear hwd hbl hfd hfs hc
 obtain ⟨A1, c1, rfl, hc1, hm1, hx⟩ := ha
 obtain ⟨A2, c2, rfl, hc2, hm2, hy⟩ := hb
 obtain ⟨A3, c3, rfl, hc3, hm3, hz⟩ := hw
 clear hx hy hz
 unfold maxLen at hm1 hm2 hm3
 go_enter Tryz.func14, Tryz.ntmps14
 go_wp2_with fail
 refine (check_c _ _ _ rows bs L HA.out.1 HA.out.2.1 (by omega)).mono ?_
 rintro e w1 ⟨_, rfl, rfl, hd1⟩
 rw [HA.out.2.2.2.2.2.2.2]
 have H1 := hide hd1
 clear hd1
 by_cases hlen : ws.length = rows.length
 ·have d1 : (ws.length == rows.length) = true := by simp [hlen]
  have HLEN := hide hlen
  obtain ⟨N, hN⟩ : ∃ N, N = rows.length := ⟨_, rfl⟩
  rw [hlen, ← hN]
  rw [← hN] at hn hc1
  have HN := hide hN
  clear d1 hlen hN hc3
  go_wp2_with fail
  refine (dot_c _ _ _ ws bs L ?_ ?_ hL (by rw [HLEN.out, HA.out.2.2.2.2.1]; exact nr _) HA.out.2.2.2.2.2.1).mono ?_
  ·have := HA.out.2.2.1.below H1.out; rwa [HLEN.out, ← HN.out] at this
  ·exact HA.out.2.1.below H1.out
  rintro e w2 ⟨u2, rfl, hu2, hd2⟩
  have H2 := hide (ai hu2 hd2)
  clear hu2 hd2
  go_wp2_with fail
  refine (of_c _ 1 (by omega) (by omega)).mono ?_
  rintro e w3 ⟨u3, rfl, hu3, hd3⟩
  have H3 := hide (ai hu3 hd3)
  clear hu3 hd3
  go_wp2_with fail
  refine (minus_q _ _ _ (dotL ws bs) ((1 : Int) : Rat) L (H2.out.1.below H3.out.2) (H3.out.1.more (by omega)) (by omega)).mono ?_
  rintro e w4 ⟨u4, rfl, hu4, hd4⟩
  rw [show ((1 : Int) : Rat) = 1 from rfl] at hu4
  have H4 := hide (ai hu4 hd4)
  clear hu4 hd4
  go_wp2_with fail
  refine (sign_q _ _ (dotL ws bs - 1) _ H4.out.1).mono ?_
  rintro e w5 ⟨_, rfl, rfl, hd5⟩
  have H5 := hide (bnx H1.out (bnx H2.out.2 (bnx H3.out.2 (bnx H4.out.2 hd5))))
  clear hd5
  by_cases hdot : dotL ws bs = 1
  ·rw [show sgnQ (dotL ws bs - 1) = 0 by rw [hdot, show (1 : Rat) - 1 = 0 by grind]; rfl]
   have HDOT := hide hdot
   clear hdot
   go_wp2_with fail
   refine (width_c _ _ rows L (by have := HA.out.1.below H5.out; rwa [← HN.out] at this)).mono ?_
   rintro e w6 ⟨_, rfl, rfl, rfl⟩
   obtain ⟨wd, hwd⟩ : ∃ wd, wd = (rows.getD 0 []).length := ⟨_, rfl⟩
   rw [← hwd] at hw1 ⊢
   have HWD := hide hwd
   clear hwd
   go_wp2
   go_loopw [33] (fun s33 wr => ∃ j : Nat, j ≤ wd ∧ s33 = .int .i64 j ∧ Hid (∀ i, i < j → sumN (colW rows ws i) rows.length = 0) ∧ Below w.heap.size w wr) (fun s33 _ => wd - (intOf s33).toNat)
   case atStart => exact ⟨0, Nat.zero_le _, rfl, hide (fun i hi => absurd hi (Nat.not_lt_zero i)), H5.out⟩
   case round =>
    obtain ⟨j, hj, rfl, hzero, hbel⟩ := hrel
    obtain ⟨wo, rfl⟩ : ∃ wo : World, wo = wr := ⟨_, rfl⟩
    have HO := hide (ai hzero hbel)
    clear hzero hbel
    by_cases hjl : j < wd
    ·obtain ⟨W1, hW1⟩ : ∃ W1, W1 = wo.alloc (.cells #[.bool false, .slice none 0 0, .slice none 0 0] 35) := ⟨_, rfl⟩
     have hz1 : RowC W1 wo.heap.size [sumN (colW rows ws j) 0] L := by rw [hW1]; exact row_zero wo L
     have hb1 : Below wo.heap.size wo W1 := by rw [hW1]; exact (Below.refl _ _).alloc (nr _) _
     have HZ := hide (ai hz1 (ai hb1 hW1))
     clear hz1 hb1 hW1
     go_wp2
     rw [← HZ.out.2.2]
     go_loopw [38] (fun s38 wr => ∃ k : Nat, k ≤ N ∧ s38 = .int .i64 k ∧ RowC wr wo.heap.size [sumN (colW rows ws j) k] L ∧ Below wo.heap.size wo wr) (fun s38 _ => N - (intOf s38).toNat)
     case atStart => exact ⟨0, Nat.zero_le _, rfl, HZ.out.1, HZ.out.2.1⟩
     case round =>
      obtain ⟨k, hk, rfl, hacc, hbi⟩ := hrel
      have hbw := HO.out.2.trans (hbi.mono HO.out.2.size)
      by_cases hkl : k < N
      ·obtain ⟨_, _, _, hatA⟩ := (HA.out.1.below hbw).at_
       obtain ⟨gA, oA, eA, hatA2⟩ := hatA (by rw [← HN.out]; omega)
       obtain rfl := eA
       obtain ⟨u, hcu, hru⟩ := hatA2 k (by rw [← HN.out]; exact hkl)
       obtain ⟨Au, nu, cu, rfl⟩ : ∃ A n c, u = .slice A n c := by obtain ⟨A, c, e, _⟩ := id hru; exact ⟨_, _, _, e⟩
       obtain ⟨enu, _, _, hatU⟩ := hru.at_
       have hlu : (rows.getD k []).length = wd := by rw [HWD.out]; exact HA.out.2.2.2.1 k (by rw [← HN.out]; exact hkl)
       rw [hlu] at enu hatU
       subst enu
       obtain ⟨gU, oU, eU, hatU2⟩ := hatU (by omega)
       obtain rfl := eU
       obtain ⟨s, B1, m1, d1, B2, m2, d2, e0, e1, e2, hr⟩ := (hatU2 j hjl).rat
       obtain ⟨_, _, _, hatW⟩ := (HA.out.2.2.1.below hbw).at_
       obtain ⟨gW, oW, eW, hatW2⟩ := hatW (by rw [HLEN.out, ← HN.out]; omega)
       obtain rfl := eW
       obtain ⟨s3, B3, m3, d3, B4, m4, d4, e3, e4, e5, hr2⟩ := (hatW2 k (by rw [HLEN.out, ← HN.out]; exact hkl)).rat
       obtain ⟨s5, B5, m5, d5, B6, m6, d6, e6, e7, e8, hr3⟩ := (hacc.2 0 (by simp)).rat
       simp only [Nat.zero_mul, Nat.zero_add] at e6 e7 e8
       have HH := hide (ai hacc (ai hbi (ai hr (ai hr2 hr3))))
       clear hacc hr hr2 hr3 hatA hatA2 hatU hatU2 hatW hatW2 hru hlu hbw hbi
       go_wp2_with fail
       have hba : Below wr.heap.size wr wr.drew := (Below.refl _ _).drew
       have l1 := lt_of_cell e6
       have l2 := lt_of_cell e3
       have l3 := lt_of_cell e0
       simp only at l1 l2 l3
       have p0 := (hba.cell (p := ⟨wo.heap.size, 0, none⟩) (by exact l1)).trans e6
       have p1 := (hba.cell (p := ⟨wo.heap.size, 1, none⟩) (by exact l1)).trans e7
       have p2 := (hba.cell (p := ⟨wo.heap.size, 2, none⟩) (by exact l1)).trans e8
       have y0 := (hba.cell (p := ⟨gW, oW + k * 3, none⟩) (by exact l2)).trans e3
       have y1 := (hba.cell (p := ⟨gW, oW + k * 3 + 1, none⟩) (by exact l2)).trans e4
       have y2 := (hba.cell (p := ⟨gW, oW + k * 3 + 2, none⟩) (by exact l2)).trans e5
       have z0 := (hba.cell (p := ⟨gU, oU + j * 3, none⟩) (by exact l3)).trans e0
       have z1 := (hba.cell (p := ⟨gU, oU + j * 3 + 1, none⟩) (by exact l3)).trans e1
       have z2 := (hba.cell (p := ⟨gU, oU + j * 3 + 2, none⟩) (by exact l3)).trans e2
       clear e0 e1 e2 e3 e4 e5 e6 e7 e8 hcu
       go_region_law (first
        | (go_simp; go_at_call 65; refine (times_q _ _ _ (ws.getD k 0) ((rows.getD k []).getD j 0) L (HH.out.2.2.2.1.below hba) (HH.out.2.2.1.below hba) (by omega)).mono ?_; rintro e w1 ⟨u1, rfl, hu1, hd1⟩; have p0 := (hd1.cell (p := ⟨wo.heap.size, 0, none⟩) (by simp; omega)).trans p0; have p1 := (hd1.cell (p := ⟨wo.heap.size, 1, none⟩) (by simp; omega)).trans p1; have p2 := (hd1.cell (p := ⟨wo.heap.size, 2, none⟩) (by simp; omega)).trans p2)
        | (go_simp; go_at_call 64; refine (plus_q _ _ _ (sumN (colW rows ws j) k) (ws.getD k 0 * (rows.getD k []).getD j 0) (2 * L + 4) (((HH.out.2.2.2.2.below hba).below hd1).more (by omega)) hu1 (by omega)).mono ?_; rintro e w2 ⟨u2, rfl, hu2, hd2⟩; have hb2 := bnx (bnx hba hd1) hd2; have hrow2 := HH.out.1.below hb2; replace hu2 := hu2.fit (L' := L) (HA.out.2.2.2.2.2.2.1 j (k + 1));
           generalize hX : sumN (colW rows ws j) k + ws.getD k 0 * (rows.getD k []).getD j 0 = X at hu2;
           obtain ⟨s', B1', m1', d1', B2', m2', d2', e0', e1', e2', _⟩ := (hrow2.2 0 (by simp)).rat;
           simp only [Nat.zero_mul, Nat.zero_add] at e0' e1' e2';
           have f0 := hrow2.frozen 0; have f1 := hrow2.frozen 1; have f2 := hrow2.frozen 2;
           obtain ⟨rn, rl, rfl, r1, r2⟩ := id hu2; obtain ⟨A5, c5, xs5, rfl, _⟩ := r1.open_; obtain ⟨A6, c6, xs6, rfl, _⟩ := r2.open_;
           have HU := hide (ai hu2 (ai hrow2 (ai hb2 hX))); clear hu2 hrow2 hb2 r1 r2 hX p0 p1 p2 y0 y1 y2 z0 z1 z2))
       all_goals
        go_wp2
        go_roundw
        case rel =>
         obtain ⟨hacc, hbi, _⟩ := HH.out
         obtain ⟨hu, hrow2, hb2, hX⟩ := HU.out
         obtain ⟨t1, t2, t3⟩ := hrow2.set3 (i := 0) (by simp) hu
         simp only [Nat.zero_mul, Nat.zero_add] at t1 t2 t3
         refine ⟨k + 1, by omega, by go_num, ?_, ?_⟩
         ·rw [sumN]; unfold colW ent; unfold colW ent at hX; rw [hX]; exact t1
         ·exact only_below (bnx hbi hb2) t3 (by have := hbi.size; have := hb2.size; omega) (by omega)
        case measure => simp [intOf]; omega
      ·obtain rfl : k = N := by omega
       obtain ⟨s5, B5, m5, d5, B6, m6, d6, e6, e7, e8, hr3⟩ := (hacc.2 0 (by simp)).rat
       simp only [Nat.zero_mul, Nat.zero_add] at e6 e7 e8
       have HH := hide (ai hr3 hbw)
       clear hacc hbw hbi hr3
       obtain ⟨x, hx⟩ : ∃ x, x = sumN (colW rows ws j) k := ⟨_, rfl⟩
       go_wp2_with fail
       refine (isZero_q _ _ x L (by have := HH.out.1; rwa [List.getD_cons_zero, ← hx] at this)).mono ?_
       rintro e w7 ⟨_, rfl, rfl, hd7⟩
       have H7 := hide (ai hx (bnx HH.out.2 hd7))
       clear hx hd7 e6 e7 e8
       by_cases hx0 : x = 0
       ·rw [show decide (x = 0) = true from decide_eq_true hx0]
        have HX0 := hide hx0
        clear hx0
        go_wp2
        case roundEnd => exact ⟨⟨j + 1, by omega, by go_num, hide (fun i hi => by
         by_cases e : i = j
         ·rw [e, ← HN.out, ← H7.out.1]; exact HX0.out
         ·exact HO.out.1.out i (by omega)), H7.out.2⟩, by simp [intOf]; omega⟩
       ·rw [show decide (x = 0) = false from decide_eq_false hx0]
        have hno : ¬ isDen rows bs ws := fun h => hx0 (by rw [H7.out.1, HN.out]; exact h.2.1 j (by rw [← HWD.out]; exact hjl))
        have HNO := hide hno
        clear hno hx0
        go_wp2
        refine bodyPost_ret (v := .bool false) ?_ rfl ?_
        ·simp [results, Tryz.results14, go_sem]
        exact ⟨_, rfl, by rw [denB_no HNO.out], H7.out.2⟩
    ·have hyes : isDen rows bs ws := ⟨HLEN.out, fun i hi => HO.out.1.out i (by rw [← HWD.out] at hi; omega), HDOT.out⟩
     have HY := hide hyes
     clear hyes
     go_wp2
     refine bodyPost_ret (v := .bool true) ?_ rfl ?_
     ·simp [results, Tryz.results14, go_sem]
     exact ⟨_, rfl, by rw [denB_yes HY.out], HO.out.2⟩
  ·obtain ⟨z, hz⟩ : ∃ z, z = sgnQ (dotL ws bs - 1) := ⟨_, rfl⟩
   have hs : z ≠ 0 := by rw [hz]; exact sgn_sub hdot
   rw [← hz]
   have hno : ¬ isDen rows bs ws := fun h => hdot h.2.2
   have HNO := hide hno
   have hzb : (z != 0) = true := by rw [bne_iff_ne]; exact hs
   clear hno hdot hz hs
   go_wp2
   refine bodyPost_ret (v := .bool false) ?_ rfl ?_
   ·simp [results, Tryz.results14, go_sem]
   exact ⟨_, rfl, by rw [denB_no HNO.out], H5.out⟩
 ·have hno : ¬ isDen rows bs ws := fun h => hlen h.1
  have HNO := hide hno
  have hb2 : (ws.length == rows.length) = false := by simp [hlen]
  have hb3 : ((ws.length : Int) != (rows.length : Int)) = true := by rw [bne_iff_ne]; omega
  clear hno
  go_wp2
  refine bodyPost_ret (v := .bool false) ?_ rfl ?_
  ·simp [results, Tryz.results14, go_sem]
  exact ⟨_, rfl, by rw [denB_no HNO.out], H1.out⟩
theorem FracQ.lift {n n' : Nat} {q : Rat} (h : FracQ n q) (hn : n ≤ n') : FracQ n' q := by
 have := pow_le_pow' (B := 10) (by omega) hn
 exact ⟨by have := h.1; omega, by have := h.2; omega⟩
theorem FracQ.long {q : Rat} (h : FracQ 60 q) : longQ q = false := by
 unfold longQ
 have h1 : (decText (q.num.natAbs : Int)).length ≤ 60 := by
  by_cases e : (q.num.natAbs : Int) = 0
  ·rw [e]; decide
  ·exact dec_le (by omega) h.1
 have h2 : (decText (q.den : Int)).length ≤ 60 := dec_le (by have := q.den_pos; omega) h.2
 simp; omega
theorem nat10 (a : Nat) : (10 : Int) ^ a = ((10 ^ a : Nat) : Int) := by rw [Int.natCast_pow]; rfl
theorem FitQ.frac {L : Nat} {q : Rat} (h : FitQ L q) : FracQ (10 * L + 1) q := by
 have h1 : (4294967296 : Nat) ^ L ≤ 10000000000 ^ L := Nat.pow_le_pow_left (by omega) L
 have h2 : (10 : Nat) ^ (10 * L + 1) = 10000000000 ^ L * 10 := by rw [Nat.pow_succ, Nat.pow_mul]
 have h3 : (0 : Nat) < 10000000000 ^ L := Nat.pow_pos (by omega)
 obtain ⟨a, b⟩ := h
 rw [natp] at a b
 unfold FracQ
 rw [nat10]
 generalize (4294967296 : Nat) ^ L = X at *
 generalize (10000000000 : Nat) ^ L = Y at *
 generalize (10 : Nat) ^ (10 * L + 1) = Z at *
 constructor <;> omega
theorem RatE.rows {w : World} {v : Value} {rows : List (List Rat)} {L : Nat} (h : LstV 26 1 (RowE L) w v rows) : RowsV w v rows L := by
 obtain ⟨A, c, rfl, h1, h2, h3⟩ := h
 refine ⟨A, c, rfl, h1, h2, fun hx => ?_⟩
 obtain ⟨b, o, rfl, ht, hc⟩ := h3 hx
 refine ⟨b, o, rfl, fun i hi => ?_⟩
 obtain ⟨u, hs, hcu, hr⟩ := hc i (rows.getD i []) (by simp [List.getD, hi])
 obtain ⟨A1, c1, rfl, _⟩ := id hr
 have := hcu 0 (by rw [hs]; decide)
 rw [Nat.mul_one, Nat.add_zero] at this
 exact ⟨_, this, LstV.rowV hr⟩
theorem RowE.more {w : World} {v : Value} {qs : List Rat} {L L' : Nat} (h : RowE L w v qs) (hL : L ≤ L') : RowE L' w v qs := LstV.imp h fun u x _ hr => RatV.more hr hL
theorem RowsE.more {w : World} {v : Value} {rows : List (List Rat)} {L L' : Nat} (h : LstV 26 1 (RowE L) w v rows) (hL : L ≤ L') : LstV 26 1 (RowE L') w v rows := LstV.imp h fun u x _ hr => RowE.more hr hL
theorem Sys.wd_eq {wd : Nat} {rows : List (List Rat)} {bs : List Rat} (h : Sys wd rows bs) (i : Nat) (hi : i < rows.length) : (rows.getD i []).length = (rows.getD 0 []).length := by
 rw [h.row i hi, h.row 0 (by omega)]
theorem Sys.wd_le {wd : Nat} {rows : List (List Rat)} {bs : List Rat} (h : Sys wd rows bs) : (rows.getD 0 []).length ≤ 6 := by
 by_cases h0 : 0 < rows.length
 ·rw [h.row 0 h0]; exact h.w6
 ·rw [List.eq_nil_of_length_eq_zero (show rows.length = 0 by omega)]; simp
theorem Sys.digits {wd : Nat} {rows : List (List Rat)} {bs : List Rat} (h : Sys wd rows bs) (i j : Nat) : digitsB 60 (ent rows i j) = false := digitsB_not ((h.small i j).lift (by omega))
theorem Sys.digitsB {wd : Nat} {rows : List (List Rat)} {bs : List Rat} (h : Sys wd rows bs) (i : Nat) : digitsB 60 (bs.getD i 0) = false := digitsB_not ((h.smallB i).lift (by omega))
theorem Sys.check {wd : Nat} {rows : List (List Rat)} {bs : List Rat} (h : Sys wd rows bs) : checkQ rows bs = 0 := by
 unfold checkQ
 have a := h.n6
 have b := h.wd_le
 rw [if_neg (by omega), if_neg, if_neg]
 ·rintro (e | e)
  ·rw [anyB_none (fun i _ => ((h.smallB i).lift (by omega)).long)] at e; cases e
  ·rw [anyB_none (fun i hi => by unfold longB; exact anyB_none fun j _ => ((h.small i j).lift (by omega)).long)] at e; cases e
 ·rintro (e | e)
  ·exact e h.len
  ·rw [anyB_none (fun i hi => by unfold shapeB; exact decide_eq_false (by rw [h.wd_eq i hi]; simp))] at e; cases e
theorem deny_s (w : World) (va vb : Value) (rows : List (List Rat)) (bs : List Rat) (wd : Nat) (ha : RowsV w va rows 4000) (hb : RowV w vb bs 4000) (h : Sys wd rows bs) :
  Calls Tryz.prog 16 #[va, vb] w (Ret (DenyR w rows bs 4000)) := by
 have a := h.n6
 have b := h.w6
 by_cases h0 : 0 < rows.length
 ·exact deny_n w va vb rows bs 4000 wd ha hb (by omega) (by omega) h0 (by omega) h.row (by omega) h.len (h.fit h0) h.check
 ·have e1 : rows = [] := List.eq_nil_of_length_eq_zero (by omega)
  have e2 : bs = [] := List.eq_nil_of_length_eq_zero (by rw [h.len]; omega)
  have hc := h.check
  rw [e1, e2] at hc ⊢
  rw [e1] at ha
  rw [e2] at hb
  exact deny_0 w va vb 4000 ha hb (by omega) hc
theorem denyK_spec (done : List (List Rat)) (bs : List Rat) : ∀ (f k : Nat), k ≤ denyK done bs f k ∧ (∀ i, k ≤ i → i < denyK done bs f k → dotL (done.getD i []) bs = 0) ∧ (done.length ≤ k + f → denyK done bs f k < done.length → dotL (done.getD (denyK done bs f k) []) bs ≠ 0)
 | 0, k => ⟨nr _, fun i h1 h2 => by rw [denyK] at h2; omega, fun h1 h2 => by rw [denyK] at h2; omega⟩
 | f + 1, k => by
  by_cases h : k < done.length ∧ dotL (done.getD k []) bs = 0
  ·rw [denyK_step _ _ _ _ h.1 h.2]
   obtain ⟨h1, h2, h3⟩ := denyK_spec done bs f (k + 1)
   refine ⟨by omega, fun i g1 g2 => ?_, fun g1 g2 => h3 (by omega) g2⟩
   by_cases e : i = k
   ·rw [e]; exact h.2
   ·exact h2 i (by omega) g2
  ·rw [denyK_stop _ _ _ _ h]
   exact ⟨nr _, fun i h1 h2 => by omega, fun h1 h2 h3 => h ⟨h2, h3⟩⟩
theorem Sys.denied {wd : Nat} {rows : List (List Rat)} {bs : List Rat} (h : Sys wd rows bs) (hd : denied rows bs) : isDen rows bs (denyRow rows bs) ∧ ∀ j, FitQ 640 ((denyRow rows bs).getD j 0) := by
 unfold Go.Proofs.YthnnbpnocefmgaaGreat.denied at hd
 have h0 : 0 < rows.length := by omega
 have hrk := rect_echN wd (rect_id h.row)
 have hl : (echN wd (rows, idRows rows.length)).1.1.length = rows.length := echN_length _ _
 have hl2 : (echN wd (rows, idRows rows.length)).1.2.length = rows.length := by rw [hrk.len, hl]
 unfold denyRow
 rw [h.solS_eq h0] at hd ⊢
 obtain ⟨h1, h2, h3⟩ := denyK_spec (echN wd (rows, idRows rows.length)).1.2 bs rows.length (echN wd (rows, idRows rows.length)).2.length
 have hne := h3 (by omega) (by omega)
 obtain ⟨k, hk⟩ : ∃ k, k = denyK (echN wd (rows, idRows rows.length)).1.2 bs rows.length (echN wd (rows, idRows rows.length)).2.length := ⟨_, rfl⟩
 rw [← hk] at hd h1 hne ⊢
 obtain ⟨g1, g2, g3⟩ := denial_denies h.row k hd h1 hne
 refine ⟨⟨g1, fun j hj => ?_, g3⟩, fun j => ?_⟩
 ·rw [h.row 0 h0] at hj
  exact g2 j hj
 ·have hv := ((h.sbK wd h.w6) k (by rw [hl]; exact hd)).div 2 (by rw [ex_dot]; exact hne)
  have := hv.fit (L := 640) (by omega) (3 * j + 1)
  rw [ex_done, ex_dot] at this
  rw [divL_getA]
  exact this
theorem sumN_min {f : Nat → Rat} (n : Nat) (h : ∀ k, n ≤ k → f k = 0) : ∀ k, sumN f k = sumN f (min k n)
 | 0 => by simp
 | k + 1 => by
  by_cases hk : k < n
  ·rw [show min (k + 1) n = k + 1 by omega]
  ·rw [sumN, h k (by omega), sumN_min n h k, show min (k + 1) n = min k n by omega]; grind
theorem sumN_fit {f : Nat → Rat} {a : Nat} (h : ∀ k, FitQ a (f k)) : ∀ k, FitQ (k * (a + 1)) (sumN f k)
 | 0 => fit_zero _
 | k + 1 => by
  rw [sumN]
  exact ((sumN_fit h k).addA (h k)).more (by rw [Nat.succ_mul]; omega)
theorem getD_end {l : List Rat} {k : Nat} (h : l.length ≤ k) : l.getD k 0 = 0 := by
 rw [List.getD, List.getElem?_eq_none h]; rfl
theorem colW_fit {rows : List (List Rat)} {ws : List Rat} {a : Nat} (hr : ∀ i j, FracQ 12 (ent rows i j)) (hw : ∀ i, FitQ a (ws.getD i 0)) (n : Nat) (hn : ws.length ≤ n) (j k : Nat) : FitQ (n * (a + 3)) (sumN (colW rows ws j) k) := by
 rw [sumN_min ws.length (fun k hk => by unfold colW; rw [getD_end hk]; grind)]
 have h1 := sumN_fit (a := a + 2) (f := colW rows ws j) (fun t => (hw t).mulA (hr t j).fit2) (min k ws.length)
 exact h1.more (Nat.mul_le_mul (by omega) (by omega))
theorem dotW_fit {ws bs : List Rat} {a : Nat} (hb : ∀ i, FracQ 12 (bs.getD i 0)) (hw : ∀ i, FitQ a (ws.getD i 0)) (n : Nat) (hn : ws.length ≤ n) (k : Nat) : FitQ (n * (a + 3)) (dotN ws bs k) := by
 rw [dotN_sum, sumN_min ws.length (fun k hk => by show _ * _ = _; rw [getD_end hk]; grind)]
 have h1 := sumN_fit (a := a + 2) (f := fun t => ws.getD t 0 * bs.getD t 0) (fun t => (hw t).mulA (hb t).fit2) (min k ws.length)
 exact h1.more (Nat.mul_le_mul (by omega) (by omega))
theorem denies_s (w : World) (va vb vw : Value) (rows : List (List Rat)) (bs ws : List Rat) (wd a : Nat) (ha : RowsV w va rows (6 * (a + 3))) (hb : RowV w vb bs (6 * (a + 3))) (hw : RowV w vw ws (6 * (a + 3))) (h : Sys wd rows bs) (hws : ∀ i, FitQ a (ws.getD i 0)) (hwl : ws.length ≤ 6) (ha2 : a ≤ 100000) :
  Calls Tryz.prog 14 #[va, vb, vw] w (Ret (fun v w' => v = .bool (denB rows bs ws) ∧ Below w.heap.size w w')) :=
 denies_p w va vb vw rows bs ws (6 * (a + 3)) ha hb hw (by omega) (by omega) h.check h.wd_eq (by have := h.n6; omega) (by have := h.wd_le; omega) h.len
  (fun k _ => dotW_fit h.smallB hws 6 hwl k) (fun j k => colW_fit h.small hws 6 hwl j k)
end Go.Proofs.YthnnbpnocefmgaaGreat
