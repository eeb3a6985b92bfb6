/- Walks: the constants of a shop (Buzen). -/
import Derived.Test.YtpoahodnakhmiaaGreatOpenJ
namespace Go.Proofs.YtpoahodnakhmiaaGreat
set_option linter.unusedVariables false
set_option linter.unusedSimpArgs false
open Go.RowKit
/-- two numbers: their product and their sum, as the program finds them -/
theorem prod2 (a b : Rat) : prodN (fun i => [a, b].getD i 0) 2 = a * b := by simp [prodN, Rat.one_mul]
theorem prod2_fit {L : Nat} {a b : Rat} (hL : 1 ≤ L) (ha : FitQ L a) (hab : FitQ L (a * b)) (k : Nat) (hk : k ≤ 2) : FitQ L (prodN (fun i => [a, b].getD i 0) k) := by
  rcases (show k = 0 ∨ k = 1 ∨ k = 2 by omega) with e | e | e <;> subst e
  · exact fit_one1 hL
  · simpa [prodN, Rat.one_mul] using ha
  · rw [prod2]; exact hab
theorem sum2 (a b : Rat) : sumN (fun i => [a, b].getD i 0) 2 = a + b := by simp [sumN, Rat.zero_add]
theorem sum2_fit {L : Nat} {a b : Rat} (ha : FitQ L a) (hab : FitQ L (a + b)) (k : Nat) (hk : k ≤ 2) : FitQ L (sumN (fun i => [a, b].getD i 0) k) := by
  rcases (show k = 0 ∨ k = 1 ∨ k = 2 by omega) with e | e | e <;> subst e
  · exact fit_zero _
  · simpa [sumN, Rat.zero_add] using ha
  · rw [sum2]; exact hab
/-- two numbers in a row of their own -/
theorem row_pair {w : World} {s t : Bool} {A B C D : Option Addr} {n c m d n' c' m' d' : Nat} {p q : Rat} {L : Nat} (hp : RatV w (.agg #[.bool s, .slice A n c, .slice B m d]) p L) (hq : RatV w (.agg #[.bool t, .slice C n' c', .slice D m' d']) q L) :
    RowV (w.alloc (.cells #[.bool s, .slice A n c, .slice B m d, .bool t, .slice C n' c', .slice D m' d'] 43)) (.slice (some ⟨w.heap.size, 0, none⟩) 2 2) [p, q] L := by
  have hb : Below w.heap.size w (w.alloc (.cells #[.bool s, .slice A n c, .slice B m d, .bool t, .slice C n' c', .slice D m' d'] 43)) := below_al (Below.refl _ _) _
  have hh := heap_alloc_new w (.cells #[.bool s, .slice A n c, .slice B m d, .bool t, .slice C n' c', .slice D m' d'] 43)
  refine ⟨_, 2, rfl, Nat.le_refl _, by simp [maxLen], fun _ => ⟨w.heap.size, 0, rfl, fun i hi => ?_⟩⟩
  have hcell : ∀ (j : Nat) (u : Value), #[Value.bool s, .slice A n c, .slice B m d, .bool t, .slice C n' c', .slice D m' d'][j]? = some u → (w.alloc (.cells #[.bool s, .slice A n c, .slice B m d, .bool t, .slice C n' c', .slice D m' d'] 43)).cell? ⟨w.heap.size, j, none⟩ = some u := fun j u hj => by
    unfold World.cell?
    simp only [hh]
    simpa using hj
  obtain ⟨p1, p2, ep, p3, p4⟩ := hp
  obtain ⟨q1, q2, eq, q3, q4⟩ := hq
  simp only [Value.agg.injEq, Array.mk.injEq, List.cons.injEq, Value.bool.injEq, and_true] at ep eq
  obtain ⟨rfl, rfl, rfl⟩ := ep
  obtain ⟨rfl, rfl, rfl⟩ := eq
  rcases (show i = 0 ∨ i = 1 by simp at hi; omega) with e | e <;> subst e
  · exact ⟨_, _, _, _, _, _, hcell 0 _ rfl, hcell 1 _ rfl, hcell 2 _ rfl, p3.below hb, p4.below hb⟩
  · exact ⟨_, _, _, _, _, _, hcell 3 _ rfl, hcell 4 _ rfl, hcell 5 _ rfl, q3.below hb, q4.below hb⟩
/-- the constants after s stations, and while one more is filled in -/
def gL (l : Nat → Rat) (s n : Nat) : List Rat := (List.range (n + 1)).map (gN l s)
def gP (l : Nat → Rat) (s n k : Nat) : List Rat := (List.range (n + 1)).map fun t => if t < k then gN l (s + 1) t else gN l s t
theorem gL_length (l : Nat → Rat) (s n : Nat) : (gL l s n).length = n + 1 := by simp [gL]
theorem gP_length (l : Nat → Rat) (s n k : Nat) : (gP l s n k).length = n + 1 := by simp [gP]
theorem gL_get (l : Nat → Rat) (s n t : Nat) (ht : t ≤ n) : (gL l s n).getD t 0 = gN l s t := by
  unfold gL; simp [List.getD, show t < n + 1 by omega]
theorem gL_zero (l : Nat → Rat) (n : Nat) : (List.replicate (n + 1) (0 : Rat)).set 0 1 = gL l 0 n := by
  refine list_ext0 (by simp [gL]) fun i hi => ?_
  rw [List.length_set, List.length_replicate] at hi
  rw [getD_set _ _ _ _ _ (by rw [List.length_replicate]; omega), gL_get l 0 n i (by omega)]
  cases i with
  | zero => rw [if_pos rfl, gN_zero]
  | succ i => rw [if_neg (by omega), gN_none]; simp [List.getD, hi]
theorem gP_get (l : Nat → Rat) (s n k t : Nat) (ht : t ≤ n) : (gP l s n k).getD t 0 = if t < k then gN l (s + 1) t else gN l s t := by
  unfold gP; simp [List.getD, show t < n + 1 by omega]
theorem gP_one (l : Nat → Rat) (s n : Nat) : gL l s n = gP l s n 1 := by
  refine list_ext0 (by rw [gL_length, gP_length]) fun i hi => ?_
  rw [gL_length] at hi
  rw [gL_get l s n i (by omega), gP_get l s n 1 i (by omega)]
  by_cases h : i < 1
  · rw [if_pos h, show i = 0 by omega, gN_zero, gN_zero]
  · rw [if_neg h]
theorem gP_end (l : Nat → Rat) (s n : Nat) : gP l s n (n + 1) = gL l (s + 1) n := by
  refine list_ext0 (by rw [gL_length, gP_length]) fun i hi => ?_
  rw [gP_length] at hi
  rw [gL_get l (s + 1) n i (by omega), gP_get l s n (n + 1) i (by omega), if_pos hi]
theorem gP_step (l : Nat → Rat) (s n m : Nat) (hm : m + 1 ≤ n) : (gP l s n (m + 1)).set (m + 1) (gN l (s + 1) (m + 1)) = gP l s n (m + 2) := by
  refine list_ext0 (by simp [gP]) fun i hi => ?_
  rw [List.length_set, gP_length] at hi
  rw [getD_set _ _ _ _ _ (by rw [gP_length]; omega), gP_get l s n (m + 1) i (by omega), gP_get l s n (m + 2) i (by omega)]
  by_cases e : m + 1 = i
  · subst e; rw [if_pos rfl, if_pos (by omega)]
  · rw [if_neg e]
    by_cases h : i < m + 1
    · rw [if_pos h, if_pos (by omega)]
    · rw [if_neg h, if_neg (by omega)]
set_option maxRecDepth 100000 in
set_option maxHeartbeats 4000000 in
theorem fill_c (w : World) (a : Value) (l : Nat → Rat) (s n L g bn bg c : Nat) (ha : RatV w a (l s) L) (hrow : RowC w g (gL l s n) L) (hbn : w.heap[bn]? = some (.cells #[.int .i64 (n : Int)] 3 (0, 0))) (hbg : w.heap[bg]? = some (.cells #[.slice (some ⟨g, 0, none⟩) (n + 1) c] 30 (0, 0)))
    (hn : n ≤ 1000) (hc : n + 1 ≤ c) (hm : c ≤ maxLen) (hL1 : 2 ≤ L) (hL2 : L ≤ 3000) (hf1 : FitQ L (l s)) (hf2 : ∀ t, t ≤ n → FitQ L (gN l s t) ∧ FitQ L (gN l (s + 1) t) ∧ FitQ L (l s * gN l (s + 1) t)) :
    Calls Tryz.prog 122 #[a, .pointer (some ⟨bn, 0, none⟩), .pointer (some ⟨bg, 0, none⟩)] w (Ret (fun v w' => v = .tuple #[] ∧ RowC w' g (gL l (s + 1) n) L ∧ Keeps w w' ∧ w.grownBy w' (some g))) := by
  have hgl := hrow.lt
  have hng : bn ≠ g := Typed.ne (e := 3) ⟨_, _, hbn⟩ ⟨_, _, hrow.1.choose_spec⟩ (by decide)
  have hgg : bg ≠ g := Typed.ne (e := 30) ⟨_, _, hbg⟩ ⟨_, _, hrow.1.choose_spec⟩ (by decide)
  have hbnl := lt_of_block hbn
  have hbgl := lt_of_block hbg
  unfold maxLen at hm
  have HA0 := hide ha
  obtain ⟨s0, A0, n0, c0, A9, n9, c9, rfl⟩ := ha.shape
  obtain ⟨W, hW⟩ : ∃ W, W = w.alloc (.cells #[.bool s0, .slice A0 n0 c0, .slice A9 n9 c9] 43) := ⟨_, rfl⟩
  have hb0 : Below w.heap.size w W := by rw [hW]; exact below_al (Below.refl _ _) _
  have hbx : W.heap[w.heap.size]? = some (.cells #[.bool s0, .slice A0 n0 c0, .slice A9 n9 c9] 43) := by rw [hW]; exact at_new _ _
  have hrw := hrow.below hb0
  rw [gP_one] at hrw
  have HX := hide (And.intro hb0 (And.intro hbx (And.intro (at_later hbn hb0) (And.intro (at_later hbg hb0) (And.intro hrw (ha.below hb0))))))
  have HF0 := hide (And.intro hf1 hf2)
  have HL := hide hW
  have hWs : w.heap.size < W.heap.size := lt_of_block hbx
  clear ha hrow hbn hbg hb0 hbx hrw hW hf1 hf2
  go_enter Tryz.func122, Tryz.ntmps122
  go_wp2
  rw [← HL.out]
  go_loopw [4] (fun s4 wr => ∃ m : Nat, m ≤ n ∧ s4 = .int .i64 ((m : Int) + 1) ∧ RowC wr g (gP l s n (m + 1)) L ∧ Keeps W wr ∧ W.grownBy wr (some g)) (fun s4 _ => n + 1 - (intOf s4).toNat)
  case atStart => exact ⟨0, Nat.zero_le _, rfl, HX.out.2.2.2.2.1, Below.keeps (Below.refl _ _), ⟨rfl, rfl, rfl, Nat.le_refl _, fun _ _ _ => rfl⟩⟩
  case round =>
    obtain ⟨m, hmn, rfl, hrow, hkeep, hgr⟩ := hrel
    have hbnr := (hgr.block bn (by omega) (by intro e; injection e with e; omega)).trans HX.out.2.2.1
    have hbgr := (hgr.block bg (by omega) (by intro e; injection e with e; omega)).trans HX.out.2.2.2.1
    obtain ⟨kn, _⟩ := one_cell hbnr
    by_cases hlt : m + 1 ≤ n
    · have hbxr := (hgr.block w.heap.size (by omega) (by intro e; injection e with e; omega)).trans HX.out.2.1
      obtain ⟨s1, B1, m1, d1, B2, m2, d2, e0, e1, e2, hq1⟩ := (hrow.2 (m + 1) (by rw [gP_length]; omega)).rat
      obtain ⟨s2, B3, m3, d3, B4, m4, d4, e3, e4, e5, hq2⟩ := (hrow.2 m (by rw [gP_length]; omega)).rat
      rw [gP_get l s n (m + 1) (m + 1) (by omega), if_neg (Nat.lt_irrefl _)] at hq1
      rw [gP_get l s n (m + 1) m (by omega), if_pos (by omega)] at hq2
      have hS : ∀ w', Below wr.heap.size wr w' → w'.cell? ⟨bg, 0, none⟩ = some (.slice (some ⟨g, 0, none⟩) (n + 1) c) ∧ (w'.cell? ⟨g, (m + 1) * 3, none⟩ = some (.bool s1) ∧ w'.cell? ⟨g, (m + 1) * 3 + 1, none⟩ = some (.slice B1 m1 d1) ∧ w'.cell? ⟨g, (m + 1) * 3 + 2, none⟩ = some (.slice B2 m2 d2)) ∧ (w'.cell? ⟨g, m * 3, none⟩ = some (.bool s2) ∧ w'.cell? ⟨g, m * 3 + 1, none⟩ = some (.slice B3 m3 d3) ∧ w'.cell? ⟨g, m * 3 + 2, none⟩ = some (.slice B4 m4 d4)) ∧ w'.cell? ⟨w.heap.size, 0, none⟩ = some (.bool s0) ∧ w'.cell? ⟨w.heap.size, 1, none⟩ = some (.slice A0 n0 c0) ∧ w'.cell? ⟨w.heap.size, 2, none⟩ = some (.slice A9 n9 c9) := fun w' h => by
        have e : ∀ b o v, wr.cell? ⟨b, o, none⟩ = some v → w'.cell? ⟨b, o, none⟩ = some v := fun b o v hv => (h.cell (lt_of_cell hv)).trans hv
        have hx := three_cells hbxr
        exact ⟨e _ _ _ (one_cell hbgr).1, ⟨e _ _ _ e0, e _ _ _ e1, e _ _ _ e2⟩, ⟨e _ _ _ e3, e _ _ _ e4, e _ _ _ e5⟩, e _ _ _ hx.1, e _ _ _ hx.2.1, e _ _ _ hx.2.2⟩
      have hdr : Below wr.heap.size wr wr.drew := (Below.refl _ _).drew
      have HSS := hide hS
      have HI := hide (And.intro hrow (And.intro hkeep hgr))
      have HQ := hide (And.intro (HX.out.2.2.2.2.2.keeps hkeep) (And.intro hq2 hq1))
      have HF := hide (And.intro HF0.out.1 (And.intro (HF0.out.2 m (by omega)).2.2 (And.intro (HF0.out.2 (m + 1) (by omega)).1 (HF0.out.2 (m + 1) (by omega)).2.1)))
      have i1 : (m : Int) + 1 < (n : Int) + 1 := by omega
      have i2 : (m : Int) + 1 ≤ (n : Int) := by omega
      have i3 : (m : Int) < (n : Int) + 1 := by omega
      have i4 : ((m : Int) + 1).toNat = m + 1 := by omega
      have i5 : (0 : Int) ≤ (m : Int) + 1 := by omega
      have i6 : (0 : Int) ≤ (m : Int) := by omega
      have i7 : IntKind.i64.wrap (m : Int) = (m : Int) := IntWalk.i64_in _ (by omega)
      have i8 : ((m : Int)).toNat = m := by omega
      clear hS hrow hkeep hgr hq1 hq2 hbnr hbgr hbxr e0 e1 e2 e3 e4 e5
      go_upto_region 4 with fail
      refine till_begin (fun w' => w'.cell? ⟨bg, 0, none⟩ = some (.slice (some ⟨g, 0, none⟩) (n + 1) c) ∧ (w'.cell? ⟨g, (m + 1) * 3, none⟩ = some (.bool s1) ∧ w'.cell? ⟨g, (m + 1) * 3 + 1, none⟩ = some (.slice B1 m1 d1) ∧ w'.cell? ⟨g, (m + 1) * 3 + 2, none⟩ = some (.slice B2 m2 d2)) ∧ (w'.cell? ⟨g, m * 3, none⟩ = some (.bool s2) ∧ w'.cell? ⟨g, m * 3 + 1, none⟩ = some (.slice B3 m3 d3) ∧ w'.cell? ⟨g, m * 3 + 2, none⟩ = some (.slice B4 m4 d4)) ∧ w'.cell? ⟨w.heap.size, 0, none⟩ = some (.bool s0) ∧ w'.cell? ⟨w.heap.size, 1, none⟩ = some (.slice A0 n0 c0) ∧ w'.cell? ⟨w.heap.size, 2, none⟩ = some (.slice A9 n9 c9)) [0, 1, 2, 3, 4, 5, 6, 7, 8, 9, 10, 11, 12, 13, 14, 15, 16] (by kernel_rfl) (HSS.out _ hdr) (fun hHeld => ?_)
      refine tt (i := 1) hHeld (some 11) ?_
      try simp only [Act.put, ptA, ptB, ptC]
      refine tt (i := 3) hHeld (some 13) ?_
      try simp only [Act.put, ptA, ptB, ptC]
      refine tt (i := 8) hHeld (some 18) ?_
      try simp only [Act.put, ptA, ptB, ptC]
      refine tt (i := 9) hHeld (some 19) ?_
      try simp only [Act.put, ptA, ptB, ptC]
      refine tt (i := 0) hHeld (some 10) ?_
      try simp only [Act.put, ptA, ptB, ptC]
      refine tt (i := 2) hHeld (some 12) ?_
      try simp only [Act.put, ptA, ptB, ptC]
      refine tt (i := 4) hHeld (some 14) ?_
      try simp only [Act.put, ptA, ptB, ptC]
      refine tt (i := 5) hHeld (some 15) ?_
      try simp only [Act.put, ptA, ptB, ptC]
      refine tt (i := 6) hHeld (some 16) ?_
      try simp only [Act.put, ptA, ptB, ptC]
      refine tt (i := 7) hHeld (some 17) ?_
      try simp only [Act.put, ptA, ptB, ptC]
      refine tt (i := 10) hHeld (some 20) ?_
      try simp only [Act.put, ptA, ptB, ptC]
      refine tt (i := 11) hHeld (some 21) ?_
      try simp only [Act.put, ptA, ptB, ptC]
      refine till_ready (rs := [12]) (by kernel_rfl) (by simp) ?_
      refine mem1 ?_
      refine till_step rfl (fun K hK => ?_)
      go_simp
      have HP1 := row_pair (HQ.out.1.below hdr) (HQ.out.2.1.below hdr)
      have hg1 := below_al hdr (.cells #[.bool s0, .slice A0 n0 c0, .slice A9 n9 c9, .bool s2, .slice B3 m3 d3, .slice B4 m4 d4] 43)
      have HP := hide HP1
      clear HP1
      refine hK.out _ _ (HSS.out _ hg1) (fun hHeld => ?_)
      clear hK K
      try simp only [Act.put, ptA, ptB, ptC]
      refine till_ready (rs := [13]) (by kernel_rfl) (by simp) ?_
      refine mem1 ?_
      refine till_step rfl (fun K hK => ?_)
      go_simp
      go_at_call 84
      refine (product_c _ _ [l s, gN l (s + 1) m] L HP.out hL2 hL1 (prod2_fit (by omega) HF.out.1 HF.out.2.1)).mono ?_
      rintro e w2 ⟨v3, rfl, hr3, hd⟩
      replace hr3 : RatV w2 v3 (l s * gN l (s + 1) m) L := by rw [← prod2]; exact hr3
      obtain ⟨s3, B5, m5, d5, B6, m6, d6, rfl⟩ := hr3.shape
      have H3 := hide hr3
      clear hr3
      have hg2 : Below wr.heap.size wr w2 := hg1.trans (hd.mono hg1.size)
      clear hd
      go_wp2_with fail
      refine hK.out _ _ (HSS.out _ hg2) (fun hHeld => ?_)
      clear hK K
      try simp only [Act.put, ptA, ptB, ptC]
      refine till_ready (rs := [14]) (by kernel_rfl) (by simp) ?_
      refine mem1 ?_
      refine till_step rfl (fun K hK => ?_)
      go_simp
      have HP23 := row_pair (HQ.out.2.2.below hg2) (H3.out)
      have hg3 := below_al hg2 (.cells #[.bool s1, .slice B1 m1 d1, .slice B2 m2 d2, .bool s3, .slice B5 m5 d5, .slice B6 m6 d6] 43)
      have HP2 := hide HP23
      clear HP23
      refine hK.out _ _ (HSS.out _ hg3) (fun hHeld => ?_)
      clear hK K
      try simp only [Act.put, ptA, ptB, ptC]
      refine till_ready (rs := [15]) (by kernel_rfl) (by simp) ?_
      refine mem1 ?_
      refine till_step rfl (fun K hK => ?_)
      go_simp
      go_at_call 83
      refine (sum_c _ _ [gN l s (m + 1), l s * gN l (s + 1) m] L HP2.out hL2 (sum2_fit HF.out.2.2.1 (by rw [← gN_step]; exact HF.out.2.2.2))).mono ?_
      rintro e w4 ⟨v5, rfl, hr5, hd⟩
      replace hr5 : RatV w4 v5 (gN l (s + 1) (m + 1)) L := by rw [gN_step, ← sum2]; exact hr5
      obtain ⟨s5, B7, m7, d7, B8, m8, d8, rfl⟩ := hr5.shape
      have H5 := hide hr5
      clear hr5
      have hg4 : Below wr.heap.size wr w4 := hg3.trans (hd.mono hg3.size)
      clear hd
      go_wp2_with fail
      refine hK.out _ _ (HSS.out _ hg4) (fun hHeld => ?_)
      clear hK K
      try simp only [Act.put, ptA, ptB, ptC]
      refine tt (i := 16) hHeld (some 26) ?_
      try simp only [Act.put, ptA, ptB, ptC]
      refine till_end (k := 17) (by rfl) (by rfl) (by kernel_rfl) ?_
      simp only [List.drop_succ_cons, List.drop_zero]
      clear hHeld
      have hrowE := HI.out.1.below hg4
      obtain ⟨s', B1', m1', d1', B2', m2', d2', e0', e1', e2', _⟩ := (hrowE.2 (m + 1) (by rw [gP_length]; omega)).rat
      have f0 := hrowE.frozen ((m + 1) * 3)
      have f1 := hrowE.frozen ((m + 1) * 3 + 1)
      have f2 := hrowE.frozen ((m + 1) * 3 + 2)
      have HG := hide (And.intro hrowE hg4)
      clear hrowE
      go_wp2
      case roundEnd =>
        obtain ⟨t1, t2, t3⟩ := HG.out.1.set3 (i := m + 1) (by rw [gP_length]; omega) H5.out
        rw [gP_step l s n m (by omega)] at t1
        exact ⟨⟨m + 1, by omega, by go_num, t1, (HI.out.2.1.trans (Below.keeps HG.out.2)).trans t2, only_trans (grown_below HI.out.2.2 HG.out.2) t3⟩, by simp [intOf]; omega⟩
    · obtain rfl : m = n := by omega
      have HI := hide (And.intro hrow (And.intro hkeep hgr))
      have i2 : ¬ (m : Int) + 1 ≤ (m : Int) := by omega
      clear hrow hkeep hgr hbnr hbgr
      go_wp2
      go_end0
      refine ⟨_, rfl, rfl, by rw [← gP_end]; exact HI.out.1, (Below.keeps HX.out.1).trans HI.out.2.1, only_start HX.out.1 HI.out.2.2⟩
end Go.Proofs.YtpoahodnakhmiaaGreat
