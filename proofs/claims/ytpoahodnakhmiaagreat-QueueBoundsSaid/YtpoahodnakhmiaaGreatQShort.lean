/- Walks: whether a fraction has few digits. -/
import Derived.Test.YtpoahodnakhmiaaGreatQArith
import Derived.Test.YtpoahodnakhmiaaGreatSysL
import Derived.Test.YtpoahodnakhmiaaGreatLong
namespace Go.Proofs.YtpoahodnakhmiaaGreat
set_option linter.unusedVariables false
set_option linter.unusedSimpArgs false
open Go.RowKit
/-- at most six digits above and below -/
def shortQ (q : Rat) : Bool := decide ((decText (q.num.natAbs : Int)).length ≤ 6) && decide ((decText (q.den : Int)).length ≤ 6)
theorem text_int (z : Int) (h : 0 ≤ z) : ratText ((z : Int) : Rat) = decText z := by
  unfold ratText intText
  rw [Rat.num_intCast, Rat.den_intCast, if_neg (by omega), if_pos rfl, List.nil_append, List.append_nil, Int.natAbs_of_nonneg h]
theorem sgn_int (z : Int) : decide (sgnQ ((z : Int) : Rat) < 0) = decide (z < 0) := by
  unfold sgnQ
  rw [Rat.num_intCast, decide_eq_decide]
  split
  · omega
  · split <;> omega
theorem text_small {w : World} {v : Value} {z : Int} {L : Nat} (h : RatV w v ((z : Int) : Rat) L) (hz : 0 ≤ z) (hL : L ≤ 1000000) : (decText z).length ≤ 100000000000 := by
  obtain ⟨n1, l1, rfl, h1, _⟩ := h
  have := h1.text_size (by omega)
  rw [str_size, Rat.num_intCast, Int.natAbs_of_nonneg hz] at this
  omega
set_option maxRecDepth 100000 in
set_option maxHeartbeats 2000000 in
theorem isShort_c (w : World) (a : Value) (q : Rat) (L : Nat) (ha : RatV w a q L) (hL : L ≤ 100000) :
    Calls Tryz.prog 116 #[a] w (Ret (fun v w' => v = .bool (shortQ q) ∧ Below w.heap.size w w')) := by
  have HA := hide ha
  obtain ⟨s1, A1, n1, c1, B1, m1, d1, rfl⟩ := ha.shape
  clear ha
  obtain ⟨W, hW⟩ : ∃ W, W = w.alloc (.cells #[.bool s1, .slice A1 n1 c1, .slice B1 m1 d1] 43) := ⟨_, rfl⟩
  have hb0 : Below w.heap.size w W := by rw [hW]; exact (Below.refl _ _).alloc (Nat.le_refl _) _
  have hr : W.heap[w.heap.size]? = some (.cells #[.bool s1, .slice A1 n1 c1, .slice B1 m1 d1] 43) := by rw [hW]; exact at_new _ _
  have H0 := hide (And.intro hb0 hr)
  have HL := hide hW
  obtain ⟨x0, x1, x2⟩ := three_cells hr
  clear hW hb0 hr
  go_enter Tryz.func116, Tryz.ntmps116
  go_wp2_with fail
  rw [← HL.out]
  refine (num_q _ _ q L (HA.out.below H0.out.1)).mono ?_
  rintro e w1 ⟨v1, rfl, hv1, hd1⟩
  obtain ⟨s2, A2, n2, c2, B2, m2, d2, rfl⟩ := hv1.shape
  obtain ⟨W1, hW1⟩ : ∃ W1, W1 = w1.alloc (.cells #[.bool s2, .slice A2 n2 c2, .slice B2 m2 d2] 43) := ⟨_, rfl⟩
  have hb1 : Below w1.heap.size w1 W1 := by rw [hW1]; exact (Below.refl _ _).alloc (Nat.le_refl _) _
  have hr1 : W1.heap[w1.heap.size]? = some (.cells #[.bool s2, .slice A2 n2 c2, .slice B2 m2 d2] 43) := by rw [hW1]; exact at_new _ _
  have hbw := below_next H0.out.1 (below_next hd1 hb1)
  have hrw := at_later (at_later H0.out.2 hd1) hb1
  have hwg : w.heap.size < w1.heap.size := by have := lt_of_block (at_later H0.out.2 hd1); omega
  have hrow1 : RowC W1 w1.heap.size [((q.num : Int) : Rat)] L := by rw [hW1]; exact row_oneQ hv1
  have H1 := hide (And.intro (hv1.below hb1) (And.intro hbw (And.intro hrw hrow1)))
  have HL1 := hide hW1
  obtain ⟨y0, y1, y2⟩ := three_cells hr1
  clear hv1 hd1 hb1 hr1 hbw hrw hW1 x0 x1 x2
  go_wp2_with fail
  rw [← HL1.out]
  refine (sign_q _ _ ((q.num : Int) : Rat) L H1.out.1).mono ?_
  rintro e w2 ⟨_, rfl, rfl, hd2⟩
  have hsg := sgn_int q.num
  have hbw2 := below_next H1.out.2.1 hd2
  have hrw2 := at_later H1.out.2.2.1 hd2
  have hg2 := H1.out.2.2.2.below hd2
  clear hd2 y0 y1 y2
  obtain ⟨sg, hsge⟩ : ∃ sg, sg = sgnQ ((q.num : Int) : Rat) := ⟨_, rfl⟩
  rw [← hsge] at hsg ⊢
  clear hsge
  obtain ⟨z, hz⟩ : ∃ z, z = q.num := ⟨_, rfl⟩
  obtain ⟨y, hy⟩ : ∃ y, y = (q.den : Int) := ⟨_, rfl⟩
  have hsq : shortQ q = (decide ((decText (z.natAbs : Int)).length ≤ 6) && decide ((decText y).length ≤ 6)) := by rw [hz, hy]; rfl
  have hy0 : 0 ≤ y := by omega
  rw [← hz] at hg2 hsg
  have HZ := hide (And.intro hz (And.intro hy hsq))
  clear hsq hz hy
  by_cases hneg : z < 0
  · have hd0 : decide (sg < 0) = true := by rw [hsg]; simpa using hneg
    obtain ⟨s3, B3, m3, d3, B4, m4, d4, y0, y1, y2, hq3⟩ := (hg2.2 0 (by simp)).rat
    simp only [Nat.zero_mul, Nat.zero_add] at y0 y1 y2
    have HG := hide (And.intro hbw2 (And.intro hrw2 (And.intro hg2 hq3)))
    clear hbw2 hrw2 hg2 hq3
    go_wp2_with fail
    refine (neg_q _ _ ((z : Int) : Rat) L HG.out.2.2.2).mono ?_
    rintro e w3 ⟨v3, rfl, hv3, hd3⟩
    rw [show -((z : Int) : Rat) = (((z.natAbs : Int) : Int) : Rat) by rw [show (z.natAbs : Int) = -z by omega, Rat.intCast_neg]] at hv3
    obtain ⟨s5, A5, n5, c5, B5, m5, d5, rfl⟩ := hv3.shape
    have hg3 := HG.out.2.2.1.below hd3
    have hrw3 := at_later HG.out.2.1 hd3
    have hbw3 := below_next HG.out.1 hd3
    obtain ⟨s7, B7, m7, d7, B8, m8, d8, p0, p1, p2, _⟩ := (hg3.2 0 (by simp)).rat
    simp only [Nat.zero_mul, Nat.zero_add] at p0 p1 p2
    have f0 := hg3.frozen 0
    have f1 := hg3.frozen 1
    have f2 := hg3.frozen 2
    obtain ⟨t1, t2, t3⟩ := hg3.set3 (i := 0) (by simp) hv3
    simp only [Nat.zero_mul, Nat.zero_add] at t1 t2 t3
    have hbw4 := only_below hbw3 t3 (by have := lt_of_block hrw3; omega) (by omega)
    have hrw4 := (t3.block _ (by have := lt_of_block hrw3; omega) (by intro e; injection e with e; omega)).trans hrw3
    obtain ⟨W4, hW4⟩ : ∃ W4, W4 = ((w3.setCell ⟨w1.heap.size, 0, none⟩ (.bool s5)).setCell ⟨w1.heap.size, 1, none⟩ (.slice A5 n5 c5)).setCell ⟨w1.heap.size, 2, none⟩ (.slice B5 m5 d5) := ⟨_, rfl⟩
    rw [← hW4] at hbw4 hrw4 t1
    clear y0 y1 y2 hv3 hd3 hg3 hrw3 hbw3 t2 t3
    go_upto_region 4 with fail
    rw [← hW4]
    clear p0 p1 p2 f0 f1 f2
    clear hW4
    obtain ⟨s9, B9, m9, d9, B0, m0, d0, y0, y1, y2, hv9⟩ := (t1.2 0 (by simp)).rat
    simp only [Nat.zero_mul, Nat.zero_add] at y0 y1 y2
    replace hv9 : RatV W4 (.agg #[.bool s9, .slice B9 m9 d9, .slice B0 m0 d0]) (((z.natAbs : Int) : Int) : Rat) L := hv9
    have hsn := text_small hv9 (by omega) (by omega)
    have HV := hide hv9
    clear hv9 t1
    go_wp2_with fail
    refine (string_c _ _ _ L HV.out (by omega)).mono ?_
    rintro e w5 ⟨_, rfl, rfl, hd5⟩
    rw [text_int (z.natAbs : Int) (by omega)]
    have hsz := str_size (decText (z.natAbs : Int))
    have HU := hide (And.intro hd5 (And.intro (below_next hbw4 hd5) (And.intro (at_later hrw4 hd5) trivial)))
    clear hd5 hbw4 hrw4
    clear y0 y1 y2
    by_cases h6 : (decText (z.natAbs : Int)).length ≤ 6
    · have hl6 : decide ((decText (z.natAbs : Int)).length ≤ 6) = true := by simpa using h6
      have hl7 : decide (((str (decText (z.natAbs : Int))).size : Int) ≤ 6) = true := by rw [← hl6, decide_eq_decide, str_size]; omega
      have HS := hide hl6
      clear hl6 h6
      obtain ⟨x0, x1, x2⟩ := three_cells HU.out.2.2.1
      clear hsz
      go_wp2_with fail
      refine (den_q _ _ q L (HA.out.below HU.out.2.1) (by omega)).mono ?_
      rintro e w6 ⟨v6, rfl, hv6, hd6⟩
      rw [← HZ.out.2.1] at hv6
      obtain ⟨s6, A6, n6, c6, B6, m6, d6, rfl⟩ := hv6.shape
      have hsy := text_small hv6 hy0 (by omega)
      have H6 := hide (And.intro hv6 (below_next HU.out.2.1 hd6))
      clear hv6 hd6
      go_wp2_with fail
      refine (string_c _ _ _ (L + 2) H6.out.1 (by omega)).mono ?_
      rintro e w7 ⟨_, rfl, rfl, hd7⟩
      rw [text_int y hy0]
      have hsz7 := str_size (decText y)
      go_wp2
      go_ret
      refine ⟨_, rfl, ?_, below_next H6.out.2 hd7⟩
      rw [HZ.out.2.2, HS.out, Bool.true_and]
      show Value.bool (decide (((decText y).length : Int) ≤ 6)) = Value.bool _
      congr 1
      rw [decide_eq_decide]; omega
    · have hl6 : decide ((decText (z.natAbs : Int)).length ≤ 6) = false := by simpa using h6
      have hl7 : decide (((str (decText (z.natAbs : Int))).size : Int) ≤ 6) = false := by rw [← hl6, decide_eq_decide, str_size]; omega
      have HS := hide hl6
      clear hl6 h6
      obtain ⟨x0, x1, x2⟩ := three_cells HU.out.2.2.1
      clear hsz
      go_wp2
      go_ret
      exact ⟨_, rfl, by rw [HZ.out.2.2, HS.out, Bool.false_and]; rfl, HU.out.2.1⟩
  · have hd0 : decide (sg < 0) = false := by rw [hsg]; simpa using hneg
    rw [show ((z : Int) : Rat) = (((z.natAbs : Int) : Int) : Rat) by rw [show (z.natAbs : Int) = z by omega]] at hg2
    have hbw4 := hbw2
    have hrw4 := hrw2
    have t1 := hg2
    clear hbw2 hrw2 hg2
    obtain ⟨s9, B9, m9, d9, B0, m0, d0, y0, y1, y2, hv9⟩ := (t1.2 0 (by simp)).rat
    simp only [Nat.zero_mul, Nat.zero_add] at y0 y1 y2
    replace hv9 : RatV w2 (.agg #[.bool s9, .slice B9 m9 d9, .slice B0 m0 d0]) (((z.natAbs : Int) : Int) : Rat) L := hv9
    have hsn := text_small hv9 (by omega) (by omega)
    have HV := hide hv9
    clear hv9 t1
    go_wp2_with fail
    refine (string_c _ _ _ L HV.out (by omega)).mono ?_
    rintro e w5 ⟨_, rfl, rfl, hd5⟩
    rw [text_int (z.natAbs : Int) (by omega)]
    have hsz := str_size (decText (z.natAbs : Int))
    have HU := hide (And.intro hd5 (And.intro (below_next hbw4 hd5) (And.intro (at_later hrw4 hd5) trivial)))
    clear hd5 hbw4 hrw4
    clear y0 y1 y2
    by_cases h6 : (decText (z.natAbs : Int)).length ≤ 6
    · have hl6 : decide ((decText (z.natAbs : Int)).length ≤ 6) = true := by simpa using h6
      have hl7 : decide (((str (decText (z.natAbs : Int))).size : Int) ≤ 6) = true := by rw [← hl6, decide_eq_decide, str_size]; omega
      have HS := hide hl6
      clear hl6 h6
      obtain ⟨x0, x1, x2⟩ := three_cells HU.out.2.2.1
      clear hsz
      go_wp2_with fail
      refine (den_q _ _ q L (HA.out.below HU.out.2.1) (by omega)).mono ?_
      rintro e w6 ⟨v6, rfl, hv6, hd6⟩
      rw [← HZ.out.2.1] at hv6
      obtain ⟨s6, A6, n6, c6, B6, m6, d6, rfl⟩ := hv6.shape
      have hsy := text_small hv6 hy0 (by omega)
      have H6 := hide (And.intro hv6 (below_next HU.out.2.1 hd6))
      clear hv6 hd6
      go_wp2_with fail
      refine (string_c _ _ _ (L + 2) H6.out.1 (by omega)).mono ?_
      rintro e w7 ⟨_, rfl, rfl, hd7⟩
      rw [text_int y hy0]
      have hsz7 := str_size (decText y)
      go_wp2
      go_ret
      refine ⟨_, rfl, ?_, below_next H6.out.2 hd7⟩
      rw [HZ.out.2.2, HS.out, Bool.true_and]
      show Value.bool (decide (((decText y).length : Int) ≤ 6)) = Value.bool _
      congr 1
      rw [decide_eq_decide]; omega
    · have hl6 : decide ((decText (z.natAbs : Int)).length ≤ 6) = false := by simpa using h6
      have hl7 : decide (((str (decText (z.natAbs : Int))).size : Int) ≤ 6) = false := by rw [← hl6, decide_eq_decide, str_size]; omega
      have HS := hide hl6
      clear hl6 h6
      obtain ⟨x0, x1, x2⟩ := three_cells HU.out.2.2.1
      clear hsz
      go_wp2
      go_ret
      exact ⟨_, rfl, by rw [HZ.out.2.2, HS.out, Bool.false_and]; rfl, HU.out.2.1⟩
def badR (q : Rat) : Bool := decide (sgnQ q ≤ 0) || !shortQ q
set_option maxRecDepth 100000 in
theorem badR_c (w : World) (a : Value) (q : Rat) (L : Nat) (ha : RatV w a q L) (hL : L ≤ 100000) :
    Calls Tryz.prog 115 #[a] w (Ret (fun v w' => v = .bool (badR q) ∧ Below w.heap.size w w')) := by
  have HA := hide ha
  obtain ⟨s1, A1, n1, c1, B1, m1, d1, rfl⟩ := ha.shape
  clear ha
  obtain ⟨W, hW⟩ : ∃ W, W = w.alloc (.cells #[.bool s1, .slice A1 n1 c1, .slice B1 m1 d1] 43) := ⟨_, rfl⟩
  have hb0 : Below w.heap.size w W := by rw [hW]; exact (Below.refl _ _).alloc (Nat.le_refl _) _
  have hr : W.heap[w.heap.size]? = some (.cells #[.bool s1, .slice A1 n1 c1, .slice B1 m1 d1] 43) := by rw [hW]; exact at_new _ _
  have H0 := hide (And.intro hb0 hr)
  have HL := hide hW
  obtain ⟨x0, x1, x2⟩ := three_cells hr
  clear hW hb0 hr
  by_cases h0 : sgnQ q ≤ 0
  · obtain ⟨sg, hsg⟩ : ∃ sg, sg = sgnQ q := ⟨_, rfl⟩
    have hd0 : decide (sg ≤ 0) = true := by rw [hsg]; simpa using h0
    have HD := hide (show decide (sgnQ q ≤ 0) = true by rw [← hsg]; exact hd0)
    go_enter Tryz.func115, Tryz.ntmps115
    go_wp2_with fail
    rw [← HL.out]
    refine (sign_q _ _ q L (HA.out.below H0.out.1)).mono ?_
    rintro e w1 ⟨_, rfl, rfl, hd1⟩
    rw [← hsg]
    have hr1 := at_later H0.out.2 hd1
    obtain ⟨y0, y1, y2⟩ := three_cells hr1
    have H1 := hide (below_next H0.out.1 hd1)
    clear hsg x0 x1 x2 hr1 hd1
    go_wp2
    go_ret
    exact ⟨_, rfl, by unfold badR; rw [HD.out, Bool.true_or]; rfl, H1.out⟩
  · obtain ⟨sg, hsg⟩ : ∃ sg, sg = sgnQ q := ⟨_, rfl⟩
    have hd0 : decide (sg ≤ 0) = false := by rw [hsg]; simpa using h0
    have HD := hide (show decide (sgnQ q ≤ 0) = false by rw [← hsg]; exact hd0)
    go_enter Tryz.func115, Tryz.ntmps115
    go_wp2_with fail
    rw [← HL.out]
    refine (sign_q _ _ q L (HA.out.below H0.out.1)).mono ?_
    rintro e w1 ⟨_, rfl, rfl, hd1⟩
    rw [← hsg]
    have hr1 := at_later H0.out.2 hd1
    obtain ⟨y0, y1, y2⟩ := three_cells hr1
    have H1 := hide (below_next H0.out.1 hd1)
    clear hsg x0 x1 x2 hr1 hd1
    go_wp2_with fail
    refine (isShort_c _ _ q L (HA.out.below H1.out) hL).mono ?_
    rintro e w2 ⟨_, rfl, rfl, hd2⟩
    clear y0 y1 y2
    go_wp2
    go_ret
    exact ⟨_, rfl, by unfold badR; rw [HD.out, Bool.false_or]; rfl, below_next H1.out hd2⟩
set_option maxRecDepth 100000 in
theorem index_badR (w : World) (va : Value) (qs : List Rat) (L : Nat) (ha : RowV w va qs L) (hL : L ≤ 100000) :
    Calls Tryz.prog 162 #[va, .func (.func 115) #[] #[]] w (Ret (FoundR w (anyB (fun i => badR (qs.getD i 0)) qs.length))) := by
  have HA := hide ha
  obtain ⟨A1, c1, rfl, hc1, hm1, _⟩ := ha
  unfold maxLen at hm1
  go_enter Tryz.func162, Tryz.ntmps162
  go_wp2
  go_loopw [8] (fun s8 wr => ∃ k : Nat, k ≤ qs.length ∧ s8 = .int .i64 k ∧ (∀ i, i < k → badR (qs.getD i 0) = false) ∧ Below w.heap.size w wr) (fun s8 _ => qs.length - (intOf s8).toNat)
  case atStart => exact ⟨0, Nat.zero_le _, rfl, fun i hi => by omega, Below.refl _ _⟩
  case round =>
    obtain ⟨k, hk, rfl, hno, hbel⟩ := hrel
    by_cases hkl : k < qs.length
    · obtain ⟨_, _, _, hcell⟩ := (HA.out.below hbel).at_
      obtain ⟨g1, o1, rfl, hcl1⟩ := hcell (by omega)
      obtain ⟨s, B1, m1, d1, B2, m2, d2, e0, e1, e2, hr⟩ := (hcl1 k hkl).rat
      have HH := hide (And.intro hno (And.intro hbel hr)); clear hno hbel hr hcell hcl1
      rcases hp : badR (qs.getD k 0) with _ | _
      · have HP := hide hp; clear hp
        go_wp2_with (go_at_call 115; refine (badR_c _ _ (qs.getD k 0) L HH.out.2.2 hL).mono ?_; rintro e w1 ⟨_, rfl, rfl, hd1⟩; rw [HP.out])
        go_roundw
        case rel =>
          refine ⟨k + 1, by omega, by go_num, fun i hi => ?_, below_next HH.out.2.1 hd1⟩
          by_cases h : i < k
          · exact HH.out.1 i h
          · obtain rfl : i = k := by omega
            exact HP.out
        case measure => simp [intOf]; omega
      · have HP := hide hp; clear hp
        go_wp2_with (go_at_call 115; refine (badR_c _ _ (qs.getD k 0) L HH.out.2.2 hL).mono ?_; rintro e w1 ⟨_, rfl, rfl, hd1⟩; rw [HP.out])
        go_ret
        exact ⟨_, rfl, k, rfl, by rw [anyB_of hkl HP.out]; simp, below_next HH.out.2.1 hd1⟩
    · obtain rfl : k = qs.length := by omega
      have HH := hide (And.intro hno hbel); clear hno hbel
      go_wp2
      go_ret
      exact ⟨_, rfl, -1, rfl, by rw [anyB_none HH.out.1]; rfl, HH.out.2⟩
theorem contains_badR (w : World) (va : Value) (qs : List Rat) (L : Nat) (ha : RowV w va qs L) (hL : L ≤ 100000) :
    Calls Tryz.prog 114 #[va, .func (.func 115) #[] #[]] w (Ret (fun v w' => v = .bool (anyB (fun i => badR (qs.getD i 0)) qs.length) ∧ Below w.heap.size w w')) := by
  have HA := hide ha
  obtain ⟨A1, c1, rfl, hc1, hm1, _⟩ := ha
  go_enter Tryz.func114, Tryz.ntmps114
  go_wp2_with fail
  refine (index_badR _ _ qs L HA.out hL).mono ?_
  rintro e w1 ⟨_, rfl, r, rfl, hr, hd1⟩
  have HR := hide hr; clear hr
  go_wp2
  go_ret
  exact ⟨_, rfl, by rw [← HR.out]; rfl, hd1⟩
def badW (q : Rat) : Bool := decide (sgnQ q < 0) || !shortQ q
set_option maxRecDepth 100000 in
theorem badW_c (w : World) (a : Value) (q : Rat) (L : Nat) (ha : RatV w a q L) (hL : L ≤ 100000) :
    Calls Tryz.prog 117 #[a] w (Ret (fun v w' => v = .bool (badW q) ∧ Below w.heap.size w w')) := by
  have HA := hide ha
  obtain ⟨s1, A1, n1, c1, B1, m1, d1, rfl⟩ := ha.shape
  clear ha
  obtain ⟨W, hW⟩ : ∃ W, W = w.alloc (.cells #[.bool s1, .slice A1 n1 c1, .slice B1 m1 d1] 43) := ⟨_, rfl⟩
  have hb0 : Below w.heap.size w W := by rw [hW]; exact (Below.refl _ _).alloc (Nat.le_refl _) _
  have hr : W.heap[w.heap.size]? = some (.cells #[.bool s1, .slice A1 n1 c1, .slice B1 m1 d1] 43) := by rw [hW]; exact at_new _ _
  have H0 := hide (And.intro hb0 hr)
  have HL := hide hW
  obtain ⟨x0, x1, x2⟩ := three_cells hr
  clear hW hb0 hr
  by_cases h0 : sgnQ q < 0
  · obtain ⟨sg, hsg⟩ : ∃ sg, sg = sgnQ q := ⟨_, rfl⟩
    have hd0 : decide (sg < 0) = true := by rw [hsg]; simpa using h0
    have HD := hide (show decide (sgnQ q < 0) = true by rw [← hsg]; exact hd0)
    go_enter Tryz.func117, Tryz.ntmps117
    go_wp2_with fail
    rw [← HL.out]
    refine (sign_q _ _ q L (HA.out.below H0.out.1)).mono ?_
    rintro e w1 ⟨_, rfl, rfl, hd1⟩
    rw [← hsg]
    have hr1 := at_later H0.out.2 hd1
    obtain ⟨y0, y1, y2⟩ := three_cells hr1
    have H1 := hide (below_next H0.out.1 hd1)
    clear hsg x0 x1 x2 hr1 hd1
    go_wp2
    go_ret
    exact ⟨_, rfl, by unfold badW; rw [HD.out, Bool.true_or]; rfl, H1.out⟩
  · obtain ⟨sg, hsg⟩ : ∃ sg, sg = sgnQ q := ⟨_, rfl⟩
    have hd0 : decide (sg < 0) = false := by rw [hsg]; simpa using h0
    have HD := hide (show decide (sgnQ q < 0) = false by rw [← hsg]; exact hd0)
    go_enter Tryz.func117, Tryz.ntmps117
    go_wp2_with fail
    rw [← HL.out]
    refine (sign_q _ _ q L (HA.out.below H0.out.1)).mono ?_
    rintro e w1 ⟨_, rfl, rfl, hd1⟩
    rw [← hsg]
    have hr1 := at_later H0.out.2 hd1
    obtain ⟨y0, y1, y2⟩ := three_cells hr1
    have H1 := hide (below_next H0.out.1 hd1)
    clear hsg x0 x1 x2 hr1 hd1
    go_wp2_with fail
    refine (isShort_c _ _ q L (HA.out.below H1.out) hL).mono ?_
    rintro e w2 ⟨_, rfl, rfl, hd2⟩
    clear y0 y1 y2
    go_wp2
    go_ret
    exact ⟨_, rfl, by unfold badW; rw [HD.out, Bool.false_or]; rfl, below_next H1.out hd2⟩
set_option maxRecDepth 100000 in
theorem index_badW (w : World) (va : Value) (qs : List Rat) (L : Nat) (ha : RowV w va qs L) (hL : L ≤ 100000) :
    Calls Tryz.prog 162 #[va, .func (.func 117) #[] #[]] w (Ret (FoundR w (anyB (fun i => badW (qs.getD i 0)) qs.length))) := by
  have HA := hide ha
  obtain ⟨A1, c1, rfl, hc1, hm1, _⟩ := ha
  unfold maxLen at hm1
  go_enter Tryz.func162, Tryz.ntmps162
  go_wp2
  go_loopw [8] (fun s8 wr => ∃ k : Nat, k ≤ qs.length ∧ s8 = .int .i64 k ∧ (∀ i, i < k → badW (qs.getD i 0) = false) ∧ Below w.heap.size w wr) (fun s8 _ => qs.length - (intOf s8).toNat)
  case atStart => exact ⟨0, Nat.zero_le _, rfl, fun i hi => by omega, Below.refl _ _⟩
  case round =>
    obtain ⟨k, hk, rfl, hno, hbel⟩ := hrel
    by_cases hkl : k < qs.length
    · obtain ⟨_, _, _, hcell⟩ := (HA.out.below hbel).at_
      obtain ⟨g1, o1, rfl, hcl1⟩ := hcell (by omega)
      obtain ⟨s, B1, m1, d1, B2, m2, d2, e0, e1, e2, hr⟩ := (hcl1 k hkl).rat
      have HH := hide (And.intro hno (And.intro hbel hr)); clear hno hbel hr hcell hcl1
      rcases hp : badW (qs.getD k 0) with _ | _
      · have HP := hide hp; clear hp
        go_wp2_with (go_at_call 117; refine (badW_c _ _ (qs.getD k 0) L HH.out.2.2 hL).mono ?_; rintro e w1 ⟨_, rfl, rfl, hd1⟩; rw [HP.out])
        go_roundw
        case rel =>
          refine ⟨k + 1, by omega, by go_num, fun i hi => ?_, below_next HH.out.2.1 hd1⟩
          by_cases h : i < k
          · exact HH.out.1 i h
          · obtain rfl : i = k := by omega
            exact HP.out
        case measure => simp [intOf]; omega
      · have HP := hide hp; clear hp
        go_wp2_with (go_at_call 117; refine (badW_c _ _ (qs.getD k 0) L HH.out.2.2 hL).mono ?_; rintro e w1 ⟨_, rfl, rfl, hd1⟩; rw [HP.out])
        go_ret
        exact ⟨_, rfl, k, rfl, by rw [anyB_of hkl HP.out]; simp, below_next HH.out.2.1 hd1⟩
    · obtain rfl : k = qs.length := by omega
      have HH := hide (And.intro hno hbel); clear hno hbel
      go_wp2
      go_ret
      exact ⟨_, rfl, -1, rfl, by rw [anyB_none HH.out.1]; rfl, HH.out.2⟩
theorem contains_badW (w : World) (va : Value) (qs : List Rat) (L : Nat) (ha : RowV w va qs L) (hL : L ≤ 100000) :
    Calls Tryz.prog 114 #[va, .func (.func 117) #[] #[]] w (Ret (fun v w' => v = .bool (anyB (fun i => badW (qs.getD i 0)) qs.length) ∧ Below w.heap.size w w')) := by
  have HA := hide ha
  obtain ⟨A1, c1, rfl, hc1, hm1, _⟩ := ha
  go_enter Tryz.func114, Tryz.ntmps114
  go_wp2_with fail
  refine (index_badW _ _ qs L HA.out hL).mono ?_
  rintro e w1 ⟨_, rfl, r, rfl, hr, hd1⟩
  have HR := hide hr; clear hr
  go_wp2
  go_ret
  exact ⟨_, rfl, by rw [← HR.out]; rfl, hd1⟩
end Go.Proofs.YtpoahodnakhmiaaGreat
