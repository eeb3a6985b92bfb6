/- The walk of the law RatioField: it returns true for any three strings. -/
import Derived.Test.YthnnbpnocefmgaaGreatCalc2
import Derived.Test.YthnnbpnocefmgaaGreatRead9
import Derived.Test.YthnnbpnocefmgaaGreatAwake
namespace Go.Proofs.YthnnbpnocefmgaaGreat
open Go.RowKit
set_option linter.unusedVariables false
set_option linter.unusedSimpArgs false

theorem four_only {w : World} {B : Nat} {a b c d : Value} {e : TypeId} (hh : w.heap[B]? = some (.cells #[a, b, c, d] e (0, 0))) :
    w.cell? ⟨B, 0, none⟩ = some a ∧ w.cell? ⟨B, 1, none⟩ = some b ∧ w.cell? ⟨B, 2, none⟩ = some c ∧ w.cell? ⟨B, 3, none⟩ = some d := by
  obtain ⟨h0, h1, h2, h3, _⟩ := four_cells hh
  exact ⟨h0, h1, h2, h3⟩

theorem num_sign (n d : Int) (hd : 0 < d) : ((Rat.divInt n d).num < 0 ↔ n < 0) ∧ (0 < (Rat.divInt n d).num ↔ 0 < n) := by
  have hg : 0 < Int.gcd d n := Int.gcd_pos_of_ne_zero_left n (by omega)
  have e : (Rat.divInt n d).num * (Int.gcd d n : Int) = n := by
    rw [Rat.num_divInt, Int.sign_eq_one_of_pos hd, Int.one_mul]
    exact Int.ediv_mul_cancel (Int.gcd_dvd_right d n)
  generalize (Rat.divInt n d).num = x at e
  have hg' : (0 : Int) < (Int.gcd d n : Int) := by omega
  generalize (Int.gcd d n : Int) = g at e hg'
  subst e
  constructor
  · constructor
    · intro h; exact Int.mul_neg_of_neg_of_pos h hg'
    · intro h
      rcases Int.lt_or_le x 0 with h1 | h1
      · exact h1
      · have := Int.mul_nonneg h1 (Int.le_of_lt hg'); omega
  · constructor
    · intro h; exact Int.mul_pos h hg'
    · intro h
      rcases Int.lt_or_le 0 x with h1 | h1
      · exact h1
      · have := Int.mul_nonneg (show 0 ≤ -x by omega) (Int.le_of_lt hg'); rw [Int.neg_mul] at this; omega

theorem fl_part (p : Rat) : p - ((flQ p : Int) : Rat) = Rat.divInt (p.num % p.den) p.den := by
  have hd := den_pos p
  have h1 := Int.emod_add_mul_ediv p.num p.den
  have e0 : ((flQ p : Int) : Rat) = Rat.divInt (flQ p) 1 := (Rat.num_divInt_den (flQ p : Rat)).symm
  have e1 : p - Rat.divInt (flQ p) 1 = Rat.divInt p.num p.den - Rat.divInt (flQ p) 1 := by rw [Rat.num_divInt_den]
  rw [e0, e1, Rat.divInt_sub_divInt _ _ (by omega) (by omega)]
  have e2 : p.num * 1 - flQ p * (p.den : Int) = p.num % p.den := by
    unfold flQ
    have := Int.mul_comm (p.num / (p.den : Int)) p.den
    omega
  rw [e2, Int.mul_one]

/-- what is left of a fraction without its floor is from 0 to less than 1 -/
theorem fl_sgn (p : Rat) : 0 ≤ sgnQ (p - ((flQ p : Int) : Rat)) ∧ sgnQ (p - ((flQ p : Int) : Rat) - ((1 : Int) : Rat)) = -1 := by
  have hd := den_pos p
  have h2 := Int.emod_nonneg p.num (show (p.den : Int) ≠ 0 by omega)
  have h3 := Int.emod_lt_of_pos p.num hd
  rw [fl_part]
  constructor
  · have := (num_sign (p.num % p.den) p.den hd).1
    unfold sgnQ
    split
    · omega
    · split <;> omega
  · have e0 : (((1 : Int) : Int) : Rat) = Rat.divInt 1 1 := (Rat.num_divInt_den ((1 : Int) : Rat)).symm
    rw [e0, Rat.divInt_sub_divInt _ _ (by omega) (by omega)]
    have := (num_sign (p.num % p.den * 1 - 1 * p.den) (p.den * 1) (by omega)).1
    unfold sgnQ
    rw [if_pos (by omega)]

theorem sgn_mul_lt {a b c : Rat} (h1 : a - b < 0) (h2 : 0 < c) : sgnQ (a * c - b * c) = -1 := by
  have e : a * c - b * c = (a - b) * c := by rw [Rat.sub_eq_add_neg, Rat.sub_eq_add_neg, Rat.add_mul, Rat.neg_mul]
  rw [e]
  rcases sgnQ_cases ((a - b) * c) with ⟨ec, pc⟩ | ⟨ec, pc⟩ | ⟨ec, pc⟩
  · exfalso
    have h3 : 0 < -(a - b) := by have := (neg_num _).1 h1; exact (pos_num _).2 (by rw [Rat.neg_num]; omega)
    have h4 := Rat.mul_pos h3 h2
    rw [Rat.neg_mul] at h4
    have h5 := (pos_num _).1 h4
    have h6 := (pos_num _).1 pc
    rw [Rat.neg_num] at h5
    omega
  · exfalso
    rcases Rat.mul_eq_zero.1 pc with h | h
    · rw [h] at h1; exact absurd h1 (by decide)
    · rw [h] at h2; exact absurd h2 (by decide)
  · exact ec

set_option maxRecDepth 1000000 in
set_option maxHeartbeats 16000000 in
theorem field_c (w : World) (za zb zc : ByteArray) (ha : za.size ≤ 140737488355328) (hb : zb.size ≤ 140737488355328) (hc : zc.size ≤ 140737488355328) :
    Calls Tryz.prog 5 #[.agg #[.string za, .string zb, .string zc]] w (Ret (TrueR w)) := by
  obtain ⟨W0, hW0⟩ : ∃ W0, W0 = w.alloc (.cells #[.string za, .string zb, .string zc] 64) := ⟨_, rfl⟩
  have hdn : Below w.heap.size w W0 := by rw [hW0]; exact (Below.refl _ _).alloc (Nat.le_refl _) _
  have HS0 := hide (show W0.heap[w.heap.size]? = some (.cells #[.string za, .string zb, .string zc] 64) by rw [hW0]; exact at_new _ _)
  have HW := hide hdn
  have HL := hide hW0
  clear hW0 hdn
  go_enter Tryz.func5, Tryz.ntmps5
  obtain ⟨j0a, j0b, j0c⟩ := three_cells HS0.out
  clear j0b j0c
  rw [HL.out] at j0a
  go_wp2_with fail
  rw [← HL.out]
  clear j0a
  refine (frac_c _ za ha 100 (by omega) (by omega)).mono ?_
  rintro e w1 ⟨_, rfl, a, s1, A1, n1, c1, B1, m1, d1, t1, A1', n1', c1', B1', m1', d1', rfl, hfa, hv, hv', hd⟩
  replace hv : RatV _ _ a 12 := hv
  replace hv' : QV _ _ a 12 := hv'
  obtain ⟨W1, hW1⟩ : ∃ W1, W1 = (w1.alloc (.cells #[.bool s1, .slice A1 n1 c1, .slice B1 m1 d1] 35)).alloc (.cells #[.bool t1, .slice A1' n1' c1', .bool false, .slice B1' m1' d1'] 41) := ⟨_, rfl⟩
  have hda : Below w1.heap.size w1 W1 := by rw [hW1]; exact ((Below.refl _ _).alloc (Nat.le_refl _) _).alloc (by simp) _
  have hdn := below_next hd hda
  have HBa := hide (show BoxR W1 w1.heap.size a 12 from ⟨_, _, _, _, _, _, _, by rw [hW1]; exact at_old (at_new _ _) _, hv.below hda⟩)
  replace HS0 := hide (at_later HS0.out hdn)
  replace HW := hide (below_next HW.out hdn)
  clear HL
  have HL := hide hW1
  have hga := hfa.fit
  replace hga : FitQ 12 a := hga
  clear hW1 hd hda hdn hv hv' 
  obtain ⟨j1a, j1b, j1c⟩ := three_cells HS0.out
  clear j1a j1c
  rw [HL.out] at j1b
  go_wp2_with fail
  rw [← HL.out]
  clear j1b
  refine (frac_c _ zb hb 100 (by omega) (by omega)).mono ?_
  rintro e w2 ⟨_, rfl, b, s2, A2, n2, c2, B2, m2, d2, t2, A2', n2', c2', B2', m2', d2', rfl, hfb, hv, hv', hd⟩
  replace hv : RatV _ _ b 12 := hv
  replace hv' : QV _ _ b 12 := hv'
  obtain ⟨W2, hW2⟩ : ∃ W2, W2 = (w2.alloc (.cells #[.bool s2, .slice A2 n2 c2, .slice B2 m2 d2] 35)).alloc (.cells #[.bool t2, .slice A2' n2' c2', .bool false, .slice B2' m2' d2'] 41) := ⟨_, rfl⟩
  have hda : Below w2.heap.size w2 W2 := by rw [hW2]; exact ((Below.refl _ _).alloc (Nat.le_refl _) _).alloc (by simp) _
  have hdn := below_next hd hda
  have HBb := hide (show BoxR W2 w2.heap.size b 12 from ⟨_, _, _, _, _, _, _, by rw [hW2]; exact at_old (at_new _ _) _, hv.below hda⟩)
  replace HBa := hide (HBa.out.below hdn)
  replace HS0 := hide (at_later HS0.out hdn)
  replace HW := hide (below_next HW.out hdn)
  clear HL
  have HL := hide hW2
  have hgb := hfb.fit
  replace hgb : FitQ 12 b := hgb
  clear hW2 hd hda hdn hv hv' 
  obtain ⟨j2a, j2b, j2c⟩ := three_cells HS0.out
  clear j2a j2b
  rw [HL.out] at j2c
  go_wp2_with fail
  rw [← HL.out]
  clear j2c
  refine (frac_c _ zc hc 100 (by omega) (by omega)).mono ?_
  rintro e w3 ⟨_, rfl, c, s3, A3, n3, c3, B3, m3, d3, t3, A3', n3', c3', B3', m3', d3', rfl, hfc, hv, hv', hd⟩
  replace hv : RatV _ _ c 12 := hv
  replace hv' : QV _ _ c 12 := hv'
  obtain ⟨W3, hW3⟩ : ∃ W3, W3 = (w3.alloc (.cells #[.bool s3, .slice A3 n3 c3, .slice B3 m3 d3] 35)).alloc (.cells #[.bool t3, .slice A3' n3' c3', .bool false, .slice B3' m3' d3'] 41) := ⟨_, rfl⟩
  have hda : Below w3.heap.size w3 W3 := by rw [hW3]; exact ((Below.refl _ _).alloc (Nat.le_refl _) _).alloc (by simp) _
  have hdn := below_next hd hda
  have HBc := hide (show BoxR W3 w3.heap.size c 12 from ⟨_, _, _, _, _, _, _, by rw [hW3]; exact at_old (at_new _ _) _, hv.below hda⟩)
  replace HBa := hide (HBa.out.below hdn)
  replace HBb := hide (HBb.out.below hdn)
  replace HS0 := hide (at_later HS0.out hdn)
  replace HW := hide (below_next HW.out hdn)
  clear HL
  have HL := hide hW3
  have hgc := hfc.fit
  replace hgc : FitQ 12 c := hgc
  clear hW3 hd hda hdn hv hv' 
  clear HS0
  obtain ⟨s4, A4, n4, c4, B4, m4, d4, hx4, hq4⟩ := HBa.out
  obtain ⟨k4a, k4b, k4c⟩ := three_cells hx4
  clear hx4
  obtain ⟨s5, A5, n5, c5, B5, m5, d5, hx5, hq5⟩ := HBb.out
  obtain ⟨k5a, k5b, k5c⟩ := three_cells hx5
  clear hx5
  rw [HL.out] at k4a k4b k4c k5a k5b k5c
  go_wp2_with fail
  rw [← HL.out]
  clear k4a k4b k4c k5a k5b k5c
  refine (add_q _ _ _ (a) (b) 12 (hq4) (hq5) (by omega)).mono ?_
  rintro e w6 ⟨_, rfl, hd, hor⟩
  rcases hor with ⟨_, v, rfl, hv⟩ | ⟨hs, _⟩
  rotate_left
  · exact absurd ((((hga).add (hgb)).more (show 2 * 12 + 1 ≤ 28 by omega)).smallQ (by omega)) hs
  obtain ⟨s6, A6, n6, c6, B6, m6, d6, rfl⟩ := hv.shape
  clear hq4 hq5
  obtain ⟨W6, hW6⟩ : ∃ W6, W6 = w6.alloc (.cells #[.bool s6, .slice A6 n6 c6, .slice B6 m6 d6] 35) := ⟨_, rfl⟩
  have hda : Below w6.heap.size w6 W6 := by rw [hW6]; exact (Below.refl _ _).alloc (Nat.le_refl _) _
  have hdn := below_next hd hda
  have HBab := hide (show BoxR W6 w6.heap.size ((a) + (b)) (28) from ⟨_, _, _, _, _, _, _, by rw [hW6]; exact at_new _ _, hv.below hda⟩)
  replace HBa := hide (HBa.out.below hdn)
  replace HBb := hide (HBb.out.below hdn)
  replace HBc := hide (HBc.out.below hdn)
  replace HW := hide (below_next HW.out hdn)
  clear HL
  have HL := hide hW6
  clear hW6 hd hda hdn hv
  have fab := ((hga).add (hgb)).more (show 2 * 12 + 1 ≤ 28 by omega)
  obtain ⟨s7, A7, n7, c7, B7, m7, d7, hx7, hq7⟩ := HBb.out
  obtain ⟨k7a, k7b, k7c⟩ := three_cells hx7
  clear hx7
  obtain ⟨s8, A8, n8, c8, B8, m8, d8, hx8, hq8⟩ := HBa.out
  obtain ⟨k8a, k8b, k8c⟩ := three_cells hx8
  clear hx8
  rw [HL.out] at k7a k7b k7c k8a k8b k8c
  go_wp2_with fail
  rw [← HL.out]
  clear k7a k7b k7c k8a k8b k8c
  refine (add_q _ _ _ (b) (a) 12 (hq7) (hq8) (by omega)).mono ?_
  rintro e w9 ⟨_, rfl, hd, hor⟩
  rcases hor with ⟨_, v, rfl, hv⟩ | ⟨hs, _⟩
  rotate_left
  · exact absurd ((((hgb).add (hga)).more (show 2 * 12 + 1 ≤ 28 by omega)).smallQ (by omega)) hs
  obtain ⟨s9, A9, n9, c9, B9, m9, d9, rfl⟩ := hv.shape
  clear hq7 hq8
  obtain ⟨W9, hW9⟩ : ∃ W9, W9 = w9.alloc (.cells #[.bool s9, .slice A9 n9 c9, .slice B9 m9 d9] 35) := ⟨_, rfl⟩
  have hda : Below w9.heap.size w9 W9 := by rw [hW9]; exact (Below.refl _ _).alloc (Nat.le_refl _) _
  have hdn := below_next hd hda
  have HBba := hide (show BoxR W9 w9.heap.size ((b) + (a)) (28) from ⟨_, _, _, _, _, _, _, by rw [hW9]; exact at_new _ _, hv.below hda⟩)
  replace HBa := hide (HBa.out.below hdn)
  replace HBb := hide (HBb.out.below hdn)
  replace HBc := hide (HBc.out.below hdn)
  replace HBab := hide (HBab.out.below hdn)
  replace HW := hide (below_next HW.out hdn)
  clear HL
  have HL := hide hW9
  clear hW9 hd hda hdn hv
  have fba := ((hgb).add (hga)).more (show 2 * 12 + 1 ≤ 28 by omega)
  obtain ⟨s10, A10, n10, c10, B10, m10, d10, hx10, hq10⟩ := HBb.out
  obtain ⟨k10a, k10b, k10c⟩ := three_cells hx10
  clear hx10
  obtain ⟨s11, A11, n11, c11, B11, m11, d11, hx11, hq11⟩ := HBc.out
  obtain ⟨k11a, k11b, k11c⟩ := three_cells hx11
  clear hx11
  rw [HL.out] at k10a k10b k10c k11a k11b k11c
  go_wp2_with fail
  rw [← HL.out]
  clear k10a k10b k10c k11a k11b k11c
  refine (add_q _ _ _ (b) (c) 12 (hq10) (hq11) (by omega)).mono ?_
  rintro e w12 ⟨_, rfl, hd, hor⟩
  rcases hor with ⟨_, v, rfl, hv⟩ | ⟨hs, _⟩
  rotate_left
  · exact absurd ((((hgb).add (hgc)).more (show 2 * 12 + 1 ≤ 28 by omega)).smallQ (by omega)) hs
  obtain ⟨s12, A12, n12, c12, B12, m12, d12, rfl⟩ := hv.shape
  clear hq10 hq11
  obtain ⟨W12, hW12⟩ : ∃ W12, W12 = w12.alloc (.cells #[.bool s12, .slice A12 n12 c12, .slice B12 m12 d12] 35) := ⟨_, rfl⟩
  have hda : Below w12.heap.size w12 W12 := by rw [hW12]; exact (Below.refl _ _).alloc (Nat.le_refl _) _
  have hdn := below_next hd hda
  have HBbc := hide (show BoxR W12 w12.heap.size ((b) + (c)) (28) from ⟨_, _, _, _, _, _, _, by rw [hW12]; exact at_new _ _, hv.below hda⟩)
  replace HBa := hide (HBa.out.below hdn)
  replace HBb := hide (HBb.out.below hdn)
  replace HBc := hide (HBc.out.below hdn)
  replace HBab := hide (HBab.out.below hdn)
  replace HBba := hide (HBba.out.below hdn)
  replace HW := hide (below_next HW.out hdn)
  clear HL
  have HL := hide hW12
  clear hW12 hd hda hdn hv
  have fbc := ((hgb).add (hgc)).more (show 2 * 12 + 1 ≤ 28 by omega)
  obtain ⟨s13, A13, n13, c13, B13, m13, d13, hx13, hq13⟩ := HBab.out
  obtain ⟨k13a, k13b, k13c⟩ := three_cells hx13
  clear hx13
  obtain ⟨s14, A14, n14, c14, B14, m14, d14, hx14, hq14⟩ := HBc.out
  obtain ⟨k14a, k14b, k14c⟩ := three_cells hx14
  clear hx14
  rw [HL.out] at k13a k13b k13c k14a k14b k14c
  go_wp2_with fail
  rw [← HL.out]
  clear k13a k13b k13c k14a k14b k14c
  refine (mul_q _ _ _ (a + b) (c) 28 (hq13) (hq14.more (show 12 ≤ 28 by omega)) (by omega)).mono ?_
  rintro e w15 ⟨_, rfl, hd, hor⟩
  rcases hor with ⟨_, v, rfl, hv⟩ | ⟨hs, _⟩
  rotate_left
  · exact absurd ((((fab).mul (hgc.more (show 12 ≤ 28 by omega))).more (show 2 * 28 + 1 ≤ 60 by omega)).smallQ (by omega)) hs
  obtain ⟨s15, A15, n15, c15, B15, m15, d15, rfl⟩ := hv.shape
  clear hq13 hq14
  obtain ⟨W15, hW15⟩ : ∃ W15, W15 = w15.alloc (.cells #[.bool s15, .slice A15 n15 c15, .slice B15 m15 d15] 35) := ⟨_, rfl⟩
  have hda : Below w15.heap.size w15 W15 := by rw [hW15]; exact (Below.refl _ _).alloc (Nat.le_refl _) _
  have hdn := below_next hd hda
  have HBx := hide (show BoxR W15 w15.heap.size ((a + b) * (c)) (60) from ⟨_, _, _, _, _, _, _, by rw [hW15]; exact at_new _ _, hv.below hda⟩)
  replace HBa := hide (HBa.out.below hdn)
  replace HBb := hide (HBb.out.below hdn)
  replace HBc := hide (HBc.out.below hdn)
  replace HBab := hide (HBab.out.below hdn)
  replace HBba := hide (HBba.out.below hdn)
  replace HBbc := hide (HBbc.out.below hdn)
  replace HW := hide (below_next HW.out hdn)
  clear HL
  have HL := hide hW15
  clear hW15 hd hda hdn hv
  have fx := ((fab).mul (hgc.more (show 12 ≤ 28 by omega))).more (show 2 * 28 + 1 ≤ 60 by omega)
  obtain ⟨s16, A16, n16, c16, B16, m16, d16, hx16, hq16⟩ := HBa.out
  obtain ⟨k16a, k16b, k16c⟩ := three_cells hx16
  clear hx16
  obtain ⟨s17, A17, n17, c17, B17, m17, d17, hx17, hq17⟩ := HBc.out
  obtain ⟨k17a, k17b, k17c⟩ := three_cells hx17
  clear hx17
  rw [HL.out] at k16a k16b k16c k17a k17b k17c
  go_wp2_with fail
  rw [← HL.out]
  clear k16a k16b k16c k17a k17b k17c
  refine (mul_q _ _ _ (a) (c) 12 (hq16) (hq17) (by omega)).mono ?_
  rintro e w18 ⟨_, rfl, hd, hor⟩
  rcases hor with ⟨_, v, rfl, hv⟩ | ⟨hs, _⟩
  rotate_left
  · exact absurd ((((hga).mul (hgc)).more (show 2 * 12 + 1 ≤ 28 by omega)).smallQ (by omega)) hs
  obtain ⟨s18, A18, n18, c18, B18, m18, d18, rfl⟩ := hv.shape
  clear hq16 hq17
  obtain ⟨W18, hW18⟩ : ∃ W18, W18 = w18.alloc (.cells #[.bool s18, .slice A18 n18 c18, .slice B18 m18 d18] 35) := ⟨_, rfl⟩
  have hda : Below w18.heap.size w18 W18 := by rw [hW18]; exact (Below.refl _ _).alloc (Nat.le_refl _) _
  have hdn := below_next hd hda
  have HBac := hide (show BoxR W18 w18.heap.size ((a) * (c)) (28) from ⟨_, _, _, _, _, _, _, by rw [hW18]; exact at_new _ _, hv.below hda⟩)
  replace HBa := hide (HBa.out.below hdn)
  replace HBb := hide (HBb.out.below hdn)
  replace HBc := hide (HBc.out.below hdn)
  replace HBab := hide (HBab.out.below hdn)
  replace HBba := hide (HBba.out.below hdn)
  replace HBbc := hide (HBbc.out.below hdn)
  replace HBx := hide (HBx.out.below hdn)
  replace HW := hide (below_next HW.out hdn)
  clear HL
  have HL := hide hW18
  clear hW18 hd hda hdn hv
  have fac := ((hga).mul (hgc)).more (show 2 * 12 + 1 ≤ 28 by omega)
  obtain ⟨s19, A19, n19, c19, B19, m19, d19, hx19, hq19⟩ := HBb.out
  obtain ⟨k19a, k19b, k19c⟩ := three_cells hx19
  clear hx19
  obtain ⟨s20, A20, n20, c20, B20, m20, d20, hx20, hq20⟩ := HBc.out
  obtain ⟨k20a, k20b, k20c⟩ := three_cells hx20
  clear hx20
  rw [HL.out] at k19a k19b k19c k20a k20b k20c
  go_wp2_with fail
  rw [← HL.out]
  clear k19a k19b k19c k20a k20b k20c
  refine (mul_q _ _ _ (b) (c) 12 (hq19) (hq20) (by omega)).mono ?_
  rintro e w21 ⟨_, rfl, hd, hor⟩
  rcases hor with ⟨_, v, rfl, hv⟩ | ⟨hs, _⟩
  rotate_left
  · exact absurd ((((hgb).mul (hgc)).more (show 2 * 12 + 1 ≤ 28 by omega)).smallQ (by omega)) hs
  obtain ⟨s21, A21, n21, c21, B21, m21, d21, rfl⟩ := hv.shape
  clear hq19 hq20
  obtain ⟨W21, hW21⟩ : ∃ W21, W21 = w21.alloc (.cells #[.bool s21, .slice A21 n21 c21, .slice B21 m21 d21] 35) := ⟨_, rfl⟩
  have hda : Below w21.heap.size w21 W21 := by rw [hW21]; exact (Below.refl _ _).alloc (Nat.le_refl _) _
  have hdn := below_next hd hda
  have HBbd := hide (show BoxR W21 w21.heap.size ((b) * (c)) (28) from ⟨_, _, _, _, _, _, _, by rw [hW21]; exact at_new _ _, hv.below hda⟩)
  replace HBa := hide (HBa.out.below hdn)
  replace HBb := hide (HBb.out.below hdn)
  replace HBc := hide (HBc.out.below hdn)
  replace HBab := hide (HBab.out.below hdn)
  replace HBba := hide (HBba.out.below hdn)
  replace HBbc := hide (HBbc.out.below hdn)
  replace HBx := hide (HBx.out.below hdn)
  replace HBac := hide (HBac.out.below hdn)
  replace HW := hide (below_next HW.out hdn)
  clear HL
  have HL := hide hW21
  clear hW21 hd hda hdn hv
  have fbd := ((hgb).mul (hgc)).more (show 2 * 12 + 1 ≤ 28 by omega)
  obtain ⟨s22, A22, n22, c22, B22, m22, d22, hx22, hq22⟩ := HBac.out
  obtain ⟨k22a, k22b, k22c⟩ := three_cells hx22
  clear hx22
  obtain ⟨s23, A23, n23, c23, B23, m23, d23, hx23, hq23⟩ := HBbd.out
  obtain ⟨k23a, k23b, k23c⟩ := three_cells hx23
  clear hx23
  rw [HL.out] at k22a k22b k22c k23a k23b k23c
  go_wp2_with fail
  rw [← HL.out]
  clear k22a k22b k22c k23a k23b k23c
  refine (add_q _ _ _ (a * c) (b * c) 28 (hq22) (hq23) (by omega)).mono ?_
  rintro e w24 ⟨_, rfl, hd, hor⟩
  rcases hor with ⟨_, v, rfl, hv⟩ | ⟨hs, _⟩
  rotate_left
  · exact absurd ((((fac).add (fbd)).more (show 2 * 28 + 1 ≤ 60 by omega)).smallQ (by omega)) hs
  obtain ⟨s24, A24, n24, c24, B24, m24, d24, rfl⟩ := hv.shape
  clear hq22 hq23
  obtain ⟨W24, hW24⟩ : ∃ W24, W24 = w24.alloc (.cells #[.bool s24, .slice A24 n24 c24, .slice B24 m24 d24] 35) := ⟨_, rfl⟩
  have hda : Below w24.heap.size w24 W24 := by rw [hW24]; exact (Below.refl _ _).alloc (Nat.le_refl _) _
  have hdn := below_next hd hda
  have HBy := hide (show BoxR W24 w24.heap.size ((a * c) + (b * c)) (60) from ⟨_, _, _, _, _, _, _, by rw [hW24]; exact at_new _ _, hv.below hda⟩)
  replace HBa := hide (HBa.out.below hdn)
  replace HBb := hide (HBb.out.below hdn)
  replace HBc := hide (HBc.out.below hdn)
  replace HBab := hide (HBab.out.below hdn)
  replace HBba := hide (HBba.out.below hdn)
  replace HBbc := hide (HBbc.out.below hdn)
  replace HBx := hide (HBx.out.below hdn)
  replace HBac := hide (HBac.out.below hdn)
  replace HBbd := hide (HBbd.out.below hdn)
  replace HW := hide (below_next HW.out hdn)
  clear HL
  have HL := hide hW24
  clear hW24 hd hda hdn hv
  have fy := ((fac).add (fbd)).more (show 2 * 28 + 1 ≤ 60 by omega)
  obtain ⟨s25, A25, n25, c25, B25, m25, d25, hx25, hq25⟩ := HBa.out
  obtain ⟨k25a, k25b, k25c⟩ := three_cells hx25
  clear hx25
  obtain ⟨s26, A26, n26, c26, B26, m26, d26, hx26, hq26⟩ := HBbc.out
  obtain ⟨k26a, k26b, k26c⟩ := three_cells hx26
  clear hx26
  rw [HL.out] at k25a k25b k25c k26a k26b k26c
  go_wp2_with fail
  rw [← HL.out]
  clear k25a k25b k25c k26a k26b k26c
  refine (add_q _ _ _ (a) (b + c) 28 (hq25.more (show 12 ≤ 28 by omega)) (hq26) (by omega)).mono ?_
  rintro e w27 ⟨_, rfl, hd, hor⟩
  rcases hor with ⟨_, v, rfl, hv⟩ | ⟨hs, _⟩
  rotate_left
  · exact absurd ((((hga.more (show 12 ≤ 28 by omega)).add (fbc)).more (show 2 * 28 + 1 ≤ 60 by omega)).smallQ (by omega)) hs
  obtain ⟨s27, A27, n27, c27, B27, m27, d27, rfl⟩ := hv.shape
  clear hq25 hq26
  obtain ⟨W27, hW27⟩ : ∃ W27, W27 = w27.alloc (.cells #[.bool s27, .slice A27 n27 c27, .slice B27 m27 d27] 35) := ⟨_, rfl⟩
  have hda : Below w27.heap.size w27 W27 := by rw [hW27]; exact (Below.refl _ _).alloc (Nat.le_refl _) _
  have hdn := below_next hd hda
  have HBz := hide (show BoxR W27 w27.heap.size ((a) + (b + c)) (60) from ⟨_, _, _, _, _, _, _, by rw [hW27]; exact at_new _ _, hv.below hda⟩)
  replace HBa := hide (HBa.out.below hdn)
  replace HBb := hide (HBb.out.below hdn)
  replace HBc := hide (HBc.out.below hdn)
  replace HBab := hide (HBab.out.below hdn)
  replace HBba := hide (HBba.out.below hdn)
  replace HBbc := hide (HBbc.out.below hdn)
  replace HBx := hide (HBx.out.below hdn)
  replace HBac := hide (HBac.out.below hdn)
  replace HBbd := hide (HBbd.out.below hdn)
  replace HBy := hide (HBy.out.below hdn)
  replace HW := hide (below_next HW.out hdn)
  clear HL
  have HL := hide hW27
  clear hW27 hd hda hdn hv
  have fz := ((hga.more (show 12 ≤ 28 by omega)).add (fbc)).more (show 2 * 28 + 1 ≤ 60 by omega)
  obtain ⟨s28, A28, n28, c28, B28, m28, d28, hx28, hq28⟩ := HBab.out
  obtain ⟨k28a, k28b, k28c⟩ := three_cells hx28
  clear hx28
  obtain ⟨s29, A29, n29, c29, B29, m29, d29, hx29, hq29⟩ := HBc.out
  obtain ⟨k29a, k29b, k29c⟩ := three_cells hx29
  clear hx29
  rw [HL.out] at k28a k28b k28c k29a k29b k29c
  go_wp2_with fail
  rw [← HL.out]
  clear k28a k28b k28c k29a k29b k29c
  refine (add_q _ _ _ (a + b) (c) 28 (hq28) (hq29.more (show 12 ≤ 28 by omega)) (by omega)).mono ?_
  rintro e w30 ⟨_, rfl, hd, hor⟩
  rcases hor with ⟨_, v, rfl, hv⟩ | ⟨hs, _⟩
  rotate_left
  · exact absurd ((((fab).add (hgc.more (show 12 ≤ 28 by omega))).more (show 2 * 28 + 1 ≤ 60 by omega)).smallQ (by omega)) hs
  obtain ⟨s30, A30, n30, c30, B30, m30, d30, rfl⟩ := hv.shape
  clear hq28 hq29
  obtain ⟨W30, hW30⟩ : ∃ W30, W30 = w30.alloc (.cells #[.bool s30, .slice A30 n30 c30, .slice B30 m30 d30] 35) := ⟨_, rfl⟩
  have hda : Below w30.heap.size w30 W30 := by rw [hW30]; exact (Below.refl _ _).alloc (Nat.le_refl _) _
  have hdn := below_next hd hda
  have HBw := hide (show BoxR W30 w30.heap.size ((a + b) + (c)) (60) from ⟨_, _, _, _, _, _, _, by rw [hW30]; exact at_new _ _, hv.below hda⟩)
  replace HBa := hide (HBa.out.below hdn)
  replace HBb := hide (HBb.out.below hdn)
  replace HBc := hide (HBc.out.below hdn)
  replace HBab := hide (HBab.out.below hdn)
  replace HBba := hide (HBba.out.below hdn)
  replace HBbc := hide (HBbc.out.below hdn)
  replace HBx := hide (HBx.out.below hdn)
  replace HBac := hide (HBac.out.below hdn)
  replace HBbd := hide (HBbd.out.below hdn)
  replace HBy := hide (HBy.out.below hdn)
  replace HBz := hide (HBz.out.below hdn)
  replace HW := hide (below_next HW.out hdn)
  clear HL
  have HL := hide hW30
  clear hW30 hd hda hdn hv
  have fw := ((fab).add (hgc.more (show 12 ≤ 28 by omega))).more (show 2 * 28 + 1 ≤ 60 by omega)
  obtain ⟨s31, A31, n31, c31, B31, m31, d31, hx31, hq31⟩ := HBab.out
  obtain ⟨k31a, k31b, k31c⟩ := three_cells hx31
  clear hx31
  obtain ⟨s32, A32, n32, c32, B32, m32, d32, hx32, hq32⟩ := HBba.out
  obtain ⟨k32a, k32b, k32c⟩ := three_cells hx32
  clear hx32
  rw [HL.out] at k31a k31b k31c k32a k32b k32c
  go_wp2_with fail
  rw [← HL.out]
  clear k31a k31b k31c k32a k32b k32c
  refine (cmp_q _ _ _ (a + b) (b + a) 28 hq31 hq32 (by omega)).mono ?_
  rintro e w33 ⟨_, rfl, rfl, hd⟩
  rw [sgnQ_zero (Rat.add_comm a b)]
  clear hq31 hq32
  clear HL
  replace HBa := hide (HBa.out.below hd)
  replace HBb := hide (HBb.out.below hd)
  replace HBc := hide (HBc.out.below hd)
  replace HBab := hide (HBab.out.below hd)
  replace HBba := hide (HBba.out.below hd)
  replace HBbc := hide (HBbc.out.below hd)
  replace HBx := hide (HBx.out.below hd)
  replace HBac := hide (HBac.out.below hd)
  replace HBbd := hide (HBbd.out.below hd)
  replace HBy := hide (HBy.out.below hd)
  replace HBz := hide (HBz.out.below hd)
  replace HBw := hide (HBw.out.below hd)
  replace HW := hide (below_next HW.out hd)
  clear hd
  obtain ⟨s34, A34, n34, c34, B34, m34, d34, hx34, hq34⟩ := HBx.out
  obtain ⟨k34a, k34b, k34c⟩ := three_cells hx34
  clear hx34
  obtain ⟨s35, A35, n35, c35, B35, m35, d35, hx35, hq35⟩ := HBy.out
  obtain ⟨k35a, k35b, k35c⟩ := three_cells hx35
  clear hx35
  go_wp2_with fail
  clear k34a k34b k34c k35a k35b k35c
  refine (cmp_q _ _ _ ((a + b) * c) (a * c + b * c) 60 hq34 hq35 (by omega)).mono ?_
  rintro e w36 ⟨_, rfl, rfl, hd⟩
  rw [sgnQ_zero (Rat.add_mul a b c)]
  clear hq34 hq35
  replace HBa := hide (HBa.out.below hd)
  replace HBb := hide (HBb.out.below hd)
  replace HBc := hide (HBc.out.below hd)
  replace HBab := hide (HBab.out.below hd)
  replace HBba := hide (HBba.out.below hd)
  replace HBbc := hide (HBbc.out.below hd)
  replace HBx := hide (HBx.out.below hd)
  replace HBac := hide (HBac.out.below hd)
  replace HBbd := hide (HBbd.out.below hd)
  replace HBy := hide (HBy.out.below hd)
  replace HBz := hide (HBz.out.below hd)
  replace HBw := hide (HBw.out.below hd)
  replace HW := hide (below_next HW.out hd)
  clear hd
  obtain ⟨s37, A37, n37, c37, B37, m37, d37, hx37, hq37⟩ := HBz.out
  obtain ⟨k37a, k37b, k37c⟩ := three_cells hx37
  clear hx37
  obtain ⟨s38, A38, n38, c38, B38, m38, d38, hx38, hq38⟩ := HBw.out
  obtain ⟨k38a, k38b, k38c⟩ := three_cells hx38
  clear hx38
  go_wp2_with fail
  clear k37a k37b k37c k38a k38b k38c
  refine (cmp_q _ _ _ (a + (b + c)) (a + b + c) 60 hq37 hq38 (by omega)).mono ?_
  rintro e w39 ⟨_, rfl, rfl, hd⟩
  rw [sgnQ_zero (Rat.add_assoc a b c).symm]
  clear hq37 hq38
  replace HBa := hide (HBa.out.below hd)
  replace HBb := hide (HBb.out.below hd)
  replace HBc := hide (HBc.out.below hd)
  replace HBab := hide (HBab.out.below hd)
  replace HBba := hide (HBba.out.below hd)
  replace HBbc := hide (HBbc.out.below hd)
  replace HBx := hide (HBx.out.below hd)
  replace HBac := hide (HBac.out.below hd)
  replace HBbd := hide (HBbd.out.below hd)
  replace HBy := hide (HBy.out.below hd)
  replace HBz := hide (HBz.out.below hd)
  replace HBw := hide (HBw.out.below hd)
  replace HW := hide (below_next HW.out hd)
  clear hd
  go_upto_region 15 with fail
  go_cut [182] (fun s182 wx => s182 = .bool false ∧ Below w39.heap.size w39 wx)
  case first =>
    rcases sgnQ_cases c with ⟨ec, pc⟩ | ⟨ec, pc⟩ | ⟨ec, pc⟩
    · skip
      rcases sgnQ_cases (a - b) with ⟨ea, pa⟩ | ⟨ea, pa⟩ | ⟨ea, pa⟩
      · as_aux_lemma =>
          have HE := hide (And.intro ea (And.intro (show sgnQ (-a - -b) = -1 by (have h := sgnQ_neg (a - b)); rw [ea] at h; rw [show -a - -b = -(a - b) by rw [Rat.sub_eq_add_neg, Rat.sub_eq_add_neg, Rat.neg_add]]; omega) (And.intro ec trivial)))
          clear ea pa ec pc
          obtain ⟨s40, A40, n40, c40, B40, m40, d40, hx40, hq40⟩ := HBa.out
          obtain ⟨s41, A41, n41, c41, B41, m41, d41, hx41, hq41⟩ := HBb.out
          obtain ⟨s42, A42, n42, c42, B42, m42, d42, hx42, hq42⟩ := HBc.out
          obtain ⟨s43, A43, n43, c43, B43, m43, d43, hx43, hq43⟩ := HBac.out
          obtain ⟨s44, A44, n44, c44, B44, m44, d44, hx44, hq44⟩ := HBbd.out
          have hS : ∀ w', Below w39.heap.size w39 w' → (w'.cell? ⟨w1.heap.size, 0, none⟩ = some (.bool s40) ∧ w'.cell? ⟨w1.heap.size, 1, none⟩ = some (.slice A40 n40 c40) ∧ w'.cell? ⟨w1.heap.size, 2, none⟩ = some (.slice B40 m40 d40)) ∧ (w'.cell? ⟨w2.heap.size, 0, none⟩ = some (.bool s41) ∧ w'.cell? ⟨w2.heap.size, 1, none⟩ = some (.slice A41 n41 c41) ∧ w'.cell? ⟨w2.heap.size, 2, none⟩ = some (.slice B41 m41 d41)) ∧ (w'.cell? ⟨w3.heap.size, 0, none⟩ = some (.bool s42) ∧ w'.cell? ⟨w3.heap.size, 1, none⟩ = some (.slice A42 n42 c42) ∧ w'.cell? ⟨w3.heap.size, 2, none⟩ = some (.slice B42 m42 d42)) ∧ (w'.cell? ⟨w18.heap.size, 0, none⟩ = some (.bool s43) ∧ w'.cell? ⟨w18.heap.size, 1, none⟩ = some (.slice A43 n43 c43) ∧ w'.cell? ⟨w18.heap.size, 2, none⟩ = some (.slice B43 m43 d43)) ∧ (w'.cell? ⟨w21.heap.size, 0, none⟩ = some (.bool s44) ∧ w'.cell? ⟨w21.heap.size, 1, none⟩ = some (.slice A44 n44 c44) ∧ w'.cell? ⟨w21.heap.size, 2, none⟩ = some (.slice B44 m44 d44)) := fun w' h => ⟨three_cells (at_later hx40 h), three_cells (at_later hx41 h), three_cells (at_later hx42 h), three_cells (at_later hx43 h), three_cells (at_later hx44 h)⟩
          have HSS := hide hS; clear hS
          have HQS := hide (And.intro trivial (And.intro hq40 (And.intro hq41 (And.intro hq42 (And.intro hq43 (And.intro hq44 trivial))))))
          clear hq40 hq41 hq42 hq43 hq44 hx40 hx41 hx42 hx43 hx44
          have hdr : Below w39.heap.size w39 w39.drew := (Below.refl _ _).drew
          go_wp2
          refine till_begin (fun w' => (w'.cell? ⟨w1.heap.size, 0, none⟩ = some (.bool s40) ∧ w'.cell? ⟨w1.heap.size, 1, none⟩ = some (.slice A40 n40 c40) ∧ w'.cell? ⟨w1.heap.size, 2, none⟩ = some (.slice B40 m40 d40)) ∧ (w'.cell? ⟨w2.heap.size, 0, none⟩ = some (.bool s41) ∧ w'.cell? ⟨w2.heap.size, 1, none⟩ = some (.slice A41 n41 c41) ∧ w'.cell? ⟨w2.heap.size, 2, none⟩ = some (.slice B41 m41 d41)) ∧ (w'.cell? ⟨w3.heap.size, 0, none⟩ = some (.bool s42) ∧ w'.cell? ⟨w3.heap.size, 1, none⟩ = some (.slice A42 n42 c42) ∧ w'.cell? ⟨w3.heap.size, 2, none⟩ = some (.slice B42 m42 d42)) ∧ (w'.cell? ⟨w18.heap.size, 0, none⟩ = some (.bool s43) ∧ w'.cell? ⟨w18.heap.size, 1, none⟩ = some (.slice A43 n43 c43) ∧ w'.cell? ⟨w18.heap.size, 2, none⟩ = some (.slice B43 m43 d43)) ∧ (w'.cell? ⟨w21.heap.size, 0, none⟩ = some (.bool s44) ∧ w'.cell? ⟨w21.heap.size, 1, none⟩ = some (.slice A44 n44 c44) ∧ w'.cell? ⟨w21.heap.size, 2, none⟩ = some (.slice B44 m44 d44))) [0, 1, 2, 3, 4, 5, 6, 7, 8, 9, 10, 11, 12, 13, 14, 15, 16, 17, 18, 19, 20, 21, 22, 23, 24, 25, 26, 27] (by kernel_rfl) (HSS.out _ hdr) (fun hHeld => ?_)
          refine till_take (i := 0) (v := ?vv44001) rfl (by kernel_rfl) (by kernel_rfl) (by kernel_rfl) (by kernel_rfl) (fun _ _ _ h => h) (by rfl) ?hy44001 hHeld (some 155) rfl ?rest44001
          case hy44001 => (intro w hSw; (try dsimp only at hSw); first | (go_simp; done) | (go_simp; with_reducible rfl))
          try simp only [Act.put, List.setIfInBounds_toArray, List.set_cons_zero, List.set_cons_succ]
          refine till_take (i := 1) (v := ?vv44002) rfl (by kernel_rfl) (by kernel_rfl) (by kernel_rfl) (by kernel_rfl) (fun _ _ _ h => h) (by rfl) ?hy44002 hHeld (some 156) rfl ?rest44002
          case hy44002 => (intro w hSw; (try dsimp only at hSw); first | (go_simp; done) | (go_simp; with_reducible rfl))
          try simp only [Act.put, List.setIfInBounds_toArray, List.set_cons_zero, List.set_cons_succ]
          refine till_take (i := 4) (v := ?vv44003) rfl (by kernel_rfl) (by kernel_rfl) (by kernel_rfl) (by kernel_rfl) (fun _ _ _ h => h) (by rfl) ?hy44003 hHeld (some 159) rfl ?rest44003
          case hy44003 => (intro w hSw; (try dsimp only at hSw); first | (go_simp; done) | (go_simp; with_reducible rfl))
          try simp only [Act.put, List.setIfInBounds_toArray, List.set_cons_zero, List.set_cons_succ]
          refine till_take (i := 6) (v := ?vv44004) rfl (by kernel_rfl) (by kernel_rfl) (by kernel_rfl) (by kernel_rfl) (fun _ _ _ h => h) (by rfl) ?hy44004 hHeld (some 161) rfl ?rest44004
          case hy44004 => (intro w hSw; (try dsimp only at hSw); first | (go_simp; done) | (go_simp; with_reducible rfl))
          try simp only [Act.put, List.setIfInBounds_toArray, List.set_cons_zero, List.set_cons_succ]
          refine till_ready (rs := [2]) (by kernel_rfl) (by simp) ?_
          refine List.forall_mem_cons.2 ⟨?_, fun _ h => absurd h List.not_mem_nil⟩
          refine till_step rfl (fun K hK => ?_)
          go_simp
          go_at_call 26
          refine (cmp_q _ _ _ (a) (b) 12 ((HQS.out.2.1.below hdr)) ((HQS.out.2.2.1.below hdr)) (by omega)).mono ?_
          rintro e w45 ⟨_, rfl, rfl, hd⟩
          have hg45 : Below w39.heap.size w39 w45 := hdr.trans (hd.mono hdr.size)
          rw [HE.out.1]
          clear hd
          go_wp2_with fail
          refine hK.out _ _ (HSS.out _ hg45) (fun hHeld => ?_)
          clear hK K
          try simp only [Act.put, List.setIfInBounds_toArray, List.set_cons_zero, List.set_cons_succ]
          refine till_take (i := 3) (v := ?vv44005) rfl (by kernel_rfl) (by kernel_rfl) (by kernel_rfl) (by kernel_rfl) (fun _ _ _ h => h) (by rfl) ?hy44005 hHeld (some 158) rfl ?rest44005
          case hy44005 => (intro w hSw; (try dsimp only at hSw); first | (go_simp; done) | (go_simp; with_reducible rfl))
          try simp only [Act.put, List.setIfInBounds_toArray, List.set_cons_zero, List.set_cons_succ]
          refine till_ready (rs := [5]) (by kernel_rfl) (by simp) ?_
          refine List.forall_mem_cons.2 ⟨?_, fun _ h => absurd h List.not_mem_nil⟩
          refine till_step rfl (fun K hK => ?_)
          go_simp
          go_at_call 35
          refine (neg_q _ _ a 12 (HQS.out.2.1.below hg45)).mono ?_
          rintro e w46 ⟨v, rfl, hv, hd⟩
          obtain ⟨s46, A46, n46, c46, B46, m46, d46, rfl⟩ := hv.shape
          have HNa := hide hv
          clear hv
          have hg46 : Below w39.heap.size w39 w46 := hg45.trans (hd.mono hg45.size)
          clear hd
          go_wp2_with fail
          refine hK.out _ _ (HSS.out _ hg46) (fun hHeld => ?_)
          clear hK K
          try simp only [Act.put, List.setIfInBounds_toArray, List.set_cons_zero, List.set_cons_succ]
          refine till_ready (rs := [7]) (by kernel_rfl) (by simp) ?_
          refine List.forall_mem_cons.2 ⟨?_, fun _ h => absurd h List.not_mem_nil⟩
          refine till_step rfl (fun K hK => ?_)
          go_simp
          go_at_call 35
          refine (neg_q _ _ b 12 (HQS.out.2.2.1.below hg46)).mono ?_
          rintro e w47 ⟨v, rfl, hv, hd⟩
          obtain ⟨s47, A47, n47, c47, B47, m47, d47, rfl⟩ := hv.shape
          have HNb := hide hv
          clear hv
          replace HNa := hide (HNa.out.below hd)
          have hg47 : Below w39.heap.size w39 w47 := hg46.trans (hd.mono hg46.size)
          clear hd
          go_wp2_with fail
          refine hK.out _ _ (HSS.out _ hg47) (fun hHeld => ?_)
          clear hK K
          try simp only [Act.put, List.setIfInBounds_toArray, List.set_cons_zero, List.set_cons_succ]
          refine till_ready (rs := [8]) (by kernel_rfl) (by simp) ?_
          refine List.forall_mem_cons.2 ⟨?_, fun _ h => absurd h List.not_mem_nil⟩
          refine till_step rfl (fun K hK => ?_)
          go_simp
          go_at_call 26
          refine (cmp_q _ _ _ (-a) (-b) 12 (HNa.out) (HNb.out) (by omega)).mono ?_
          rintro e w48 ⟨_, rfl, rfl, hd⟩
          have hg48 : Below w39.heap.size w39 w48 := hg47.trans (hd.mono hg47.size)
          rw [HE.out.2.1]
          clear hd
          go_wp2_with fail
          refine hK.out _ _ (HSS.out _ hg48) (fun hHeld => ?_)
          clear hK K
          try simp only [Act.put, List.setIfInBounds_toArray, List.set_cons_zero, List.set_cons_succ]
          refine till_take (i := 9) (v := ?vv44006) rfl (by kernel_rfl) (by kernel_rfl) (by kernel_rfl) (by kernel_rfl) (fun _ _ _ h => h) (by rfl) ?hy44006 hHeld (some 164) rfl ?rest44006
          case hy44006 => (intro w hSw; (try dsimp only at hSw); first | (go_simp; done) | (go_simp; with_reducible rfl))
          try simp only [Act.put, List.setIfInBounds_toArray, List.set_cons_zero, List.set_cons_succ]
          refine till_take (i := 10) (v := ?vv44007) rfl (by kernel_rfl) (by kernel_rfl) (by kernel_rfl) (by kernel_rfl) (fun _ _ _ h => h) (by rfl) ?hy44007 hHeld (some 165) rfl ?rest44007
          case hy44007 => (intro w hSw; (try dsimp only at hSw); first | (go_simp; done) | (go_simp; with_reducible rfl))
          try simp only [Act.put, List.setIfInBounds_toArray, List.set_cons_zero, List.set_cons_succ]
          refine till_take (i := 11) (v := ?vv44008) rfl (by kernel_rfl) (by kernel_rfl) (by kernel_rfl) (by kernel_rfl) (fun _ _ _ h => h) (by rfl) ?hy44008 hHeld (some 166) rfl ?rest44008
          case hy44008 => (intro w hSw; (try dsimp only at hSw); first | (go_simp; done) | (go_simp; with_reducible rfl))
          try simp only [Act.put, List.setIfInBounds_toArray, List.set_cons_zero, List.set_cons_succ]
          refine till_take (i := 12) (v := ?vv44009) rfl (by kernel_rfl) (by kernel_rfl) (by kernel_rfl) (by kernel_rfl) (fun _ _ _ h => h) (by rfl) ?hy44009 hHeld (some 167) rfl ?rest44009
          case hy44009 => (intro w hSw; (try dsimp only at hSw); first | (go_simp; done) | (go_simp; with_reducible rfl))
          try simp only [Act.put, List.setIfInBounds_toArray, List.set_cons_zero, List.set_cons_succ]
          refine till_ready (rs := [13]) (by kernel_rfl) (by simp) ?_
          refine List.forall_mem_cons.2 ⟨?_, fun _ h => absurd h List.not_mem_nil⟩
          refine till_step rfl (fun K hK => ?_)
          go_simp
          go_at_call 33
          refine (sign_q _ _ (c) 12 (HQS.out.2.2.2.1.below hg48)).mono ?_
          rintro e w49 ⟨_, rfl, rfl, hd⟩
          have hg49 : Below w39.heap.size w39 w49 := hg48.trans (hd.mono hg48.size)
          rw [HE.out.2.2.1]
          clear hd
          go_wp2_with fail
          refine hK.out _ _ (HSS.out _ hg49) (fun hHeld => ?_)
          clear hK K
          try simp only [Act.put, List.setIfInBounds_toArray, List.set_cons_zero, List.set_cons_succ]
          refine till_take (i := 14) (v := ?vv44010) rfl (by kernel_rfl) (by kernel_rfl) (by kernel_rfl) (by kernel_rfl) (fun _ _ _ h => h) (by rfl) ?hy44010 hHeld (some 169) rfl ?rest44010
          case hy44010 => (intro w hSw; (try dsimp only at hSw); first | (go_simp; done) | (go_simp; with_reducible rfl))
          try simp only [Act.put, List.setIfInBounds_toArray, List.set_cons_zero, List.set_cons_succ]
          refine till_take (i := 15) (v := ?vv44011) rfl (by kernel_rfl) (by kernel_rfl) (by kernel_rfl) (by kernel_rfl) (fun _ _ _ h => h) (by rfl) ?hy44011 hHeld (some 170) rfl ?rest44011
          case hy44011 => (intro w hSw; (try dsimp only at hSw); first | (go_simp; done) | (go_simp; with_reducible rfl))
          try simp only [Act.put, List.setIfInBounds_toArray, List.set_cons_zero, List.set_cons_succ]
          refine till_take (i := 16) (v := ?vv44012) rfl (by kernel_rfl) (by kernel_rfl) (by kernel_rfl) (by kernel_rfl) (fun _ _ _ h => h) (by rfl) ?hy44012 hHeld (some 171) rfl ?rest44012
          case hy44012 => (intro w hSw; (try dsimp only at hSw); first | (go_simp; done) | (go_simp; with_reducible rfl))
          try simp only [Act.put, List.setIfInBounds_toArray, List.set_cons_zero, List.set_cons_succ]
          refine till_take (i := 17) (v := ?vv44013) rfl (by kernel_rfl) (by kernel_rfl) (by kernel_rfl) (by kernel_rfl) (fun _ _ _ h => h) (by rfl) ?hy44013 hHeld (some 172) rfl ?rest44013
          case hy44013 => (intro w hSw; (try dsimp only at hSw); first | (go_simp; done) | (go_simp; with_reducible rfl))
          try simp only [Act.put, List.setIfInBounds_toArray, List.set_cons_zero, List.set_cons_succ]
          refine till_ready (rs := [18]) (by kernel_rfl) (by simp) ?_
          refine List.forall_mem_cons.2 ⟨?_, fun _ h => absurd h List.not_mem_nil⟩
          refine till_step rfl (fun K hK => ?_)
          go_simp
          go_at_call 26
          refine (cmp_q _ _ _ (a) (b) 12 ((HQS.out.2.1.below hg49)) ((HQS.out.2.2.1.below hg49)) (by omega)).mono ?_
          rintro e w50 ⟨_, rfl, rfl, hd⟩
          have hg50 : Below w39.heap.size w39 w50 := hg49.trans (hd.mono hg49.size)
          rw [HE.out.1]
          clear hd
          go_wp2_with fail
          refine hK.out _ _ (HSS.out _ hg50) (fun hHeld => ?_)
          clear hK K
          try simp only [Act.put, List.setIfInBounds_toArray, List.set_cons_zero, List.set_cons_succ]
          refine till_take (i := 19) (v := ?vv44014) rfl (by kernel_rfl) (by kernel_rfl) (by kernel_rfl) (by kernel_rfl) (fun _ _ _ h => h) (by rfl) ?hy44014 hHeld (some 174) rfl ?rest44014
          case hy44014 => (intro w hSw; (try dsimp only at hSw); first | (go_simp; done) | (go_simp; with_reducible rfl))
          try simp only [Act.put, List.setIfInBounds_toArray, List.set_cons_zero, List.set_cons_succ]
          refine till_take (i := 20) (v := ?vv44015) rfl (by kernel_rfl) (by kernel_rfl) (by kernel_rfl) (by kernel_rfl) (fun _ _ _ h => h) (by rfl) ?hy44015 hHeld (some 175) rfl ?rest44015
          case hy44015 => (intro w hSw; (try dsimp only at hSw); first | (go_simp; done) | (go_simp; with_reducible rfl))
          try simp only [Act.put, List.setIfInBounds_toArray, List.set_cons_zero, List.set_cons_succ]
          refine till_take (i := 21) (v := ?vv44016) rfl (by kernel_rfl) (by kernel_rfl) (by kernel_rfl) (by kernel_rfl) (fun _ _ _ h => h) (by rfl) ?hy44016 hHeld (some 176) rfl ?rest44016
          case hy44016 => (intro w hSw; (try dsimp only at hSw); first | (go_simp; done) | (go_simp; with_reducible rfl))
          try simp only [Act.put, List.setIfInBounds_toArray, List.set_cons_zero, List.set_cons_succ]
          refine till_skip (i := 22) rfl (by kernel_rfl) (by kernel_rfl) (by kernel_rfl) (by kernel_rfl) (fun _ _ _ h => h) (by rfl) hHeld (some 177) rfl ?_
          try simp only [Act.put, List.setIfInBounds_toArray, List.set_cons_zero, List.set_cons_succ]
          refine till_skip (i := 23) rfl (by kernel_rfl) (by kernel_rfl) (by kernel_rfl) (by kernel_rfl) (fun _ _ _ h => h) (by rfl) hHeld (some 178) rfl ?_
          try simp only [Act.put, List.setIfInBounds_toArray, List.set_cons_zero, List.set_cons_succ]
          refine till_skip (i := 24) rfl (by kernel_rfl) (by kernel_rfl) (by kernel_rfl) (by kernel_rfl) (fun _ _ _ h => h) (by rfl) hHeld (some 179) rfl ?_
          try simp only [Act.put, List.setIfInBounds_toArray, List.set_cons_zero, List.set_cons_succ]
          refine till_skip (i := 25) rfl (by kernel_rfl) (by kernel_rfl) (by kernel_rfl) (by kernel_rfl) (fun _ _ _ h => h) (by rfl) hHeld (some 180) rfl ?_
          try simp only [Act.put, List.setIfInBounds_toArray, List.set_cons_zero, List.set_cons_succ]
          refine till_take (i := 26) (v := ?vv44021) rfl (by kernel_rfl) (by kernel_rfl) (by kernel_rfl) (by kernel_rfl) (fun _ _ _ h => h) (by rfl) ?hy44021 hHeld (some 181) rfl ?rest44021
          case hy44021 => (intro w hSw; (try dsimp only at hSw); first | (go_simp; done) | (go_simp; with_reducible rfl))
          try simp only [Act.put, List.setIfInBounds_toArray, List.set_cons_zero, List.set_cons_succ]
          refine till_take (i := 27) (v := ?vv44022) rfl (by kernel_rfl) (by kernel_rfl) (by kernel_rfl) (by kernel_rfl) (fun _ _ _ h => h) (by rfl) ?hy44022 hHeld (some 182) rfl ?rest44022
          case hy44022 => (intro w hSw; (try dsimp only at hSw); first | (go_simp; done) | (go_simp; with_reducible rfl))
          try simp only [Act.put, List.setIfInBounds_toArray, List.set_cons_zero, List.set_cons_succ]
          refine till_done (by kernel_rfl) ?_ _
          clear hHeld
          go_wp2_with fail
          go_meet
          exact ⟨rfl, hg50⟩
      · as_aux_lemma =>
          have HE := hide (And.intro ea (And.intro (show sgnQ (-a - -b) = 0 by (have h := sgnQ_neg (a - b)); rw [ea] at h; rw [show -a - -b = -(a - b) by rw [Rat.sub_eq_add_neg, Rat.sub_eq_add_neg, Rat.neg_add]]; omega) (And.intro ec trivial)))
          clear ea pa ec pc
          obtain ⟨s52, A52, n52, c52, B52, m52, d52, hx52, hq52⟩ := HBa.out
          obtain ⟨s53, A53, n53, c53, B53, m53, d53, hx53, hq53⟩ := HBb.out
          obtain ⟨s54, A54, n54, c54, B54, m54, d54, hx54, hq54⟩ := HBc.out
          obtain ⟨s55, A55, n55, c55, B55, m55, d55, hx55, hq55⟩ := HBac.out
          obtain ⟨s56, A56, n56, c56, B56, m56, d56, hx56, hq56⟩ := HBbd.out
          have hS : ∀ w', Below w39.heap.size w39 w' → (w'.cell? ⟨w1.heap.size, 0, none⟩ = some (.bool s52) ∧ w'.cell? ⟨w1.heap.size, 1, none⟩ = some (.slice A52 n52 c52) ∧ w'.cell? ⟨w1.heap.size, 2, none⟩ = some (.slice B52 m52 d52)) ∧ (w'.cell? ⟨w2.heap.size, 0, none⟩ = some (.bool s53) ∧ w'.cell? ⟨w2.heap.size, 1, none⟩ = some (.slice A53 n53 c53) ∧ w'.cell? ⟨w2.heap.size, 2, none⟩ = some (.slice B53 m53 d53)) ∧ (w'.cell? ⟨w3.heap.size, 0, none⟩ = some (.bool s54) ∧ w'.cell? ⟨w3.heap.size, 1, none⟩ = some (.slice A54 n54 c54) ∧ w'.cell? ⟨w3.heap.size, 2, none⟩ = some (.slice B54 m54 d54)) ∧ (w'.cell? ⟨w18.heap.size, 0, none⟩ = some (.bool s55) ∧ w'.cell? ⟨w18.heap.size, 1, none⟩ = some (.slice A55 n55 c55) ∧ w'.cell? ⟨w18.heap.size, 2, none⟩ = some (.slice B55 m55 d55)) ∧ (w'.cell? ⟨w21.heap.size, 0, none⟩ = some (.bool s56) ∧ w'.cell? ⟨w21.heap.size, 1, none⟩ = some (.slice A56 n56 c56) ∧ w'.cell? ⟨w21.heap.size, 2, none⟩ = some (.slice B56 m56 d56)) := fun w' h => ⟨three_cells (at_later hx52 h), three_cells (at_later hx53 h), three_cells (at_later hx54 h), three_cells (at_later hx55 h), three_cells (at_later hx56 h)⟩
          have HSS := hide hS; clear hS
          have HQS := hide (And.intro trivial (And.intro hq52 (And.intro hq53 (And.intro hq54 (And.intro hq55 (And.intro hq56 trivial))))))
          clear hq52 hq53 hq54 hq55 hq56 hx52 hx53 hx54 hx55 hx56
          have hdr : Below w39.heap.size w39 w39.drew := (Below.refl _ _).drew
          go_wp2
          refine till_begin (fun w' => (w'.cell? ⟨w1.heap.size, 0, none⟩ = some (.bool s52) ∧ w'.cell? ⟨w1.heap.size, 1, none⟩ = some (.slice A52 n52 c52) ∧ w'.cell? ⟨w1.heap.size, 2, none⟩ = some (.slice B52 m52 d52)) ∧ (w'.cell? ⟨w2.heap.size, 0, none⟩ = some (.bool s53) ∧ w'.cell? ⟨w2.heap.size, 1, none⟩ = some (.slice A53 n53 c53) ∧ w'.cell? ⟨w2.heap.size, 2, none⟩ = some (.slice B53 m53 d53)) ∧ (w'.cell? ⟨w3.heap.size, 0, none⟩ = some (.bool s54) ∧ w'.cell? ⟨w3.heap.size, 1, none⟩ = some (.slice A54 n54 c54) ∧ w'.cell? ⟨w3.heap.size, 2, none⟩ = some (.slice B54 m54 d54)) ∧ (w'.cell? ⟨w18.heap.size, 0, none⟩ = some (.bool s55) ∧ w'.cell? ⟨w18.heap.size, 1, none⟩ = some (.slice A55 n55 c55) ∧ w'.cell? ⟨w18.heap.size, 2, none⟩ = some (.slice B55 m55 d55)) ∧ (w'.cell? ⟨w21.heap.size, 0, none⟩ = some (.bool s56) ∧ w'.cell? ⟨w21.heap.size, 1, none⟩ = some (.slice A56 n56 c56) ∧ w'.cell? ⟨w21.heap.size, 2, none⟩ = some (.slice B56 m56 d56))) [0, 1, 2, 3, 4, 5, 6, 7, 8, 9, 10, 11, 12, 13, 14, 15, 16, 17, 18, 19, 20, 21, 22, 23, 24, 25, 26, 27] (by kernel_rfl) (HSS.out _ hdr) (fun hHeld => ?_)
          refine till_take (i := 0) (v := ?vv56001) rfl (by kernel_rfl) (by kernel_rfl) (by kernel_rfl) (by kernel_rfl) (fun _ _ _ h => h) (by rfl) ?hy56001 hHeld (some 155) rfl ?rest56001
          case hy56001 => (intro w hSw; (try dsimp only at hSw); first | (go_simp; done) | (go_simp; with_reducible rfl))
          try simp only [Act.put, List.setIfInBounds_toArray, List.set_cons_zero, List.set_cons_succ]
          refine till_take (i := 1) (v := ?vv56002) rfl (by kernel_rfl) (by kernel_rfl) (by kernel_rfl) (by kernel_rfl) (fun _ _ _ h => h) (by rfl) ?hy56002 hHeld (some 156) rfl ?rest56002
          case hy56002 => (intro w hSw; (try dsimp only at hSw); first | (go_simp; done) | (go_simp; with_reducible rfl))
          try simp only [Act.put, List.setIfInBounds_toArray, List.set_cons_zero, List.set_cons_succ]
          refine till_take (i := 4) (v := ?vv56003) rfl (by kernel_rfl) (by kernel_rfl) (by kernel_rfl) (by kernel_rfl) (fun _ _ _ h => h) (by rfl) ?hy56003 hHeld (some 159) rfl ?rest56003
          case hy56003 => (intro w hSw; (try dsimp only at hSw); first | (go_simp; done) | (go_simp; with_reducible rfl))
          try simp only [Act.put, List.setIfInBounds_toArray, List.set_cons_zero, List.set_cons_succ]
          refine till_take (i := 6) (v := ?vv56004) rfl (by kernel_rfl) (by kernel_rfl) (by kernel_rfl) (by kernel_rfl) (fun _ _ _ h => h) (by rfl) ?hy56004 hHeld (some 161) rfl ?rest56004
          case hy56004 => (intro w hSw; (try dsimp only at hSw); first | (go_simp; done) | (go_simp; with_reducible rfl))
          try simp only [Act.put, List.setIfInBounds_toArray, List.set_cons_zero, List.set_cons_succ]
          refine till_ready (rs := [2]) (by kernel_rfl) (by simp) ?_
          refine List.forall_mem_cons.2 ⟨?_, fun _ h => absurd h List.not_mem_nil⟩
          refine till_step rfl (fun K hK => ?_)
          go_simp
          go_at_call 26
          refine (cmp_q _ _ _ (a) (b) 12 ((HQS.out.2.1.below hdr)) ((HQS.out.2.2.1.below hdr)) (by omega)).mono ?_
          rintro e w57 ⟨_, rfl, rfl, hd⟩
          have hg57 : Below w39.heap.size w39 w57 := hdr.trans (hd.mono hdr.size)
          rw [HE.out.1]
          clear hd
          go_wp2_with fail
          refine hK.out _ _ (HSS.out _ hg57) (fun hHeld => ?_)
          clear hK K
          try simp only [Act.put, List.setIfInBounds_toArray, List.set_cons_zero, List.set_cons_succ]
          refine till_take (i := 3) (v := ?vv56005) rfl (by kernel_rfl) (by kernel_rfl) (by kernel_rfl) (by kernel_rfl) (fun _ _ _ h => h) (by rfl) ?hy56005 hHeld (some 158) rfl ?rest56005
          case hy56005 => (intro w hSw; (try dsimp only at hSw); first | (go_simp; done) | (go_simp; with_reducible rfl))
          try simp only [Act.put, List.setIfInBounds_toArray, List.set_cons_zero, List.set_cons_succ]
          refine till_ready (rs := [5]) (by kernel_rfl) (by simp) ?_
          refine List.forall_mem_cons.2 ⟨?_, fun _ h => absurd h List.not_mem_nil⟩
          refine till_step rfl (fun K hK => ?_)
          go_simp
          go_at_call 35
          refine (neg_q _ _ a 12 (HQS.out.2.1.below hg57)).mono ?_
          rintro e w58 ⟨v, rfl, hv, hd⟩
          obtain ⟨s58, A58, n58, c58, B58, m58, d58, rfl⟩ := hv.shape
          have HNa := hide hv
          clear hv
          have hg58 : Below w39.heap.size w39 w58 := hg57.trans (hd.mono hg57.size)
          clear hd
          go_wp2_with fail
          refine hK.out _ _ (HSS.out _ hg58) (fun hHeld => ?_)
          clear hK K
          try simp only [Act.put, List.setIfInBounds_toArray, List.set_cons_zero, List.set_cons_succ]
          refine till_ready (rs := [7]) (by kernel_rfl) (by simp) ?_
          refine List.forall_mem_cons.2 ⟨?_, fun _ h => absurd h List.not_mem_nil⟩
          refine till_step rfl (fun K hK => ?_)
          go_simp
          go_at_call 35
          refine (neg_q _ _ b 12 (HQS.out.2.2.1.below hg58)).mono ?_
          rintro e w59 ⟨v, rfl, hv, hd⟩
          obtain ⟨s59, A59, n59, c59, B59, m59, d59, rfl⟩ := hv.shape
          have HNb := hide hv
          clear hv
          replace HNa := hide (HNa.out.below hd)
          have hg59 : Below w39.heap.size w39 w59 := hg58.trans (hd.mono hg58.size)
          clear hd
          go_wp2_with fail
          refine hK.out _ _ (HSS.out _ hg59) (fun hHeld => ?_)
          clear hK K
          try simp only [Act.put, List.setIfInBounds_toArray, List.set_cons_zero, List.set_cons_succ]
          refine till_ready (rs := [8]) (by kernel_rfl) (by simp) ?_
          refine List.forall_mem_cons.2 ⟨?_, fun _ h => absurd h List.not_mem_nil⟩
          refine till_step rfl (fun K hK => ?_)
          go_simp
          go_at_call 26
          refine (cmp_q _ _ _ (-a) (-b) 12 (HNa.out) (HNb.out) (by omega)).mono ?_
          rintro e w60 ⟨_, rfl, rfl, hd⟩
          have hg60 : Below w39.heap.size w39 w60 := hg59.trans (hd.mono hg59.size)
          rw [HE.out.2.1]
          clear hd
          go_wp2_with fail
          refine hK.out _ _ (HSS.out _ hg60) (fun hHeld => ?_)
          clear hK K
          try simp only [Act.put, List.setIfInBounds_toArray, List.set_cons_zero, List.set_cons_succ]
          refine till_take (i := 9) (v := ?vv56006) rfl (by kernel_rfl) (by kernel_rfl) (by kernel_rfl) (by kernel_rfl) (fun _ _ _ h => h) (by rfl) ?hy56006 hHeld (some 164) rfl ?rest56006
          case hy56006 => (intro w hSw; (try dsimp only at hSw); first | (go_simp; done) | (go_simp; with_reducible rfl))
          try simp only [Act.put, List.setIfInBounds_toArray, List.set_cons_zero, List.set_cons_succ]
          refine till_take (i := 10) (v := ?vv56007) rfl (by kernel_rfl) (by kernel_rfl) (by kernel_rfl) (by kernel_rfl) (fun _ _ _ h => h) (by rfl) ?hy56007 hHeld (some 165) rfl ?rest56007
          case hy56007 => (intro w hSw; (try dsimp only at hSw); first | (go_simp; done) | (go_simp; with_reducible rfl))
          try simp only [Act.put, List.setIfInBounds_toArray, List.set_cons_zero, List.set_cons_succ]
          refine till_take (i := 11) (v := ?vv56008) rfl (by kernel_rfl) (by kernel_rfl) (by kernel_rfl) (by kernel_rfl) (fun _ _ _ h => h) (by rfl) ?hy56008 hHeld (some 166) rfl ?rest56008
          case hy56008 => (intro w hSw; (try dsimp only at hSw); first | (go_simp; done) | (go_simp; with_reducible rfl))
          try simp only [Act.put, List.setIfInBounds_toArray, List.set_cons_zero, List.set_cons_succ]
          refine till_take (i := 12) (v := ?vv56009) rfl (by kernel_rfl) (by kernel_rfl) (by kernel_rfl) (by kernel_rfl) (fun _ _ _ h => h) (by rfl) ?hy56009 hHeld (some 167) rfl ?rest56009
          case hy56009 => (intro w hSw; (try dsimp only at hSw); first | (go_simp; done) | (go_simp; with_reducible rfl))
          try simp only [Act.put, List.setIfInBounds_toArray, List.set_cons_zero, List.set_cons_succ]
          refine till_ready (rs := [13]) (by kernel_rfl) (by simp) ?_
          refine List.forall_mem_cons.2 ⟨?_, fun _ h => absurd h List.not_mem_nil⟩
          refine till_step rfl (fun K hK => ?_)
          go_simp
          go_at_call 33
          refine (sign_q _ _ (c) 12 (HQS.out.2.2.2.1.below hg60)).mono ?_
          rintro e w61 ⟨_, rfl, rfl, hd⟩
          have hg61 : Below w39.heap.size w39 w61 := hg60.trans (hd.mono hg60.size)
          rw [HE.out.2.2.1]
          clear hd
          go_wp2_with fail
          refine hK.out _ _ (HSS.out _ hg61) (fun hHeld => ?_)
          clear hK K
          try simp only [Act.put, List.setIfInBounds_toArray, List.set_cons_zero, List.set_cons_succ]
          refine till_take (i := 14) (v := ?vv56010) rfl (by kernel_rfl) (by kernel_rfl) (by kernel_rfl) (by kernel_rfl) (fun _ _ _ h => h) (by rfl) ?hy56010 hHeld (some 169) rfl ?rest56010
          case hy56010 => (intro w hSw; (try dsimp only at hSw); first | (go_simp; done) | (go_simp; with_reducible rfl))
          try simp only [Act.put, List.setIfInBounds_toArray, List.set_cons_zero, List.set_cons_succ]
          refine till_take (i := 15) (v := ?vv56011) rfl (by kernel_rfl) (by kernel_rfl) (by kernel_rfl) (by kernel_rfl) (fun _ _ _ h => h) (by rfl) ?hy56011 hHeld (some 170) rfl ?rest56011
          case hy56011 => (intro w hSw; (try dsimp only at hSw); first | (go_simp; done) | (go_simp; with_reducible rfl))
          try simp only [Act.put, List.setIfInBounds_toArray, List.set_cons_zero, List.set_cons_succ]
          refine till_take (i := 16) (v := ?vv56012) rfl (by kernel_rfl) (by kernel_rfl) (by kernel_rfl) (by kernel_rfl) (fun _ _ _ h => h) (by rfl) ?hy56012 hHeld (some 171) rfl ?rest56012
          case hy56012 => (intro w hSw; (try dsimp only at hSw); first | (go_simp; done) | (go_simp; with_reducible rfl))
          try simp only [Act.put, List.setIfInBounds_toArray, List.set_cons_zero, List.set_cons_succ]
          refine till_take (i := 17) (v := ?vv56013) rfl (by kernel_rfl) (by kernel_rfl) (by kernel_rfl) (by kernel_rfl) (fun _ _ _ h => h) (by rfl) ?hy56013 hHeld (some 172) rfl ?rest56013
          case hy56013 => (intro w hSw; (try dsimp only at hSw); first | (go_simp; done) | (go_simp; with_reducible rfl))
          try simp only [Act.put, List.setIfInBounds_toArray, List.set_cons_zero, List.set_cons_succ]
          refine till_ready (rs := [18]) (by kernel_rfl) (by simp) ?_
          refine List.forall_mem_cons.2 ⟨?_, fun _ h => absurd h List.not_mem_nil⟩
          refine till_step rfl (fun K hK => ?_)
          go_simp
          go_at_call 26
          refine (cmp_q _ _ _ (a) (b) 12 ((HQS.out.2.1.below hg61)) ((HQS.out.2.2.1.below hg61)) (by omega)).mono ?_
          rintro e w62 ⟨_, rfl, rfl, hd⟩
          have hg62 : Below w39.heap.size w39 w62 := hg61.trans (hd.mono hg61.size)
          rw [HE.out.1]
          clear hd
          go_wp2_with fail
          refine hK.out _ _ (HSS.out _ hg62) (fun hHeld => ?_)
          clear hK K
          try simp only [Act.put, List.setIfInBounds_toArray, List.set_cons_zero, List.set_cons_succ]
          refine till_take (i := 19) (v := ?vv56014) rfl (by kernel_rfl) (by kernel_rfl) (by kernel_rfl) (by kernel_rfl) (fun _ _ _ h => h) (by rfl) ?hy56014 hHeld (some 174) rfl ?rest56014
          case hy56014 => (intro w hSw; (try dsimp only at hSw); first | (go_simp; done) | (go_simp; with_reducible rfl))
          try simp only [Act.put, List.setIfInBounds_toArray, List.set_cons_zero, List.set_cons_succ]
          refine till_take (i := 20) (v := ?vv56015) rfl (by kernel_rfl) (by kernel_rfl) (by kernel_rfl) (by kernel_rfl) (fun _ _ _ h => h) (by rfl) ?hy56015 hHeld (some 175) rfl ?rest56015
          case hy56015 => (intro w hSw; (try dsimp only at hSw); first | (go_simp; done) | (go_simp; with_reducible rfl))
          try simp only [Act.put, List.setIfInBounds_toArray, List.set_cons_zero, List.set_cons_succ]
          refine till_take (i := 21) (v := ?vv56016) rfl (by kernel_rfl) (by kernel_rfl) (by kernel_rfl) (by kernel_rfl) (fun _ _ _ h => h) (by rfl) ?hy56016 hHeld (some 176) rfl ?rest56016
          case hy56016 => (intro w hSw; (try dsimp only at hSw); first | (go_simp; done) | (go_simp; with_reducible rfl))
          try simp only [Act.put, List.setIfInBounds_toArray, List.set_cons_zero, List.set_cons_succ]
          refine till_skip (i := 22) rfl (by kernel_rfl) (by kernel_rfl) (by kernel_rfl) (by kernel_rfl) (fun _ _ _ h => h) (by rfl) hHeld (some 177) rfl ?_
          try simp only [Act.put, List.setIfInBounds_toArray, List.set_cons_zero, List.set_cons_succ]
          refine till_skip (i := 23) rfl (by kernel_rfl) (by kernel_rfl) (by kernel_rfl) (by kernel_rfl) (fun _ _ _ h => h) (by rfl) hHeld (some 178) rfl ?_
          try simp only [Act.put, List.setIfInBounds_toArray, List.set_cons_zero, List.set_cons_succ]
          refine till_skip (i := 24) rfl (by kernel_rfl) (by kernel_rfl) (by kernel_rfl) (by kernel_rfl) (fun _ _ _ h => h) (by rfl) hHeld (some 179) rfl ?_
          try simp only [Act.put, List.setIfInBounds_toArray, List.set_cons_zero, List.set_cons_succ]
          refine till_skip (i := 25) rfl (by kernel_rfl) (by kernel_rfl) (by kernel_rfl) (by kernel_rfl) (fun _ _ _ h => h) (by rfl) hHeld (some 180) rfl ?_
          try simp only [Act.put, List.setIfInBounds_toArray, List.set_cons_zero, List.set_cons_succ]
          refine till_take (i := 26) (v := ?vv56021) rfl (by kernel_rfl) (by kernel_rfl) (by kernel_rfl) (by kernel_rfl) (fun _ _ _ h => h) (by rfl) ?hy56021 hHeld (some 181) rfl ?rest56021
          case hy56021 => (intro w hSw; (try dsimp only at hSw); first | (go_simp; done) | (go_simp; with_reducible rfl))
          try simp only [Act.put, List.setIfInBounds_toArray, List.set_cons_zero, List.set_cons_succ]
          refine till_take (i := 27) (v := ?vv56022) rfl (by kernel_rfl) (by kernel_rfl) (by kernel_rfl) (by kernel_rfl) (fun _ _ _ h => h) (by rfl) ?hy56022 hHeld (some 182) rfl ?rest56022
          case hy56022 => (intro w hSw; (try dsimp only at hSw); first | (go_simp; done) | (go_simp; with_reducible rfl))
          try simp only [Act.put, List.setIfInBounds_toArray, List.set_cons_zero, List.set_cons_succ]
          refine till_done (by kernel_rfl) ?_ _
          clear hHeld
          go_wp2_with fail
          go_meet
          exact ⟨rfl, hg62⟩
      · as_aux_lemma =>
          have HE := hide (And.intro ea (And.intro (show sgnQ (-a - -b) = 1 by (have h := sgnQ_neg (a - b)); rw [ea] at h; rw [show -a - -b = -(a - b) by rw [Rat.sub_eq_add_neg, Rat.sub_eq_add_neg, Rat.neg_add]]; omega) (And.intro ec (sgn_mul_lt pa pc))))
          clear ea pa ec pc
          obtain ⟨s64, A64, n64, c64, B64, m64, d64, hx64, hq64⟩ := HBa.out
          obtain ⟨s65, A65, n65, c65, B65, m65, d65, hx65, hq65⟩ := HBb.out
          obtain ⟨s66, A66, n66, c66, B66, m66, d66, hx66, hq66⟩ := HBc.out
          obtain ⟨s67, A67, n67, c67, B67, m67, d67, hx67, hq67⟩ := HBac.out
          obtain ⟨s68, A68, n68, c68, B68, m68, d68, hx68, hq68⟩ := HBbd.out
          have hS : ∀ w', Below w39.heap.size w39 w' → (w'.cell? ⟨w1.heap.size, 0, none⟩ = some (.bool s64) ∧ w'.cell? ⟨w1.heap.size, 1, none⟩ = some (.slice A64 n64 c64) ∧ w'.cell? ⟨w1.heap.size, 2, none⟩ = some (.slice B64 m64 d64)) ∧ (w'.cell? ⟨w2.heap.size, 0, none⟩ = some (.bool s65) ∧ w'.cell? ⟨w2.heap.size, 1, none⟩ = some (.slice A65 n65 c65) ∧ w'.cell? ⟨w2.heap.size, 2, none⟩ = some (.slice B65 m65 d65)) ∧ (w'.cell? ⟨w3.heap.size, 0, none⟩ = some (.bool s66) ∧ w'.cell? ⟨w3.heap.size, 1, none⟩ = some (.slice A66 n66 c66) ∧ w'.cell? ⟨w3.heap.size, 2, none⟩ = some (.slice B66 m66 d66)) ∧ (w'.cell? ⟨w18.heap.size, 0, none⟩ = some (.bool s67) ∧ w'.cell? ⟨w18.heap.size, 1, none⟩ = some (.slice A67 n67 c67) ∧ w'.cell? ⟨w18.heap.size, 2, none⟩ = some (.slice B67 m67 d67)) ∧ (w'.cell? ⟨w21.heap.size, 0, none⟩ = some (.bool s68) ∧ w'.cell? ⟨w21.heap.size, 1, none⟩ = some (.slice A68 n68 c68) ∧ w'.cell? ⟨w21.heap.size, 2, none⟩ = some (.slice B68 m68 d68)) := fun w' h => ⟨three_cells (at_later hx64 h), three_cells (at_later hx65 h), three_cells (at_later hx66 h), three_cells (at_later hx67 h), three_cells (at_later hx68 h)⟩
          have HSS := hide hS; clear hS
          have HQS := hide (And.intro trivial (And.intro hq64 (And.intro hq65 (And.intro hq66 (And.intro hq67 (And.intro hq68 trivial))))))
          clear hq64 hq65 hq66 hq67 hq68 hx64 hx65 hx66 hx67 hx68
          have hdr : Below w39.heap.size w39 w39.drew := (Below.refl _ _).drew
          go_wp2
          refine till_begin (fun w' => (w'.cell? ⟨w1.heap.size, 0, none⟩ = some (.bool s64) ∧ w'.cell? ⟨w1.heap.size, 1, none⟩ = some (.slice A64 n64 c64) ∧ w'.cell? ⟨w1.heap.size, 2, none⟩ = some (.slice B64 m64 d64)) ∧ (w'.cell? ⟨w2.heap.size, 0, none⟩ = some (.bool s65) ∧ w'.cell? ⟨w2.heap.size, 1, none⟩ = some (.slice A65 n65 c65) ∧ w'.cell? ⟨w2.heap.size, 2, none⟩ = some (.slice B65 m65 d65)) ∧ (w'.cell? ⟨w3.heap.size, 0, none⟩ = some (.bool s66) ∧ w'.cell? ⟨w3.heap.size, 1, none⟩ = some (.slice A66 n66 c66) ∧ w'.cell? ⟨w3.heap.size, 2, none⟩ = some (.slice B66 m66 d66)) ∧ (w'.cell? ⟨w18.heap.size, 0, none⟩ = some (.bool s67) ∧ w'.cell? ⟨w18.heap.size, 1, none⟩ = some (.slice A67 n67 c67) ∧ w'.cell? ⟨w18.heap.size, 2, none⟩ = some (.slice B67 m67 d67)) ∧ (w'.cell? ⟨w21.heap.size, 0, none⟩ = some (.bool s68) ∧ w'.cell? ⟨w21.heap.size, 1, none⟩ = some (.slice A68 n68 c68) ∧ w'.cell? ⟨w21.heap.size, 2, none⟩ = some (.slice B68 m68 d68))) [0, 1, 2, 3, 4, 5, 6, 7, 8, 9, 10, 11, 12, 13, 14, 15, 16, 17, 18, 19, 20, 21, 22, 23, 24, 25, 26, 27] (by kernel_rfl) (HSS.out _ hdr) (fun hHeld => ?_)
          refine till_take (i := 0) (v := ?vv68001) rfl (by kernel_rfl) (by kernel_rfl) (by kernel_rfl) (by kernel_rfl) (fun _ _ _ h => h) (by rfl) ?hy68001 hHeld (some 155) rfl ?rest68001
          case hy68001 => (intro w hSw; (try dsimp only at hSw); first | (go_simp; done) | (go_simp; with_reducible rfl))
          try simp only [Act.put, List.setIfInBounds_toArray, List.set_cons_zero, List.set_cons_succ]
          refine till_take (i := 1) (v := ?vv68002) rfl (by kernel_rfl) (by kernel_rfl) (by kernel_rfl) (by kernel_rfl) (fun _ _ _ h => h) (by rfl) ?hy68002 hHeld (some 156) rfl ?rest68002
          case hy68002 => (intro w hSw; (try dsimp only at hSw); first | (go_simp; done) | (go_simp; with_reducible rfl))
          try simp only [Act.put, List.setIfInBounds_toArray, List.set_cons_zero, List.set_cons_succ]
          refine till_take (i := 4) (v := ?vv68003) rfl (by kernel_rfl) (by kernel_rfl) (by kernel_rfl) (by kernel_rfl) (fun _ _ _ h => h) (by rfl) ?hy68003 hHeld (some 159) rfl ?rest68003
          case hy68003 => (intro w hSw; (try dsimp only at hSw); first | (go_simp; done) | (go_simp; with_reducible rfl))
          try simp only [Act.put, List.setIfInBounds_toArray, List.set_cons_zero, List.set_cons_succ]
          refine till_take (i := 6) (v := ?vv68004) rfl (by kernel_rfl) (by kernel_rfl) (by kernel_rfl) (by kernel_rfl) (fun _ _ _ h => h) (by rfl) ?hy68004 hHeld (some 161) rfl ?rest68004
          case hy68004 => (intro w hSw; (try dsimp only at hSw); first | (go_simp; done) | (go_simp; with_reducible rfl))
          try simp only [Act.put, List.setIfInBounds_toArray, List.set_cons_zero, List.set_cons_succ]
          refine till_ready (rs := [2]) (by kernel_rfl) (by simp) ?_
          refine List.forall_mem_cons.2 ⟨?_, fun _ h => absurd h List.not_mem_nil⟩
          refine till_step rfl (fun K hK => ?_)
          go_simp
          go_at_call 26
          refine (cmp_q _ _ _ (a) (b) 12 ((HQS.out.2.1.below hdr)) ((HQS.out.2.2.1.below hdr)) (by omega)).mono ?_
          rintro e w69 ⟨_, rfl, rfl, hd⟩
          have hg69 : Below w39.heap.size w39 w69 := hdr.trans (hd.mono hdr.size)
          rw [HE.out.1]
          clear hd
          go_wp2_with fail
          refine hK.out _ _ (HSS.out _ hg69) (fun hHeld => ?_)
          clear hK K
          try simp only [Act.put, List.setIfInBounds_toArray, List.set_cons_zero, List.set_cons_succ]
          refine till_take (i := 3) (v := ?vv68005) rfl (by kernel_rfl) (by kernel_rfl) (by kernel_rfl) (by kernel_rfl) (fun _ _ _ h => h) (by rfl) ?hy68005 hHeld (some 158) rfl ?rest68005
          case hy68005 => (intro w hSw; (try dsimp only at hSw); first | (go_simp; done) | (go_simp; with_reducible rfl))
          try simp only [Act.put, List.setIfInBounds_toArray, List.set_cons_zero, List.set_cons_succ]
          refine till_ready (rs := [5]) (by kernel_rfl) (by simp) ?_
          refine List.forall_mem_cons.2 ⟨?_, fun _ h => absurd h List.not_mem_nil⟩
          refine till_step rfl (fun K hK => ?_)
          go_simp
          go_at_call 35
          refine (neg_q _ _ a 12 (HQS.out.2.1.below hg69)).mono ?_
          rintro e w70 ⟨v, rfl, hv, hd⟩
          obtain ⟨s70, A70, n70, c70, B70, m70, d70, rfl⟩ := hv.shape
          have HNa := hide hv
          clear hv
          have hg70 : Below w39.heap.size w39 w70 := hg69.trans (hd.mono hg69.size)
          clear hd
          go_wp2_with fail
          refine hK.out _ _ (HSS.out _ hg70) (fun hHeld => ?_)
          clear hK K
          try simp only [Act.put, List.setIfInBounds_toArray, List.set_cons_zero, List.set_cons_succ]
          refine till_ready (rs := [7]) (by kernel_rfl) (by simp) ?_
          refine List.forall_mem_cons.2 ⟨?_, fun _ h => absurd h List.not_mem_nil⟩
          refine till_step rfl (fun K hK => ?_)
          go_simp
          go_at_call 35
          refine (neg_q _ _ b 12 (HQS.out.2.2.1.below hg70)).mono ?_
          rintro e w71 ⟨v, rfl, hv, hd⟩
          obtain ⟨s71, A71, n71, c71, B71, m71, d71, rfl⟩ := hv.shape
          have HNb := hide hv
          clear hv
          replace HNa := hide (HNa.out.below hd)
          have hg71 : Below w39.heap.size w39 w71 := hg70.trans (hd.mono hg70.size)
          clear hd
          go_wp2_with fail
          refine hK.out _ _ (HSS.out _ hg71) (fun hHeld => ?_)
          clear hK K
          try simp only [Act.put, List.setIfInBounds_toArray, List.set_cons_zero, List.set_cons_succ]
          refine till_ready (rs := [8]) (by kernel_rfl) (by simp) ?_
          refine List.forall_mem_cons.2 ⟨?_, fun _ h => absurd h List.not_mem_nil⟩
          refine till_step rfl (fun K hK => ?_)
          go_simp
          go_at_call 26
          refine (cmp_q _ _ _ (-a) (-b) 12 (HNa.out) (HNb.out) (by omega)).mono ?_
          rintro e w72 ⟨_, rfl, rfl, hd⟩
          have hg72 : Below w39.heap.size w39 w72 := hg71.trans (hd.mono hg71.size)
          rw [HE.out.2.1]
          clear hd
          go_wp2_with fail
          refine hK.out _ _ (HSS.out _ hg72) (fun hHeld => ?_)
          clear hK K
          try simp only [Act.put, List.setIfInBounds_toArray, List.set_cons_zero, List.set_cons_succ]
          refine till_take (i := 9) (v := ?vv68006) rfl (by kernel_rfl) (by kernel_rfl) (by kernel_rfl) (by kernel_rfl) (fun _ _ _ h => h) (by rfl) ?hy68006 hHeld (some 164) rfl ?rest68006
          case hy68006 => (intro w hSw; (try dsimp only at hSw); first | (go_simp; done) | (go_simp; with_reducible rfl))
          try simp only [Act.put, List.setIfInBounds_toArray, List.set_cons_zero, List.set_cons_succ]
          refine till_take (i := 10) (v := ?vv68007) rfl (by kernel_rfl) (by kernel_rfl) (by kernel_rfl) (by kernel_rfl) (fun _ _ _ h => h) (by rfl) ?hy68007 hHeld (some 165) rfl ?rest68007
          case hy68007 => (intro w hSw; (try dsimp only at hSw); first | (go_simp; done) | (go_simp; with_reducible rfl))
          try simp only [Act.put, List.setIfInBounds_toArray, List.set_cons_zero, List.set_cons_succ]
          refine till_take (i := 11) (v := ?vv68008) rfl (by kernel_rfl) (by kernel_rfl) (by kernel_rfl) (by kernel_rfl) (fun _ _ _ h => h) (by rfl) ?hy68008 hHeld (some 166) rfl ?rest68008
          case hy68008 => (intro w hSw; (try dsimp only at hSw); first | (go_simp; done) | (go_simp; with_reducible rfl))
          try simp only [Act.put, List.setIfInBounds_toArray, List.set_cons_zero, List.set_cons_succ]
          refine till_take (i := 12) (v := ?vv68009) rfl (by kernel_rfl) (by kernel_rfl) (by kernel_rfl) (by kernel_rfl) (fun _ _ _ h => h) (by rfl) ?hy68009 hHeld (some 167) rfl ?rest68009
          case hy68009 => (intro w hSw; (try dsimp only at hSw); first | (go_simp; done) | (go_simp; with_reducible rfl))
          try simp only [Act.put, List.setIfInBounds_toArray, List.set_cons_zero, List.set_cons_succ]
          refine till_ready (rs := [13]) (by kernel_rfl) (by simp) ?_
          refine List.forall_mem_cons.2 ⟨?_, fun _ h => absurd h List.not_mem_nil⟩
          refine till_step rfl (fun K hK => ?_)
          go_simp
          go_at_call 33
          refine (sign_q _ _ (c) 12 (HQS.out.2.2.2.1.below hg72)).mono ?_
          rintro e w73 ⟨_, rfl, rfl, hd⟩
          have hg73 : Below w39.heap.size w39 w73 := hg72.trans (hd.mono hg72.size)
          rw [HE.out.2.2.1]
          clear hd
          go_wp2_with fail
          refine hK.out _ _ (HSS.out _ hg73) (fun hHeld => ?_)
          clear hK K
          try simp only [Act.put, List.setIfInBounds_toArray, List.set_cons_zero, List.set_cons_succ]
          refine till_take (i := 14) (v := ?vv68010) rfl (by kernel_rfl) (by kernel_rfl) (by kernel_rfl) (by kernel_rfl) (fun _ _ _ h => h) (by rfl) ?hy68010 hHeld (some 169) rfl ?rest68010
          case hy68010 => (intro w hSw; (try dsimp only at hSw); first | (go_simp; done) | (go_simp; with_reducible rfl))
          try simp only [Act.put, List.setIfInBounds_toArray, List.set_cons_zero, List.set_cons_succ]
          refine till_take (i := 15) (v := ?vv68011) rfl (by kernel_rfl) (by kernel_rfl) (by kernel_rfl) (by kernel_rfl) (fun _ _ _ h => h) (by rfl) ?hy68011 hHeld (some 170) rfl ?rest68011
          case hy68011 => (intro w hSw; (try dsimp only at hSw); first | (go_simp; done) | (go_simp; with_reducible rfl))
          try simp only [Act.put, List.setIfInBounds_toArray, List.set_cons_zero, List.set_cons_succ]
          refine till_take (i := 16) (v := ?vv68012) rfl (by kernel_rfl) (by kernel_rfl) (by kernel_rfl) (by kernel_rfl) (fun _ _ _ h => h) (by rfl) ?hy68012 hHeld (some 171) rfl ?rest68012
          case hy68012 => (intro w hSw; (try dsimp only at hSw); first | (go_simp; done) | (go_simp; with_reducible rfl))
          try simp only [Act.put, List.setIfInBounds_toArray, List.set_cons_zero, List.set_cons_succ]
          refine till_take (i := 17) (v := ?vv68013) rfl (by kernel_rfl) (by kernel_rfl) (by kernel_rfl) (by kernel_rfl) (fun _ _ _ h => h) (by rfl) ?hy68013 hHeld (some 172) rfl ?rest68013
          case hy68013 => (intro w hSw; (try dsimp only at hSw); first | (go_simp; done) | (go_simp; with_reducible rfl))
          try simp only [Act.put, List.setIfInBounds_toArray, List.set_cons_zero, List.set_cons_succ]
          refine till_ready (rs := [18]) (by kernel_rfl) (by simp) ?_
          refine List.forall_mem_cons.2 ⟨?_, fun _ h => absurd h List.not_mem_nil⟩
          refine till_step rfl (fun K hK => ?_)
          go_simp
          go_at_call 26
          refine (cmp_q _ _ _ (a) (b) 12 ((HQS.out.2.1.below hg73)) ((HQS.out.2.2.1.below hg73)) (by omega)).mono ?_
          rintro e w74 ⟨_, rfl, rfl, hd⟩
          have hg74 : Below w39.heap.size w39 w74 := hg73.trans (hd.mono hg73.size)
          rw [HE.out.1]
          clear hd
          go_wp2_with fail
          refine hK.out _ _ (HSS.out _ hg74) (fun hHeld => ?_)
          clear hK K
          try simp only [Act.put, List.setIfInBounds_toArray, List.set_cons_zero, List.set_cons_succ]
          refine till_take (i := 19) (v := ?vv68014) rfl (by kernel_rfl) (by kernel_rfl) (by kernel_rfl) (by kernel_rfl) (fun _ _ _ h => h) (by rfl) ?hy68014 hHeld (some 174) rfl ?rest68014
          case hy68014 => (intro w hSw; (try dsimp only at hSw); first | (go_simp; done) | (go_simp; with_reducible rfl))
          try simp only [Act.put, List.setIfInBounds_toArray, List.set_cons_zero, List.set_cons_succ]
          refine till_take (i := 20) (v := ?vv68015) rfl (by kernel_rfl) (by kernel_rfl) (by kernel_rfl) (by kernel_rfl) (fun _ _ _ h => h) (by rfl) ?hy68015 hHeld (some 175) rfl ?rest68015
          case hy68015 => (intro w hSw; (try dsimp only at hSw); first | (go_simp; done) | (go_simp; with_reducible rfl))
          try simp only [Act.put, List.setIfInBounds_toArray, List.set_cons_zero, List.set_cons_succ]
          refine till_take (i := 21) (v := ?vv68016) rfl (by kernel_rfl) (by kernel_rfl) (by kernel_rfl) (by kernel_rfl) (fun _ _ _ h => h) (by rfl) ?hy68016 hHeld (some 176) rfl ?rest68016
          case hy68016 => (intro w hSw; (try dsimp only at hSw); first | (go_simp; done) | (go_simp; with_reducible rfl))
          try simp only [Act.put, List.setIfInBounds_toArray, List.set_cons_zero, List.set_cons_succ]
          refine till_take (i := 22) (v := ?vv68017) rfl (by kernel_rfl) (by kernel_rfl) (by kernel_rfl) (by kernel_rfl) (fun _ _ _ h => h) (by rfl) ?hy68017 hHeld (some 177) rfl ?rest68017
          case hy68017 => (intro w hSw; (try dsimp only at hSw); first | (go_simp; done) | (go_simp; with_reducible rfl))
          try simp only [Act.put, List.setIfInBounds_toArray, List.set_cons_zero, List.set_cons_succ]
          refine till_take (i := 23) (v := ?vv68018) rfl (by kernel_rfl) (by kernel_rfl) (by kernel_rfl) (by kernel_rfl) (fun _ _ _ h => h) (by rfl) ?hy68018 hHeld (some 178) rfl ?rest68018
          case hy68018 => (intro w hSw; (try dsimp only at hSw); first | (go_simp; done) | (go_simp; with_reducible rfl))
          try simp only [Act.put, List.setIfInBounds_toArray, List.set_cons_zero, List.set_cons_succ]
          refine till_ready (rs := [24]) (by kernel_rfl) (by simp) ?_
          refine List.forall_mem_cons.2 ⟨?_, fun _ h => absurd h List.not_mem_nil⟩
          refine till_step rfl (fun K hK => ?_)
          go_simp
          go_at_call 26
          refine (cmp_q _ _ _ (a * c) (b * c) 28 ((HQS.out.2.2.2.2.1.below hg74)) ((HQS.out.2.2.2.2.2.1.below hg74)) (by omega)).mono ?_
          rintro e w75 ⟨_, rfl, rfl, hd⟩
          have hg75 : Below w39.heap.size w39 w75 := hg74.trans (hd.mono hg74.size)
          rw [HE.out.2.2.2]
          clear hd
          go_wp2_with fail
          refine hK.out _ _ (HSS.out _ hg75) (fun hHeld => ?_)
          clear hK K
          try simp only [Act.put, List.setIfInBounds_toArray, List.set_cons_zero, List.set_cons_succ]
          refine till_take (i := 25) (v := ?vv68019) rfl (by kernel_rfl) (by kernel_rfl) (by kernel_rfl) (by kernel_rfl) (fun _ _ _ h => h) (by rfl) ?hy68019 hHeld (some 180) rfl ?rest68019
          case hy68019 => (intro w hSw; (try dsimp only at hSw); first | (go_simp; done) | (go_simp; with_reducible rfl))
          try simp only [Act.put, List.setIfInBounds_toArray, List.set_cons_zero, List.set_cons_succ]
          refine till_take (i := 26) (v := ?vv68020) rfl (by kernel_rfl) (by kernel_rfl) (by kernel_rfl) (by kernel_rfl) (fun _ _ _ h => h) (by rfl) ?hy68020 hHeld (some 181) rfl ?rest68020
          case hy68020 => (intro w hSw; (try dsimp only at hSw); first | (go_simp; done) | (go_simp; with_reducible rfl))
          try simp only [Act.put, List.setIfInBounds_toArray, List.set_cons_zero, List.set_cons_succ]
          refine till_take (i := 27) (v := ?vv68021) rfl (by kernel_rfl) (by kernel_rfl) (by kernel_rfl) (by kernel_rfl) (fun _ _ _ h => h) (by rfl) ?hy68021 hHeld (some 182) rfl ?rest68021
          case hy68021 => (intro w hSw; (try dsimp only at hSw); first | (go_simp; done) | (go_simp; with_reducible rfl))
          try simp only [Act.put, List.setIfInBounds_toArray, List.set_cons_zero, List.set_cons_succ]
          refine till_done (by kernel_rfl) ?_ _
          clear hHeld
          go_wp2_with fail
          go_meet
          exact ⟨rfl, hg75⟩
    · skip
      rcases sgnQ_cases (a - b) with ⟨ea, pa⟩ | ⟨ea, pa⟩ | ⟨ea, pa⟩
      · as_aux_lemma =>
          have HE := hide (And.intro ea (And.intro (show sgnQ (-a - -b) = -1 by (have h := sgnQ_neg (a - b)); rw [ea] at h; rw [show -a - -b = -(a - b) by rw [Rat.sub_eq_add_neg, Rat.sub_eq_add_neg, Rat.neg_add]]; omega) (And.intro ec trivial)))
          clear ea pa ec pc
          obtain ⟨s77, A77, n77, c77, B77, m77, d77, hx77, hq77⟩ := HBa.out
          obtain ⟨s78, A78, n78, c78, B78, m78, d78, hx78, hq78⟩ := HBb.out
          obtain ⟨s79, A79, n79, c79, B79, m79, d79, hx79, hq79⟩ := HBc.out
          obtain ⟨s80, A80, n80, c80, B80, m80, d80, hx80, hq80⟩ := HBac.out
          obtain ⟨s81, A81, n81, c81, B81, m81, d81, hx81, hq81⟩ := HBbd.out
          have hS : ∀ w', Below w39.heap.size w39 w' → (w'.cell? ⟨w1.heap.size, 0, none⟩ = some (.bool s77) ∧ w'.cell? ⟨w1.heap.size, 1, none⟩ = some (.slice A77 n77 c77) ∧ w'.cell? ⟨w1.heap.size, 2, none⟩ = some (.slice B77 m77 d77)) ∧ (w'.cell? ⟨w2.heap.size, 0, none⟩ = some (.bool s78) ∧ w'.cell? ⟨w2.heap.size, 1, none⟩ = some (.slice A78 n78 c78) ∧ w'.cell? ⟨w2.heap.size, 2, none⟩ = some (.slice B78 m78 d78)) ∧ (w'.cell? ⟨w3.heap.size, 0, none⟩ = some (.bool s79) ∧ w'.cell? ⟨w3.heap.size, 1, none⟩ = some (.slice A79 n79 c79) ∧ w'.cell? ⟨w3.heap.size, 2, none⟩ = some (.slice B79 m79 d79)) ∧ (w'.cell? ⟨w18.heap.size, 0, none⟩ = some (.bool s80) ∧ w'.cell? ⟨w18.heap.size, 1, none⟩ = some (.slice A80 n80 c80) ∧ w'.cell? ⟨w18.heap.size, 2, none⟩ = some (.slice B80 m80 d80)) ∧ (w'.cell? ⟨w21.heap.size, 0, none⟩ = some (.bool s81) ∧ w'.cell? ⟨w21.heap.size, 1, none⟩ = some (.slice A81 n81 c81) ∧ w'.cell? ⟨w21.heap.size, 2, none⟩ = some (.slice B81 m81 d81)) := fun w' h => ⟨three_cells (at_later hx77 h), three_cells (at_later hx78 h), three_cells (at_later hx79 h), three_cells (at_later hx80 h), three_cells (at_later hx81 h)⟩
          have HSS := hide hS; clear hS
          have HQS := hide (And.intro trivial (And.intro hq77 (And.intro hq78 (And.intro hq79 (And.intro hq80 (And.intro hq81 trivial))))))
          clear hq77 hq78 hq79 hq80 hq81 hx77 hx78 hx79 hx80 hx81
          have hdr : Below w39.heap.size w39 w39.drew := (Below.refl _ _).drew
          go_wp2
          refine till_begin (fun w' => (w'.cell? ⟨w1.heap.size, 0, none⟩ = some (.bool s77) ∧ w'.cell? ⟨w1.heap.size, 1, none⟩ = some (.slice A77 n77 c77) ∧ w'.cell? ⟨w1.heap.size, 2, none⟩ = some (.slice B77 m77 d77)) ∧ (w'.cell? ⟨w2.heap.size, 0, none⟩ = some (.bool s78) ∧ w'.cell? ⟨w2.heap.size, 1, none⟩ = some (.slice A78 n78 c78) ∧ w'.cell? ⟨w2.heap.size, 2, none⟩ = some (.slice B78 m78 d78)) ∧ (w'.cell? ⟨w3.heap.size, 0, none⟩ = some (.bool s79) ∧ w'.cell? ⟨w3.heap.size, 1, none⟩ = some (.slice A79 n79 c79) ∧ w'.cell? ⟨w3.heap.size, 2, none⟩ = some (.slice B79 m79 d79)) ∧ (w'.cell? ⟨w18.heap.size, 0, none⟩ = some (.bool s80) ∧ w'.cell? ⟨w18.heap.size, 1, none⟩ = some (.slice A80 n80 c80) ∧ w'.cell? ⟨w18.heap.size, 2, none⟩ = some (.slice B80 m80 d80)) ∧ (w'.cell? ⟨w21.heap.size, 0, none⟩ = some (.bool s81) ∧ w'.cell? ⟨w21.heap.size, 1, none⟩ = some (.slice A81 n81 c81) ∧ w'.cell? ⟨w21.heap.size, 2, none⟩ = some (.slice B81 m81 d81))) [0, 1, 2, 3, 4, 5, 6, 7, 8, 9, 10, 11, 12, 13, 14, 15, 16, 17, 18, 19, 20, 21, 22, 23, 24, 25, 26, 27] (by kernel_rfl) (HSS.out _ hdr) (fun hHeld => ?_)
          refine till_take (i := 0) (v := ?vv81001) rfl (by kernel_rfl) (by kernel_rfl) (by kernel_rfl) (by kernel_rfl) (fun _ _ _ h => h) (by rfl) ?hy81001 hHeld (some 155) rfl ?rest81001
          case hy81001 => (intro w hSw; (try dsimp only at hSw); first | (go_simp; done) | (go_simp; with_reducible rfl))
          try simp only [Act.put, List.setIfInBounds_toArray, List.set_cons_zero, List.set_cons_succ]
          refine till_take (i := 1) (v := ?vv81002) rfl (by kernel_rfl) (by kernel_rfl) (by kernel_rfl) (by kernel_rfl) (fun _ _ _ h => h) (by rfl) ?hy81002 hHeld (some 156) rfl ?rest81002
          case hy81002 => (intro w hSw; (try dsimp only at hSw); first | (go_simp; done) | (go_simp; with_reducible rfl))
          try simp only [Act.put, List.setIfInBounds_toArray, List.set_cons_zero, List.set_cons_succ]
          refine till_take (i := 4) (v := ?vv81003) rfl (by kernel_rfl) (by kernel_rfl) (by kernel_rfl) (by kernel_rfl) (fun _ _ _ h => h) (by rfl) ?hy81003 hHeld (some 159) rfl ?rest81003
          case hy81003 => (intro w hSw; (try dsimp only at hSw); first | (go_simp; done) | (go_simp; with_reducible rfl))
          try simp only [Act.put, List.setIfInBounds_toArray, List.set_cons_zero, List.set_cons_succ]
          refine till_take (i := 6) (v := ?vv81004) rfl (by kernel_rfl) (by kernel_rfl) (by kernel_rfl) (by kernel_rfl) (fun _ _ _ h => h) (by rfl) ?hy81004 hHeld (some 161) rfl ?rest81004
          case hy81004 => (intro w hSw; (try dsimp only at hSw); first | (go_simp; done) | (go_simp; with_reducible rfl))
          try simp only [Act.put, List.setIfInBounds_toArray, List.set_cons_zero, List.set_cons_succ]
          refine till_ready (rs := [2]) (by kernel_rfl) (by simp) ?_
          refine List.forall_mem_cons.2 ⟨?_, fun _ h => absurd h List.not_mem_nil⟩
          refine till_step rfl (fun K hK => ?_)
          go_simp
          go_at_call 26
          refine (cmp_q _ _ _ (a) (b) 12 ((HQS.out.2.1.below hdr)) ((HQS.out.2.2.1.below hdr)) (by omega)).mono ?_
          rintro e w82 ⟨_, rfl, rfl, hd⟩
          have hg82 : Below w39.heap.size w39 w82 := hdr.trans (hd.mono hdr.size)
          rw [HE.out.1]
          clear hd
          go_wp2_with fail
          refine hK.out _ _ (HSS.out _ hg82) (fun hHeld => ?_)
          clear hK K
          try simp only [Act.put, List.setIfInBounds_toArray, List.set_cons_zero, List.set_cons_succ]
          refine till_take (i := 3) (v := ?vv81005) rfl (by kernel_rfl) (by kernel_rfl) (by kernel_rfl) (by kernel_rfl) (fun _ _ _ h => h) (by rfl) ?hy81005 hHeld (some 158) rfl ?rest81005
          case hy81005 => (intro w hSw; (try dsimp only at hSw); first | (go_simp; done) | (go_simp; with_reducible rfl))
          try simp only [Act.put, List.setIfInBounds_toArray, List.set_cons_zero, List.set_cons_succ]
          refine till_ready (rs := [5]) (by kernel_rfl) (by simp) ?_
          refine List.forall_mem_cons.2 ⟨?_, fun _ h => absurd h List.not_mem_nil⟩
          refine till_step rfl (fun K hK => ?_)
          go_simp
          go_at_call 35
          refine (neg_q _ _ a 12 (HQS.out.2.1.below hg82)).mono ?_
          rintro e w83 ⟨v, rfl, hv, hd⟩
          obtain ⟨s83, A83, n83, c83, B83, m83, d83, rfl⟩ := hv.shape
          have HNa := hide hv
          clear hv
          have hg83 : Below w39.heap.size w39 w83 := hg82.trans (hd.mono hg82.size)
          clear hd
          go_wp2_with fail
          refine hK.out _ _ (HSS.out _ hg83) (fun hHeld => ?_)
          clear hK K
          try simp only [Act.put, List.setIfInBounds_toArray, List.set_cons_zero, List.set_cons_succ]
          refine till_ready (rs := [7]) (by kernel_rfl) (by simp) ?_
          refine List.forall_mem_cons.2 ⟨?_, fun _ h => absurd h List.not_mem_nil⟩
          refine till_step rfl (fun K hK => ?_)
          go_simp
          go_at_call 35
          refine (neg_q _ _ b 12 (HQS.out.2.2.1.below hg83)).mono ?_
          rintro e w84 ⟨v, rfl, hv, hd⟩
          obtain ⟨s84, A84, n84, c84, B84, m84, d84, rfl⟩ := hv.shape
          have HNb := hide hv
          clear hv
          replace HNa := hide (HNa.out.below hd)
          have hg84 : Below w39.heap.size w39 w84 := hg83.trans (hd.mono hg83.size)
          clear hd
          go_wp2_with fail
          refine hK.out _ _ (HSS.out _ hg84) (fun hHeld => ?_)
          clear hK K
          try simp only [Act.put, List.setIfInBounds_toArray, List.set_cons_zero, List.set_cons_succ]
          refine till_ready (rs := [8]) (by kernel_rfl) (by simp) ?_
          refine List.forall_mem_cons.2 ⟨?_, fun _ h => absurd h List.not_mem_nil⟩
          refine till_step rfl (fun K hK => ?_)
          go_simp
          go_at_call 26
          refine (cmp_q _ _ _ (-a) (-b) 12 (HNa.out) (HNb.out) (by omega)).mono ?_
          rintro e w85 ⟨_, rfl, rfl, hd⟩
          have hg85 : Below w39.heap.size w39 w85 := hg84.trans (hd.mono hg84.size)
          rw [HE.out.2.1]
          clear hd
          go_wp2_with fail
          refine hK.out _ _ (HSS.out _ hg85) (fun hHeld => ?_)
          clear hK K
          try simp only [Act.put, List.setIfInBounds_toArray, List.set_cons_zero, List.set_cons_succ]
          refine till_take (i := 9) (v := ?vv81006) rfl (by kernel_rfl) (by kernel_rfl) (by kernel_rfl) (by kernel_rfl) (fun _ _ _ h => h) (by rfl) ?hy81006 hHeld (some 164) rfl ?rest81006
          case hy81006 => (intro w hSw; (try dsimp only at hSw); first | (go_simp; done) | (go_simp; with_reducible rfl))
          try simp only [Act.put, List.setIfInBounds_toArray, List.set_cons_zero, List.set_cons_succ]
          refine till_take (i := 10) (v := ?vv81007) rfl (by kernel_rfl) (by kernel_rfl) (by kernel_rfl) (by kernel_rfl) (fun _ _ _ h => h) (by rfl) ?hy81007 hHeld (some 165) rfl ?rest81007
          case hy81007 => (intro w hSw; (try dsimp only at hSw); first | (go_simp; done) | (go_simp; with_reducible rfl))
          try simp only [Act.put, List.setIfInBounds_toArray, List.set_cons_zero, List.set_cons_succ]
          refine till_take (i := 11) (v := ?vv81008) rfl (by kernel_rfl) (by kernel_rfl) (by kernel_rfl) (by kernel_rfl) (fun _ _ _ h => h) (by rfl) ?hy81008 hHeld (some 166) rfl ?rest81008
          case hy81008 => (intro w hSw; (try dsimp only at hSw); first | (go_simp; done) | (go_simp; with_reducible rfl))
          try simp only [Act.put, List.setIfInBounds_toArray, List.set_cons_zero, List.set_cons_succ]
          refine till_take (i := 12) (v := ?vv81009) rfl (by kernel_rfl) (by kernel_rfl) (by kernel_rfl) (by kernel_rfl) (fun _ _ _ h => h) (by rfl) ?hy81009 hHeld (some 167) rfl ?rest81009
          case hy81009 => (intro w hSw; (try dsimp only at hSw); first | (go_simp; done) | (go_simp; with_reducible rfl))
          try simp only [Act.put, List.setIfInBounds_toArray, List.set_cons_zero, List.set_cons_succ]
          refine till_ready (rs := [13]) (by kernel_rfl) (by simp) ?_
          refine List.forall_mem_cons.2 ⟨?_, fun _ h => absurd h List.not_mem_nil⟩
          refine till_step rfl (fun K hK => ?_)
          go_simp
          go_at_call 33
          refine (sign_q _ _ (c) 12 (HQS.out.2.2.2.1.below hg85)).mono ?_
          rintro e w86 ⟨_, rfl, rfl, hd⟩
          have hg86 : Below w39.heap.size w39 w86 := hg85.trans (hd.mono hg85.size)
          rw [HE.out.2.2.1]
          clear hd
          go_wp2_with fail
          refine hK.out _ _ (HSS.out _ hg86) (fun hHeld => ?_)
          clear hK K
          try simp only [Act.put, List.setIfInBounds_toArray, List.set_cons_zero, List.set_cons_succ]
          refine till_take (i := 14) (v := ?vv81010) rfl (by kernel_rfl) (by kernel_rfl) (by kernel_rfl) (by kernel_rfl) (fun _ _ _ h => h) (by rfl) ?hy81010 hHeld (some 169) rfl ?rest81010
          case hy81010 => (intro w hSw; (try dsimp only at hSw); first | (go_simp; done) | (go_simp; with_reducible rfl))
          try simp only [Act.put, List.setIfInBounds_toArray, List.set_cons_zero, List.set_cons_succ]
          refine till_take (i := 15) (v := ?vv81011) rfl (by kernel_rfl) (by kernel_rfl) (by kernel_rfl) (by kernel_rfl) (fun _ _ _ h => h) (by rfl) ?hy81011 hHeld (some 170) rfl ?rest81011
          case hy81011 => (intro w hSw; (try dsimp only at hSw); first | (go_simp; done) | (go_simp; with_reducible rfl))
          try simp only [Act.put, List.setIfInBounds_toArray, List.set_cons_zero, List.set_cons_succ]
          refine till_skip (i := 16) rfl (by kernel_rfl) (by kernel_rfl) (by kernel_rfl) (by kernel_rfl) (fun _ _ _ h => h) (by rfl) hHeld (some 171) rfl ?_
          try simp only [Act.put, List.setIfInBounds_toArray, List.set_cons_zero, List.set_cons_succ]
          refine till_skip (i := 17) rfl (by kernel_rfl) (by kernel_rfl) (by kernel_rfl) (by kernel_rfl) (fun _ _ _ h => h) (by rfl) hHeld (some 172) rfl ?_
          try simp only [Act.put, List.setIfInBounds_toArray, List.set_cons_zero, List.set_cons_succ]
          refine till_skip (i := 18) rfl (by kernel_rfl) (by kernel_rfl) (by kernel_rfl) (by kernel_rfl) (fun _ _ _ h => h) (by rfl) hHeld (some 173) rfl ?_
          try simp only [Act.put, List.setIfInBounds_toArray, List.set_cons_zero, List.set_cons_succ]
          refine till_skip (i := 19) rfl (by kernel_rfl) (by kernel_rfl) (by kernel_rfl) (by kernel_rfl) (fun _ _ _ h => h) (by rfl) hHeld (some 174) rfl ?_
          try simp only [Act.put, List.setIfInBounds_toArray, List.set_cons_zero, List.set_cons_succ]
          refine till_take (i := 20) (v := ?vv81016) rfl (by kernel_rfl) (by kernel_rfl) (by kernel_rfl) (by kernel_rfl) (fun _ _ _ h => h) (by rfl) ?hy81016 hHeld (some 175) rfl ?rest81016
          case hy81016 => (intro w hSw; (try dsimp only at hSw); first | (go_simp; done) | (go_simp; with_reducible rfl))
          try simp only [Act.put, List.setIfInBounds_toArray, List.set_cons_zero, List.set_cons_succ]
          refine till_take (i := 21) (v := ?vv81017) rfl (by kernel_rfl) (by kernel_rfl) (by kernel_rfl) (by kernel_rfl) (fun _ _ _ h => h) (by rfl) ?hy81017 hHeld (some 176) rfl ?rest81017
          case hy81017 => (intro w hSw; (try dsimp only at hSw); first | (go_simp; done) | (go_simp; with_reducible rfl))
          try simp only [Act.put, List.setIfInBounds_toArray, List.set_cons_zero, List.set_cons_succ]
          refine till_skip (i := 22) rfl (by kernel_rfl) (by kernel_rfl) (by kernel_rfl) (by kernel_rfl) (fun _ _ _ h => h) (by rfl) hHeld (some 177) rfl ?_
          try simp only [Act.put, List.setIfInBounds_toArray, List.set_cons_zero, List.set_cons_succ]
          refine till_skip (i := 23) rfl (by kernel_rfl) (by kernel_rfl) (by kernel_rfl) (by kernel_rfl) (fun _ _ _ h => h) (by rfl) hHeld (some 178) rfl ?_
          try simp only [Act.put, List.setIfInBounds_toArray, List.set_cons_zero, List.set_cons_succ]
          refine till_skip (i := 24) rfl (by kernel_rfl) (by kernel_rfl) (by kernel_rfl) (by kernel_rfl) (fun _ _ _ h => h) (by rfl) hHeld (some 179) rfl ?_
          try simp only [Act.put, List.setIfInBounds_toArray, List.set_cons_zero, List.set_cons_succ]
          refine till_skip (i := 25) rfl (by kernel_rfl) (by kernel_rfl) (by kernel_rfl) (by kernel_rfl) (fun _ _ _ h => h) (by rfl) hHeld (some 180) rfl ?_
          try simp only [Act.put, List.setIfInBounds_toArray, List.set_cons_zero, List.set_cons_succ]
          refine till_take (i := 26) (v := ?vv81022) rfl (by kernel_rfl) (by kernel_rfl) (by kernel_rfl) (by kernel_rfl) (fun _ _ _ h => h) (by rfl) ?hy81022 hHeld (some 181) rfl ?rest81022
          case hy81022 => (intro w hSw; (try dsimp only at hSw); first | (go_simp; done) | (go_simp; with_reducible rfl))
          try simp only [Act.put, List.setIfInBounds_toArray, List.set_cons_zero, List.set_cons_succ]
          refine till_take (i := 27) (v := ?vv81023) rfl (by kernel_rfl) (by kernel_rfl) (by kernel_rfl) (by kernel_rfl) (fun _ _ _ h => h) (by rfl) ?hy81023 hHeld (some 182) rfl ?rest81023
          case hy81023 => (intro w hSw; (try dsimp only at hSw); first | (go_simp; done) | (go_simp; with_reducible rfl))
          try simp only [Act.put, List.setIfInBounds_toArray, List.set_cons_zero, List.set_cons_succ]
          refine till_done (by kernel_rfl) ?_ _
          clear hHeld
          go_wp2_with fail
          go_meet
          exact ⟨rfl, hg86⟩
      · as_aux_lemma =>
          have HE := hide (And.intro ea (And.intro (show sgnQ (-a - -b) = 0 by (have h := sgnQ_neg (a - b)); rw [ea] at h; rw [show -a - -b = -(a - b) by rw [Rat.sub_eq_add_neg, Rat.sub_eq_add_neg, Rat.neg_add]]; omega) (And.intro ec trivial)))
          clear ea pa ec pc
          obtain ⟨s88, A88, n88, c88, B88, m88, d88, hx88, hq88⟩ := HBa.out
          obtain ⟨s89, A89, n89, c89, B89, m89, d89, hx89, hq89⟩ := HBb.out
          obtain ⟨s90, A90, n90, c90, B90, m90, d90, hx90, hq90⟩ := HBc.out
          obtain ⟨s91, A91, n91, c91, B91, m91, d91, hx91, hq91⟩ := HBac.out
          obtain ⟨s92, A92, n92, c92, B92, m92, d92, hx92, hq92⟩ := HBbd.out
          have hS : ∀ w', Below w39.heap.size w39 w' → (w'.cell? ⟨w1.heap.size, 0, none⟩ = some (.bool s88) ∧ w'.cell? ⟨w1.heap.size, 1, none⟩ = some (.slice A88 n88 c88) ∧ w'.cell? ⟨w1.heap.size, 2, none⟩ = some (.slice B88 m88 d88)) ∧ (w'.cell? ⟨w2.heap.size, 0, none⟩ = some (.bool s89) ∧ w'.cell? ⟨w2.heap.size, 1, none⟩ = some (.slice A89 n89 c89) ∧ w'.cell? ⟨w2.heap.size, 2, none⟩ = some (.slice B89 m89 d89)) ∧ (w'.cell? ⟨w3.heap.size, 0, none⟩ = some (.bool s90) ∧ w'.cell? ⟨w3.heap.size, 1, none⟩ = some (.slice A90 n90 c90) ∧ w'.cell? ⟨w3.heap.size, 2, none⟩ = some (.slice B90 m90 d90)) ∧ (w'.cell? ⟨w18.heap.size, 0, none⟩ = some (.bool s91) ∧ w'.cell? ⟨w18.heap.size, 1, none⟩ = some (.slice A91 n91 c91) ∧ w'.cell? ⟨w18.heap.size, 2, none⟩ = some (.slice B91 m91 d91)) ∧ (w'.cell? ⟨w21.heap.size, 0, none⟩ = some (.bool s92) ∧ w'.cell? ⟨w21.heap.size, 1, none⟩ = some (.slice A92 n92 c92) ∧ w'.cell? ⟨w21.heap.size, 2, none⟩ = some (.slice B92 m92 d92)) := fun w' h => ⟨three_cells (at_later hx88 h), three_cells (at_later hx89 h), three_cells (at_later hx90 h), three_cells (at_later hx91 h), three_cells (at_later hx92 h)⟩
          have HSS := hide hS; clear hS
          have HQS := hide (And.intro trivial (And.intro hq88 (And.intro hq89 (And.intro hq90 (And.intro hq91 (And.intro hq92 trivial))))))
          clear hq88 hq89 hq90 hq91 hq92 hx88 hx89 hx90 hx91 hx92
          have hdr : Below w39.heap.size w39 w39.drew := (Below.refl _ _).drew
          go_wp2
          refine till_begin (fun w' => (w'.cell? ⟨w1.heap.size, 0, none⟩ = some (.bool s88) ∧ w'.cell? ⟨w1.heap.size, 1, none⟩ = some (.slice A88 n88 c88) ∧ w'.cell? ⟨w1.heap.size, 2, none⟩ = some (.slice B88 m88 d88)) ∧ (w'.cell? ⟨w2.heap.size, 0, none⟩ = some (.bool s89) ∧ w'.cell? ⟨w2.heap.size, 1, none⟩ = some (.slice A89 n89 c89) ∧ w'.cell? ⟨w2.heap.size, 2, none⟩ = some (.slice B89 m89 d89)) ∧ (w'.cell? ⟨w3.heap.size, 0, none⟩ = some (.bool s90) ∧ w'.cell? ⟨w3.heap.size, 1, none⟩ = some (.slice A90 n90 c90) ∧ w'.cell? ⟨w3.heap.size, 2, none⟩ = some (.slice B90 m90 d90)) ∧ (w'.cell? ⟨w18.heap.size, 0, none⟩ = some (.bool s91) ∧ w'.cell? ⟨w18.heap.size, 1, none⟩ = some (.slice A91 n91 c91) ∧ w'.cell? ⟨w18.heap.size, 2, none⟩ = some (.slice B91 m91 d91)) ∧ (w'.cell? ⟨w21.heap.size, 0, none⟩ = some (.bool s92) ∧ w'.cell? ⟨w21.heap.size, 1, none⟩ = some (.slice A92 n92 c92) ∧ w'.cell? ⟨w21.heap.size, 2, none⟩ = some (.slice B92 m92 d92))) [0, 1, 2, 3, 4, 5, 6, 7, 8, 9, 10, 11, 12, 13, 14, 15, 16, 17, 18, 19, 20, 21, 22, 23, 24, 25, 26, 27] (by kernel_rfl) (HSS.out _ hdr) (fun hHeld => ?_)
          refine till_take (i := 0) (v := ?vv92001) rfl (by kernel_rfl) (by kernel_rfl) (by kernel_rfl) (by kernel_rfl) (fun _ _ _ h => h) (by rfl) ?hy92001 hHeld (some 155) rfl ?rest92001
          case hy92001 => (intro w hSw; (try dsimp only at hSw); first | (go_simp; done) | (go_simp; with_reducible rfl))
          try simp only [Act.put, List.setIfInBounds_toArray, List.set_cons_zero, List.set_cons_succ]
          refine till_take (i := 1) (v := ?vv92002) rfl (by kernel_rfl) (by kernel_rfl) (by kernel_rfl) (by kernel_rfl) (fun _ _ _ h => h) (by rfl) ?hy92002 hHeld (some 156) rfl ?rest92002
          case hy92002 => (intro w hSw; (try dsimp only at hSw); first | (go_simp; done) | (go_simp; with_reducible rfl))
          try simp only [Act.put, List.setIfInBounds_toArray, List.set_cons_zero, List.set_cons_succ]
          refine till_take (i := 4) (v := ?vv92003) rfl (by kernel_rfl) (by kernel_rfl) (by kernel_rfl) (by kernel_rfl) (fun _ _ _ h => h) (by rfl) ?hy92003 hHeld (some 159) rfl ?rest92003
          case hy92003 => (intro w hSw; (try dsimp only at hSw); first | (go_simp; done) | (go_simp; with_reducible rfl))
          try simp only [Act.put, List.setIfInBounds_toArray, List.set_cons_zero, List.set_cons_succ]
          refine till_take (i := 6) (v := ?vv92004) rfl (by kernel_rfl) (by kernel_rfl) (by kernel_rfl) (by kernel_rfl) (fun _ _ _ h => h) (by rfl) ?hy92004 hHeld (some 161) rfl ?rest92004
          case hy92004 => (intro w hSw; (try dsimp only at hSw); first | (go_simp; done) | (go_simp; with_reducible rfl))
          try simp only [Act.put, List.setIfInBounds_toArray, List.set_cons_zero, List.set_cons_succ]
          refine till_ready (rs := [2]) (by kernel_rfl) (by simp) ?_
          refine List.forall_mem_cons.2 ⟨?_, fun _ h => absurd h List.not_mem_nil⟩
          refine till_step rfl (fun K hK => ?_)
          go_simp
          go_at_call 26
          refine (cmp_q _ _ _ (a) (b) 12 ((HQS.out.2.1.below hdr)) ((HQS.out.2.2.1.below hdr)) (by omega)).mono ?_
          rintro e w93 ⟨_, rfl, rfl, hd⟩
          have hg93 : Below w39.heap.size w39 w93 := hdr.trans (hd.mono hdr.size)
          rw [HE.out.1]
          clear hd
          go_wp2_with fail
          refine hK.out _ _ (HSS.out _ hg93) (fun hHeld => ?_)
          clear hK K
          try simp only [Act.put, List.setIfInBounds_toArray, List.set_cons_zero, List.set_cons_succ]
          refine till_take (i := 3) (v := ?vv92005) rfl (by kernel_rfl) (by kernel_rfl) (by kernel_rfl) (by kernel_rfl) (fun _ _ _ h => h) (by rfl) ?hy92005 hHeld (some 158) rfl ?rest92005
          case hy92005 => (intro w hSw; (try dsimp only at hSw); first | (go_simp; done) | (go_simp; with_reducible rfl))
          try simp only [Act.put, List.setIfInBounds_toArray, List.set_cons_zero, List.set_cons_succ]
          refine till_ready (rs := [5]) (by kernel_rfl) (by simp) ?_
          refine List.forall_mem_cons.2 ⟨?_, fun _ h => absurd h List.not_mem_nil⟩
          refine till_step rfl (fun K hK => ?_)
          go_simp
          go_at_call 35
          refine (neg_q _ _ a 12 (HQS.out.2.1.below hg93)).mono ?_
          rintro e w94 ⟨v, rfl, hv, hd⟩
          obtain ⟨s94, A94, n94, c94, B94, m94, d94, rfl⟩ := hv.shape
          have HNa := hide hv
          clear hv
          have hg94 : Below w39.heap.size w39 w94 := hg93.trans (hd.mono hg93.size)
          clear hd
          go_wp2_with fail
          refine hK.out _ _ (HSS.out _ hg94) (fun hHeld => ?_)
          clear hK K
          try simp only [Act.put, List.setIfInBounds_toArray, List.set_cons_zero, List.set_cons_succ]
          refine till_ready (rs := [7]) (by kernel_rfl) (by simp) ?_
          refine List.forall_mem_cons.2 ⟨?_, fun _ h => absurd h List.not_mem_nil⟩
          refine till_step rfl (fun K hK => ?_)
          go_simp
          go_at_call 35
          refine (neg_q _ _ b 12 (HQS.out.2.2.1.below hg94)).mono ?_
          rintro e w95 ⟨v, rfl, hv, hd⟩
          obtain ⟨s95, A95, n95, c95, B95, m95, d95, rfl⟩ := hv.shape
          have HNb := hide hv
          clear hv
          replace HNa := hide (HNa.out.below hd)
          have hg95 : Below w39.heap.size w39 w95 := hg94.trans (hd.mono hg94.size)
          clear hd
          go_wp2_with fail
          refine hK.out _ _ (HSS.out _ hg95) (fun hHeld => ?_)
          clear hK K
          try simp only [Act.put, List.setIfInBounds_toArray, List.set_cons_zero, List.set_cons_succ]
          refine till_ready (rs := [8]) (by kernel_rfl) (by simp) ?_
          refine List.forall_mem_cons.2 ⟨?_, fun _ h => absurd h List.not_mem_nil⟩
          refine till_step rfl (fun K hK => ?_)
          go_simp
          go_at_call 26
          refine (cmp_q _ _ _ (-a) (-b) 12 (HNa.out) (HNb.out) (by omega)).mono ?_
          rintro e w96 ⟨_, rfl, rfl, hd⟩
          have hg96 : Below w39.heap.size w39 w96 := hg95.trans (hd.mono hg95.size)
          rw [HE.out.2.1]
          clear hd
          go_wp2_with fail
          refine hK.out _ _ (HSS.out _ hg96) (fun hHeld => ?_)
          clear hK K
          try simp only [Act.put, List.setIfInBounds_toArray, List.set_cons_zero, List.set_cons_succ]
          refine till_take (i := 9) (v := ?vv92006) rfl (by kernel_rfl) (by kernel_rfl) (by kernel_rfl) (by kernel_rfl) (fun _ _ _ h => h) (by rfl) ?hy92006 hHeld (some 164) rfl ?rest92006
          case hy92006 => (intro w hSw; (try dsimp only at hSw); first | (go_simp; done) | (go_simp; with_reducible rfl))
          try simp only [Act.put, List.setIfInBounds_toArray, List.set_cons_zero, List.set_cons_succ]
          refine till_take (i := 10) (v := ?vv92007) rfl (by kernel_rfl) (by kernel_rfl) (by kernel_rfl) (by kernel_rfl) (fun _ _ _ h => h) (by rfl) ?hy92007 hHeld (some 165) rfl ?rest92007
          case hy92007 => (intro w hSw; (try dsimp only at hSw); first | (go_simp; done) | (go_simp; with_reducible rfl))
          try simp only [Act.put, List.setIfInBounds_toArray, List.set_cons_zero, List.set_cons_succ]
          refine till_take (i := 11) (v := ?vv92008) rfl (by kernel_rfl) (by kernel_rfl) (by kernel_rfl) (by kernel_rfl) (fun _ _ _ h => h) (by rfl) ?hy92008 hHeld (some 166) rfl ?rest92008
          case hy92008 => (intro w hSw; (try dsimp only at hSw); first | (go_simp; done) | (go_simp; with_reducible rfl))
          try simp only [Act.put, List.setIfInBounds_toArray, List.set_cons_zero, List.set_cons_succ]
          refine till_take (i := 12) (v := ?vv92009) rfl (by kernel_rfl) (by kernel_rfl) (by kernel_rfl) (by kernel_rfl) (fun _ _ _ h => h) (by rfl) ?hy92009 hHeld (some 167) rfl ?rest92009
          case hy92009 => (intro w hSw; (try dsimp only at hSw); first | (go_simp; done) | (go_simp; with_reducible rfl))
          try simp only [Act.put, List.setIfInBounds_toArray, List.set_cons_zero, List.set_cons_succ]
          refine till_ready (rs := [13]) (by kernel_rfl) (by simp) ?_
          refine List.forall_mem_cons.2 ⟨?_, fun _ h => absurd h List.not_mem_nil⟩
          refine till_step rfl (fun K hK => ?_)
          go_simp
          go_at_call 33
          refine (sign_q _ _ (c) 12 (HQS.out.2.2.2.1.below hg96)).mono ?_
          rintro e w97 ⟨_, rfl, rfl, hd⟩
          have hg97 : Below w39.heap.size w39 w97 := hg96.trans (hd.mono hg96.size)
          rw [HE.out.2.2.1]
          clear hd
          go_wp2_with fail
          refine hK.out _ _ (HSS.out _ hg97) (fun hHeld => ?_)
          clear hK K
          try simp only [Act.put, List.setIfInBounds_toArray, List.set_cons_zero, List.set_cons_succ]
          refine till_take (i := 14) (v := ?vv92010) rfl (by kernel_rfl) (by kernel_rfl) (by kernel_rfl) (by kernel_rfl) (fun _ _ _ h => h) (by rfl) ?hy92010 hHeld (some 169) rfl ?rest92010
          case hy92010 => (intro w hSw; (try dsimp only at hSw); first | (go_simp; done) | (go_simp; with_reducible rfl))
          try simp only [Act.put, List.setIfInBounds_toArray, List.set_cons_zero, List.set_cons_succ]
          refine till_take (i := 15) (v := ?vv92011) rfl (by kernel_rfl) (by kernel_rfl) (by kernel_rfl) (by kernel_rfl) (fun _ _ _ h => h) (by rfl) ?hy92011 hHeld (some 170) rfl ?rest92011
          case hy92011 => (intro w hSw; (try dsimp only at hSw); first | (go_simp; done) | (go_simp; with_reducible rfl))
          try simp only [Act.put, List.setIfInBounds_toArray, List.set_cons_zero, List.set_cons_succ]
          refine till_skip (i := 16) rfl (by kernel_rfl) (by kernel_rfl) (by kernel_rfl) (by kernel_rfl) (fun _ _ _ h => h) (by rfl) hHeld (some 171) rfl ?_
          try simp only [Act.put, List.setIfInBounds_toArray, List.set_cons_zero, List.set_cons_succ]
          refine till_skip (i := 17) rfl (by kernel_rfl) (by kernel_rfl) (by kernel_rfl) (by kernel_rfl) (fun _ _ _ h => h) (by rfl) hHeld (some 172) rfl ?_
          try simp only [Act.put, List.setIfInBounds_toArray, List.set_cons_zero, List.set_cons_succ]
          refine till_skip (i := 18) rfl (by kernel_rfl) (by kernel_rfl) (by kernel_rfl) (by kernel_rfl) (fun _ _ _ h => h) (by rfl) hHeld (some 173) rfl ?_
          try simp only [Act.put, List.setIfInBounds_toArray, List.set_cons_zero, List.set_cons_succ]
          refine till_skip (i := 19) rfl (by kernel_rfl) (by kernel_rfl) (by kernel_rfl) (by kernel_rfl) (fun _ _ _ h => h) (by rfl) hHeld (some 174) rfl ?_
          try simp only [Act.put, List.setIfInBounds_toArray, List.set_cons_zero, List.set_cons_succ]
          refine till_take (i := 20) (v := ?vv92016) rfl (by kernel_rfl) (by kernel_rfl) (by kernel_rfl) (by kernel_rfl) (fun _ _ _ h => h) (by rfl) ?hy92016 hHeld (some 175) rfl ?rest92016
          case hy92016 => (intro w hSw; (try dsimp only at hSw); first | (go_simp; done) | (go_simp; with_reducible rfl))
          try simp only [Act.put, List.setIfInBounds_toArray, List.set_cons_zero, List.set_cons_succ]
          refine till_take (i := 21) (v := ?vv92017) rfl (by kernel_rfl) (by kernel_rfl) (by kernel_rfl) (by kernel_rfl) (fun _ _ _ h => h) (by rfl) ?hy92017 hHeld (some 176) rfl ?rest92017
          case hy92017 => (intro w hSw; (try dsimp only at hSw); first | (go_simp; done) | (go_simp; with_reducible rfl))
          try simp only [Act.put, List.setIfInBounds_toArray, List.set_cons_zero, List.set_cons_succ]
          refine till_skip (i := 22) rfl (by kernel_rfl) (by kernel_rfl) (by kernel_rfl) (by kernel_rfl) (fun _ _ _ h => h) (by rfl) hHeld (some 177) rfl ?_
          try simp only [Act.put, List.setIfInBounds_toArray, List.set_cons_zero, List.set_cons_succ]
          refine till_skip (i := 23) rfl (by kernel_rfl) (by kernel_rfl) (by kernel_rfl) (by kernel_rfl) (fun _ _ _ h => h) (by rfl) hHeld (some 178) rfl ?_
          try simp only [Act.put, List.setIfInBounds_toArray, List.set_cons_zero, List.set_cons_succ]
          refine till_skip (i := 24) rfl (by kernel_rfl) (by kernel_rfl) (by kernel_rfl) (by kernel_rfl) (fun _ _ _ h => h) (by rfl) hHeld (some 179) rfl ?_
          try simp only [Act.put, List.setIfInBounds_toArray, List.set_cons_zero, List.set_cons_succ]
          refine till_skip (i := 25) rfl (by kernel_rfl) (by kernel_rfl) (by kernel_rfl) (by kernel_rfl) (fun _ _ _ h => h) (by rfl) hHeld (some 180) rfl ?_
          try simp only [Act.put, List.setIfInBounds_toArray, List.set_cons_zero, List.set_cons_succ]
          refine till_take (i := 26) (v := ?vv92022) rfl (by kernel_rfl) (by kernel_rfl) (by kernel_rfl) (by kernel_rfl) (fun _ _ _ h => h) (by rfl) ?hy92022 hHeld (some 181) rfl ?rest92022
          case hy92022 => (intro w hSw; (try dsimp only at hSw); first | (go_simp; done) | (go_simp; with_reducible rfl))
          try simp only [Act.put, List.setIfInBounds_toArray, List.set_cons_zero, List.set_cons_succ]
          refine till_take (i := 27) (v := ?vv92023) rfl (by kernel_rfl) (by kernel_rfl) (by kernel_rfl) (by kernel_rfl) (fun _ _ _ h => h) (by rfl) ?hy92023 hHeld (some 182) rfl ?rest92023
          case hy92023 => (intro w hSw; (try dsimp only at hSw); first | (go_simp; done) | (go_simp; with_reducible rfl))
          try simp only [Act.put, List.setIfInBounds_toArray, List.set_cons_zero, List.set_cons_succ]
          refine till_done (by kernel_rfl) ?_ _
          clear hHeld
          go_wp2_with fail
          go_meet
          exact ⟨rfl, hg97⟩
      · as_aux_lemma =>
          have HE := hide (And.intro ea (And.intro (show sgnQ (-a - -b) = 1 by (have h := sgnQ_neg (a - b)); rw [ea] at h; rw [show -a - -b = -(a - b) by rw [Rat.sub_eq_add_neg, Rat.sub_eq_add_neg, Rat.neg_add]]; omega) (And.intro ec trivial)))
          clear ea pa ec pc
          obtain ⟨s99, A99, n99, c99, B99, m99, d99, hx99, hq99⟩ := HBa.out
          obtain ⟨s100, A100, n100, c100, B100, m100, d100, hx100, hq100⟩ := HBb.out
          obtain ⟨s101, A101, n101, c101, B101, m101, d101, hx101, hq101⟩ := HBc.out
          obtain ⟨s102, A102, n102, c102, B102, m102, d102, hx102, hq102⟩ := HBac.out
          obtain ⟨s103, A103, n103, c103, B103, m103, d103, hx103, hq103⟩ := HBbd.out
          have hS : ∀ w', Below w39.heap.size w39 w' → (w'.cell? ⟨w1.heap.size, 0, none⟩ = some (.bool s99) ∧ w'.cell? ⟨w1.heap.size, 1, none⟩ = some (.slice A99 n99 c99) ∧ w'.cell? ⟨w1.heap.size, 2, none⟩ = some (.slice B99 m99 d99)) ∧ (w'.cell? ⟨w2.heap.size, 0, none⟩ = some (.bool s100) ∧ w'.cell? ⟨w2.heap.size, 1, none⟩ = some (.slice A100 n100 c100) ∧ w'.cell? ⟨w2.heap.size, 2, none⟩ = some (.slice B100 m100 d100)) ∧ (w'.cell? ⟨w3.heap.size, 0, none⟩ = some (.bool s101) ∧ w'.cell? ⟨w3.heap.size, 1, none⟩ = some (.slice A101 n101 c101) ∧ w'.cell? ⟨w3.heap.size, 2, none⟩ = some (.slice B101 m101 d101)) ∧ (w'.cell? ⟨w18.heap.size, 0, none⟩ = some (.bool s102) ∧ w'.cell? ⟨w18.heap.size, 1, none⟩ = some (.slice A102 n102 c102) ∧ w'.cell? ⟨w18.heap.size, 2, none⟩ = some (.slice B102 m102 d102)) ∧ (w'.cell? ⟨w21.heap.size, 0, none⟩ = some (.bool s103) ∧ w'.cell? ⟨w21.heap.size, 1, none⟩ = some (.slice A103 n103 c103) ∧ w'.cell? ⟨w21.heap.size, 2, none⟩ = some (.slice B103 m103 d103)) := fun w' h => ⟨three_cells (at_later hx99 h), three_cells (at_later hx100 h), three_cells (at_later hx101 h), three_cells (at_later hx102 h), three_cells (at_later hx103 h)⟩
          have HSS := hide hS; clear hS
          have HQS := hide (And.intro trivial (And.intro hq99 (And.intro hq100 (And.intro hq101 (And.intro hq102 (And.intro hq103 trivial))))))
          clear hq99 hq100 hq101 hq102 hq103 hx99 hx100 hx101 hx102 hx103
          have hdr : Below w39.heap.size w39 w39.drew := (Below.refl _ _).drew
          go_wp2
          refine till_begin (fun w' => (w'.cell? ⟨w1.heap.size, 0, none⟩ = some (.bool s99) ∧ w'.cell? ⟨w1.heap.size, 1, none⟩ = some (.slice A99 n99 c99) ∧ w'.cell? ⟨w1.heap.size, 2, none⟩ = some (.slice B99 m99 d99)) ∧ (w'.cell? ⟨w2.heap.size, 0, none⟩ = some (.bool s100) ∧ w'.cell? ⟨w2.heap.size, 1, none⟩ = some (.slice A100 n100 c100) ∧ w'.cell? ⟨w2.heap.size, 2, none⟩ = some (.slice B100 m100 d100)) ∧ (w'.cell? ⟨w3.heap.size, 0, none⟩ = some (.bool s101) ∧ w'.cell? ⟨w3.heap.size, 1, none⟩ = some (.slice A101 n101 c101) ∧ w'.cell? ⟨w3.heap.size, 2, none⟩ = some (.slice B101 m101 d101)) ∧ (w'.cell? ⟨w18.heap.size, 0, none⟩ = some (.bool s102) ∧ w'.cell? ⟨w18.heap.size, 1, none⟩ = some (.slice A102 n102 c102) ∧ w'.cell? ⟨w18.heap.size, 2, none⟩ = some (.slice B102 m102 d102)) ∧ (w'.cell? ⟨w21.heap.size, 0, none⟩ = some (.bool s103) ∧ w'.cell? ⟨w21.heap.size, 1, none⟩ = some (.slice A103 n103 c103) ∧ w'.cell? ⟨w21.heap.size, 2, none⟩ = some (.slice B103 m103 d103))) [0, 1, 2, 3, 4, 5, 6, 7, 8, 9, 10, 11, 12, 13, 14, 15, 16, 17, 18, 19, 20, 21, 22, 23, 24, 25, 26, 27] (by kernel_rfl) (HSS.out _ hdr) (fun hHeld => ?_)
          refine till_take (i := 0) (v := ?vv103001) rfl (by kernel_rfl) (by kernel_rfl) (by kernel_rfl) (by kernel_rfl) (fun _ _ _ h => h) (by rfl) ?hy103001 hHeld (some 155) rfl ?rest103001
          case hy103001 => (intro w hSw; (try dsimp only at hSw); first | (go_simp; done) | (go_simp; with_reducible rfl))
          try simp only [Act.put, List.setIfInBounds_toArray, List.set_cons_zero, List.set_cons_succ]
          refine till_take (i := 1) (v := ?vv103002) rfl (by kernel_rfl) (by kernel_rfl) (by kernel_rfl) (by kernel_rfl) (fun _ _ _ h => h) (by rfl) ?hy103002 hHeld (some 156) rfl ?rest103002
          case hy103002 => (intro w hSw; (try dsimp only at hSw); first | (go_simp; done) | (go_simp; with_reducible rfl))
          try simp only [Act.put, List.setIfInBounds_toArray, List.set_cons_zero, List.set_cons_succ]
          refine till_take (i := 4) (v := ?vv103003) rfl (by kernel_rfl) (by kernel_rfl) (by kernel_rfl) (by kernel_rfl) (fun _ _ _ h => h) (by rfl) ?hy103003 hHeld (some 159) rfl ?rest103003
          case hy103003 => (intro w hSw; (try dsimp only at hSw); first | (go_simp; done) | (go_simp; with_reducible rfl))
          try simp only [Act.put, List.setIfInBounds_toArray, List.set_cons_zero, List.set_cons_succ]
          refine till_take (i := 6) (v := ?vv103004) rfl (by kernel_rfl) (by kernel_rfl) (by kernel_rfl) (by kernel_rfl) (fun _ _ _ h => h) (by rfl) ?hy103004 hHeld (some 161) rfl ?rest103004
          case hy103004 => (intro w hSw; (try dsimp only at hSw); first | (go_simp; done) | (go_simp; with_reducible rfl))
          try simp only [Act.put, List.setIfInBounds_toArray, List.set_cons_zero, List.set_cons_succ]
          refine till_ready (rs := [2]) (by kernel_rfl) (by simp) ?_
          refine List.forall_mem_cons.2 ⟨?_, fun _ h => absurd h List.not_mem_nil⟩
          refine till_step rfl (fun K hK => ?_)
          go_simp
          go_at_call 26
          refine (cmp_q _ _ _ (a) (b) 12 ((HQS.out.2.1.below hdr)) ((HQS.out.2.2.1.below hdr)) (by omega)).mono ?_
          rintro e w104 ⟨_, rfl, rfl, hd⟩
          have hg104 : Below w39.heap.size w39 w104 := hdr.trans (hd.mono hdr.size)
          rw [HE.out.1]
          clear hd
          go_wp2_with fail
          refine hK.out _ _ (HSS.out _ hg104) (fun hHeld => ?_)
          clear hK K
          try simp only [Act.put, List.setIfInBounds_toArray, List.set_cons_zero, List.set_cons_succ]
          refine till_take (i := 3) (v := ?vv103005) rfl (by kernel_rfl) (by kernel_rfl) (by kernel_rfl) (by kernel_rfl) (fun _ _ _ h => h) (by rfl) ?hy103005 hHeld (some 158) rfl ?rest103005
          case hy103005 => (intro w hSw; (try dsimp only at hSw); first | (go_simp; done) | (go_simp; with_reducible rfl))
          try simp only [Act.put, List.setIfInBounds_toArray, List.set_cons_zero, List.set_cons_succ]
          refine till_ready (rs := [5]) (by kernel_rfl) (by simp) ?_
          refine List.forall_mem_cons.2 ⟨?_, fun _ h => absurd h List.not_mem_nil⟩
          refine till_step rfl (fun K hK => ?_)
          go_simp
          go_at_call 35
          refine (neg_q _ _ a 12 (HQS.out.2.1.below hg104)).mono ?_
          rintro e w105 ⟨v, rfl, hv, hd⟩
          obtain ⟨s105, A105, n105, c105, B105, m105, d105, rfl⟩ := hv.shape
          have HNa := hide hv
          clear hv
          have hg105 : Below w39.heap.size w39 w105 := hg104.trans (hd.mono hg104.size)
          clear hd
          go_wp2_with fail
          refine hK.out _ _ (HSS.out _ hg105) (fun hHeld => ?_)
          clear hK K
          try simp only [Act.put, List.setIfInBounds_toArray, List.set_cons_zero, List.set_cons_succ]
          refine till_ready (rs := [7]) (by kernel_rfl) (by simp) ?_
          refine List.forall_mem_cons.2 ⟨?_, fun _ h => absurd h List.not_mem_nil⟩
          refine till_step rfl (fun K hK => ?_)
          go_simp
          go_at_call 35
          refine (neg_q _ _ b 12 (HQS.out.2.2.1.below hg105)).mono ?_
          rintro e w106 ⟨v, rfl, hv, hd⟩
          obtain ⟨s106, A106, n106, c106, B106, m106, d106, rfl⟩ := hv.shape
          have HNb := hide hv
          clear hv
          replace HNa := hide (HNa.out.below hd)
          have hg106 : Below w39.heap.size w39 w106 := hg105.trans (hd.mono hg105.size)
          clear hd
          go_wp2_with fail
          refine hK.out _ _ (HSS.out _ hg106) (fun hHeld => ?_)
          clear hK K
          try simp only [Act.put, List.setIfInBounds_toArray, List.set_cons_zero, List.set_cons_succ]
          refine till_ready (rs := [8]) (by kernel_rfl) (by simp) ?_
          refine List.forall_mem_cons.2 ⟨?_, fun _ h => absurd h List.not_mem_nil⟩
          refine till_step rfl (fun K hK => ?_)
          go_simp
          go_at_call 26
          refine (cmp_q _ _ _ (-a) (-b) 12 (HNa.out) (HNb.out) (by omega)).mono ?_
          rintro e w107 ⟨_, rfl, rfl, hd⟩
          have hg107 : Below w39.heap.size w39 w107 := hg106.trans (hd.mono hg106.size)
          rw [HE.out.2.1]
          clear hd
          go_wp2_with fail
          refine hK.out _ _ (HSS.out _ hg107) (fun hHeld => ?_)
          clear hK K
          try simp only [Act.put, List.setIfInBounds_toArray, List.set_cons_zero, List.set_cons_succ]
          refine till_take (i := 9) (v := ?vv103006) rfl (by kernel_rfl) (by kernel_rfl) (by kernel_rfl) (by kernel_rfl) (fun _ _ _ h => h) (by rfl) ?hy103006 hHeld (some 164) rfl ?rest103006
          case hy103006 => (intro w hSw; (try dsimp only at hSw); first | (go_simp; done) | (go_simp; with_reducible rfl))
          try simp only [Act.put, List.setIfInBounds_toArray, List.set_cons_zero, List.set_cons_succ]
          refine till_take (i := 10) (v := ?vv103007) rfl (by kernel_rfl) (by kernel_rfl) (by kernel_rfl) (by kernel_rfl) (fun _ _ _ h => h) (by rfl) ?hy103007 hHeld (some 165) rfl ?rest103007
          case hy103007 => (intro w hSw; (try dsimp only at hSw); first | (go_simp; done) | (go_simp; with_reducible rfl))
          try simp only [Act.put, List.setIfInBounds_toArray, List.set_cons_zero, List.set_cons_succ]
          refine till_take (i := 11) (v := ?vv103008) rfl (by kernel_rfl) (by kernel_rfl) (by kernel_rfl) (by kernel_rfl) (fun _ _ _ h => h) (by rfl) ?hy103008 hHeld (some 166) rfl ?rest103008
          case hy103008 => (intro w hSw; (try dsimp only at hSw); first | (go_simp; done) | (go_simp; with_reducible rfl))
          try simp only [Act.put, List.setIfInBounds_toArray, List.set_cons_zero, List.set_cons_succ]
          refine till_take (i := 12) (v := ?vv103009) rfl (by kernel_rfl) (by kernel_rfl) (by kernel_rfl) (by kernel_rfl) (fun _ _ _ h => h) (by rfl) ?hy103009 hHeld (some 167) rfl ?rest103009
          case hy103009 => (intro w hSw; (try dsimp only at hSw); first | (go_simp; done) | (go_simp; with_reducible rfl))
          try simp only [Act.put, List.setIfInBounds_toArray, List.set_cons_zero, List.set_cons_succ]
          refine till_ready (rs := [13]) (by kernel_rfl) (by simp) ?_
          refine List.forall_mem_cons.2 ⟨?_, fun _ h => absurd h List.not_mem_nil⟩
          refine till_step rfl (fun K hK => ?_)
          go_simp
          go_at_call 33
          refine (sign_q _ _ (c) 12 (HQS.out.2.2.2.1.below hg107)).mono ?_
          rintro e w108 ⟨_, rfl, rfl, hd⟩
          have hg108 : Below w39.heap.size w39 w108 := hg107.trans (hd.mono hg107.size)
          rw [HE.out.2.2.1]
          clear hd
          go_wp2_with fail
          refine hK.out _ _ (HSS.out _ hg108) (fun hHeld => ?_)
          clear hK K
          try simp only [Act.put, List.setIfInBounds_toArray, List.set_cons_zero, List.set_cons_succ]
          refine till_take (i := 14) (v := ?vv103010) rfl (by kernel_rfl) (by kernel_rfl) (by kernel_rfl) (by kernel_rfl) (fun _ _ _ h => h) (by rfl) ?hy103010 hHeld (some 169) rfl ?rest103010
          case hy103010 => (intro w hSw; (try dsimp only at hSw); first | (go_simp; done) | (go_simp; with_reducible rfl))
          try simp only [Act.put, List.setIfInBounds_toArray, List.set_cons_zero, List.set_cons_succ]
          refine till_take (i := 15) (v := ?vv103011) rfl (by kernel_rfl) (by kernel_rfl) (by kernel_rfl) (by kernel_rfl) (fun _ _ _ h => h) (by rfl) ?hy103011 hHeld (some 170) rfl ?rest103011
          case hy103011 => (intro w hSw; (try dsimp only at hSw); first | (go_simp; done) | (go_simp; with_reducible rfl))
          try simp only [Act.put, List.setIfInBounds_toArray, List.set_cons_zero, List.set_cons_succ]
          refine till_skip (i := 16) rfl (by kernel_rfl) (by kernel_rfl) (by kernel_rfl) (by kernel_rfl) (fun _ _ _ h => h) (by rfl) hHeld (some 171) rfl ?_
          try simp only [Act.put, List.setIfInBounds_toArray, List.set_cons_zero, List.set_cons_succ]
          refine till_skip (i := 17) rfl (by kernel_rfl) (by kernel_rfl) (by kernel_rfl) (by kernel_rfl) (fun _ _ _ h => h) (by rfl) hHeld (some 172) rfl ?_
          try simp only [Act.put, List.setIfInBounds_toArray, List.set_cons_zero, List.set_cons_succ]
          refine till_skip (i := 18) rfl (by kernel_rfl) (by kernel_rfl) (by kernel_rfl) (by kernel_rfl) (fun _ _ _ h => h) (by rfl) hHeld (some 173) rfl ?_
          try simp only [Act.put, List.setIfInBounds_toArray, List.set_cons_zero, List.set_cons_succ]
          refine till_skip (i := 19) rfl (by kernel_rfl) (by kernel_rfl) (by kernel_rfl) (by kernel_rfl) (fun _ _ _ h => h) (by rfl) hHeld (some 174) rfl ?_
          try simp only [Act.put, List.setIfInBounds_toArray, List.set_cons_zero, List.set_cons_succ]
          refine till_take (i := 20) (v := ?vv103016) rfl (by kernel_rfl) (by kernel_rfl) (by kernel_rfl) (by kernel_rfl) (fun _ _ _ h => h) (by rfl) ?hy103016 hHeld (some 175) rfl ?rest103016
          case hy103016 => (intro w hSw; (try dsimp only at hSw); first | (go_simp; done) | (go_simp; with_reducible rfl))
          try simp only [Act.put, List.setIfInBounds_toArray, List.set_cons_zero, List.set_cons_succ]
          refine till_take (i := 21) (v := ?vv103017) rfl (by kernel_rfl) (by kernel_rfl) (by kernel_rfl) (by kernel_rfl) (fun _ _ _ h => h) (by rfl) ?hy103017 hHeld (some 176) rfl ?rest103017
          case hy103017 => (intro w hSw; (try dsimp only at hSw); first | (go_simp; done) | (go_simp; with_reducible rfl))
          try simp only [Act.put, List.setIfInBounds_toArray, List.set_cons_zero, List.set_cons_succ]
          refine till_skip (i := 22) rfl (by kernel_rfl) (by kernel_rfl) (by kernel_rfl) (by kernel_rfl) (fun _ _ _ h => h) (by rfl) hHeld (some 177) rfl ?_
          try simp only [Act.put, List.setIfInBounds_toArray, List.set_cons_zero, List.set_cons_succ]
          refine till_skip (i := 23) rfl (by kernel_rfl) (by kernel_rfl) (by kernel_rfl) (by kernel_rfl) (fun _ _ _ h => h) (by rfl) hHeld (some 178) rfl ?_
          try simp only [Act.put, List.setIfInBounds_toArray, List.set_cons_zero, List.set_cons_succ]
          refine till_skip (i := 24) rfl (by kernel_rfl) (by kernel_rfl) (by kernel_rfl) (by kernel_rfl) (fun _ _ _ h => h) (by rfl) hHeld (some 179) rfl ?_
          try simp only [Act.put, List.setIfInBounds_toArray, List.set_cons_zero, List.set_cons_succ]
          refine till_skip (i := 25) rfl (by kernel_rfl) (by kernel_rfl) (by kernel_rfl) (by kernel_rfl) (fun _ _ _ h => h) (by rfl) hHeld (some 180) rfl ?_
          try simp only [Act.put, List.setIfInBounds_toArray, List.set_cons_zero, List.set_cons_succ]
          refine till_take (i := 26) (v := ?vv103022) rfl (by kernel_rfl) (by kernel_rfl) (by kernel_rfl) (by kernel_rfl) (fun _ _ _ h => h) (by rfl) ?hy103022 hHeld (some 181) rfl ?rest103022
          case hy103022 => (intro w hSw; (try dsimp only at hSw); first | (go_simp; done) | (go_simp; with_reducible rfl))
          try simp only [Act.put, List.setIfInBounds_toArray, List.set_cons_zero, List.set_cons_succ]
          refine till_take (i := 27) (v := ?vv103023) rfl (by kernel_rfl) (by kernel_rfl) (by kernel_rfl) (by kernel_rfl) (fun _ _ _ h => h) (by rfl) ?hy103023 hHeld (some 182) rfl ?rest103023
          case hy103023 => (intro w hSw; (try dsimp only at hSw); first | (go_simp; done) | (go_simp; with_reducible rfl))
          try simp only [Act.put, List.setIfInBounds_toArray, List.set_cons_zero, List.set_cons_succ]
          refine till_done (by kernel_rfl) ?_ _
          clear hHeld
          go_wp2_with fail
          go_meet
          exact ⟨rfl, hg108⟩
    · skip
      rcases sgnQ_cases (a - b) with ⟨ea, pa⟩ | ⟨ea, pa⟩ | ⟨ea, pa⟩
      · as_aux_lemma =>
          have HE := hide (And.intro ea (And.intro (show sgnQ (-a - -b) = -1 by (have h := sgnQ_neg (a - b)); rw [ea] at h; rw [show -a - -b = -(a - b) by rw [Rat.sub_eq_add_neg, Rat.sub_eq_add_neg, Rat.neg_add]]; omega) (And.intro ec trivial)))
          clear ea pa ec pc
          obtain ⟨s110, A110, n110, c110, B110, m110, d110, hx110, hq110⟩ := HBa.out
          obtain ⟨s111, A111, n111, c111, B111, m111, d111, hx111, hq111⟩ := HBb.out
          obtain ⟨s112, A112, n112, c112, B112, m112, d112, hx112, hq112⟩ := HBc.out
          obtain ⟨s113, A113, n113, c113, B113, m113, d113, hx113, hq113⟩ := HBac.out
          obtain ⟨s114, A114, n114, c114, B114, m114, d114, hx114, hq114⟩ := HBbd.out
          have hS : ∀ w', Below w39.heap.size w39 w' → (w'.cell? ⟨w1.heap.size, 0, none⟩ = some (.bool s110) ∧ w'.cell? ⟨w1.heap.size, 1, none⟩ = some (.slice A110 n110 c110) ∧ w'.cell? ⟨w1.heap.size, 2, none⟩ = some (.slice B110 m110 d110)) ∧ (w'.cell? ⟨w2.heap.size, 0, none⟩ = some (.bool s111) ∧ w'.cell? ⟨w2.heap.size, 1, none⟩ = some (.slice A111 n111 c111) ∧ w'.cell? ⟨w2.heap.size, 2, none⟩ = some (.slice B111 m111 d111)) ∧ (w'.cell? ⟨w3.heap.size, 0, none⟩ = some (.bool s112) ∧ w'.cell? ⟨w3.heap.size, 1, none⟩ = some (.slice A112 n112 c112) ∧ w'.cell? ⟨w3.heap.size, 2, none⟩ = some (.slice B112 m112 d112)) ∧ (w'.cell? ⟨w18.heap.size, 0, none⟩ = some (.bool s113) ∧ w'.cell? ⟨w18.heap.size, 1, none⟩ = some (.slice A113 n113 c113) ∧ w'.cell? ⟨w18.heap.size, 2, none⟩ = some (.slice B113 m113 d113)) ∧ (w'.cell? ⟨w21.heap.size, 0, none⟩ = some (.bool s114) ∧ w'.cell? ⟨w21.heap.size, 1, none⟩ = some (.slice A114 n114 c114) ∧ w'.cell? ⟨w21.heap.size, 2, none⟩ = some (.slice B114 m114 d114)) := fun w' h => ⟨three_cells (at_later hx110 h), three_cells (at_later hx111 h), three_cells (at_later hx112 h), three_cells (at_later hx113 h), three_cells (at_later hx114 h)⟩
          have HSS := hide hS; clear hS
          have HQS := hide (And.intro trivial (And.intro hq110 (And.intro hq111 (And.intro hq112 (And.intro hq113 (And.intro hq114 trivial))))))
          clear hq110 hq111 hq112 hq113 hq114 hx110 hx111 hx112 hx113 hx114
          have hdr : Below w39.heap.size w39 w39.drew := (Below.refl _ _).drew
          go_wp2
          refine till_begin (fun w' => (w'.cell? ⟨w1.heap.size, 0, none⟩ = some (.bool s110) ∧ w'.cell? ⟨w1.heap.size, 1, none⟩ = some (.slice A110 n110 c110) ∧ w'.cell? ⟨w1.heap.size, 2, none⟩ = some (.slice B110 m110 d110)) ∧ (w'.cell? ⟨w2.heap.size, 0, none⟩ = some (.bool s111) ∧ w'.cell? ⟨w2.heap.size, 1, none⟩ = some (.slice A111 n111 c111) ∧ w'.cell? ⟨w2.heap.size, 2, none⟩ = some (.slice B111 m111 d111)) ∧ (w'.cell? ⟨w3.heap.size, 0, none⟩ = some (.bool s112) ∧ w'.cell? ⟨w3.heap.size, 1, none⟩ = some (.slice A112 n112 c112) ∧ w'.cell? ⟨w3.heap.size, 2, none⟩ = some (.slice B112 m112 d112)) ∧ (w'.cell? ⟨w18.heap.size, 0, none⟩ = some (.bool s113) ∧ w'.cell? ⟨w18.heap.size, 1, none⟩ = some (.slice A113 n113 c113) ∧ w'.cell? ⟨w18.heap.size, 2, none⟩ = some (.slice B113 m113 d113)) ∧ (w'.cell? ⟨w21.heap.size, 0, none⟩ = some (.bool s114) ∧ w'.cell? ⟨w21.heap.size, 1, none⟩ = some (.slice A114 n114 c114) ∧ w'.cell? ⟨w21.heap.size, 2, none⟩ = some (.slice B114 m114 d114))) [0, 1, 2, 3, 4, 5, 6, 7, 8, 9, 10, 11, 12, 13, 14, 15, 16, 17, 18, 19, 20, 21, 22, 23, 24, 25, 26, 27] (by kernel_rfl) (HSS.out _ hdr) (fun hHeld => ?_)
          refine till_take (i := 0) (v := ?vv114001) rfl (by kernel_rfl) (by kernel_rfl) (by kernel_rfl) (by kernel_rfl) (fun _ _ _ h => h) (by rfl) ?hy114001 hHeld (some 155) rfl ?rest114001
          case hy114001 => (intro w hSw; (try dsimp only at hSw); first | (go_simp; done) | (go_simp; with_reducible rfl))
          try simp only [Act.put, List.setIfInBounds_toArray, List.set_cons_zero, List.set_cons_succ]
          refine till_take (i := 1) (v := ?vv114002) rfl (by kernel_rfl) (by kernel_rfl) (by kernel_rfl) (by kernel_rfl) (fun _ _ _ h => h) (by rfl) ?hy114002 hHeld (some 156) rfl ?rest114002
          case hy114002 => (intro w hSw; (try dsimp only at hSw); first | (go_simp; done) | (go_simp; with_reducible rfl))
          try simp only [Act.put, List.setIfInBounds_toArray, List.set_cons_zero, List.set_cons_succ]
          refine till_take (i := 4) (v := ?vv114003) rfl (by kernel_rfl) (by kernel_rfl) (by kernel_rfl) (by kernel_rfl) (fun _ _ _ h => h) (by rfl) ?hy114003 hHeld (some 159) rfl ?rest114003
          case hy114003 => (intro w hSw; (try dsimp only at hSw); first | (go_simp; done) | (go_simp; with_reducible rfl))
          try simp only [Act.put, List.setIfInBounds_toArray, List.set_cons_zero, List.set_cons_succ]
          refine till_take (i := 6) (v := ?vv114004) rfl (by kernel_rfl) (by kernel_rfl) (by kernel_rfl) (by kernel_rfl) (fun _ _ _ h => h) (by rfl) ?hy114004 hHeld (some 161) rfl ?rest114004
          case hy114004 => (intro w hSw; (try dsimp only at hSw); first | (go_simp; done) | (go_simp; with_reducible rfl))
          try simp only [Act.put, List.setIfInBounds_toArray, List.set_cons_zero, List.set_cons_succ]
          refine till_ready (rs := [2]) (by kernel_rfl) (by simp) ?_
          refine List.forall_mem_cons.2 ⟨?_, fun _ h => absurd h List.not_mem_nil⟩
          refine till_step rfl (fun K hK => ?_)
          go_simp
          go_at_call 26
          refine (cmp_q _ _ _ (a) (b) 12 ((HQS.out.2.1.below hdr)) ((HQS.out.2.2.1.below hdr)) (by omega)).mono ?_
          rintro e w115 ⟨_, rfl, rfl, hd⟩
          have hg115 : Below w39.heap.size w39 w115 := hdr.trans (hd.mono hdr.size)
          rw [HE.out.1]
          clear hd
          go_wp2_with fail
          refine hK.out _ _ (HSS.out _ hg115) (fun hHeld => ?_)
          clear hK K
          try simp only [Act.put, List.setIfInBounds_toArray, List.set_cons_zero, List.set_cons_succ]
          refine till_take (i := 3) (v := ?vv114005) rfl (by kernel_rfl) (by kernel_rfl) (by kernel_rfl) (by kernel_rfl) (fun _ _ _ h => h) (by rfl) ?hy114005 hHeld (some 158) rfl ?rest114005
          case hy114005 => (intro w hSw; (try dsimp only at hSw); first | (go_simp; done) | (go_simp; with_reducible rfl))
          try simp only [Act.put, List.setIfInBounds_toArray, List.set_cons_zero, List.set_cons_succ]
          refine till_ready (rs := [5]) (by kernel_rfl) (by simp) ?_
          refine List.forall_mem_cons.2 ⟨?_, fun _ h => absurd h List.not_mem_nil⟩
          refine till_step rfl (fun K hK => ?_)
          go_simp
          go_at_call 35
          refine (neg_q _ _ a 12 (HQS.out.2.1.below hg115)).mono ?_
          rintro e w116 ⟨v, rfl, hv, hd⟩
          obtain ⟨s116, A116, n116, c116, B116, m116, d116, rfl⟩ := hv.shape
          have HNa := hide hv
          clear hv
          have hg116 : Below w39.heap.size w39 w116 := hg115.trans (hd.mono hg115.size)
          clear hd
          go_wp2_with fail
          refine hK.out _ _ (HSS.out _ hg116) (fun hHeld => ?_)
          clear hK K
          try simp only [Act.put, List.setIfInBounds_toArray, List.set_cons_zero, List.set_cons_succ]
          refine till_ready (rs := [7]) (by kernel_rfl) (by simp) ?_
          refine List.forall_mem_cons.2 ⟨?_, fun _ h => absurd h List.not_mem_nil⟩
          refine till_step rfl (fun K hK => ?_)
          go_simp
          go_at_call 35
          refine (neg_q _ _ b 12 (HQS.out.2.2.1.below hg116)).mono ?_
          rintro e w117 ⟨v, rfl, hv, hd⟩
          obtain ⟨s117, A117, n117, c117, B117, m117, d117, rfl⟩ := hv.shape
          have HNb := hide hv
          clear hv
          replace HNa := hide (HNa.out.below hd)
          have hg117 : Below w39.heap.size w39 w117 := hg116.trans (hd.mono hg116.size)
          clear hd
          go_wp2_with fail
          refine hK.out _ _ (HSS.out _ hg117) (fun hHeld => ?_)
          clear hK K
          try simp only [Act.put, List.setIfInBounds_toArray, List.set_cons_zero, List.set_cons_succ]
          refine till_ready (rs := [8]) (by kernel_rfl) (by simp) ?_
          refine List.forall_mem_cons.2 ⟨?_, fun _ h => absurd h List.not_mem_nil⟩
          refine till_step rfl (fun K hK => ?_)
          go_simp
          go_at_call 26
          refine (cmp_q _ _ _ (-a) (-b) 12 (HNa.out) (HNb.out) (by omega)).mono ?_
          rintro e w118 ⟨_, rfl, rfl, hd⟩
          have hg118 : Below w39.heap.size w39 w118 := hg117.trans (hd.mono hg117.size)
          rw [HE.out.2.1]
          clear hd
          go_wp2_with fail
          refine hK.out _ _ (HSS.out _ hg118) (fun hHeld => ?_)
          clear hK K
          try simp only [Act.put, List.setIfInBounds_toArray, List.set_cons_zero, List.set_cons_succ]
          refine till_take (i := 9) (v := ?vv114006) rfl (by kernel_rfl) (by kernel_rfl) (by kernel_rfl) (by kernel_rfl) (fun _ _ _ h => h) (by rfl) ?hy114006 hHeld (some 164) rfl ?rest114006
          case hy114006 => (intro w hSw; (try dsimp only at hSw); first | (go_simp; done) | (go_simp; with_reducible rfl))
          try simp only [Act.put, List.setIfInBounds_toArray, List.set_cons_zero, List.set_cons_succ]
          refine till_take (i := 10) (v := ?vv114007) rfl (by kernel_rfl) (by kernel_rfl) (by kernel_rfl) (by kernel_rfl) (fun _ _ _ h => h) (by rfl) ?hy114007 hHeld (some 165) rfl ?rest114007
          case hy114007 => (intro w hSw; (try dsimp only at hSw); first | (go_simp; done) | (go_simp; with_reducible rfl))
          try simp only [Act.put, List.setIfInBounds_toArray, List.set_cons_zero, List.set_cons_succ]
          refine till_take (i := 11) (v := ?vv114008) rfl (by kernel_rfl) (by kernel_rfl) (by kernel_rfl) (by kernel_rfl) (fun _ _ _ h => h) (by rfl) ?hy114008 hHeld (some 166) rfl ?rest114008
          case hy114008 => (intro w hSw; (try dsimp only at hSw); first | (go_simp; done) | (go_simp; with_reducible rfl))
          try simp only [Act.put, List.setIfInBounds_toArray, List.set_cons_zero, List.set_cons_succ]
          refine till_take (i := 12) (v := ?vv114009) rfl (by kernel_rfl) (by kernel_rfl) (by kernel_rfl) (by kernel_rfl) (fun _ _ _ h => h) (by rfl) ?hy114009 hHeld (some 167) rfl ?rest114009
          case hy114009 => (intro w hSw; (try dsimp only at hSw); first | (go_simp; done) | (go_simp; with_reducible rfl))
          try simp only [Act.put, List.setIfInBounds_toArray, List.set_cons_zero, List.set_cons_succ]
          refine till_ready (rs := [13]) (by kernel_rfl) (by simp) ?_
          refine List.forall_mem_cons.2 ⟨?_, fun _ h => absurd h List.not_mem_nil⟩
          refine till_step rfl (fun K hK => ?_)
          go_simp
          go_at_call 33
          refine (sign_q _ _ (c) 12 (HQS.out.2.2.2.1.below hg118)).mono ?_
          rintro e w119 ⟨_, rfl, rfl, hd⟩
          have hg119 : Below w39.heap.size w39 w119 := hg118.trans (hd.mono hg118.size)
          rw [HE.out.2.2.1]
          clear hd
          go_wp2_with fail
          refine hK.out _ _ (HSS.out _ hg119) (fun hHeld => ?_)
          clear hK K
          try simp only [Act.put, List.setIfInBounds_toArray, List.set_cons_zero, List.set_cons_succ]
          refine till_take (i := 14) (v := ?vv114010) rfl (by kernel_rfl) (by kernel_rfl) (by kernel_rfl) (by kernel_rfl) (fun _ _ _ h => h) (by rfl) ?hy114010 hHeld (some 169) rfl ?rest114010
          case hy114010 => (intro w hSw; (try dsimp only at hSw); first | (go_simp; done) | (go_simp; with_reducible rfl))
          try simp only [Act.put, List.setIfInBounds_toArray, List.set_cons_zero, List.set_cons_succ]
          refine till_take (i := 15) (v := ?vv114011) rfl (by kernel_rfl) (by kernel_rfl) (by kernel_rfl) (by kernel_rfl) (fun _ _ _ h => h) (by rfl) ?hy114011 hHeld (some 170) rfl ?rest114011
          case hy114011 => (intro w hSw; (try dsimp only at hSw); first | (go_simp; done) | (go_simp; with_reducible rfl))
          try simp only [Act.put, List.setIfInBounds_toArray, List.set_cons_zero, List.set_cons_succ]
          refine till_skip (i := 16) rfl (by kernel_rfl) (by kernel_rfl) (by kernel_rfl) (by kernel_rfl) (fun _ _ _ h => h) (by rfl) hHeld (some 171) rfl ?_
          try simp only [Act.put, List.setIfInBounds_toArray, List.set_cons_zero, List.set_cons_succ]
          refine till_skip (i := 17) rfl (by kernel_rfl) (by kernel_rfl) (by kernel_rfl) (by kernel_rfl) (fun _ _ _ h => h) (by rfl) hHeld (some 172) rfl ?_
          try simp only [Act.put, List.setIfInBounds_toArray, List.set_cons_zero, List.set_cons_succ]
          refine till_skip (i := 18) rfl (by kernel_rfl) (by kernel_rfl) (by kernel_rfl) (by kernel_rfl) (fun _ _ _ h => h) (by rfl) hHeld (some 173) rfl ?_
          try simp only [Act.put, List.setIfInBounds_toArray, List.set_cons_zero, List.set_cons_succ]
          refine till_skip (i := 19) rfl (by kernel_rfl) (by kernel_rfl) (by kernel_rfl) (by kernel_rfl) (fun _ _ _ h => h) (by rfl) hHeld (some 174) rfl ?_
          try simp only [Act.put, List.setIfInBounds_toArray, List.set_cons_zero, List.set_cons_succ]
          refine till_take (i := 20) (v := ?vv114016) rfl (by kernel_rfl) (by kernel_rfl) (by kernel_rfl) (by kernel_rfl) (fun _ _ _ h => h) (by rfl) ?hy114016 hHeld (some 175) rfl ?rest114016
          case hy114016 => (intro w hSw; (try dsimp only at hSw); first | (go_simp; done) | (go_simp; with_reducible rfl))
          try simp only [Act.put, List.setIfInBounds_toArray, List.set_cons_zero, List.set_cons_succ]
          refine till_take (i := 21) (v := ?vv114017) rfl (by kernel_rfl) (by kernel_rfl) (by kernel_rfl) (by kernel_rfl) (fun _ _ _ h => h) (by rfl) ?hy114017 hHeld (some 176) rfl ?rest114017
          case hy114017 => (intro w hSw; (try dsimp only at hSw); first | (go_simp; done) | (go_simp; with_reducible rfl))
          try simp only [Act.put, List.setIfInBounds_toArray, List.set_cons_zero, List.set_cons_succ]
          refine till_skip (i := 22) rfl (by kernel_rfl) (by kernel_rfl) (by kernel_rfl) (by kernel_rfl) (fun _ _ _ h => h) (by rfl) hHeld (some 177) rfl ?_
          try simp only [Act.put, List.setIfInBounds_toArray, List.set_cons_zero, List.set_cons_succ]
          refine till_skip (i := 23) rfl (by kernel_rfl) (by kernel_rfl) (by kernel_rfl) (by kernel_rfl) (fun _ _ _ h => h) (by rfl) hHeld (some 178) rfl ?_
          try simp only [Act.put, List.setIfInBounds_toArray, List.set_cons_zero, List.set_cons_succ]
          refine till_skip (i := 24) rfl (by kernel_rfl) (by kernel_rfl) (by kernel_rfl) (by kernel_rfl) (fun _ _ _ h => h) (by rfl) hHeld (some 179) rfl ?_
          try simp only [Act.put, List.setIfInBounds_toArray, List.set_cons_zero, List.set_cons_succ]
          refine till_skip (i := 25) rfl (by kernel_rfl) (by kernel_rfl) (by kernel_rfl) (by kernel_rfl) (fun _ _ _ h => h) (by rfl) hHeld (some 180) rfl ?_
          try simp only [Act.put, List.setIfInBounds_toArray, List.set_cons_zero, List.set_cons_succ]
          refine till_take (i := 26) (v := ?vv114022) rfl (by kernel_rfl) (by kernel_rfl) (by kernel_rfl) (by kernel_rfl) (fun _ _ _ h => h) (by rfl) ?hy114022 hHeld (some 181) rfl ?rest114022
          case hy114022 => (intro w hSw; (try dsimp only at hSw); first | (go_simp; done) | (go_simp; with_reducible rfl))
          try simp only [Act.put, List.setIfInBounds_toArray, List.set_cons_zero, List.set_cons_succ]
          refine till_take (i := 27) (v := ?vv114023) rfl (by kernel_rfl) (by kernel_rfl) (by kernel_rfl) (by kernel_rfl) (fun _ _ _ h => h) (by rfl) ?hy114023 hHeld (some 182) rfl ?rest114023
          case hy114023 => (intro w hSw; (try dsimp only at hSw); first | (go_simp; done) | (go_simp; with_reducible rfl))
          try simp only [Act.put, List.setIfInBounds_toArray, List.set_cons_zero, List.set_cons_succ]
          refine till_done (by kernel_rfl) ?_ _
          clear hHeld
          go_wp2_with fail
          go_meet
          exact ⟨rfl, hg119⟩
      · as_aux_lemma =>
          have HE := hide (And.intro ea (And.intro (show sgnQ (-a - -b) = 0 by (have h := sgnQ_neg (a - b)); rw [ea] at h; rw [show -a - -b = -(a - b) by rw [Rat.sub_eq_add_neg, Rat.sub_eq_add_neg, Rat.neg_add]]; omega) (And.intro ec trivial)))
          clear ea pa ec pc
          obtain ⟨s121, A121, n121, c121, B121, m121, d121, hx121, hq121⟩ := HBa.out
          obtain ⟨s122, A122, n122, c122, B122, m122, d122, hx122, hq122⟩ := HBb.out
          obtain ⟨s123, A123, n123, c123, B123, m123, d123, hx123, hq123⟩ := HBc.out
          obtain ⟨s124, A124, n124, c124, B124, m124, d124, hx124, hq124⟩ := HBac.out
          obtain ⟨s125, A125, n125, c125, B125, m125, d125, hx125, hq125⟩ := HBbd.out
          have hS : ∀ w', Below w39.heap.size w39 w' → (w'.cell? ⟨w1.heap.size, 0, none⟩ = some (.bool s121) ∧ w'.cell? ⟨w1.heap.size, 1, none⟩ = some (.slice A121 n121 c121) ∧ w'.cell? ⟨w1.heap.size, 2, none⟩ = some (.slice B121 m121 d121)) ∧ (w'.cell? ⟨w2.heap.size, 0, none⟩ = some (.bool s122) ∧ w'.cell? ⟨w2.heap.size, 1, none⟩ = some (.slice A122 n122 c122) ∧ w'.cell? ⟨w2.heap.size, 2, none⟩ = some (.slice B122 m122 d122)) ∧ (w'.cell? ⟨w3.heap.size, 0, none⟩ = some (.bool s123) ∧ w'.cell? ⟨w3.heap.size, 1, none⟩ = some (.slice A123 n123 c123) ∧ w'.cell? ⟨w3.heap.size, 2, none⟩ = some (.slice B123 m123 d123)) ∧ (w'.cell? ⟨w18.heap.size, 0, none⟩ = some (.bool s124) ∧ w'.cell? ⟨w18.heap.size, 1, none⟩ = some (.slice A124 n124 c124) ∧ w'.cell? ⟨w18.heap.size, 2, none⟩ = some (.slice B124 m124 d124)) ∧ (w'.cell? ⟨w21.heap.size, 0, none⟩ = some (.bool s125) ∧ w'.cell? ⟨w21.heap.size, 1, none⟩ = some (.slice A125 n125 c125) ∧ w'.cell? ⟨w21.heap.size, 2, none⟩ = some (.slice B125 m125 d125)) := fun w' h => ⟨three_cells (at_later hx121 h), three_cells (at_later hx122 h), three_cells (at_later hx123 h), three_cells (at_later hx124 h), three_cells (at_later hx125 h)⟩
          have HSS := hide hS; clear hS
          have HQS := hide (And.intro trivial (And.intro hq121 (And.intro hq122 (And.intro hq123 (And.intro hq124 (And.intro hq125 trivial))))))
          clear hq121 hq122 hq123 hq124 hq125 hx121 hx122 hx123 hx124 hx125
          have hdr : Below w39.heap.size w39 w39.drew := (Below.refl _ _).drew
          go_wp2
          refine till_begin (fun w' => (w'.cell? ⟨w1.heap.size, 0, none⟩ = some (.bool s121) ∧ w'.cell? ⟨w1.heap.size, 1, none⟩ = some (.slice A121 n121 c121) ∧ w'.cell? ⟨w1.heap.size, 2, none⟩ = some (.slice B121 m121 d121)) ∧ (w'.cell? ⟨w2.heap.size, 0, none⟩ = some (.bool s122) ∧ w'.cell? ⟨w2.heap.size, 1, none⟩ = some (.slice A122 n122 c122) ∧ w'.cell? ⟨w2.heap.size, 2, none⟩ = some (.slice B122 m122 d122)) ∧ (w'.cell? ⟨w3.heap.size, 0, none⟩ = some (.bool s123) ∧ w'.cell? ⟨w3.heap.size, 1, none⟩ = some (.slice A123 n123 c123) ∧ w'.cell? ⟨w3.heap.size, 2, none⟩ = some (.slice B123 m123 d123)) ∧ (w'.cell? ⟨w18.heap.size, 0, none⟩ = some (.bool s124) ∧ w'.cell? ⟨w18.heap.size, 1, none⟩ = some (.slice A124 n124 c124) ∧ w'.cell? ⟨w18.heap.size, 2, none⟩ = some (.slice B124 m124 d124)) ∧ (w'.cell? ⟨w21.heap.size, 0, none⟩ = some (.bool s125) ∧ w'.cell? ⟨w21.heap.size, 1, none⟩ = some (.slice A125 n125 c125) ∧ w'.cell? ⟨w21.heap.size, 2, none⟩ = some (.slice B125 m125 d125))) [0, 1, 2, 3, 4, 5, 6, 7, 8, 9, 10, 11, 12, 13, 14, 15, 16, 17, 18, 19, 20, 21, 22, 23, 24, 25, 26, 27] (by kernel_rfl) (HSS.out _ hdr) (fun hHeld => ?_)
          refine till_take (i := 0) (v := ?vv125001) rfl (by kernel_rfl) (by kernel_rfl) (by kernel_rfl) (by kernel_rfl) (fun _ _ _ h => h) (by rfl) ?hy125001 hHeld (some 155) rfl ?rest125001
          case hy125001 => (intro w hSw; (try dsimp only at hSw); first | (go_simp; done) | (go_simp; with_reducible rfl))
          try simp only [Act.put, List.setIfInBounds_toArray, List.set_cons_zero, List.set_cons_succ]
          refine till_take (i := 1) (v := ?vv125002) rfl (by kernel_rfl) (by kernel_rfl) (by kernel_rfl) (by kernel_rfl) (fun _ _ _ h => h) (by rfl) ?hy125002 hHeld (some 156) rfl ?rest125002
          case hy125002 => (intro w hSw; (try dsimp only at hSw); first | (go_simp; done) | (go_simp; with_reducible rfl))
          try simp only [Act.put, List.setIfInBounds_toArray, List.set_cons_zero, List.set_cons_succ]
          refine till_take (i := 4) (v := ?vv125003) rfl (by kernel_rfl) (by kernel_rfl) (by kernel_rfl) (by kernel_rfl) (fun _ _ _ h => h) (by rfl) ?hy125003 hHeld (some 159) rfl ?rest125003
          case hy125003 => (intro w hSw; (try dsimp only at hSw); first | (go_simp; done) | (go_simp; with_reducible rfl))
          try simp only [Act.put, List.setIfInBounds_toArray, List.set_cons_zero, List.set_cons_succ]
          refine till_take (i := 6) (v := ?vv125004) rfl (by kernel_rfl) (by kernel_rfl) (by kernel_rfl) (by kernel_rfl) (fun _ _ _ h => h) (by rfl) ?hy125004 hHeld (some 161) rfl ?rest125004
          case hy125004 => (intro w hSw; (try dsimp only at hSw); first | (go_simp; done) | (go_simp; with_reducible rfl))
          try simp only [Act.put, List.setIfInBounds_toArray, List.set_cons_zero, List.set_cons_succ]
          refine till_ready (rs := [2]) (by kernel_rfl) (by simp) ?_
          refine List.forall_mem_cons.2 ⟨?_, fun _ h => absurd h List.not_mem_nil⟩
          refine till_step rfl (fun K hK => ?_)
          go_simp
          go_at_call 26
          refine (cmp_q _ _ _ (a) (b) 12 ((HQS.out.2.1.below hdr)) ((HQS.out.2.2.1.below hdr)) (by omega)).mono ?_
          rintro e w126 ⟨_, rfl, rfl, hd⟩
          have hg126 : Below w39.heap.size w39 w126 := hdr.trans (hd.mono hdr.size)
          rw [HE.out.1]
          clear hd
          go_wp2_with fail
          refine hK.out _ _ (HSS.out _ hg126) (fun hHeld => ?_)
          clear hK K
          try simp only [Act.put, List.setIfInBounds_toArray, List.set_cons_zero, List.set_cons_succ]
          refine till_take (i := 3) (v := ?vv125005) rfl (by kernel_rfl) (by kernel_rfl) (by kernel_rfl) (by kernel_rfl) (fun _ _ _ h => h) (by rfl) ?hy125005 hHeld (some 158) rfl ?rest125005
          case hy125005 => (intro w hSw; (try dsimp only at hSw); first | (go_simp; done) | (go_simp; with_reducible rfl))
          try simp only [Act.put, List.setIfInBounds_toArray, List.set_cons_zero, List.set_cons_succ]
          refine till_ready (rs := [5]) (by kernel_rfl) (by simp) ?_
          refine List.forall_mem_cons.2 ⟨?_, fun _ h => absurd h List.not_mem_nil⟩
          refine till_step rfl (fun K hK => ?_)
          go_simp
          go_at_call 35
          refine (neg_q _ _ a 12 (HQS.out.2.1.below hg126)).mono ?_
          rintro e w127 ⟨v, rfl, hv, hd⟩
          obtain ⟨s127, A127, n127, c127, B127, m127, d127, rfl⟩ := hv.shape
          have HNa := hide hv
          clear hv
          have hg127 : Below w39.heap.size w39 w127 := hg126.trans (hd.mono hg126.size)
          clear hd
          go_wp2_with fail
          refine hK.out _ _ (HSS.out _ hg127) (fun hHeld => ?_)
          clear hK K
          try simp only [Act.put, List.setIfInBounds_toArray, List.set_cons_zero, List.set_cons_succ]
          refine till_ready (rs := [7]) (by kernel_rfl) (by simp) ?_
          refine List.forall_mem_cons.2 ⟨?_, fun _ h => absurd h List.not_mem_nil⟩
          refine till_step rfl (fun K hK => ?_)
          go_simp
          go_at_call 35
          refine (neg_q _ _ b 12 (HQS.out.2.2.1.below hg127)).mono ?_
          rintro e w128 ⟨v, rfl, hv, hd⟩
          obtain ⟨s128, A128, n128, c128, B128, m128, d128, rfl⟩ := hv.shape
          have HNb := hide hv
          clear hv
          replace HNa := hide (HNa.out.below hd)
          have hg128 : Below w39.heap.size w39 w128 := hg127.trans (hd.mono hg127.size)
          clear hd
          go_wp2_with fail
          refine hK.out _ _ (HSS.out _ hg128) (fun hHeld => ?_)
          clear hK K
          try simp only [Act.put, List.setIfInBounds_toArray, List.set_cons_zero, List.set_cons_succ]
          refine till_ready (rs := [8]) (by kernel_rfl) (by simp) ?_
          refine List.forall_mem_cons.2 ⟨?_, fun _ h => absurd h List.not_mem_nil⟩
          refine till_step rfl (fun K hK => ?_)
          go_simp
          go_at_call 26
          refine (cmp_q _ _ _ (-a) (-b) 12 (HNa.out) (HNb.out) (by omega)).mono ?_
          rintro e w129 ⟨_, rfl, rfl, hd⟩
          have hg129 : Below w39.heap.size w39 w129 := hg128.trans (hd.mono hg128.size)
          rw [HE.out.2.1]
          clear hd
          go_wp2_with fail
          refine hK.out _ _ (HSS.out _ hg129) (fun hHeld => ?_)
          clear hK K
          try simp only [Act.put, List.setIfInBounds_toArray, List.set_cons_zero, List.set_cons_succ]
          refine till_take (i := 9) (v := ?vv125006) rfl (by kernel_rfl) (by kernel_rfl) (by kernel_rfl) (by kernel_rfl) (fun _ _ _ h => h) (by rfl) ?hy125006 hHeld (some 164) rfl ?rest125006
          case hy125006 => (intro w hSw; (try dsimp only at hSw); first | (go_simp; done) | (go_simp; with_reducible rfl))
          try simp only [Act.put, List.setIfInBounds_toArray, List.set_cons_zero, List.set_cons_succ]
          refine till_take (i := 10) (v := ?vv125007) rfl (by kernel_rfl) (by kernel_rfl) (by kernel_rfl) (by kernel_rfl) (fun _ _ _ h => h) (by rfl) ?hy125007 hHeld (some 165) rfl ?rest125007
          case hy125007 => (intro w hSw; (try dsimp only at hSw); first | (go_simp; done) | (go_simp; with_reducible rfl))
          try simp only [Act.put, List.setIfInBounds_toArray, List.set_cons_zero, List.set_cons_succ]
          refine till_take (i := 11) (v := ?vv125008) rfl (by kernel_rfl) (by kernel_rfl) (by kernel_rfl) (by kernel_rfl) (fun _ _ _ h => h) (by rfl) ?hy125008 hHeld (some 166) rfl ?rest125008
          case hy125008 => (intro w hSw; (try dsimp only at hSw); first | (go_simp; done) | (go_simp; with_reducible rfl))
          try simp only [Act.put, List.setIfInBounds_toArray, List.set_cons_zero, List.set_cons_succ]
          refine till_take (i := 12) (v := ?vv125009) rfl (by kernel_rfl) (by kernel_rfl) (by kernel_rfl) (by kernel_rfl) (fun _ _ _ h => h) (by rfl) ?hy125009 hHeld (some 167) rfl ?rest125009
          case hy125009 => (intro w hSw; (try dsimp only at hSw); first | (go_simp; done) | (go_simp; with_reducible rfl))
          try simp only [Act.put, List.setIfInBounds_toArray, List.set_cons_zero, List.set_cons_succ]
          refine till_ready (rs := [13]) (by kernel_rfl) (by simp) ?_
          refine List.forall_mem_cons.2 ⟨?_, fun _ h => absurd h List.not_mem_nil⟩
          refine till_step rfl (fun K hK => ?_)
          go_simp
          go_at_call 33
          refine (sign_q _ _ (c) 12 (HQS.out.2.2.2.1.below hg129)).mono ?_
          rintro e w130 ⟨_, rfl, rfl, hd⟩
          have hg130 : Below w39.heap.size w39 w130 := hg129.trans (hd.mono hg129.size)
          rw [HE.out.2.2.1]
          clear hd
          go_wp2_with fail
          refine hK.out _ _ (HSS.out _ hg130) (fun hHeld => ?_)
          clear hK K
          try simp only [Act.put, List.setIfInBounds_toArray, List.set_cons_zero, List.set_cons_succ]
          refine till_take (i := 14) (v := ?vv125010) rfl (by kernel_rfl) (by kernel_rfl) (by kernel_rfl) (by kernel_rfl) (fun _ _ _ h => h) (by rfl) ?hy125010 hHeld (some 169) rfl ?rest125010
          case hy125010 => (intro w hSw; (try dsimp only at hSw); first | (go_simp; done) | (go_simp; with_reducible rfl))
          try simp only [Act.put, List.setIfInBounds_toArray, List.set_cons_zero, List.set_cons_succ]
          refine till_take (i := 15) (v := ?vv125011) rfl (by kernel_rfl) (by kernel_rfl) (by kernel_rfl) (by kernel_rfl) (fun _ _ _ h => h) (by rfl) ?hy125011 hHeld (some 170) rfl ?rest125011
          case hy125011 => (intro w hSw; (try dsimp only at hSw); first | (go_simp; done) | (go_simp; with_reducible rfl))
          try simp only [Act.put, List.setIfInBounds_toArray, List.set_cons_zero, List.set_cons_succ]
          refine till_skip (i := 16) rfl (by kernel_rfl) (by kernel_rfl) (by kernel_rfl) (by kernel_rfl) (fun _ _ _ h => h) (by rfl) hHeld (some 171) rfl ?_
          try simp only [Act.put, List.setIfInBounds_toArray, List.set_cons_zero, List.set_cons_succ]
          refine till_skip (i := 17) rfl (by kernel_rfl) (by kernel_rfl) (by kernel_rfl) (by kernel_rfl) (fun _ _ _ h => h) (by rfl) hHeld (some 172) rfl ?_
          try simp only [Act.put, List.setIfInBounds_toArray, List.set_cons_zero, List.set_cons_succ]
          refine till_skip (i := 18) rfl (by kernel_rfl) (by kernel_rfl) (by kernel_rfl) (by kernel_rfl) (fun _ _ _ h => h) (by rfl) hHeld (some 173) rfl ?_
          try simp only [Act.put, List.setIfInBounds_toArray, List.set_cons_zero, List.set_cons_succ]
          refine till_skip (i := 19) rfl (by kernel_rfl) (by kernel_rfl) (by kernel_rfl) (by kernel_rfl) (fun _ _ _ h => h) (by rfl) hHeld (some 174) rfl ?_
          try simp only [Act.put, List.setIfInBounds_toArray, List.set_cons_zero, List.set_cons_succ]
          refine till_take (i := 20) (v := ?vv125016) rfl (by kernel_rfl) (by kernel_rfl) (by kernel_rfl) (by kernel_rfl) (fun _ _ _ h => h) (by rfl) ?hy125016 hHeld (some 175) rfl ?rest125016
          case hy125016 => (intro w hSw; (try dsimp only at hSw); first | (go_simp; done) | (go_simp; with_reducible rfl))
          try simp only [Act.put, List.setIfInBounds_toArray, List.set_cons_zero, List.set_cons_succ]
          refine till_take (i := 21) (v := ?vv125017) rfl (by kernel_rfl) (by kernel_rfl) (by kernel_rfl) (by kernel_rfl) (fun _ _ _ h => h) (by rfl) ?hy125017 hHeld (some 176) rfl ?rest125017
          case hy125017 => (intro w hSw; (try dsimp only at hSw); first | (go_simp; done) | (go_simp; with_reducible rfl))
          try simp only [Act.put, List.setIfInBounds_toArray, List.set_cons_zero, List.set_cons_succ]
          refine till_skip (i := 22) rfl (by kernel_rfl) (by kernel_rfl) (by kernel_rfl) (by kernel_rfl) (fun _ _ _ h => h) (by rfl) hHeld (some 177) rfl ?_
          try simp only [Act.put, List.setIfInBounds_toArray, List.set_cons_zero, List.set_cons_succ]
          refine till_skip (i := 23) rfl (by kernel_rfl) (by kernel_rfl) (by kernel_rfl) (by kernel_rfl) (fun _ _ _ h => h) (by rfl) hHeld (some 178) rfl ?_
          try simp only [Act.put, List.setIfInBounds_toArray, List.set_cons_zero, List.set_cons_succ]
          refine till_skip (i := 24) rfl (by kernel_rfl) (by kernel_rfl) (by kernel_rfl) (by kernel_rfl) (fun _ _ _ h => h) (by rfl) hHeld (some 179) rfl ?_
          try simp only [Act.put, List.setIfInBounds_toArray, List.set_cons_zero, List.set_cons_succ]
          refine till_skip (i := 25) rfl (by kernel_rfl) (by kernel_rfl) (by kernel_rfl) (by kernel_rfl) (fun _ _ _ h => h) (by rfl) hHeld (some 180) rfl ?_
          try simp only [Act.put, List.setIfInBounds_toArray, List.set_cons_zero, List.set_cons_succ]
          refine till_take (i := 26) (v := ?vv125022) rfl (by kernel_rfl) (by kernel_rfl) (by kernel_rfl) (by kernel_rfl) (fun _ _ _ h => h) (by rfl) ?hy125022 hHeld (some 181) rfl ?rest125022
          case hy125022 => (intro w hSw; (try dsimp only at hSw); first | (go_simp; done) | (go_simp; with_reducible rfl))
          try simp only [Act.put, List.setIfInBounds_toArray, List.set_cons_zero, List.set_cons_succ]
          refine till_take (i := 27) (v := ?vv125023) rfl (by kernel_rfl) (by kernel_rfl) (by kernel_rfl) (by kernel_rfl) (fun _ _ _ h => h) (by rfl) ?hy125023 hHeld (some 182) rfl ?rest125023
          case hy125023 => (intro w hSw; (try dsimp only at hSw); first | (go_simp; done) | (go_simp; with_reducible rfl))
          try simp only [Act.put, List.setIfInBounds_toArray, List.set_cons_zero, List.set_cons_succ]
          refine till_done (by kernel_rfl) ?_ _
          clear hHeld
          go_wp2_with fail
          go_meet
          exact ⟨rfl, hg130⟩
      · as_aux_lemma =>
          have HE := hide (And.intro ea (And.intro (show sgnQ (-a - -b) = 1 by (have h := sgnQ_neg (a - b)); rw [ea] at h; rw [show -a - -b = -(a - b) by rw [Rat.sub_eq_add_neg, Rat.sub_eq_add_neg, Rat.neg_add]]; omega) (And.intro ec trivial)))
          clear ea pa ec pc
          obtain ⟨s132, A132, n132, c132, B132, m132, d132, hx132, hq132⟩ := HBa.out
          obtain ⟨s133, A133, n133, c133, B133, m133, d133, hx133, hq133⟩ := HBb.out
          obtain ⟨s134, A134, n134, c134, B134, m134, d134, hx134, hq134⟩ := HBc.out
          obtain ⟨s135, A135, n135, c135, B135, m135, d135, hx135, hq135⟩ := HBac.out
          obtain ⟨s136, A136, n136, c136, B136, m136, d136, hx136, hq136⟩ := HBbd.out
          have hS : ∀ w', Below w39.heap.size w39 w' → (w'.cell? ⟨w1.heap.size, 0, none⟩ = some (.bool s132) ∧ w'.cell? ⟨w1.heap.size, 1, none⟩ = some (.slice A132 n132 c132) ∧ w'.cell? ⟨w1.heap.size, 2, none⟩ = some (.slice B132 m132 d132)) ∧ (w'.cell? ⟨w2.heap.size, 0, none⟩ = some (.bool s133) ∧ w'.cell? ⟨w2.heap.size, 1, none⟩ = some (.slice A133 n133 c133) ∧ w'.cell? ⟨w2.heap.size, 2, none⟩ = some (.slice B133 m133 d133)) ∧ (w'.cell? ⟨w3.heap.size, 0, none⟩ = some (.bool s134) ∧ w'.cell? ⟨w3.heap.size, 1, none⟩ = some (.slice A134 n134 c134) ∧ w'.cell? ⟨w3.heap.size, 2, none⟩ = some (.slice B134 m134 d134)) ∧ (w'.cell? ⟨w18.heap.size, 0, none⟩ = some (.bool s135) ∧ w'.cell? ⟨w18.heap.size, 1, none⟩ = some (.slice A135 n135 c135) ∧ w'.cell? ⟨w18.heap.size, 2, none⟩ = some (.slice B135 m135 d135)) ∧ (w'.cell? ⟨w21.heap.size, 0, none⟩ = some (.bool s136) ∧ w'.cell? ⟨w21.heap.size, 1, none⟩ = some (.slice A136 n136 c136) ∧ w'.cell? ⟨w21.heap.size, 2, none⟩ = some (.slice B136 m136 d136)) := fun w' h => ⟨three_cells (at_later hx132 h), three_cells (at_later hx133 h), three_cells (at_later hx134 h), three_cells (at_later hx135 h), three_cells (at_later hx136 h)⟩
          have HSS := hide hS; clear hS
          have HQS := hide (And.intro trivial (And.intro hq132 (And.intro hq133 (And.intro hq134 (And.intro hq135 (And.intro hq136 trivial))))))
          clear hq132 hq133 hq134 hq135 hq136 hx132 hx133 hx134 hx135 hx136
          have hdr : Below w39.heap.size w39 w39.drew := (Below.refl _ _).drew
          go_wp2
          refine till_begin (fun w' => (w'.cell? ⟨w1.heap.size, 0, none⟩ = some (.bool s132) ∧ w'.cell? ⟨w1.heap.size, 1, none⟩ = some (.slice A132 n132 c132) ∧ w'.cell? ⟨w1.heap.size, 2, none⟩ = some (.slice B132 m132 d132)) ∧ (w'.cell? ⟨w2.heap.size, 0, none⟩ = some (.bool s133) ∧ w'.cell? ⟨w2.heap.size, 1, none⟩ = some (.slice A133 n133 c133) ∧ w'.cell? ⟨w2.heap.size, 2, none⟩ = some (.slice B133 m133 d133)) ∧ (w'.cell? ⟨w3.heap.size, 0, none⟩ = some (.bool s134) ∧ w'.cell? ⟨w3.heap.size, 1, none⟩ = some (.slice A134 n134 c134) ∧ w'.cell? ⟨w3.heap.size, 2, none⟩ = some (.slice B134 m134 d134)) ∧ (w'.cell? ⟨w18.heap.size, 0, none⟩ = some (.bool s135) ∧ w'.cell? ⟨w18.heap.size, 1, none⟩ = some (.slice A135 n135 c135) ∧ w'.cell? ⟨w18.heap.size, 2, none⟩ = some (.slice B135 m135 d135)) ∧ (w'.cell? ⟨w21.heap.size, 0, none⟩ = some (.bool s136) ∧ w'.cell? ⟨w21.heap.size, 1, none⟩ = some (.slice A136 n136 c136) ∧ w'.cell? ⟨w21.heap.size, 2, none⟩ = some (.slice B136 m136 d136))) [0, 1, 2, 3, 4, 5, 6, 7, 8, 9, 10, 11, 12, 13, 14, 15, 16, 17, 18, 19, 20, 21, 22, 23, 24, 25, 26, 27] (by kernel_rfl) (HSS.out _ hdr) (fun hHeld => ?_)
          refine till_take (i := 0) (v := ?vv136001) rfl (by kernel_rfl) (by kernel_rfl) (by kernel_rfl) (by kernel_rfl) (fun _ _ _ h => h) (by rfl) ?hy136001 hHeld (some 155) rfl ?rest136001
          case hy136001 => (intro w hSw; (try dsimp only at hSw); first | (go_simp; done) | (go_simp; with_reducible rfl))
          try simp only [Act.put, List.setIfInBounds_toArray, List.set_cons_zero, List.set_cons_succ]
          refine till_take (i := 1) (v := ?vv136002) rfl (by kernel_rfl) (by kernel_rfl) (by kernel_rfl) (by kernel_rfl) (fun _ _ _ h => h) (by rfl) ?hy136002 hHeld (some 156) rfl ?rest136002
          case hy136002 => (intro w hSw; (try dsimp only at hSw); first | (go_simp; done) | (go_simp; with_reducible rfl))
          try simp only [Act.put, List.setIfInBounds_toArray, List.set_cons_zero, List.set_cons_succ]
          refine till_take (i := 4) (v := ?vv136003) rfl (by kernel_rfl) (by kernel_rfl) (by kernel_rfl) (by kernel_rfl) (fun _ _ _ h => h) (by rfl) ?hy136003 hHeld (some 159) rfl ?rest136003
          case hy136003 => (intro w hSw; (try dsimp only at hSw); first | (go_simp; done) | (go_simp; with_reducible rfl))
          try simp only [Act.put, List.setIfInBounds_toArray, List.set_cons_zero, List.set_cons_succ]
          refine till_take (i := 6) (v := ?vv136004) rfl (by kernel_rfl) (by kernel_rfl) (by kernel_rfl) (by kernel_rfl) (fun _ _ _ h => h) (by rfl) ?hy136004 hHeld (some 161) rfl ?rest136004
          case hy136004 => (intro w hSw; (try dsimp only at hSw); first | (go_simp; done) | (go_simp; with_reducible rfl))
          try simp only [Act.put, List.setIfInBounds_toArray, List.set_cons_zero, List.set_cons_succ]
          refine till_ready (rs := [2]) (by kernel_rfl) (by simp) ?_
          refine List.forall_mem_cons.2 ⟨?_, fun _ h => absurd h List.not_mem_nil⟩
          refine till_step rfl (fun K hK => ?_)
          go_simp
          go_at_call 26
          refine (cmp_q _ _ _ (a) (b) 12 ((HQS.out.2.1.below hdr)) ((HQS.out.2.2.1.below hdr)) (by omega)).mono ?_
          rintro e w137 ⟨_, rfl, rfl, hd⟩
          have hg137 : Below w39.heap.size w39 w137 := hdr.trans (hd.mono hdr.size)
          rw [HE.out.1]
          clear hd
          go_wp2_with fail
          refine hK.out _ _ (HSS.out _ hg137) (fun hHeld => ?_)
          clear hK K
          try simp only [Act.put, List.setIfInBounds_toArray, List.set_cons_zero, List.set_cons_succ]
          refine till_take (i := 3) (v := ?vv136005) rfl (by kernel_rfl) (by kernel_rfl) (by kernel_rfl) (by kernel_rfl) (fun _ _ _ h => h) (by rfl) ?hy136005 hHeld (some 158) rfl ?rest136005
          case hy136005 => (intro w hSw; (try dsimp only at hSw); first | (go_simp; done) | (go_simp; with_reducible rfl))
          try simp only [Act.put, List.setIfInBounds_toArray, List.set_cons_zero, List.set_cons_succ]
          refine till_ready (rs := [5]) (by kernel_rfl) (by simp) ?_
          refine List.forall_mem_cons.2 ⟨?_, fun _ h => absurd h List.not_mem_nil⟩
          refine till_step rfl (fun K hK => ?_)
          go_simp
          go_at_call 35
          refine (neg_q _ _ a 12 (HQS.out.2.1.below hg137)).mono ?_
          rintro e w138 ⟨v, rfl, hv, hd⟩
          obtain ⟨s138, A138, n138, c138, B138, m138, d138, rfl⟩ := hv.shape
          have HNa := hide hv
          clear hv
          have hg138 : Below w39.heap.size w39 w138 := hg137.trans (hd.mono hg137.size)
          clear hd
          go_wp2_with fail
          refine hK.out _ _ (HSS.out _ hg138) (fun hHeld => ?_)
          clear hK K
          try simp only [Act.put, List.setIfInBounds_toArray, List.set_cons_zero, List.set_cons_succ]
          refine till_ready (rs := [7]) (by kernel_rfl) (by simp) ?_
          refine List.forall_mem_cons.2 ⟨?_, fun _ h => absurd h List.not_mem_nil⟩
          refine till_step rfl (fun K hK => ?_)
          go_simp
          go_at_call 35
          refine (neg_q _ _ b 12 (HQS.out.2.2.1.below hg138)).mono ?_
          rintro e w139 ⟨v, rfl, hv, hd⟩
          obtain ⟨s139, A139, n139, c139, B139, m139, d139, rfl⟩ := hv.shape
          have HNb := hide hv
          clear hv
          replace HNa := hide (HNa.out.below hd)
          have hg139 : Below w39.heap.size w39 w139 := hg138.trans (hd.mono hg138.size)
          clear hd
          go_wp2_with fail
          refine hK.out _ _ (HSS.out _ hg139) (fun hHeld => ?_)
          clear hK K
          try simp only [Act.put, List.setIfInBounds_toArray, List.set_cons_zero, List.set_cons_succ]
          refine till_ready (rs := [8]) (by kernel_rfl) (by simp) ?_
          refine List.forall_mem_cons.2 ⟨?_, fun _ h => absurd h List.not_mem_nil⟩
          refine till_step rfl (fun K hK => ?_)
          go_simp
          go_at_call 26
          refine (cmp_q _ _ _ (-a) (-b) 12 (HNa.out) (HNb.out) (by omega)).mono ?_
          rintro e w140 ⟨_, rfl, rfl, hd⟩
          have hg140 : Below w39.heap.size w39 w140 := hg139.trans (hd.mono hg139.size)
          rw [HE.out.2.1]
          clear hd
          go_wp2_with fail
          refine hK.out _ _ (HSS.out _ hg140) (fun hHeld => ?_)
          clear hK K
          try simp only [Act.put, List.setIfInBounds_toArray, List.set_cons_zero, List.set_cons_succ]
          refine till_take (i := 9) (v := ?vv136006) rfl (by kernel_rfl) (by kernel_rfl) (by kernel_rfl) (by kernel_rfl) (fun _ _ _ h => h) (by rfl) ?hy136006 hHeld (some 164) rfl ?rest136006
          case hy136006 => (intro w hSw; (try dsimp only at hSw); first | (go_simp; done) | (go_simp; with_reducible rfl))
          try simp only [Act.put, List.setIfInBounds_toArray, List.set_cons_zero, List.set_cons_succ]
          refine till_take (i := 10) (v := ?vv136007) rfl (by kernel_rfl) (by kernel_rfl) (by kernel_rfl) (by kernel_rfl) (fun _ _ _ h => h) (by rfl) ?hy136007 hHeld (some 165) rfl ?rest136007
          case hy136007 => (intro w hSw; (try dsimp only at hSw); first | (go_simp; done) | (go_simp; with_reducible rfl))
          try simp only [Act.put, List.setIfInBounds_toArray, List.set_cons_zero, List.set_cons_succ]
          refine till_take (i := 11) (v := ?vv136008) rfl (by kernel_rfl) (by kernel_rfl) (by kernel_rfl) (by kernel_rfl) (fun _ _ _ h => h) (by rfl) ?hy136008 hHeld (some 166) rfl ?rest136008
          case hy136008 => (intro w hSw; (try dsimp only at hSw); first | (go_simp; done) | (go_simp; with_reducible rfl))
          try simp only [Act.put, List.setIfInBounds_toArray, List.set_cons_zero, List.set_cons_succ]
          refine till_take (i := 12) (v := ?vv136009) rfl (by kernel_rfl) (by kernel_rfl) (by kernel_rfl) (by kernel_rfl) (fun _ _ _ h => h) (by rfl) ?hy136009 hHeld (some 167) rfl ?rest136009
          case hy136009 => (intro w hSw; (try dsimp only at hSw); first | (go_simp; done) | (go_simp; with_reducible rfl))
          try simp only [Act.put, List.setIfInBounds_toArray, List.set_cons_zero, List.set_cons_succ]
          refine till_ready (rs := [13]) (by kernel_rfl) (by simp) ?_
          refine List.forall_mem_cons.2 ⟨?_, fun _ h => absurd h List.not_mem_nil⟩
          refine till_step rfl (fun K hK => ?_)
          go_simp
          go_at_call 33
          refine (sign_q _ _ (c) 12 (HQS.out.2.2.2.1.below hg140)).mono ?_
          rintro e w141 ⟨_, rfl, rfl, hd⟩
          have hg141 : Below w39.heap.size w39 w141 := hg140.trans (hd.mono hg140.size)
          rw [HE.out.2.2.1]
          clear hd
          go_wp2_with fail
          refine hK.out _ _ (HSS.out _ hg141) (fun hHeld => ?_)
          clear hK K
          try simp only [Act.put, List.setIfInBounds_toArray, List.set_cons_zero, List.set_cons_succ]
          refine till_take (i := 14) (v := ?vv136010) rfl (by kernel_rfl) (by kernel_rfl) (by kernel_rfl) (by kernel_rfl) (fun _ _ _ h => h) (by rfl) ?hy136010 hHeld (some 169) rfl ?rest136010
          case hy136010 => (intro w hSw; (try dsimp only at hSw); first | (go_simp; done) | (go_simp; with_reducible rfl))
          try simp only [Act.put, List.setIfInBounds_toArray, List.set_cons_zero, List.set_cons_succ]
          refine till_take (i := 15) (v := ?vv136011) rfl (by kernel_rfl) (by kernel_rfl) (by kernel_rfl) (by kernel_rfl) (fun _ _ _ h => h) (by rfl) ?hy136011 hHeld (some 170) rfl ?rest136011
          case hy136011 => (intro w hSw; (try dsimp only at hSw); first | (go_simp; done) | (go_simp; with_reducible rfl))
          try simp only [Act.put, List.setIfInBounds_toArray, List.set_cons_zero, List.set_cons_succ]
          refine till_skip (i := 16) rfl (by kernel_rfl) (by kernel_rfl) (by kernel_rfl) (by kernel_rfl) (fun _ _ _ h => h) (by rfl) hHeld (some 171) rfl ?_
          try simp only [Act.put, List.setIfInBounds_toArray, List.set_cons_zero, List.set_cons_succ]
          refine till_skip (i := 17) rfl (by kernel_rfl) (by kernel_rfl) (by kernel_rfl) (by kernel_rfl) (fun _ _ _ h => h) (by rfl) hHeld (some 172) rfl ?_
          try simp only [Act.put, List.setIfInBounds_toArray, List.set_cons_zero, List.set_cons_succ]
          refine till_skip (i := 18) rfl (by kernel_rfl) (by kernel_rfl) (by kernel_rfl) (by kernel_rfl) (fun _ _ _ h => h) (by rfl) hHeld (some 173) rfl ?_
          try simp only [Act.put, List.setIfInBounds_toArray, List.set_cons_zero, List.set_cons_succ]
          refine till_skip (i := 19) rfl (by kernel_rfl) (by kernel_rfl) (by kernel_rfl) (by kernel_rfl) (fun _ _ _ h => h) (by rfl) hHeld (some 174) rfl ?_
          try simp only [Act.put, List.setIfInBounds_toArray, List.set_cons_zero, List.set_cons_succ]
          refine till_take (i := 20) (v := ?vv136016) rfl (by kernel_rfl) (by kernel_rfl) (by kernel_rfl) (by kernel_rfl) (fun _ _ _ h => h) (by rfl) ?hy136016 hHeld (some 175) rfl ?rest136016
          case hy136016 => (intro w hSw; (try dsimp only at hSw); first | (go_simp; done) | (go_simp; with_reducible rfl))
          try simp only [Act.put, List.setIfInBounds_toArray, List.set_cons_zero, List.set_cons_succ]
          refine till_take (i := 21) (v := ?vv136017) rfl (by kernel_rfl) (by kernel_rfl) (by kernel_rfl) (by kernel_rfl) (fun _ _ _ h => h) (by rfl) ?hy136017 hHeld (some 176) rfl ?rest136017
          case hy136017 => (intro w hSw; (try dsimp only at hSw); first | (go_simp; done) | (go_simp; with_reducible rfl))
          try simp only [Act.put, List.setIfInBounds_toArray, List.set_cons_zero, List.set_cons_succ]
          refine till_skip (i := 22) rfl (by kernel_rfl) (by kernel_rfl) (by kernel_rfl) (by kernel_rfl) (fun _ _ _ h => h) (by rfl) hHeld (some 177) rfl ?_
          try simp only [Act.put, List.setIfInBounds_toArray, List.set_cons_zero, List.set_cons_succ]
          refine till_skip (i := 23) rfl (by kernel_rfl) (by kernel_rfl) (by kernel_rfl) (by kernel_rfl) (fun _ _ _ h => h) (by rfl) hHeld (some 178) rfl ?_
          try simp only [Act.put, List.setIfInBounds_toArray, List.set_cons_zero, List.set_cons_succ]
          refine till_skip (i := 24) rfl (by kernel_rfl) (by kernel_rfl) (by kernel_rfl) (by kernel_rfl) (fun _ _ _ h => h) (by rfl) hHeld (some 179) rfl ?_
          try simp only [Act.put, List.setIfInBounds_toArray, List.set_cons_zero, List.set_cons_succ]
          refine till_skip (i := 25) rfl (by kernel_rfl) (by kernel_rfl) (by kernel_rfl) (by kernel_rfl) (fun _ _ _ h => h) (by rfl) hHeld (some 180) rfl ?_
          try simp only [Act.put, List.setIfInBounds_toArray, List.set_cons_zero, List.set_cons_succ]
          refine till_take (i := 26) (v := ?vv136022) rfl (by kernel_rfl) (by kernel_rfl) (by kernel_rfl) (by kernel_rfl) (fun _ _ _ h => h) (by rfl) ?hy136022 hHeld (some 181) rfl ?rest136022
          case hy136022 => (intro w hSw; (try dsimp only at hSw); first | (go_simp; done) | (go_simp; with_reducible rfl))
          try simp only [Act.put, List.setIfInBounds_toArray, List.set_cons_zero, List.set_cons_succ]
          refine till_take (i := 27) (v := ?vv136023) rfl (by kernel_rfl) (by kernel_rfl) (by kernel_rfl) (by kernel_rfl) (fun _ _ _ h => h) (by rfl) ?hy136023 hHeld (some 182) rfl ?rest136023
          case hy136023 => (intro w hSw; (try dsimp only at hSw); first | (go_simp; done) | (go_simp; with_reducible rfl))
          try simp only [Act.put, List.setIfInBounds_toArray, List.set_cons_zero, List.set_cons_succ]
          refine till_done (by kernel_rfl) ?_ _
          clear hHeld
          go_wp2_with fail
          go_meet
          exact ⟨rfl, hg141⟩
  case rest =>
    obtain ⟨rfl, hd⟩ := hcut
    replace HBa := hide (HBa.out.below hd)
    replace HBb := hide (HBb.out.below hd)
    replace HBc := hide (HBc.out.below hd)
    replace HBab := hide (HBab.out.below hd)
    replace HBba := hide (HBba.out.below hd)
    replace HBbc := hide (HBbc.out.below hd)
    replace HBx := hide (HBx.out.below hd)
    replace HBac := hide (HBac.out.below hd)
    replace HBbd := hide (HBbd.out.below hd)
    replace HBy := hide (HBy.out.below hd)
    replace HBz := hide (HBz.out.below hd)
    replace HBw := hide (HBw.out.below hd)
    replace HW := hide (below_next HW.out hd)
    clear hd
    by_cases hc0 : c = 0
    · as_aux_lemma =>
        have e0 := hide (show sgnQ c = 0 by rw [hc0]; rfl)
        clear hc0
        obtain ⟨s143, A143, n143, c143, B143, m143, d143, hx143, hq143⟩ := HBc.out
        obtain ⟨k143a, k143b, k143c⟩ := three_cells hx143
        clear hx143
        go_wp2_with fail
        clear k143a k143b k143c
        refine (sign_q _ _ c 12 hq143).mono ?_
        rintro e w144 ⟨_, rfl, rfl, hd⟩
        rw [e0.out]
        clear hq143
        replace HBa := hide (HBa.out.below hd)
        replace HBb := hide (HBb.out.below hd)
        replace HBc := hide (HBc.out.below hd)
        replace HBab := hide (HBab.out.below hd)
        replace HBba := hide (HBba.out.below hd)
        replace HBbc := hide (HBbc.out.below hd)
        replace HBx := hide (HBx.out.below hd)
        replace HBac := hide (HBac.out.below hd)
        replace HBbd := hide (HBbd.out.below hd)
        replace HBy := hide (HBy.out.below hd)
        replace HBz := hide (HBz.out.below hd)
        replace HBw := hide (HBw.out.below hd)
        replace HW := hide (below_next HW.out hd)
        clear hd
        go_wp2_with fail
        refine (awake_c _).mono ?_
        rintro e wz ⟨_, rfl, rfl, hd⟩
        have HB := hide (below_next HW.out hd)
        clear hd
        go_wp2
        go_ret
        exact ⟨_, rfl, rfl, HB.out⟩
    · as_aux_lemma =>
        obtain ⟨γ, hγ⟩ : ∃ γ, γ = sgnQ c := ⟨_, rfl⟩
        have hγ0 : (γ == 0) = false := by
          rw [beq_eq_false_iff_ne, hγ]
          rcases sgnQ_cases c with ⟨ec, pc⟩ | ⟨ec, pc⟩ | ⟨ec, pc⟩
          · rw [ec]; omega
          · exact absurd pc hc0
          · rw [ec]; omega
        have Hγ := hide hγ.symm
        clear hγ
        obtain ⟨s145, A145, n145, c145, B145, m145, d145, hx145, hq145⟩ := HBc.out
        obtain ⟨k145a, k145b, k145c⟩ := three_cells hx145
        clear hx145
        go_wp2_with fail
        clear k145a k145b k145c
        refine (sign_q _ _ c 12 hq145).mono ?_
        rintro e w146 ⟨_, rfl, rfl, hd⟩
        rw [Hγ.out]
        clear hq145
        replace HBa := hide (HBa.out.below hd)
        replace HBb := hide (HBb.out.below hd)
        replace HBc := hide (HBc.out.below hd)
        replace HBab := hide (HBab.out.below hd)
        replace HBba := hide (HBba.out.below hd)
        replace HBbc := hide (HBbc.out.below hd)
        replace HBx := hide (HBx.out.below hd)
        replace HBac := hide (HBac.out.below hd)
        replace HBbd := hide (HBbd.out.below hd)
        replace HBy := hide (HBy.out.below hd)
        replace HBz := hide (HBz.out.below hd)
        replace HBw := hide (HBw.out.below hd)
        replace HW := hide (below_next HW.out hd)
        clear hd
        obtain ⟨s147, A147, n147, c147, B147, m147, d147, hx147, hq147⟩ := HBac.out
        obtain ⟨k147a, k147b, k147c⟩ := three_cells hx147
        clear hx147
        obtain ⟨s148, A148, n148, c148, B148, m148, d148, hx148, hq148⟩ := HBc.out
        obtain ⟨k148a, k148b, k148c⟩ := three_cells hx148
        clear hx148
        go_wp2_with fail
        clear k147a k147b k147c k148a k148b k148c
        refine (quo_q _ _ _ (a * c) (c) 28 (hq147) (hq148.more (show 12 ≤ 28 by omega)) (by omega) hc0).mono ?_
        rintro e w149 ⟨_, rfl, hd, hor⟩
        rcases hor with ⟨_, v, rfl, hv⟩ | ⟨hs, _⟩
        rotate_left
        · exact absurd ((((fac).div (hgc.more (show 12 ≤ 28 by omega)) hc0).more (show 2 * 28 + 3 ≤ 60 by omega)).smallQ (by omega)) hs
        obtain ⟨s149, A149, n149, c149, B149, m149, d149, rfl⟩ := hv.shape
        clear hq147 hq148
        obtain ⟨W149, hW149⟩ : ∃ W149, W149 = w149.alloc (.cells #[.bool s149, .slice A149 n149 c149, .slice B149 m149 d149] 35) := ⟨_, rfl⟩
        have hda : Below w149.heap.size w149 W149 := by rw [hW149]; exact (Below.refl _ _).alloc (Nat.le_refl _) _
        have hdn := below_next hd hda
        have HBq := hide (show BoxR W149 w149.heap.size ((a * c) / (c)) (60) from ⟨_, _, _, _, _, _, _, by rw [hW149]; exact at_new _ _, hv.below hda⟩)
        replace HBa := hide (HBa.out.below hdn)
        replace HBb := hide (HBb.out.below hdn)
        replace HBc := hide (HBc.out.below hdn)
        replace HBab := hide (HBab.out.below hdn)
        replace HBba := hide (HBba.out.below hdn)
        replace HBbc := hide (HBbc.out.below hdn)
        replace HBx := hide (HBx.out.below hdn)
        replace HBac := hide (HBac.out.below hdn)
        replace HBbd := hide (HBbd.out.below hdn)
        replace HBy := hide (HBy.out.below hdn)
        replace HBz := hide (HBz.out.below hdn)
        replace HBw := hide (HBw.out.below hdn)
        replace HW := hide (below_next HW.out hdn)
        skip
        have HL := hide hW149
        clear hW149 hd hda hdn hv
        have fq := ((fac).div (hgc.more (show 12 ≤ 28 by omega)) hc0).more (show 2 * 28 + 3 ≤ 60 by omega)
        go_upto_region 20 with fail
        rw [← HL.out]
        go_cut [29, 30] (fun s29 s30 wx => (∃ g : Nat, s29 = .pointer (some ⟨g, 0, none⟩) ∧ W149.heap.size ≤ g ∧ BoxR wx g (a - ((flQ a : Int) : Rat)) 30 ∧ Below W149.heap.size W149 wx) ∧ s30 = .int .i64 0)
        case first =>
          as_aux_lemma =>
            obtain ⟨s150, A150, n150, c150, B150, m150, d150, hx150, hq150⟩ := HBa.out
            have hS : ∀ w', Below W149.heap.size W149 w' → w'.cell? ⟨w1.heap.size, 0, none⟩ = some (.bool s150) ∧ w'.cell? ⟨w1.heap.size, 1, none⟩ = some (.slice A150 n150 c150) ∧ w'.cell? ⟨w1.heap.size, 2, none⟩ = some (.slice B150 m150 d150) := fun w' h => three_cells (at_later hx150 h)
            have hS0 := hS _ (Below.refl _ _).drew
            have hS1 := fun o => hS _ ((Below.refl _ _).alloc (Nat.le_refl _) o).drew
            have hS2 := fun o => hS _ ((Below.refl _ _).drew.alloc (Nat.le_refl _) o)
            have HSS := hide hS
            have HS1 := hide (And.intro hS1 hS2)
            have HA := hide hq150
            clear hS hS1 hS2 hx150 hq150
            go_region_held3 (fun w' => w'.cell? ⟨w1.heap.size, 0, none⟩ = some (.bool s150) ∧ w'.cell? ⟨w1.heap.size, 1, none⟩ = some (.slice A150 n150 c150) ∧ w'.cell? ⟨w1.heap.size, 2, none⟩ = some (.slice B150 m150 d150))
              (first | (with_reducible exact hS0) | (with_reducible exact HSS.out _ hg4) | (with_reducible exact HSS.out _ hg5) | (with_reducible exact HS1.out.1 _) | (with_reducible exact HS1.out.2 _) | (exact HSS.out _ (hg4.alloc hg4.size _)) | (exact HSS.out _ (hg5.alloc hg5.size _)) | (exact HSS.out _ (below_set3 hg5 (by have := hg4.size; omega) _ _ _)))
              (first
                | (go_at_call 29; refine (floor_q _ _ a 12 (by first | exact HA.out.below (Below.refl _ _).drew | exact HA.out.below ((Below.refl _ _).drew.alloc (Nat.le_refl _) _) | exact HA.out.below ((Below.refl _ _).alloc (Nat.le_refl _) _).drew) (by omega)).mono ?_; rintro e w4 ⟨v4, rfl, hv4, hd4⟩
                   have hg4 : Below W149.heap.size W149 w4 := by (first | exact (Below.refl _ _).drew.trans hd4 | exact ((Below.refl _ _).drew.alloc (Nat.le_refl _) _).trans (hd4.mono (by simp)) | exact ((Below.refl _ _).alloc (Nat.le_refl _) _).drew.trans (hd4.mono (by simp)))
                   try (simp only [size_alloc_drew] at hd4; obtain ⟨k0, k1, k2, f0, f1, f2, kb⟩ := box3d (w := W149) ((Below.refl _ _).drew.trans hd4) W149.heap.size rfl)
                   obtain ⟨s4, A4, n4, c4, B4, m4, d4, rfl⟩ := hv4.shape
                   have HV4 := hide hv4; clear hv4 hd4)
                | (go_at_call 19; refine (sub_q _ _ _ a ((flQ a : Int) : Rat) 13 (by first | exact (HA.out.below hg4).more (by omega) | exact ((HA.out.below hg4).below ((Below.refl _ _).alloc (Nat.le_refl _) _)).more (by omega)) (by first | exact HV4.out | exact HV4.out.below ((Below.refl _ _).alloc (Nat.le_refl _) _)) (by omega)).mono ?_; rintro e w5 ⟨_, rfl, hd5, hor⟩
                   rcases hor with ⟨_, v5, rfl, hv5⟩ | ⟨hs, _⟩
                   rotate_left
                   exact absurd (((hga.more (show 12 ≤ 13 by omega)).sub HV4.out.fits).smallQ (by omega)) hs
                   have he5 : Below w4.heap.size w4 w5 := by (first | exact hd5 | exact ((Below.refl _ _).alloc (Nat.le_refl _) _).trans (hd5.mono (by simp)))
                   have hg5 : Below W149.heap.size W149 w5 := hg4.trans (he5.mono hg4.size)
                   try (have kk := keep3 he5 kb; clear k0 k1 k2 f0 f1 f2 kb; obtain ⟨k0, k1, k2, f0, f1, f2, kb⟩ := kk)
                   try (simp only [size_alloc] at hd5; obtain ⟨k0, k1, k2, f0, f1, f2, kb⟩ := box3d hd5 w4.heap.size rfl)
                   obtain ⟨s5, A5, n5, c5, B5, m5, d5, rfl⟩ := hv5.shape
                   have HV5 := hide hv5; clear hv5 hd5))
            all_goals go_wp2_with fail
            all_goals go_meet
            all_goals (first | with_reducible exact ⟨BoxR.made hg5 HV5.out, rfl⟩ | exact ⟨BoxR.stored (by have := hg4.size; omega) hg5 HV5.out kb, rfl⟩)
        case rest =>
          as_aux_lemma =>
            obtain ⟨⟨g, rfl, hg0, hbox, hd⟩, rfl⟩ := hcut
            clear HL
            have HBd := hide hbox
            clear hbox
            replace HBa := hide (HBa.out.below hd)
            replace HBb := hide (HBb.out.below hd)
            replace HBc := hide (HBc.out.below hd)
            replace HBab := hide (HBab.out.below hd)
            replace HBba := hide (HBba.out.below hd)
            replace HBbc := hide (HBbc.out.below hd)
            replace HBx := hide (HBx.out.below hd)
            replace HBac := hide (HBac.out.below hd)
            replace HBbd := hide (HBbd.out.below hd)
            replace HBy := hide (HBy.out.below hd)
            replace HBz := hide (HBz.out.below hd)
            replace HBw := hide (HBw.out.below hd)
            replace HBq := hide (HBq.out.below hd)
            replace HW := hide (below_next HW.out hd)
            clear hd
            obtain ⟨η, hη⟩ : ∃ η, η = sgnQ (a - ((flQ a : Int) : Rat)) := ⟨_, rfl⟩
            have hfl := fl_sgn a
            rw [← hη] at hfl
            have hη0 := hfl.1
            have HF := hide (And.intro hη.symm (And.intro hfl.2 (sgnQ_zero (show a * c / c = a from Rat.mul_div_cancel hc0))))
            clear hη hfl
            obtain ⟨s151, A151, n151, c151, B151, m151, d151, hx151, hq151⟩ := HBq.out
            obtain ⟨s152, A152, n152, c152, B152, m152, d152, hx152, hq152⟩ := HBa.out
            obtain ⟨s153, A153, n153, c153, B153, m153, d153, hx153, hq153⟩ := HBd.out
            have hS : ∀ w', Below wc.heap.size wc w' → (w'.cell? ⟨w149.heap.size, 0, none⟩ = some (.bool s151) ∧ w'.cell? ⟨w149.heap.size, 1, none⟩ = some (.slice A151 n151 c151) ∧ w'.cell? ⟨w149.heap.size, 2, none⟩ = some (.slice B151 m151 d151)) ∧ (w'.cell? ⟨w1.heap.size, 0, none⟩ = some (.bool s152) ∧ w'.cell? ⟨w1.heap.size, 1, none⟩ = some (.slice A152 n152 c152) ∧ w'.cell? ⟨w1.heap.size, 2, none⟩ = some (.slice B152 m152 d152)) ∧ (w'.cell? ⟨g, 0, none⟩ = some (.bool s153) ∧ w'.cell? ⟨g, 1, none⟩ = some (.slice A153 n153 c153) ∧ w'.cell? ⟨g, 2, none⟩ = some (.slice B153 m153 d153)) := fun w' h => ⟨three_cells (at_later hx151 h), three_cells (at_later hx152 h), three_cells (at_later hx153 h)⟩
            have HSS := hide hS; clear hS
            have HQS := hide (And.intro trivial (And.intro hq151 (And.intro hq152 (And.intro hq153 trivial))))
            clear hq151 hq152 hq153 hx151 hx152 hx153
            have hdr : Below wc.heap.size wc wc.drew := (Below.refl _ _).drew
            go_wp2
            refine till_begin (fun w' => (w'.cell? ⟨w149.heap.size, 0, none⟩ = some (.bool s151) ∧ w'.cell? ⟨w149.heap.size, 1, none⟩ = some (.slice A151 n151 c151) ∧ w'.cell? ⟨w149.heap.size, 2, none⟩ = some (.slice B151 m151 d151)) ∧ (w'.cell? ⟨w1.heap.size, 0, none⟩ = some (.bool s152) ∧ w'.cell? ⟨w1.heap.size, 1, none⟩ = some (.slice A152 n152 c152) ∧ w'.cell? ⟨w1.heap.size, 2, none⟩ = some (.slice B152 m152 d152)) ∧ (w'.cell? ⟨g, 0, none⟩ = some (.bool s153) ∧ w'.cell? ⟨g, 1, none⟩ = some (.slice A153 n153 c153) ∧ w'.cell? ⟨g, 2, none⟩ = some (.slice B153 m153 d153))) [0, 1, 2, 3, 4, 5, 6, 7, 8, 9, 10, 11, 12, 13, 14, 15, 16, 17, 18, 19, 20, 21, 22, 23, 24, 25, 26] (by kernel_rfl) (HSS.out _ hdr) (fun hHeld => ?_)
            refine till_take (i := 0) (v := ?vv153001) rfl (by kernel_rfl) (by kernel_rfl) (by kernel_rfl) (by kernel_rfl) (fun _ _ _ h => h) (by rfl) ?hy153001 hHeld (some 200) rfl ?rest153001
            case hy153001 => (intro w hSw; (try dsimp only at hSw); first | (go_simp; done) | (go_simp; with_reducible rfl))
            try simp only [Act.put, List.setIfInBounds_toArray, List.set_cons_zero, List.set_cons_succ]
            refine till_take (i := 1) (v := ?vv153002) rfl (by kernel_rfl) (by kernel_rfl) (by kernel_rfl) (by kernel_rfl) (fun _ _ _ h => h) (by rfl) ?hy153002 hHeld (some 201) rfl ?rest153002
            case hy153002 => (intro w hSw; (try dsimp only at hSw); first | (go_simp; done) | (go_simp; with_reducible rfl))
            try simp only [Act.put, List.setIfInBounds_toArray, List.set_cons_zero, List.set_cons_succ]
            refine till_take (i := 2) (v := ?vv153003) rfl (by kernel_rfl) (by kernel_rfl) (by kernel_rfl) (by kernel_rfl) (fun _ _ _ h => h) (by rfl) ?hy153003 hHeld (some 202) rfl ?rest153003
            case hy153003 => (intro w hSw; (try dsimp only at hSw); first | (go_simp; done) | (go_simp; with_reducible rfl))
            try simp only [Act.put, List.setIfInBounds_toArray, List.set_cons_zero, List.set_cons_succ]
            refine till_take (i := 3) (v := ?vv153004) rfl (by kernel_rfl) (by kernel_rfl) (by kernel_rfl) (by kernel_rfl) (fun _ _ _ h => h) (by rfl) ?hy153004 hHeld (some 203) rfl ?rest153004
            case hy153004 => (intro w hSw; (try dsimp only at hSw); first | (go_simp; done) | (go_simp; with_reducible rfl))
            try simp only [Act.put, List.setIfInBounds_toArray, List.set_cons_zero, List.set_cons_succ]
            refine till_take (i := 4) (v := ?vv153005) rfl (by kernel_rfl) (by kernel_rfl) (by kernel_rfl) (by kernel_rfl) (fun _ _ _ h => h) (by rfl) ?hy153005 hHeld (some 204) rfl ?rest153005
            case hy153005 => (intro w hSw; (try dsimp only at hSw); first | (go_simp; done) | (go_simp; with_reducible rfl))
            try simp only [Act.put, List.setIfInBounds_toArray, List.set_cons_zero, List.set_cons_succ]
            refine till_take (i := 5) (v := ?vv153006) rfl (by kernel_rfl) (by kernel_rfl) (by kernel_rfl) (by kernel_rfl) (fun _ _ _ h => h) (by rfl) ?hy153006 hHeld (some 205) rfl ?rest153006
            case hy153006 => (intro w hSw; (try dsimp only at hSw); first | (go_simp; done) | (go_simp; with_reducible rfl))
            try simp only [Act.put, List.setIfInBounds_toArray, List.set_cons_zero, List.set_cons_succ]
            refine till_take (i := 6) (v := ?vv153007) rfl (by kernel_rfl) (by kernel_rfl) (by kernel_rfl) (by kernel_rfl) (fun _ _ _ h => h) (by rfl) ?hy153007 hHeld (some 206) rfl ?rest153007
            case hy153007 => (intro w hSw; (try dsimp only at hSw); first | (go_simp; done) | (go_simp; with_reducible rfl))
            try simp only [Act.put, List.setIfInBounds_toArray, List.set_cons_zero, List.set_cons_succ]
            refine till_take (i := 7) (v := ?vv153008) rfl (by kernel_rfl) (by kernel_rfl) (by kernel_rfl) (by kernel_rfl) (fun _ _ _ h => h) (by rfl) ?hy153008 hHeld (some 207) rfl ?rest153008
            case hy153008 => (intro w hSw; (try dsimp only at hSw); first | (go_simp; done) | (go_simp; with_reducible rfl))
            try simp only [Act.put, List.setIfInBounds_toArray, List.set_cons_zero, List.set_cons_succ]
            refine till_take (i := 8) (v := ?vv153009) rfl (by kernel_rfl) (by kernel_rfl) (by kernel_rfl) (by kernel_rfl) (fun _ _ _ h => h) (by rfl) ?hy153009 hHeld (some 208) rfl ?rest153009
            case hy153009 => (intro w hSw; (try dsimp only at hSw); first | (go_simp; done) | (go_simp; with_reducible rfl))
            try simp only [Act.put, List.setIfInBounds_toArray, List.set_cons_zero, List.set_cons_succ]
            refine till_ready (rs := [9]) (by kernel_rfl) (by simp) ?_
            refine List.forall_mem_cons.2 ⟨?_, fun _ h => absurd h List.not_mem_nil⟩
            refine till_step rfl (fun K hK => ?_)
            go_simp
            go_at_call 26
            refine (cmp_q _ _ _ (a * c / c) (a) 60 ((HQS.out.2.1.below hdr)) ((HQS.out.2.2.1.below hdr).more (show 12 ≤ 60 by omega)) (by omega)).mono ?_
            rintro e w154 ⟨_, rfl, rfl, hd⟩
            have hg154 : Below wc.heap.size wc w154 := hdr.trans (hd.mono hdr.size)
            rw [HF.out.2.2]
            clear hd
            go_wp2_with fail
            refine hK.out _ _ (HSS.out _ hg154) (fun hHeld => ?_)
            clear hK K
            try simp only [Act.put, List.setIfInBounds_toArray, List.set_cons_zero, List.set_cons_succ]
            refine till_take (i := 10) (v := ?vv153010) rfl (by kernel_rfl) (by kernel_rfl) (by kernel_rfl) (by kernel_rfl) (fun _ _ _ h => h) (by rfl) ?hy153010 hHeld (some 210) rfl ?rest153010
            case hy153010 => (intro w hSw; (try dsimp only at hSw); first | (go_simp; done) | (go_simp; with_reducible rfl))
            try simp only [Act.put, List.setIfInBounds_toArray, List.set_cons_zero, List.set_cons_succ]
            refine till_take (i := 11) (v := ?vv153011) rfl (by kernel_rfl) (by kernel_rfl) (by kernel_rfl) (by kernel_rfl) (fun _ _ _ h => h) (by rfl) ?hy153011 hHeld (some 211) rfl ?rest153011
            case hy153011 => (intro w hSw; (try dsimp only at hSw); first | (go_simp; done) | (go_simp; with_reducible rfl))
            try simp only [Act.put, List.setIfInBounds_toArray, List.set_cons_zero, List.set_cons_succ]
            refine till_take (i := 12) (v := ?vv153012) rfl (by kernel_rfl) (by kernel_rfl) (by kernel_rfl) (by kernel_rfl) (fun _ _ _ h => h) (by rfl) ?hy153012 hHeld (some 212) rfl ?rest153012
            case hy153012 => (intro w hSw; (try dsimp only at hSw); first | (go_simp; done) | (go_simp; with_reducible rfl))
            try simp only [Act.put, List.setIfInBounds_toArray, List.set_cons_zero, List.set_cons_succ]
            refine till_take (i := 13) (v := ?vv153013) rfl (by kernel_rfl) (by kernel_rfl) (by kernel_rfl) (by kernel_rfl) (fun _ _ _ h => h) (by rfl) ?hy153013 hHeld (some 213) rfl ?rest153013
            case hy153013 => (intro w hSw; (try dsimp only at hSw); first | (go_simp; done) | (go_simp; with_reducible rfl))
            try simp only [Act.put, List.setIfInBounds_toArray, List.set_cons_zero, List.set_cons_succ]
            refine till_ready (rs := [14]) (by kernel_rfl) (by simp) ?_
            refine List.forall_mem_cons.2 ⟨?_, fun _ h => absurd h List.not_mem_nil⟩
            refine till_step rfl (fun K hK => ?_)
            go_simp
            go_at_call 33
            refine (sign_q _ _ (a - ((flQ a : Int) : Rat)) 30 (HQS.out.2.2.2.1.below hg154)).mono ?_
            rintro e w155 ⟨_, rfl, rfl, hd⟩
            have hg155 : Below wc.heap.size wc w155 := hg154.trans (hd.mono hg154.size)
            rw [HF.out.1]
            clear hd
            go_wp2_with fail
            refine hK.out _ _ (HSS.out _ hg155) (fun hHeld => ?_)
            clear hK K
            try simp only [Act.put, List.setIfInBounds_toArray, List.set_cons_zero, List.set_cons_succ]
            refine till_take (i := 15) (v := ?vv153014) rfl (by kernel_rfl) (by kernel_rfl) (by kernel_rfl) (by kernel_rfl) (fun _ _ _ h => h) (by rfl) ?hy153014 hHeld (some 215) rfl ?rest153014
            case hy153014 => (intro w hSw; (try dsimp only at hSw); first | (go_simp; done) | (go_simp; with_reducible rfl))
            try simp only [Act.put, List.setIfInBounds_toArray, List.set_cons_zero, List.set_cons_succ]
            refine till_take (i := 16) (v := ?vv153015) rfl (by kernel_rfl) (by kernel_rfl) (by kernel_rfl) (by kernel_rfl) (fun _ _ _ h => h) (by rfl) ?hy153015 hHeld (some 216) rfl ?rest153015
            case hy153015 => (intro w hSw; (try dsimp only at hSw); first | (go_simp; done) | (go_simp; with_reducible rfl))
            try simp only [Act.put, List.setIfInBounds_toArray, List.set_cons_zero, List.set_cons_succ]
            refine till_take (i := 17) (v := ?vv153016) rfl (by kernel_rfl) (by kernel_rfl) (by kernel_rfl) (by kernel_rfl) (fun _ _ _ h => h) (by rfl) ?hy153016 hHeld (some 217) rfl ?rest153016
            case hy153016 => (intro w hSw; (try dsimp only at hSw); first | (go_simp; done) | (go_simp; with_reducible rfl))
            try simp only [Act.put, List.setIfInBounds_toArray, List.set_cons_zero, List.set_cons_succ]
            refine till_take (i := 18) (v := ?vv153017) rfl (by kernel_rfl) (by kernel_rfl) (by kernel_rfl) (by kernel_rfl) (fun _ _ _ h => h) (by rfl) ?hy153017 hHeld (some 218) rfl ?rest153017
            case hy153017 => (intro w hSw; (try dsimp only at hSw); first | (go_simp; done) | (go_simp; with_reducible rfl))
            try simp only [Act.put, List.setIfInBounds_toArray, List.set_cons_zero, List.set_cons_succ]
            refine till_ready (rs := [19]) (by kernel_rfl) (by simp) ?_
            refine List.forall_mem_cons.2 ⟨?_, fun _ h => absurd h List.not_mem_nil⟩
            refine till_step rfl (fun K hK => ?_)
            go_simp
            go_at_call 36
            refine (of_c _ 1 (by omega) (by omega)).mono ?_
            rintro e w156 ⟨v, rfl, hv, hd⟩
            obtain ⟨s156, A156, n156, c156, B156, m156, d156, rfl⟩ := hv.shape
            have HO := hide (hv.more (show 2 ≤ 30 by omega))
            clear hv
            have hg156 : Below wc.heap.size wc w156 := hg155.trans (hd.mono hg155.size)
            clear hd
            go_wp2_with fail
            refine hK.out _ _ (HSS.out _ hg156) (fun hHeld => ?_)
            clear hK K
            try simp only [Act.put, List.setIfInBounds_toArray, List.set_cons_zero, List.set_cons_succ]
            refine till_ready (rs := [20]) (by kernel_rfl) (by simp) ?_
            refine List.forall_mem_cons.2 ⟨?_, fun _ h => absurd h List.not_mem_nil⟩
            refine till_step rfl (fun K hK => ?_)
            go_simp
            go_at_call 26
            refine (cmp_q _ _ _ (a - ((flQ a : Int) : Rat)) (((1 : Int) : Rat)) 30 ((HQS.out.2.2.2.1.below hg156)) (HO.out) (by omega)).mono ?_
            rintro e w157 ⟨_, rfl, rfl, hd⟩
            have hg157 : Below wc.heap.size wc w157 := hg156.trans (hd.mono hg156.size)
            rw [HF.out.2.1]
            clear hd
            go_wp2_with fail
            refine hK.out _ _ (HSS.out _ hg157) (fun hHeld => ?_)
            clear hK K
            try simp only [Act.put, List.setIfInBounds_toArray, List.set_cons_zero, List.set_cons_succ]
            refine till_take (i := 21) (v := ?vv153018) rfl (by kernel_rfl) (by kernel_rfl) (by kernel_rfl) (by kernel_rfl) (fun _ _ _ h => h) (by rfl) ?hy153018 hHeld (some 221) rfl ?rest153018
            case hy153018 => (intro w hSw; (try dsimp only at hSw); first | (go_simp; done) | (go_simp; with_reducible rfl))
            try simp only [Act.put, List.setIfInBounds_toArray, List.set_cons_zero, List.set_cons_succ]
            refine till_take (i := 22) (v := ?vv153019) rfl (by kernel_rfl) (by kernel_rfl) (by kernel_rfl) (by kernel_rfl) (fun _ _ _ h => h) (by rfl) ?hy153019 hHeld (some 222) rfl ?rest153019
            case hy153019 => (intro w hSw; (try dsimp only at hSw); first | (go_simp; done) | (go_simp; with_reducible rfl))
            try simp only [Act.put, List.setIfInBounds_toArray, List.set_cons_zero, List.set_cons_succ]
            refine till_take (i := 23) (v := ?vv153020) rfl (by kernel_rfl) (by kernel_rfl) (by kernel_rfl) (by kernel_rfl) (fun _ _ _ h => h) (by rfl) ?hy153020 hHeld (some 223) rfl ?rest153020
            case hy153020 => (intro w hSw; (try dsimp only at hSw); first | (go_simp; done) | (go_simp; with_reducible rfl))
            try simp only [Act.put, List.setIfInBounds_toArray, List.set_cons_zero, List.set_cons_succ]
            refine till_ready (rs := [24]) (by kernel_rfl) (by simp) ?_
            refine List.forall_mem_cons.2 ⟨?_, fun _ h => absurd h List.not_mem_nil⟩
            refine till_step rfl (fun K hK => ?_)
            go_simp
            go_at_call 17
            refine (awake_c _).mono ?_
            rintro e w158 ⟨_, rfl, rfl, hd⟩
            have hg158 : Below wc.heap.size wc w158 := hg157.trans (hd.mono hg157.size)
            clear hd
            go_wp2_with fail
            refine hK.out _ _ (HSS.out _ hg158) (fun hHeld => ?_)
            clear hK K
            try simp only [Act.put, List.setIfInBounds_toArray, List.set_cons_zero, List.set_cons_succ]
            refine till_take (i := 25) (v := ?vv153021) rfl (by kernel_rfl) (by kernel_rfl) (by kernel_rfl) (by kernel_rfl) (fun _ _ _ h => h) (by rfl) ?hy153021 hHeld (some 225) rfl ?rest153021
            case hy153021 => (intro w hSw; (try dsimp only at hSw); first | (go_simp; done) | (go_simp; with_reducible rfl))
            try simp only [Act.put, List.setIfInBounds_toArray, List.set_cons_zero, List.set_cons_succ]
            refine till_take (i := 26) (v := ?vv153022) rfl (by kernel_rfl) (by kernel_rfl) (by kernel_rfl) (by kernel_rfl) (fun _ _ _ h => h) (by rfl) ?hy153022 hHeld (some 2) rfl ?rest153022
            case hy153022 => (intro w hSw; (try dsimp only at hSw); first | (go_simp; done) | (go_simp; with_reducible rfl))
            try simp only [Act.put, List.setIfInBounds_toArray, List.set_cons_zero, List.set_cons_succ]
            refine till_done (by kernel_rfl) ?_ _
            clear hHeld
            go_wp2
            go_ret
            exact ⟨_, rfl, rfl, below_next HW.out hg158⟩
end Go.Proofs.YthnnbpnocefmgaaGreat
