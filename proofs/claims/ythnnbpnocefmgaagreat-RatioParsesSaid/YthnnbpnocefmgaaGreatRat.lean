/- Walks: fractions. -/
import Derived.Test.YthnnbpnocefmgaaGreatOver
import Derived.Test.YthnnbpnocefmgaaGreatMinus
import Derived.Test.YthnnbpnocefmgaaGreatTimes
import Derived.Deep.RegionHeld3
namespace Go.Proofs.YthnnbpnocefmgaaGreat
set_option linter.unusedVariables false
set_option linter.unusedSimpArgs false
open Go.RowKit
theorem one_c (w : World) : Calls Tryz.prog 79 #[] w (Ret (natR w 1 1)) := by
  go_enter Tryz.func79, Tryz.ntmps79
  go_wp2
  go_ret
  refine ⟨_, rfl, ?_, (Below.refl _ _).alloc (Nat.le_refl _) _⟩
  exact ⟨some ⟨w.heap.size, 0, none⟩, 1, [1], rfl, Nat.le_refl _, by simp [maxLen], Arr.new (xs := [1]) rfl, by intro d hd; simp at hd; subst hd; omega, by simp [Norm], by simp [val], Nat.le_refl _⟩
theorem den_c (w : World) (b : Bool) (n l : Value) (x : Int) (L : Nat) (hl : NatV w l x L) (hL : L ≤ 1073741800) :
    Calls Tryz.prog 77 #[.agg #[.bool b, n, l]] w (Ret (natR w (x + 1) (L + 2))) := by
  obtain ⟨A, c, xs, rfl, hrest⟩ := hl.open_
  have HL := hide hl; clear hl hrest
  go_enter Tryz.func77, Tryz.ntmps77
  go_wp2_with fail
  have hb0 : Below w.heap.size w (w.alloc (.cells #[.bool b, n, .slice A xs.length c] 35)).drew := ((Below.refl _ _).alloc (Nat.le_refl _) _).drew
  have hk : ∀ w', Below (w.heap.size + 1) (w.alloc (.cells #[.bool b, n, .slice A xs.length c] 35)) w' → w'.cell? ⟨w.heap.size, 2, none⟩ = some (.slice A xs.length c) :=
    fun w' h => (h.cell (p := ⟨w.heap.size, 2, none⟩) (by simp)).trans (by simp [World.cell?_alloc_new])
  have HK := hide hk; clear hk
  go_region_held3 (fun w' => w'.cell? ⟨w.heap.size, 2, none⟩ = some (.slice A xs.length c))
    (first | go_keep | exact HK.out _ hc2 | exact HK.out _ hc1)
    (first
      | (go_at_call 79; refine (one_c _).mono ?_; rintro e w1 ⟨u, rfl, h1, hb1⟩; have hc1 : Below (w.heap.size + 1) (w.alloc (.cells #[.bool b, n, .slice A xs.length c] 35)) w1 := (Below.refl _ _).drew.trans (hb1.mono (by simp)))
      | (go_at_call 78; refine (plus_c _ _ _ x 1 L 1 ((HL.out.below hb0).below hb1) h1 (by omega) (by omega)).mono ?_; rintro e w2 ⟨u2, rfl, h2, hb2⟩; have hc2 := hc1.trans (hb2.mono (by have := hc1.size; simp at this; omega))))
  go_wp2
  go_ret
  exact ⟨_, rfl, h2.more (by omega), below_next (below_next hb0 hb1) hb2⟩
/-- a number with its sign -/
def sgd (b : Bool) (x : Int) : Int := if b then -x else x
theorem lowest_num (b : Bool) (x y : Int) (hx : 0 ≤ x) (hy : 0 < y) :
    (Rat.divInt (sgd b x) y).num = sgd b (x / Int.gcd x y) ∧ ((Rat.divInt (sgd b x) y).den : Int) = y / Int.gcd x y := by
  have hg : (y.gcd (sgd b x) : Int) = Int.gcd x y := by
    unfold sgd; cases b <;> simp [Int.gcd_comm]
  constructor
  · rw [Rat.num_divInt, hg, Int.sign_eq_one_of_pos hy, Int.one_mul]
    unfold sgd
    cases b
    · simp
    · simp only [if_true]
      rw [Int.neg_ediv_of_dvd (Int.gcd_dvd_left x y)]
  · rw [Rat.den_divInt, if_neg (by omega)]
    rw [Int.natCast_ediv, hg, Int.natAbs_of_nonneg (by omega)]
theorem lowest_parts (b : Bool) (x y : Int) (hx : 0 ≤ x) (hy : 0 < y) :
    (((Rat.divInt (sgd b x) y).num.natAbs : Int) = x / Int.gcd x y) ∧ ((Rat.divInt (sgd b x) y).den : Int) - 1 = y / Int.gcd x y - 1 ∧
    decide ((Rat.divInt (sgd b x) y).num < 0) = (b && decide (0 < x / Int.gcd x y)) := by
  obtain ⟨h1, h2⟩ := lowest_num b x y hx hy
  have h3 : 0 ≤ x / Int.gcd x y := Int.ediv_nonneg hx (by omega)
  refine ⟨?_, by rw [h2], ?_⟩
  · rw [h1]; unfold sgd; cases b <;> simp <;> omega
  · rw [h1]; unfold sgd; cases b <;> simp <;> omega
theorem lowest_c (w : World) (b : Bool) (n d : Value) (x y : Int) (L : Nat) (hx : NatV w n x L) (hy : NatV w d y L) (hL : L ≤ 1073741800) (hy0 : 0 < y) :
    Calls Tryz.prog 89 #[.bool b, n, d] w (Ret (ratR w (Rat.divInt (sgd b x) y) L)) := by
  have hx0 := hx.nonneg
  have hg0 : (0 : Int) < Int.gcd x y := by
    have := Int.gcd_pos_of_ne_zero_right x (show y ≠ 0 by omega)
    omega
  have hdg : 0 < y / Int.gcd x y := Int.ediv_pos_of_pos_of_dvd hy0 (by omega) (Int.gcd_dvd_right x y)
  have HX := hide (And.intro hx hy); clear hx hy
  go_enter Tryz.func89, Tryz.ntmps89
  go_wp2_with fail
  have hb0 : Below w.heap.size w (w.alloc (.cells #[.bool false, .slice none 0 0, .slice none 0 0] 35)) := (Below.refl _ _).alloc (Nat.le_refl _) _
  refine (divisor_c _ _ _ x y L (HX.out.1.below hb0) (HX.out.2.below hb0) hL).mono ?_
  rintro e w1 ⟨g, rfl, hg, hb1⟩
  have hc1 := below_more (below_start w _) hb1 (by simp)
  have hd1 := below_next hb0 hb1
  have HG := hide hg; clear hg hb0 hb1
  go_wp2_with fail
  refine (over_c _ _ _ x _ L L (HX.out.1.below hd1) HG.out hL hg0).mono ?_
  rintro e w2 ⟨u, rfl, q1, r1, rfl, hq1, hr1, hb2⟩
  have hc2 := below_more hc1 hb2 (by simp)
  have hd2 := below_next hd1 hb2
  obtain ⟨A1, c1, xs1, rfl, hrest⟩ := hq1.open_
  have HQ1 := hide hq1; clear hq1 hr1
  go_wp2_with fail
  refine (over_c _ _ _ y _ L L (HX.out.2.below hd2) (HG.out.below hb2) hL hg0).mono ?_
  rintro e w3 ⟨u, rfl, q2, r2, rfl, hq2, hr2, hb3⟩
  have hc3 := below_more hc2 hb3 (by simp)
  have hd3 := below_next hd2 hb3
  have HQ2 := hide hq2; clear hq2 hr2
  have HR := hide hrest; clear hrest
  have HB3 := hide hb3
  have lp := lowest_parts b x y hx0 hy0
  have hpos : decide (0 < x / Int.gcd x y) = decide (0 < xs1.length) := by
    obtain ⟨_, _, _, r4, r5, r6, _⟩ := HR.out
    rw [← r6, decide_eq_decide]
    constructor
    · intro h
      rcases Nat.eq_zero_or_pos xs1.length with h0 | h0
      · rw [List.eq_nil_of_length_eq_zero h0] at h; simp [val] at h
      · exact h0
    · intro h
      exact val_pos (by omega) r4 r5 (by intro e; rw [e] at h; simp at h)
  rw [hpos] at lp
  have LP := hide lp; clear lp hpos
  cases b
  · go_wp2_with fail
    refine (one_c _).mono ?_
    rintro e w4 ⟨o1, rfl, ho1, hb4⟩
    have hc4 := below_more hc3 hb4 (by simp)
    go_wp2_with fail
    refine (minus_c _ _ _ _ 1 L 1 (HQ2.out.below hb4) ho1 (by omega) (by omega)).mono ?_
    rintro e w5 ⟨l, rfl, hl, hb5⟩
    have hc5 := below_more hc4 hb5 (by simp)
    have hd5 := below_next (below_next hd3 hb4) hb5
    obtain ⟨k0, k1, k2, f0, f1, f2, ks⟩ := box3 hc5
    obtain ⟨A2, c2, xs2, rfl, hrest2⟩ := hl.open_
    have HL := hide hl; clear hl hrest2
    go_wp2
    refine bodyPost_ret (v := .agg #[.bool false, .slice A1 xs1.length c1, .slice A2 xs2.length c2]) ?_ rfl ?_
    · simp [results, Tryz.results89, go_sem, k0, k1, k2, ks]
    have hq := HQ1.out.below (below_next (below_next hb3 hb4) hb5)
    obtain ⟨p1, p2, p3⟩ := LP.out
    refine ⟨_, rfl, ⟨.slice A1 xs1.length c1, .slice A2 xs2.length c2, ?_, ?_, ?_⟩, below_set3 hd5 (Nat.le_refl _) _ _ _⟩
    · rw [p3]; rfl
    · rw [p1]; exact hq.set3 k0 k1 k2
    · rw [p2]; exact HL.out.set3 k0 k1 k2
  · by_cases hxl : 0 < xs1.length
    · have hp : (true && decide (0 < xs1.length)) = true := by simp [hxl]
      have HP := hide hp; clear hp
      go_wp2_with fail
      refine (one_c _).mono ?_
      rintro e w4 ⟨o1, rfl, ho1, hb4⟩
      have hc4 := below_more hc3 hb4 (by simp)
      go_wp2_with fail
      refine (minus_c _ _ _ _ 1 L 1 (HQ2.out.below hb4) ho1 (by omega) (by omega)).mono ?_
      rintro e w5 ⟨l, rfl, hl, hb5⟩
      have hc5 := below_more hc4 hb5 (by simp)
      have hd5 := below_next (below_next hd3 hb4) hb5
      obtain ⟨k0, k1, k2, f0, f1, f2, ks⟩ := box3 hc5
      obtain ⟨A2, c2, xs2, rfl, hrest2⟩ := hl.open_
      have HL := hide hl; clear hl hrest2
      go_wp2
      refine bodyPost_ret (v := .agg #[.bool true, .slice A1 xs1.length c1, .slice A2 xs2.length c2]) ?_ rfl ?_
      · simp [results, Tryz.results89, go_sem, k0, k1, k2, ks]
      have hq := HQ1.out.below (below_next (below_next hb3 hb4) hb5)
      obtain ⟨p1, p2, p3⟩ := LP.out
      refine ⟨_, rfl, ⟨.slice A1 xs1.length c1, .slice A2 xs2.length c2, ?_, ?_, ?_⟩, below_set3 hd5 (Nat.le_refl _) _ _ _⟩
      · rw [p3, HP.out]
      · rw [p1]; exact hq.set3 k0 k1 k2
      · rw [p2]; exact HL.out.set3 k0 k1 k2
    · have hp : (true && decide (0 < xs1.length)) = false := by rw [Bool.true_and]; exact decide_eq_false hxl
      have HP := hide hp; clear hp
      obtain rfl : xs1 = [] := List.eq_nil_of_length_eq_zero (by omega)
      go_wp2_with fail
      refine (one_c _).mono ?_
      rintro e w4 ⟨o1, rfl, ho1, hb4⟩
      have hc4 := below_more hc3 hb4 (by simp)
      go_wp2_with fail
      refine (minus_c _ _ _ _ 1 L 1 (HQ2.out.below hb4) ho1 (by omega) (by omega)).mono ?_
      rintro e w5 ⟨l, rfl, hl, hb5⟩
      have hc5 := below_more hc4 hb5 (by simp)
      have hd5 := below_next (below_next hd3 hb4) hb5
      obtain ⟨k0, k1, k2, f0, f1, f2, ks⟩ := box3 hc5
      obtain ⟨A2, c2, xs2, rfl, hrest2⟩ := hl.open_
      have HL := hide hl; clear hl hrest2
      go_wp2
      refine bodyPost_ret (v := .agg #[.bool false, .slice A1 0 c1, .slice A2 xs2.length c2]) ?_ rfl ?_
      · simp [results, Tryz.results89, go_sem, k0, k1, k2, ks]
      have hq := HQ1.out.below (below_next (below_next hb3 hb4) hb5)
      obtain ⟨p1, p2, p3⟩ := LP.out
      refine ⟨_, rfl, ⟨.slice A1 0 c1, .slice A2 xs2.length c2, ?_, ?_, ?_⟩, below_set3 hd5 (Nat.le_refl _) _ _ _⟩
      · rw [p3, HP.out]
      · rw [p1]; exact hq.set3 k0 k1 k2
      · rw [p2]; exact HL.out.set3 k0 k1 k2
end Go.Proofs.YthnnbpnocefmgaaGreat
