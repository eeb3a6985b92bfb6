/- Walks: quotients and the order of fractions (a part of Calc2, for a seat without Floor, Sub and frac). -/
import Derived.Test.YthnnbpnocefmgaaCalc
import Derived.Test.YthnnbpnocefmgaaRat6
import Derived.Test.YthnnbpnocefmgaaParse
import Derived.Deep.RegionHeld3
namespace Go.Proofs.Ythnnbpnocefmgaa
set_option linter.unusedVariables false
set_option linter.unusedSimpArgs false
open Go.RowKit
theorem quo_q (w : World) (a b : Value) (p q : Rat) (L : Nat) (ha : RatV w a p L) (hb : RatV w b q L) (hL : L ≤ 268435456) (hq0 : q ≠ 0) :
    Calls Try.prog 17 #[a, b] w (Ret (doneR w (p / q) (2 * L + 4))) := by
  have hmf : ∀ (fn : Fn) (first cap : Array Value) (w : World), (Instr.makeFunc fn first cap).run Try.prog w = .ok (.func fn first cap) w := fun _ _ _ _ => rfl
  have hz0 : decide (q = 0) = false := decide_eq_false hq0
  have HZ := hide (And.intro hz0 hq0); clear hz0 hq0
  have HA := hide (And.intro ha hb)
  obtain ⟨n1, l1, rfl, h1, g1⟩ := ha
  obtain ⟨n2, l2, rfl, h2, g2⟩ := hb
  obtain ⟨A1, c1, xs1, rfl, _⟩ := h1.open_
  obtain ⟨A2, c2, xs2, rfl, _⟩ := g1.open_
  obtain ⟨A3, c3, xs3, rfl, _⟩ := h2.open_
  obtain ⟨A4, c4, xs4, rfl, _⟩ := g2.open_
  clear h1 g1 h2 g2
  obtain ⟨b1, hs1⟩ : ∃ s, s = decide (p.num < 0) := ⟨_, rfl⟩
  obtain ⟨b2, hs2⟩ : ∃ s, s = decide (q.num < 0) := ⟨_, rfl⟩
  rw [← hs1, ← hs2] at HA
  rw [← hs1, ← hs2]
  clear hs1 hs2
  have hb0 : Below w.heap.size w (((w.alloc (.cells #[.bool b1, .slice A1 xs1.length c1, .slice A2 xs2.length c2] 25)).alloc (.cells #[.bool b2, .slice A3 xs3.length c3, .slice A4 xs4.length c4] 25)).alloc (.cells #[.bool false, .slice none 0 0, .slice none 0 0] 25)) := ((((Below.refl _ _).alloc (Nat.le_refl _) _).alloc (by simp) _).alloc (by simp; omega) _)
  have hs0 : Below (w.heap.size + 3) (((w.alloc (.cells #[.bool b1, .slice A1 xs1.length c1, .slice A2 xs2.length c2] 25)).alloc (.cells #[.bool b2, .slice A3 xs3.length c3, .slice A4 xs4.length c4] 25)).alloc (.cells #[.bool false, .slice none 0 0, .slice none 0 0] 25)) (((w.alloc (.cells #[.bool b1, .slice A1 xs1.length c1, .slice A2 xs2.length c2] 25)).alloc (.cells #[.bool b2, .slice A3 xs3.length c3, .slice A4 xs4.length c4] 25)).alloc (.cells #[.bool false, .slice none 0 0, .slice none 0 0] 25)) := (Below.refl _ _)
  go_enter Try.func17, Try.ntmps17
  go_wp2_with fail
  refine (isZero_q _ _ q L (HA.out.2.below hb0)).mono ?_
  rintro e w0 ⟨_, rfl, rfl, hd0⟩
  rw [HZ.out.1]
  replace hs0 := below_more hs0 hd0 (by simp)
  replace hb0 := below_next hb0 hd0
  obtain ⟨⟨i0, i1, i2⟩, ⟨j0, j1, j2⟩, _, _, _⟩ := boxes3 hs0
  go_wp2_with fail
  refine (over_q _ _ _ p q L (HA.out.1.below hb0) (HA.out.2.below hb0) hL HZ.out.2).mono ?_
  rintro e w1 ⟨u1, rfl, q1, hd1⟩
  clear i0 i1 i2 j0 j1 j2
  have hs1 := below_more hs0 hd1 (by simp)
  have hb1 := below_next hb0 hd1
  go_wp2_with fail
  refine (attempt_kept _ u1 (p / q) (2 * L + 4) q1 (by omega)).mono ?_
  rintro e w2 ⟨_, rfl, hd2, ⟨hq, u2, rfl, n1, l1, rfl, q2, p2⟩ | ⟨hq, u2, rfl, n1, l1, rfl, q2, p2⟩⟩
  · have hs2 := below_more hs1 hd2 (by simp)
    have hb2 := below_next hb1 hd2
    obtain ⟨_, _, ⟨m0, m1, m2⟩, ⟨f0, f1, f2⟩, hz⟩ := boxes3 hs2
    obtain ⟨Ae, ce, xe, rfl, _⟩ := q2.open_
    obtain ⟨Af, cf, xf, rfl, _⟩ := p2.open_
    have HQ := hide hq; clear hq
    go_wp2
    refine bodyPost_ret (v := .tuple #[.agg #[.bool (decide ((p / q).num < 0)), .slice Ae xe.length ce, .slice Af xf.length cf], .int .i64 0]) ?_ rfl ?_
    · simp [results, Try.results17, go_sem, m0, m1, m2, hz]
    exact ⟨_, rfl, below_set3 hb2 (by omega) _ _ _, Or.inl ⟨HQ.out, _, rfl, _, _, rfl, q2.set3 m0 m1 m2, p2.set3 m0 m1 m2⟩⟩
  · have hs2 := below_more hs1 hd2 (by simp)
    have hb2 := below_next hb1 hd2
    obtain ⟨_, _, ⟨m0, m1, m2⟩, ⟨f0, f1, f2⟩, hz⟩ := boxes3 hs2
    obtain ⟨Ae, ce, xe, rfl, _⟩ := q2.open_
    obtain ⟨Af, cf, xf, rfl, _⟩ := p2.open_
    have HQ := hide hq; clear hq
    go_wp2
    refine bodyPost_ret (v := .tuple #[.agg #[.bool (decide ((0 : Rat).num < 0)), .slice Ae xe.length ce, .slice Af xf.length cf], .int .i64 11]) ?_ rfl ?_
    · simp [results, Try.results17, go_sem, m0, m1, m2, hz]
    exact ⟨_, rfl, below_set3 hb2 (by omega) _ _ _, Or.inr ⟨HQ.out, _, rfl, _, _, rfl, q2.set3 m0 m1 m2, p2.set3 m0 m1 m2⟩⟩
theorem cmp_q (w : World) (a b : Value) (p q : Rat) (L : Nat) (ha : RatV w a p L) (hb : RatV w b q L) (hL : L ≤ 268435456) :
    Calls Try.prog 18 #[a, b] w (Ret fun v w' => v = .int .i64 (sgnQ (p - q)) ∧ Below w.heap.size w w') := by
  have HA := hide (And.intro ha hb)
  obtain ⟨b1, A1, n1, c1, A2, n2, c2, rfl⟩ := ha.shape
  obtain ⟨b2, A3, n3, c3, A4, n4, c4, rfl⟩ := hb.shape
  clear ha hb
  have hb0 : Below w.heap.size w ((w.alloc (.cells #[.bool b1, .slice A1 n1 c1, .slice A2 n2 c2] 25)).alloc (.cells #[.bool b2, .slice A3 n3 c3, .slice A4 n4 c4] 25)) := ((Below.refl _ _).alloc (Nat.le_refl _) _).alloc (by simp) _
  go_enter Try.func18, Try.ntmps18
  go_wp2_with fail
  refine (minus_q _ _ _ p q L (HA.out.1.below hb0) (HA.out.2.below hb0) hL).mono ?_
  rintro e w1 ⟨u1, rfl, q1, hd1⟩
  have hb1 := below_next hb0 hd1
  go_wp2_with fail
  refine (sign_q _ _ (p - q) _ q1).mono ?_
  rintro e w2 ⟨_, rfl, rfl, hd2⟩
  have HB := hide (below_next hb1 hd2)
  clear hb1 hd2 q1 hb0 hd1
  go_wp2
  go_ret
  exact ⟨_, rfl, rfl, HB.out⟩
theorem neg_num (q : Rat) : q < 0 ↔ q.num < 0 := by
  rw [Rat.lt_iff]
  show q.num * ((1 : Nat) : Int) < (0 : Int) * q.den ↔ _
  simp
theorem sgnQ_neg (q : Rat) : sgnQ (-q) = - sgnQ q := by
  unfold sgnQ
  rw [Rat.neg_num]
  repeat' split
  all_goals omega
theorem FitQ.more {L L' : Nat} {q : Rat} (h : FitQ L q) (hL : L ≤ L') : FitQ L' q := by
  have := pow_le_pow' (B := 4294967296) (by omega) hL
  exact ⟨by have := h.1; omega, by have := h.2; omega⟩
theorem BoxR.below {w w' : World} {g : Nat} {q : Rat} {L : Nat} (h : BoxR w g q L) (hb : Below w.heap.size w w') : BoxR w' g q L := by
  obtain ⟨s, A, n, c, B, m, d, h1, h2⟩ := h
  exact ⟨s, A, n, c, B, m, d, at_later h1 hb, h2.below hb⟩
end Go.Proofs.Ythnnbpnocefmgaa
