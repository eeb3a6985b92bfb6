/- Walks: sums and products, or the error of what is too large. -/
import Derived.Test.YthnnbpnocefmgaaAttempt
namespace Go.Proofs.Ythnnbpnocefmgaa
set_option linter.unusedVariables false
set_option linter.unusedSimpArgs false
open Go.RowKit
theorem add_q (w : World) (a b : Value) (p q : Rat) (L : Nat) (ha : RatV w a p L) (hb : RatV w b q L) (hL : L ≤ 268435456) :
    Calls Try.prog 24 #[a, b] w (Ret (doneR w (p + q) (2 * L + 4))) := by
  have hmf : ∀ (fn : Fn) (first cap : Array Value) (w : World), (Instr.makeFunc fn first cap).run Try.prog w = .ok (.func fn first cap) w := fun _ _ _ _ => rfl
  have HA := hide (And.intro ha hb)
  obtain ⟨n1, l1, rfl, h1, g1⟩ := ha
  obtain ⟨n2, l2, rfl, h2, g2⟩ := hb
  obtain ⟨A1, c1, xs1, rfl, _⟩ := h1.open_
  obtain ⟨A2, c2, xs2, rfl, _⟩ := g1.open_
  obtain ⟨A3, c3, xs3, rfl, _⟩ := h2.open_
  obtain ⟨A4, c4, xs4, rfl, _⟩ := g2.open_
  clear h1 g1 h2 g2
  obtain ⟨b1, hs1⟩ : ∃ s, s = decide (p.num < 0) := ⟨_, rfl⟩
  obtain ⟨b2, hs2⟩ : ∃ s, s = decide (q.num < 0) := ⟨_, rfl⟩
  rw [← hs1, ← hs2] at HA
  rw [← hs1, ← hs2]
  clear hs1 hs2
  have hb0 : Below w.heap.size w (((w.alloc (.cells #[.bool b1, .slice A1 xs1.length c1, .slice A2 xs2.length c2] 25)).alloc (.cells #[.bool b2, .slice A3 xs3.length c3, .slice A4 xs4.length c4] 25)).alloc (.cells #[.bool false, .slice none 0 0, .slice none 0 0] 25)) := ((((Below.refl _ _).alloc (Nat.le_refl _) _).alloc (by simp) _).alloc (by simp; omega) _)
  have hs0 : Below (w.heap.size + 3) (((w.alloc (.cells #[.bool b1, .slice A1 xs1.length c1, .slice A2 xs2.length c2] 25)).alloc (.cells #[.bool b2, .slice A3 xs3.length c3, .slice A4 xs4.length c4] 25)).alloc (.cells #[.bool false, .slice none 0 0, .slice none 0 0] 25)) (((w.alloc (.cells #[.bool b1, .slice A1 xs1.length c1, .slice A2 xs2.length c2] 25)).alloc (.cells #[.bool b2, .slice A3 xs3.length c3, .slice A4 xs4.length c4] 25)).alloc (.cells #[.bool false, .slice none 0 0, .slice none 0 0] 25)) := (Below.refl _ _)
  go_enter Try.func24, Try.ntmps24
  go_wp2_with fail
  refine (plus_q _ _ _ p q L (HA.out.1.below hb0) (HA.out.2.below hb0) hL).mono ?_
  rintro e w1 ⟨u1, rfl, q1, hd1⟩
  have hs1 := below_more hs0 hd1 (by simp)
  have hb1 := below_next hb0 hd1
  go_wp2_with fail
  refine (attempt_kept _ u1 (p + q) (2 * L + 4) q1 (by omega)).mono ?_
  rintro e w2 ⟨_, rfl, hd2, ⟨hq, u2, rfl, n1, l1, rfl, q2, p2⟩ | ⟨hq, u2, rfl, n1, l1, rfl, q2, p2⟩⟩
  · have hs2 := below_more hs1 hd2 (by simp)
    have hb2 := below_next hb1 hd2
    obtain ⟨_, _, ⟨m0, m1, m2⟩, ⟨f0, f1, f2⟩, hz⟩ := boxes3 hs2
    obtain ⟨Ae, ce, xe, rfl, _⟩ := q2.open_
    obtain ⟨Af, cf, xf, rfl, _⟩ := p2.open_
    have HQ := hide hq; clear hq
    go_wp2
    refine bodyPost_ret (v := .tuple #[.agg #[.bool (decide ((p + q).num < 0)), .slice Ae xe.length ce, .slice Af xf.length cf], .int .i64 0]) ?_ rfl ?_
    · simp [results, Try.results24, go_sem, m0, m1, m2, hz]
    exact ⟨_, rfl, below_set3 hb2 (by omega) _ _ _, Or.inl ⟨HQ.out, _, rfl, _, _, rfl, q2.set3 m0 m1 m2, p2.set3 m0 m1 m2⟩⟩
  · have hs2 := below_more hs1 hd2 (by simp)
    have hb2 := below_next hb1 hd2
    obtain ⟨_, _, ⟨m0, m1, m2⟩, ⟨f0, f1, f2⟩, hz⟩ := boxes3 hs2
    obtain ⟨Ae, ce, xe, rfl, _⟩ := q2.open_
    obtain ⟨Af, cf, xf, rfl, _⟩ := p2.open_
    have HQ := hide hq; clear hq
    go_wp2
    refine bodyPost_ret (v := .tuple #[.agg #[.bool (decide ((0 : Rat).num < 0)), .slice Ae xe.length ce, .slice Af xf.length cf], .int .i64 11]) ?_ rfl ?_
    · simp [results, Try.results24, go_sem, m0, m1, m2, hz]
    exact ⟨_, rfl, below_set3 hb2 (by omega) _ _ _, Or.inr ⟨HQ.out, _, rfl, _, _, rfl, q2.set3 m0 m1 m2, p2.set3 m0 m1 m2⟩⟩
theorem mul_q (w : World) (a b : Value) (p q : Rat) (L : Nat) (ha : RatV w a p L) (hb : RatV w b q L) (hL : L ≤ 268435456) :
    Calls Try.prog 16 #[a, b] w (Ret (doneR w (p * q) (2 * L + 4))) := by
  have hmf : ∀ (fn : Fn) (first cap : Array Value) (w : World), (Instr.makeFunc fn first cap).run Try.prog w = .ok (.func fn first cap) w := fun _ _ _ _ => rfl
  have HA := hide (And.intro ha hb)
  obtain ⟨n1, l1, rfl, h1, g1⟩ := ha
  obtain ⟨n2, l2, rfl, h2, g2⟩ := hb
  obtain ⟨A1, c1, xs1, rfl, _⟩ := h1.open_
  obtain ⟨A2, c2, xs2, rfl, _⟩ := g1.open_
  obtain ⟨A3, c3, xs3, rfl, _⟩ := h2.open_
  obtain ⟨A4, c4, xs4, rfl, _⟩ := g2.open_
  clear h1 g1 h2 g2
  obtain ⟨b1, hs1⟩ : ∃ s, s = decide (p.num < 0) := ⟨_, rfl⟩
  obtain ⟨b2, hs2⟩ : ∃ s, s = decide (q.num < 0) := ⟨_, rfl⟩
  rw [← hs1, ← hs2] at HA
  rw [← hs1, ← hs2]
  clear hs1 hs2
  have hb0 : Below w.heap.size w (((w.alloc (.cells #[.bool b1, .slice A1 xs1.length c1, .slice A2 xs2.length c2] 25)).alloc (.cells #[.bool b2, .slice A3 xs3.length c3, .slice A4 xs4.length c4] 25)).alloc (.cells #[.bool false, .slice none 0 0, .slice none 0 0] 25)) := ((((Below.refl _ _).alloc (Nat.le_refl _) _).alloc (by simp) _).alloc (by simp; omega) _)
  have hs0 : Below (w.heap.size + 3) (((w.alloc (.cells #[.bool b1, .slice A1 xs1.length c1, .slice A2 xs2.length c2] 25)).alloc (.cells #[.bool b2, .slice A3 xs3.length c3, .slice A4 xs4.length c4] 25)).alloc (.cells #[.bool false, .slice none 0 0, .slice none 0 0] 25)) (((w.alloc (.cells #[.bool b1, .slice A1 xs1.length c1, .slice A2 xs2.length c2] 25)).alloc (.cells #[.bool b2, .slice A3 xs3.length c3, .slice A4 xs4.length c4] 25)).alloc (.cells #[.bool false, .slice none 0 0, .slice none 0 0] 25)) := (Below.refl _ _)
  go_enter Try.func16, Try.ntmps16
  go_wp2_with fail
  refine (times_q _ _ _ p q L (HA.out.1.below hb0) (HA.out.2.below hb0) hL).mono ?_
  rintro e w1 ⟨u1, rfl, q1, hd1⟩
  have hs1 := below_more hs0 hd1 (by simp)
  have hb1 := below_next hb0 hd1
  go_wp2_with fail
  refine (attempt_kept _ u1 (p * q) (2 * L + 4) q1 (by omega)).mono ?_
  rintro e w2 ⟨_, rfl, hd2, ⟨hq, u2, rfl, n1, l1, rfl, q2, p2⟩ | ⟨hq, u2, rfl, n1, l1, rfl, q2, p2⟩⟩
  · have hs2 := below_more hs1 hd2 (by simp)
    have hb2 := below_next hb1 hd2
    obtain ⟨_, _, ⟨m0, m1, m2⟩, ⟨f0, f1, f2⟩, hz⟩ := boxes3 hs2
    obtain ⟨Ae, ce, xe, rfl, _⟩ := q2.open_
    obtain ⟨Af, cf, xf, rfl, _⟩ := p2.open_
    have HQ := hide hq; clear hq
    go_wp2
    refine bodyPost_ret (v := .tuple #[.agg #[.bool (decide ((p * q).num < 0)), .slice Ae xe.length ce, .slice Af xf.length cf], .int .i64 0]) ?_ rfl ?_
    · simp [results, Try.results16, go_sem, m0, m1, m2, hz]
    exact ⟨_, rfl, below_set3 hb2 (by omega) _ _ _, Or.inl ⟨HQ.out, _, rfl, _, _, rfl, q2.set3 m0 m1 m2, p2.set3 m0 m1 m2⟩⟩
  · have hs2 := below_more hs1 hd2 (by simp)
    have hb2 := below_next hb1 hd2
    obtain ⟨_, _, ⟨m0, m1, m2⟩, ⟨f0, f1, f2⟩, hz⟩ := boxes3 hs2
    obtain ⟨Ae, ce, xe, rfl, _⟩ := q2.open_
    obtain ⟨Af, cf, xf, rfl, _⟩ := p2.open_
    have HQ := hide hq; clear hq
    go_wp2
    refine bodyPost_ret (v := .tuple #[.agg #[.bool (decide ((0 : Rat).num < 0)), .slice Ae xe.length ce, .slice Af xf.length cf], .int .i64 11]) ?_ rfl ?_
    · simp [results, Try.results16, go_sem, m0, m1, m2, hz]
    exact ⟨_, rfl, below_set3 hb2 (by omega) _ _ _, Or.inr ⟨HQ.out, _, rfl, _, _, rfl, q2.set3 m0 m1 m2, p2.set3 m0 m1 m2⟩⟩
end Go.Proofs.Ythnnbpnocefmgaa
