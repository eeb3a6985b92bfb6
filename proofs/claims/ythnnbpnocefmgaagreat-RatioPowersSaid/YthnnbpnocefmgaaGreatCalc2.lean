/- Walks: differences and quotients, or the errors; the order; floors. Walks of the law: a text as a fraction with both. Plain laws: how large sums, products and quotients of fractions are; boxes of fractions in memory. -/
import Derived.Test.YthnnbpnocefmgaaGreatCalc
import Derived.Test.YthnnbpnocefmgaaGreatRat6
import Derived.Test.YthnnbpnocefmgaaGreatParse
import Derived.Deep.RegionHeld3
import Derived.Test.YthnnbpnocefmgaaGreatRead9
namespace Go.Proofs.YthnnbpnocefmgaaGreat
open Go.RowKit
set_option linter.unusedVariables false
set_option linter.unusedSimpArgs false

theorem sub_q (w : World) (a b : Value) (p q : Rat) (L : Nat) (ha : RatV w a p L) (hb : RatV w b q L) (hL : L ≤ 268435456) :
    Calls Tryz.prog 19 #[a, b] w (Ret (doneR w (p - q) (2 * L + 4))) := by
  have hmf : ∀ (fn : Fn) (first cap : Array Value) (w : World), (Instr.makeFunc fn first cap).run Tryz.prog w = .ok (.func fn first cap) w := fun _ _ _ _ => rfl
  have HA := hide (And.intro ha hb)
  obtain ⟨n1, l1, rfl, h1, g1⟩ := ha
  obtain ⟨n2, l2, rfl, h2, g2⟩ := hb
  obtain ⟨A1, c1, xs1, rfl, _⟩ := h1.open_
  obtain ⟨A2, c2, xs2, rfl, _⟩ := g1.open_
  obtain ⟨A3, c3, xs3, rfl, _⟩ := h2.open_
  obtain ⟨A4, c4, xs4, rfl, _⟩ := g2.open_
  clear h1 g1 h2 g2
  obtain ⟨b1, hs1⟩ : ∃ s, s = decide (p.num < 0) := ⟨_, rfl⟩
  obtain ⟨b2, hs2⟩ : ∃ s, s = decide (q.num < 0) := ⟨_, rfl⟩
  rw [← hs1, ← hs2] at HA
  rw [← hs1, ← hs2]
  clear hs1 hs2
  have hb0 : Below w.heap.size w (((w.alloc (.cells #[.bool b1, .slice A1 xs1.length c1, .slice A2 xs2.length c2] 35)).alloc (.cells #[.bool b2, .slice A3 xs3.length c3, .slice A4 xs4.length c4] 35)).alloc (.cells #[.bool false, .slice none 0 0, .slice none 0 0] 35)) := ((((Below.refl _ _).alloc (Nat.le_refl _) _).alloc (by simp) _).alloc (by simp; omega) _)
  have hs0 : Below (w.heap.size + 3) (((w.alloc (.cells #[.bool b1, .slice A1 xs1.length c1, .slice A2 xs2.length c2] 35)).alloc (.cells #[.bool b2, .slice A3 xs3.length c3, .slice A4 xs4.length c4] 35)).alloc (.cells #[.bool false, .slice none 0 0, .slice none 0 0] 35)) (((w.alloc (.cells #[.bool b1, .slice A1 xs1.length c1, .slice A2 xs2.length c2] 35)).alloc (.cells #[.bool b2, .slice A3 xs3.length c3, .slice A4 xs4.length c4] 35)).alloc (.cells #[.bool false, .slice none 0 0, .slice none 0 0] 35)) := (Below.refl _ _)
  go_enter Tryz.func19, Tryz.ntmps19
  go_wp2_with fail
  refine (minus_q _ _ _ p q L (HA.out.1.below hb0) (HA.out.2.below hb0) hL).mono ?_
  rintro e w1 ⟨u1, rfl, q1, hd1⟩
  have hs1 := below_more hs0 hd1 (by simp)
  have hb1 := below_next hb0 hd1
  go_wp2_with fail
  refine (attempt_kept _ u1 (p - q) (2 * L + 4) q1 (by omega)).mono ?_
  rintro e w2 ⟨_, rfl, hd2, ⟨hq, u2, rfl, n1, l1, rfl, q2, p2⟩ | ⟨hq, u2, rfl, n1, l1, rfl, q2, p2⟩⟩
  · have hs2 := below_more hs1 hd2 (by simp)
    have hb2 := below_next hb1 hd2
    obtain ⟨_, _, ⟨m0, m1, m2⟩, ⟨f0, f1, f2⟩, hz⟩ := boxes3 hs2
    obtain ⟨Ae, ce, xe, rfl, _⟩ := q2.open_
    obtain ⟨Af, cf, xf, rfl, _⟩ := p2.open_
    have HQ := hide hq; clear hq
    go_wp2
    refine bodyPost_ret (v := .tuple #[.agg #[.bool (decide ((p - q).num < 0)), .slice Ae xe.length ce, .slice Af xf.length cf], .int .i64 0]) ?_ rfl ?_
    · simp [results, Tryz.results19, go_sem, m0, m1, m2, hz]
    exact ⟨_, rfl, below_set3 hb2 (by omega) _ _ _, Or.inl ⟨HQ.out, _, rfl, _, _, rfl, q2.set3 m0 m1 m2, p2.set3 m0 m1 m2⟩⟩
  · have hs2 := below_more hs1 hd2 (by simp)
    have hb2 := below_next hb1 hd2
    obtain ⟨_, _, ⟨m0, m1, m2⟩, ⟨f0, f1, f2⟩, hz⟩ := boxes3 hs2
    obtain ⟨Ae, ce, xe, rfl, _⟩ := q2.open_
    obtain ⟨Af, cf, xf, rfl, _⟩ := p2.open_
    have HQ := hide hq; clear hq
    go_wp2
    refine bodyPost_ret (v := .tuple #[.agg #[.bool (decide ((0 : Rat).num < 0)), .slice Ae xe.length ce, .slice Af xf.length cf], .int .i64 11]) ?_ rfl ?_
    · simp [results, Tryz.results19, go_sem, m0, m1, m2, hz]
    exact ⟨_, rfl, below_set3 hb2 (by omega) _ _ _, Or.inr ⟨HQ.out, _, rfl, _, _, rfl, q2.set3 m0 m1 m2, p2.set3 m0 m1 m2⟩⟩

theorem quo_q (w : World) (a b : Value) (p q : Rat) (L : Nat) (ha : RatV w a p L) (hb : RatV w b q L) (hL : L ≤ 268435456) (hq0 : q ≠ 0) :
    Calls Tryz.prog 21 #[a, b] w (Ret (doneR w (p / q) (2 * L + 4))) := by
  have hmf : ∀ (fn : Fn) (first cap : Array Value) (w : World), (Instr.makeFunc fn first cap).run Tryz.prog w = .ok (.func fn first cap) w := fun _ _ _ _ => rfl
  have hz0 : decide (q = 0) = false := decide_eq_false hq0
  have HZ := hide (And.intro hz0 hq0); clear hz0 hq0
  have HA := hide (And.intro ha hb)
  obtain ⟨n1, l1, rfl, h1, g1⟩ := ha
  obtain ⟨n2, l2, rfl, h2, g2⟩ := hb
  obtain ⟨A1, c1, xs1, rfl, _⟩ := h1.open_
  obtain ⟨A2, c2, xs2, rfl, _⟩ := g1.open_
  obtain ⟨A3, c3, xs3, rfl, _⟩ := h2.open_
  obtain ⟨A4, c4, xs4, rfl, _⟩ := g2.open_
  clear h1 g1 h2 g2
  obtain ⟨b1, hs1⟩ : ∃ s, s = decide (p.num < 0) := ⟨_, rfl⟩
  obtain ⟨b2, hs2⟩ : ∃ s, s = decide (q.num < 0) := ⟨_, rfl⟩
  rw [← hs1, ← hs2] at HA
  rw [← hs1, ← hs2]
  clear hs1 hs2
  have hb0 : Below w.heap.size w (((w.alloc (.cells #[.bool b1, .slice A1 xs1.length c1, .slice A2 xs2.length c2] 35)).alloc (.cells #[.bool b2, .slice A3 xs3.length c3, .slice A4 xs4.length c4] 35)).alloc (.cells #[.bool false, .slice none 0 0, .slice none 0 0] 35)) := ((((Below.refl _ _).alloc (Nat.le_refl _) _).alloc (by simp) _).alloc (by simp; omega) _)
  have hs0 : Below (w.heap.size + 3) (((w.alloc (.cells #[.bool b1, .slice A1 xs1.length c1, .slice A2 xs2.length c2] 35)).alloc (.cells #[.bool b2, .slice A3 xs3.length c3, .slice A4 xs4.length c4] 35)).alloc (.cells #[.bool false, .slice none 0 0, .slice none 0 0] 35)) (((w.alloc (.cells #[.bool b1, .slice A1 xs1.length c1, .slice A2 xs2.length c2] 35)).alloc (.cells #[.bool b2, .slice A3 xs3.length c3, .slice A4 xs4.length c4] 35)).alloc (.cells #[.bool false, .slice none 0 0, .slice none 0 0] 35)) := (Below.refl _ _)
  go_enter Tryz.func21, Tryz.ntmps21
  go_wp2_with fail
  refine (isZero_q _ _ q L (HA.out.2.below hb0)).mono ?_
  rintro e w0 ⟨_, rfl, rfl, hd0⟩
  rw [HZ.out.1]
  replace hs0 := below_more hs0 hd0 (by simp)
  replace hb0 := below_next hb0 hd0
  obtain ⟨⟨i0, i1, i2⟩, ⟨j0, j1, j2⟩, _, _, _⟩ := boxes3 hs0
  go_wp2_with fail
  refine (over_q _ _ _ p q L (HA.out.1.below hb0) (HA.out.2.below hb0) hL HZ.out.2).mono ?_
  rintro e w1 ⟨u1, rfl, q1, hd1⟩
  clear i0 i1 i2 j0 j1 j2
  have hs1 := below_more hs0 hd1 (by simp)
  have hb1 := below_next hb0 hd1
  go_wp2_with fail
  refine (attempt_kept _ u1 (p / q) (2 * L + 4) q1 (by omega)).mono ?_
  rintro e w2 ⟨_, rfl, hd2, ⟨hq, u2, rfl, n1, l1, rfl, q2, p2⟩ | ⟨hq, u2, rfl, n1, l1, rfl, q2, p2⟩⟩
  · have hs2 := below_more hs1 hd2 (by simp)
    have hb2 := below_next hb1 hd2
    obtain ⟨_, _, ⟨m0, m1, m2⟩, ⟨f0, f1, f2⟩, hz⟩ := boxes3 hs2
    obtain ⟨Ae, ce, xe, rfl, _⟩ := q2.open_
    obtain ⟨Af, cf, xf, rfl, _⟩ := p2.open_
    have HQ := hide hq; clear hq
    go_wp2
    refine bodyPost_ret (v := .tuple #[.agg #[.bool (decide ((p / q).num < 0)), .slice Ae xe.length ce, .slice Af xf.length cf], .int .i64 0]) ?_ rfl ?_
    · simp [results, Tryz.results21, go_sem, m0, m1, m2, hz]
    exact ⟨_, rfl, below_set3 hb2 (by omega) _ _ _, Or.inl ⟨HQ.out, _, rfl, _, _, rfl, q2.set3 m0 m1 m2, p2.set3 m0 m1 m2⟩⟩
  · have hs2 := below_more hs1 hd2 (by simp)
    have hb2 := below_next hb1 hd2
    obtain ⟨_, _, ⟨m0, m1, m2⟩, ⟨f0, f1, f2⟩, hz⟩ := boxes3 hs2
    obtain ⟨Ae, ce, xe, rfl, _⟩ := q2.open_
    obtain ⟨Af, cf, xf, rfl, _⟩ := p2.open_
    have HQ := hide hq; clear hq
    go_wp2
    refine bodyPost_ret (v := .tuple #[.agg #[.bool (decide ((0 : Rat).num < 0)), .slice Ae xe.length ce, .slice Af xf.length cf], .int .i64 11]) ?_ rfl ?_
    · simp [results, Tryz.results21, go_sem, m0, m1, m2, hz]
    exact ⟨_, rfl, below_set3 hb2 (by omega) _ _ _, Or.inr ⟨HQ.out, _, rfl, _, _, rfl, q2.set3 m0 m1 m2, p2.set3 m0 m1 m2⟩⟩

theorem quo_zero (w : World) (a b : Value) (p : Rat) (L : Nat) (ha : RatV w a p L) (hb : RatV w b 0 L) :
    Calls Tryz.prog 21 #[a, b] w (Ret fun v w' => v = .tuple #[.agg #[.bool false, .slice none 0 0, .slice none 0 0], .int .i64 6] ∧ Below w.heap.size w w') := by
  have HA := hide (And.intro ha hb)
  obtain ⟨b1, A1, n1, c1, A2, n2, c2, rfl⟩ := ha.shape
  obtain ⟨b2, A3, n3, c3, A4, n4, c4, rfl⟩ := hb.shape
  clear ha hb
  obtain ⟨W, hW⟩ : ∃ W, W = (((w.alloc (.cells #[.bool b1, .slice A1 n1 c1, .slice A2 n2 c2] 35)).alloc (.cells #[.bool b2, .slice A3 n3 c3, .slice A4 n4 c4] 35)).alloc (.cells #[.bool false, .slice none 0 0, .slice none 0 0] 35)) := ⟨_, rfl⟩
  have hb0 : Below w.heap.size w W := by rw [hW]; exact ((((Below.refl _ _).alloc (Nat.le_refl _) _).alloc (by simp) _).alloc (by simp; omega) _)
  have hr : W.heap[w.heap.size + 2]? = some (.cells #[.bool false, .slice none 0 0, .slice none 0 0] 35) := by rw [hW]; exact at_new' _ (by simp)
  have HW := hide (And.intro hW (And.intro hb0 hr)); clear hW hb0 hr
  go_enter Tryz.func21, Tryz.ntmps21
  go_wp2_with fail
  rw [← HW.out.1]
  refine (isZero_q _ _ 0 L (HA.out.2.below HW.out.2.1)).mono ?_
  rintro e w0 ⟨_, rfl, rfl, hd0⟩
  rw [show decide ((0 : Rat) = 0) = true from by simp]
  have hr0 := at_later HW.out.2.2 hd0
  obtain ⟨m0, m1, m2⟩ := three_cells hr0
  obtain ⟨f0, f1, f2⟩ := three_frozen hr0
  have hz := lt_of_block hr0
  have HB := hide (And.intro hr0 (below_next HW.out.2.1 hd0)); clear hr0 hd0
  go_wp2
  refine bodyPost_ret (v := .tuple #[.agg #[.bool false, .slice none 0 0, .slice none 0 0], .int .i64 6]) ?_ rfl ?_
  · simp [results, Tryz.results21, go_sem, m0, m1, m2, hz]
  exact ⟨_, rfl, rfl, below_set3 HB.out.2 (by omega) _ _ _⟩

theorem cmp_q (w : World) (a b : Value) (p q : Rat) (L : Nat) (ha : RatV w a p L) (hb : RatV w b q L) (hL : L ≤ 268435456) :
    Calls Tryz.prog 26 #[a, b] w (Ret fun v w' => v = .int .i64 (sgnQ (p - q)) ∧ Below w.heap.size w w') := by
  have HA := hide (And.intro ha hb)
  obtain ⟨b1, A1, n1, c1, A2, n2, c2, rfl⟩ := ha.shape
  obtain ⟨b2, A3, n3, c3, A4, n4, c4, rfl⟩ := hb.shape
  clear ha hb
  have hb0 : Below w.heap.size w ((w.alloc (.cells #[.bool b1, .slice A1 n1 c1, .slice A2 n2 c2] 35)).alloc (.cells #[.bool b2, .slice A3 n3 c3, .slice A4 n4 c4] 35)) := ((Below.refl _ _).alloc (Nat.le_refl _) _).alloc (by simp) _
  go_enter Tryz.func26, Tryz.ntmps26
  go_wp2_with fail
  refine (minus_q _ _ _ p q L (HA.out.1.below hb0) (HA.out.2.below hb0) hL).mono ?_
  rintro e w1 ⟨u1, rfl, q1, hd1⟩
  have hb1 := below_next hb0 hd1
  go_wp2_with fail
  refine (sign_q _ _ (p - q) _ q1).mono ?_
  rintro e w2 ⟨_, rfl, rfl, hd2⟩
  have HB := hide (below_next hb1 hd2)
  clear hb1 hd2 q1 hb0 hd1
  go_wp2
  go_ret
  exact ⟨_, rfl, rfl, HB.out⟩

/-- the greatest integer below -/
def flQ (p : Rat) : Int := p.num / (p.den : Int)

theorem nat_zero {w : World} {A : Option Addr} {n c : Nat} {x : Int} {L : Nat} (h : NatV w (.slice A n c) x L) : n = 0 ↔ x = 0 := by
  obtain ⟨A', c', ys, e, h1, h2, h3, h4, h5, h6, h7⟩ := h
  injection e with e1 e2 e3
  rw [e2, ← h6]
  constructor
  · intro h; rw [List.eq_nil_of_length_eq_zero h]; rfl
  · intro h
    rcases Nat.eq_zero_or_pos ys.length with h0 | h0
    · exact h0
    · have := val_pos (B := 4294967296) (by omega) h4 h5 (by intro e; rw [e] at h0; simp at h0); omega

theorem ratV_int {w : World} {b : Bool} {n : Value} {z : Int} {L : Nat} (h : NatV w n (z.natAbs : Int) L) (hb : b = decide (z < 0)) : RatV w (.agg #[.bool b, n, .slice none 0 0]) (z : Rat) L := by
  subst hb
  exact ⟨n, .slice none 0 0, rfl, h, NatV.nil _ _⟩

theorem floor_neg0 {n d : Int} (hd : 0 < d) (hn : n < 0) (h : (n.natAbs : Int) % d = 0) : n / d = -((n.natAbs : Int) / d) ∧ 0 < (n.natAbs : Int) / d := by
  have e : n = -(n.natAbs : Int) := by omega
  have h1 : (n.natAbs : Int) = d * ((n.natAbs : Int) / d) := by have := Int.emod_add_mul_ediv (n.natAbs : Int) d; omega
  have h2 : 0 < (n.natAbs : Int) / d := Int.ediv_pos_of_pos_of_dvd (by omega) (by omega) (Int.dvd_of_emod_eq_zero h)
  refine ⟨?_, h2⟩
  have h3 : (-(n.natAbs : Int)) / d = -((n.natAbs : Int) / d) := Int.neg_ediv_of_dvd (Int.dvd_of_emod_eq_zero h)
  rw [← e] at h3
  exact h3
theorem floor_neg1 {n d : Int} (hd : 0 < d) (hn : n < 0) (h : 0 < (n.natAbs : Int) % d) : n / d = -((n.natAbs : Int) / d + 1) := by
  have e : n = -(n.natAbs : Int) := by omega
  have h1 := Int.emod_add_mul_ediv (n.natAbs : Int) d
  have h2 := Int.emod_lt_of_pos (n.natAbs : Int) hd
  refine ((Int.ediv_emod_unique (r := d - (n.natAbs : Int) % d) hd).2 ⟨?_, by omega, by omega⟩).1
  rw [Int.mul_neg, Int.mul_add, Int.mul_one]
  omega

set_option maxRecDepth 100000 in
theorem floor_q (w : World) (a : Value) (p : Rat) (L : Nat) (ha : RatV w a p L) (hL : L ≤ 268435456) :
    Calls Tryz.prog 29 #[a] w (Ret (ratR w (flQ p : Int) (L + 1))) := by
  obtain ⟨n1, l1, rfl, h1, g1⟩ := ha
  obtain ⟨A1, c1, xs1, rfl, _⟩ := h1.open_
  obtain ⟨A2, c2, xs2, rfl, _⟩ := g1.open_
  have hdp := den_pos p
  obtain ⟨b1, hs1⟩ : ∃ s, s = decide (p.num < 0) := ⟨_, rfl⟩
  rw [← hs1]
  obtain ⟨W, hW⟩ : ∃ W, W = (w.alloc (.cells #[.bool b1, .slice A1 xs1.length c1, .slice A2 xs2.length c2] 35)).alloc (.cells #[.bool false, .slice none 0 0, .slice none 0 0] 35) := ⟨_, rfl⟩
  have hb0 : Below w.heap.size w W := by rw [hW]; exact ((Below.refl _ _).alloc (Nat.le_refl _) _).alloc (by simp) _
  have hr : W.heap[w.heap.size]? = some (.cells #[.bool b1, .slice A1 xs1.length c1, .slice A2 xs2.length c2] 35) := by rw [hW]; exact at_old (at_new _ _) _
  have hr2 : W.heap[w.heap.size + 1]? = some (.cells #[.bool false, .slice none 0 0, .slice none 0 0] 35) := by rw [hW]; exact at_new' _ (by simp)
  have HW := hide (And.intro hW (And.intro hb0 (And.intro hr (And.intro hr2 (And.intro (h1.below hb0) (And.intro (g1.below hb0) (And.intro hs1 hdp))))))); clear hW hb0 hr hr2 h1 g1 hs1 hdp
  have hS : ∀ w', Below W.heap.size W w' → w'.cell? ⟨w.heap.size, 0, none⟩ = some (.bool b1) ∧ w'.cell? ⟨w.heap.size, 1, none⟩ = some (.slice A1 xs1.length c1) ∧ w'.cell? ⟨w.heap.size, 2, none⟩ = some (.slice A2 xs2.length c2) := fun w' h => three_cells (at_later HW.out.2.2.1 h)
  have hdr : Below W.heap.size W W.drew := (Below.refl _ _).drew
  have hS0 := hS _ hdr
  have HS := hide hS; clear hS
  go_enter Tryz.func29, Tryz.ntmps29
  go_wp2
  rw [← HW.out.1]
  go_region_held3 (fun w' => w'.cell? ⟨w.heap.size, 0, none⟩ = some (.bool b1) ∧ w'.cell? ⟨w.heap.size, 1, none⟩ = some (.slice A1 xs1.length c1) ∧ w'.cell? ⟨w.heap.size, 2, none⟩ = some (.slice A2 xs2.length c2))
    (first | (with_reducible exact hS0) | (with_reducible exact HS.out _ hg4) | (with_reducible exact HS.out _ hg5) | (go_keep; done))
    (first
      | (go_at_call 77; refine (den_c _ _ _ _ ((p.den : Int) - 1) L (HW.out.2.2.2.2.2.1.below hdr) (by omega)).mono ?_; rintro e w4 ⟨v4, rfl, hv4, hd4⟩; rw [show (p.den : Int) - 1 + 1 = p.den by omega] at hv4; have hg4 : Below W.heap.size W w4 := hdr.trans (hd4.mono hdr.size); have HV4 := hide hv4; clear hv4 hd4)
      | (go_at_call 76; refine (over_c _ _ _ (p.num.natAbs : Int) (p.den : Int) L (L + 2) (HW.out.2.2.2.2.1.below hg4) HV4.out (by omega) HW.out.2.2.2.2.2.2.2).mono ?_; rintro e w5 ⟨_, rfl, q5, r5, rfl, hq5, hr5, hd5⟩; have hg5 : Below W.heap.size W w5 := hg4.trans (hd5.mono hg4.size); obtain ⟨A3, c3, xs3, rfl, _⟩ := hq5.open_; obtain ⟨A4, c4, xs4, rfl, _⟩ := hr5.open_; have HV5 := hide (And.intro hq5 hr5); clear hq5 hr5 hd5))
  obtain ⟨i0, i1, i2⟩ := HS.out _ hg5
  have hz3 := nat_zero HV5.out.1
  have hz4 := nat_zero HV5.out.2
  have hr4n := HV5.out.2.nonneg
  have hp := HW.out.2.2.2.2.2.2.2
  have hsb := HW.out.2.2.2.2.2.2.1
  by_cases hneg : p.num < 0
  · obtain rfl : b1 = true := by rw [hsb]; simp [hneg]
    by_cases h0 : (p.num.natAbs : Int) % (p.den : Int) = 0
    · obtain ⟨e1, e2⟩ := floor_neg0 hp hneg h0
      have hl4 : xs4.length = 0 := hz4.2 h0
      have hl3 : 0 < xs3.length := by
        rcases Nat.eq_zero_or_pos xs3.length with h | h
        · have := hz3.1 h; omega
        · exact h
      rw [hl4] at HV5 ⊢
      have hr7 := at_later HW.out.2.2.2.1 hg5
      obtain ⟨m0, m1, m2⟩ := three_cells hr7
      obtain ⟨f0, f1, f2⟩ := three_frozen hr7
      have hz := lt_of_block hr7
      have HB := hide (And.intro hr7 (And.intro (below_next HW.out.2.1 hg5) (And.intro e1 e2))); clear hr7 e1 e2 hz3 hz4 hl4 hr4n hsb h0
      go_wp2
      refine bodyPost_ret (v := .agg #[.bool true, .slice A3 xs3.length c3, .slice none 0 0]) ?_ rfl ?_
      · simp [results, Tryz.results29, go_sem, m0, m1, m2, hz]
      obtain ⟨hr7, hb, e1, e2⟩ := HB.out
      refine ⟨_, rfl, (ratV_int ((HV5.out.1.more (show L ≤ L + 1 by omega)) |> fun h => ?_) ?_).put3 hr7, below_set3 hb (by omega) _ _ _⟩
      · unfold flQ; rw [e1, show ((-((p.num.natAbs : Int) / (p.den : Int))).natAbs : Int) = (p.num.natAbs : Int) / (p.den : Int) by omega]; exact h
      · unfold flQ; rw [e1]; simp; omega
    · have e1 := floor_neg1 hp hneg (by omega)
      have hq0 := HV5.out.1.nonneg
      have hl4 : 0 < xs4.length := by
        rcases Nat.eq_zero_or_pos xs4.length with h | h
        · exact absurd (hz4.1 h) h0
        · exact h
      have HE := hide (And.intro e1 hq0); clear e1 hq0 hz3 hz4 hr4n hsb h0 hp
      go_wp2_with fail
      refine (one_c _).mono ?_
      rintro e w6 ⟨v6, rfl, hv6, hd6⟩
      go_wp2_with fail
      refine (plus_c _ _ _ _ 1 L 1 (HV5.out.1.below hd6) hv6 (by omega) (by omega)).mono ?_
      rintro e w7 ⟨v7, rfl, hv7, hd7⟩
      obtain ⟨A5, c5, xs5, rfl, _⟩ := hv7.open_
      have hz5 := nat_zero hv7
      have hl5 : 0 < xs5.length := by
        rcases Nat.eq_zero_or_pos xs5.length with h | h
        · have := hz5.1 h; have := HE.out.2; omega
        · exact h
      have hg7 : Below W.heap.size W w7 := hg5.trans ((below_next hd6 hd7).mono hg5.size)
      obtain ⟨j0, j1, j2⟩ := HS.out _ hg7
      have hr7 := at_later HW.out.2.2.2.1 hg7
      obtain ⟨m0, m1, m2⟩ := three_cells hr7
      obtain ⟨f0, f1, f2⟩ := three_frozen hr7
      have hz := lt_of_block hr7
      have HB := hide (And.intro hr7 (And.intro (below_next HW.out.2.1 hg7) hv7)); clear hr7 hv7 hv6 hz5 hg7 hd6 hd7 i0 i1 i2
      go_wp2
      refine bodyPost_ret (v := .agg #[.bool true, .slice A5 xs5.length c5, .slice none 0 0]) ?_ rfl ?_
      · simp [results, Tryz.results29, go_sem, m0, m1, m2, hz]
      obtain ⟨hr7, hb, hv7⟩ := HB.out
      obtain ⟨e1, hq0⟩ := HE.out
      have h := hv7.fit (L' := L + 1) (by
        have h1 := HV5.out.1.lt
        have h2 : (4294967296 : Int) ^ (L + 1) = 4294967296 ^ L * 4294967296 := Int.pow_succ _ _
        omega)
      refine ⟨_, rfl, (ratV_int ?_ ?_).put3 hr7, below_set3 hb (by omega) _ _ _⟩
      · unfold flQ; rw [e1, show ((-((p.num.natAbs : Int) / (p.den : Int) + 1)).natAbs : Int) = (p.num.natAbs : Int) / (p.den : Int) + 1 by omega]; exact h
      · unfold flQ; rw [e1]; simp; omega
  · obtain rfl : b1 = false := by rw [hsb]; simp [hneg]
    have hr7 := at_later HW.out.2.2.2.1 hg5
    obtain ⟨m0, m1, m2⟩ := three_cells hr7
    obtain ⟨f0, f1, f2⟩ := three_frozen hr7
    have hz := lt_of_block hr7
    have HB := hide (And.intro hr7 (below_next HW.out.2.1 hg5)); clear hr7 hz3 hz4 hr4n hsb
    go_wp2
    refine bodyPost_ret (v := .agg #[.bool false, .slice A3 xs3.length c3, .slice none 0 0]) ?_ rfl ?_
    · simp [results, Tryz.results29, go_sem, m0, m1, m2, hz]
    obtain ⟨hr7, hb⟩ := HB.out
    have e0 : (p.num.natAbs : Int) = p.num := by omega
    have e1 : 0 ≤ p.num / (p.den : Int) := Int.ediv_nonneg (by omega) (by omega)
    refine ⟨_, rfl, (ratV_int ((HV5.out.1.more (show L ≤ L + 1 by omega)) |> fun h => ?_) ?_).put3 hr7, below_set3 hb (by omega) _ _ _⟩
    · unfold flQ; rw [show ((p.num / (p.den : Int)).natAbs : Int) = p.num / (p.den : Int) by omega]; rw [e0] at h; exact h
    · unfold flQ; simp; omega
end Go.Proofs.YthnnbpnocefmgaaGreat
namespace Go.Proofs.YthnnbpnocefmgaaGreat
open Go.RowKit
set_option linter.unusedVariables false
set_option linter.unusedSimpArgs false

/-- a fraction of so many digits -/
def FracQ (most : Nat) (q : Rat) : Prop := (q.num.natAbs : Int) < 10 ^ most ∧ (q.den : Int) < 10 ^ most

/-- both have the same fraction, of so many digits -/
def fracR (w : World) (most : Nat) (v : Value) (w' : World) : Prop :=
  ∃ (q : Rat) (s : Bool) (A : Option Addr) (n c : Nat) (B : Option Addr) (m d : Nat) (t : Bool) (A' : Option Addr) (n' c' : Nat) (B' : Option Addr) (m' d' : Nat),
    v = .tuple #[.agg #[.bool s, .slice A n c, .slice B m d], .agg #[.bool t, .slice A' n' c', .bool false, .slice B' m' d']] ∧ FracQ most q ∧
    RatV w' (.agg #[.bool s, .slice A n c, .slice B m d]) q (most / 9 + 1) ∧ QV w' (.agg #[.bool t, .slice A' n' c', .bool false, .slice B' m' d']) q (most / 9 + 1) ∧ Below w.heap.size w w'

theorem dec_lt (x : Int) (n : Nat) (h0 : 0 ≤ x) (h : (decText x).length ≤ n) (hn : 1 ≤ n) : x < 10 ^ n := by
  unfold decText at h
  have hp : (1 : Int) ≤ 10 ^ n := Int.pow_pos (by omega)
  by_cases hx : x = 0
  · omega
  · rw [if_neg hx, List.length_reverse, asc_length] at h
    have h1 := val_lt (B := 10) (by omega) (decOf_dig x.toNat)
    rw [decOf_val] at h1
    have h2 := pow_le_pow' (B := 10) (by omega) h
    omega

theorem dec_le {x : Int} {n : Nat} (h0 : 0 < x) (h : x < 10 ^ n) : (decText x).length ≤ n := by
  unfold decText
  rw [if_neg (by omega), List.length_reverse, asc_length]
  exact decOf_length x.toNat n (by omega)

theorem FracQ.of_text {q : Rat} {n : Nat} (h : (ratText q).length ≤ n) (hn : 1 ≤ n) : FracQ n q := by
  have h1 : (intText q.num).length ≤ n := by unfold ratText at h; rw [List.length_append] at h; omega
  have h2 : (decText (q.num.natAbs : Int)).length ≤ n := by have := intText_dec_len q.num; omega
  refine ⟨dec_lt _ n (by omega) h2 hn, ?_⟩
  have hp : (10 : Int) ^ 1 ≤ 10 ^ n := pow_le_pow' (by omega) hn
  by_cases hd : q.den = 1
  · rw [hd]; omega
  · refine dec_lt _ n (by omega) ?_ hn
    unfold ratText at h
    rw [if_neg hd, List.length_append, List.length_cons] at h
    omega

theorem FracQ.one (n : Nat) (hn : 1 ≤ n) : FracQ n (Rat.divInt 1 1) := by
  have hp : (10 : Int) ^ 1 ≤ 10 ^ n := pow_le_pow' (by omega) hn
  have e : Rat.divInt 1 1 = (1 : Rat) := Rat.num_divInt_den (1 : Rat)
  rw [e]
  exact ⟨by show ((1 : Int).natAbs : Int) < _; simp; omega, by show ((1 : Nat) : Int) < _; omega⟩

theorem ten_nine (n : Nat) : (10 : Int) ^ n ≤ 1000000000 ^ (n / 9 + 1) := by
  rw [lim_pow]
  exact pow_le_pow' (by omega) (by omega)
theorem nine_word (n : Nat) : (1000000000 : Int) ^ n ≤ 4294967296 ^ n := by
  induction n with
  | zero => simp
  | succ n ih =>
    rw [Int.pow_succ, Int.pow_succ]
    have h0 : (0 : Int) < 1000000000 ^ n := Int.pow_pos (by omega)
    omega
theorem FracQ.fit {n : Nat} {q : Rat} (h : FracQ n q) : FitQ (n / 9 + 1) q := by
  have h1 := ten_nine n
  have h2 := nine_word (n / 9 + 1)
  obtain ⟨a, b⟩ := h
  exact ⟨by omega, by omega⟩
theorem QV.fit {w : World} {v : Value} {q : Rat} {L n : Nat} (h : QV w v q L) (hq : FracQ n q) : QV w v q (n / 9 + 1) := by
  have h1 := ten_nine n
  obtain ⟨a, b, rfl, g1, g2⟩ := h
  exact ⟨a, b, rfl, g1.fit (by have := hq.1; omega), g2.fit (by have := hq.2; omega)⟩

theorem text_len {q : Rat} {n : Nat} (h : FracQ n q) (hn : 1 ≤ n) : (ratText q).length ≤ 2 * n + 2 := by
  obtain ⟨h1, h2⟩ := h
  have a : (intText q.num).length ≤ n + 1 := by
    have b : (decText (q.num.natAbs : Int)).length ≤ n := by
      by_cases h0 : q.num.natAbs = 0
      · rw [h0]; simp [decText]; omega
      · exact dec_le (by omega) h1
    unfold intText
    rw [List.length_append]
    split <;> simp <;> omega
  have hd := den_pos q
  have b : (decText (q.den : Int)).length ≤ n := dec_le (by omega) h2
  unfold ratText
  rw [List.length_append]
  split
  · simp; omega
  · rw [List.length_cons]; omega

theorem small_ten (n : Nat) (hn : n ≤ 20000) : (10 : Int) ^ n ≤ 2 ^ mostBits := by
  have h1 : (10 : Int) ^ n ≤ 16 ^ n := by
    induction n with
    | zero => simp
    | succ n ih =>
      have := ih (by omega)
      rw [Int.pow_succ, Int.pow_succ]
      have h0 : (0 : Int) < 10 ^ n := Int.pow_pos (by omega)
      omega
  have h2 : (16 : Int) ^ n = 2 ^ (4 * n) := by rw [Int.pow_mul]; rfl
  have h3 : (2 : Int) ^ (4 * n) ≤ 2 ^ mostBits := pow_le_pow' (by omega) (by unfold mostBits; omega)
  omega
theorem FracQ.small {n : Nat} {q : Rat} (h : FracQ n q) (hn : n ≤ 20000) : SmallQ q := by
  have := small_ten n hn
  exact ⟨by have := h.1; unfold Small; omega, by have := h.2; unfold Small; omega⟩

theorem Arr.put {w : World} {A : Option Addr} {k : IntKind} {xs : List Int} {B i : Nat} {v : Value} (h : Arr w A k xs) (ht : ∀ b, Typed w b (tyOf k) → b ≠ B) : Arr (w.setCell ⟨B, i, none⟩ v) A k xs := by
  intro hx
  obtain ⟨b, o, rfl, hty, hc⟩ := h hx
  have hne := ht b hty
  refine ⟨b, o, rfl, hty.setCell _ _, fun j hj => ?_⟩
  rw [World.cell?_setCell_other _ _ _ _ (by intro e; injection e with e1; exact hne e1.symm)]
  exact hc j hj
theorem typed_back {w : World} {b B i : Nat} {e : TypeId} {v : Value} (h : Typed (w.setCell ⟨B, i, none⟩ v) b e) : Typed w b e := by
  obtain ⟨cs, m, h⟩ := h
  simp only [World.setCell, Array.getElem?_modify] at h
  split at h
  · cases hh : w.heap[b]? with
    | none => rw [hh] at h; simp at h
    | some o =>
      rw [hh] at h
      cases o <;> simp at h
      obtain ⟨_, rfl, rfl⟩ := h
      exact ⟨_, _, hh⟩
  · exact ⟨cs, m, h⟩
theorem NatV.putq {w : World} {v : Value} {x : Int} {L B i : Nat} {u : Value} (h : NatV w v x L) (ht : ∀ b, Typed w b (tyOf .u32) → b ≠ B) : NatV (w.setCell ⟨B, i, none⟩ u) v x L := by
  obtain ⟨A, c, xs, rfl, h1, h2, h3, h4⟩ := h
  exact ⟨A, c, xs, rfl, h1, h2, h3.put ht, h4⟩
theorem LimV.putq {w : World} {v : Value} {x : Int} {L B i : Nat} {u : Value} (h : LimV w v x L) (ht : ∀ b, Typed w b (tyOf .i64) → b ≠ B) : LimV (w.setCell ⟨B, i, none⟩ u) v x L := by
  obtain ⟨A, c, xs, rfl, h1, h2, h3, h4⟩ := h
  exact ⟨A, c, xs, rfl, h1, h2, h3.put ht, h4⟩
theorem typed_ne {w : World} {B : Nat} {cs : Array Value} {e f : TypeId} (hB : w.heap[B]? = some (.cells cs e (0, 0))) (he : e ≠ f) : ∀ b, Typed w b f → b ≠ B :=
  fun b hb => Typed.ne hb ⟨_, _, hB⟩ (fun e' => he e'.symm)
theorem RatV.put4 {w : World} {v : Value} {q : Rat} {L B : Nat} {a b c d : Value} (h : RatV w v q L) {cs : Array Value} {e : TypeId} (hB : w.heap[B]? = some (.cells cs e (0, 0))) (he : e ≠ 126) :
    RatV ((((w.setCell ⟨B, 0, none⟩ a).setCell ⟨B, 1, none⟩ b).setCell ⟨B, 2, none⟩ c).setCell ⟨B, 3, none⟩ d) v q L := by
  obtain ⟨n, l, rfl, h1, h2⟩ := h
  have ht : ∀ b, Typed w b (tyOf .u32) → b ≠ B := typed_ne hB he
  have k : ∀ {x : Int} {v : Value}, NatV w v x L → NatV ((((w.setCell ⟨B, 0, none⟩ a).setCell ⟨B, 1, none⟩ b).setCell ⟨B, 2, none⟩ c).setCell ⟨B, 3, none⟩ d) v x L := fun h =>
    (((h.putq ht).putq fun b hb => ht b (typed_back hb)).putq fun b hb => ht b (typed_back (typed_back hb))).putq fun b hb => ht b (typed_back (typed_back (typed_back hb)))
  exact ⟨n, l, rfl, k h1, k h2⟩
theorem QV.putR {w : World} {v : Value} {q : Rat} {L B : Nat} {a b c : Value} (h : QV w v q L) {cs : Array Value} {e : TypeId} (hB : w.heap[B]? = some (.cells cs e (0, 0))) (he : e ≠ 3) :
    QV (((w.setCell ⟨B, 0, none⟩ a).setCell ⟨B, 1, none⟩ b).setCell ⟨B, 2, none⟩ c) v q L := by
  obtain ⟨n, l, rfl, h1, h2⟩ := h
  have ht : ∀ b, Typed w b (tyOf .i64) → b ≠ B := typed_ne hB he
  have k : ∀ {x : Int} {v : Value}, LimV w v x L → LimV (((w.setCell ⟨B, 0, none⟩ a).setCell ⟨B, 1, none⟩ b).setCell ⟨B, 2, none⟩ c) v x L := fun h =>
    ((h.putq ht).putq fun b hb => ht b (typed_back hb)).putq fun b hb => ht b (typed_back (typed_back hb))
  exact ⟨n, l, rfl, k h1, k h2⟩
theorem put4_other {w : World} {B b j : Nat} {x y z u : Value} (h : b ≠ B) : ((((w.setCell ⟨B, 0, none⟩ x).setCell ⟨B, 1, none⟩ y).setCell ⟨B, 2, none⟩ z).setCell ⟨B, 3, none⟩ u).cell? ⟨b, j, none⟩ = w.cell? ⟨b, j, none⟩ := by
  have n : ∀ i, (⟨B, i, none⟩ : Addr) ≠ ⟨b, j, none⟩ := by intro i e; injection e with e1; exact h e1.symm
  rw [World.cell?_setCell_other _ _ _ _ (n 3), World.cell?_setCell_other _ _ _ _ (n 2), World.cell?_setCell_other _ _ _ _ (n 1), World.cell?_setCell_other _ _ _ _ (n 0)]
theorem cell_drew (w : World) (p : Addr) : w.drew.cell? p = w.cell? p := rfl
theorem keep7_set3 {w : World} {B b1 b2 : Nat} {x y z a0 a1 a2 c0 c1 c2 c3 : Value} (h : ((w).cell? ⟨b1, 0, none⟩ = some a0 ∧ (w).cell? ⟨b1, 1, none⟩ = some a1 ∧ (w).cell? ⟨b1, 2, none⟩ = some a2) ∧ ((w).cell? ⟨b2, 0, none⟩ = some c0 ∧ (w).cell? ⟨b2, 1, none⟩ = some c1 ∧ (w).cell? ⟨b2, 2, none⟩ = some c2 ∧ (w).cell? ⟨b2, 3, none⟩ = some c3)) (h1 : b1 ≠ B) (h2 : b2 ≠ B) :
    (((((w.setCell ⟨B, 0, none⟩ x).setCell ⟨B, 1, none⟩ y).setCell ⟨B, 2, none⟩ z).drew).cell? ⟨b1, 0, none⟩ = some a0 ∧ ((((w.setCell ⟨B, 0, none⟩ x).setCell ⟨B, 1, none⟩ y).setCell ⟨B, 2, none⟩ z).drew).cell? ⟨b1, 1, none⟩ = some a1 ∧ ((((w.setCell ⟨B, 0, none⟩ x).setCell ⟨B, 1, none⟩ y).setCell ⟨B, 2, none⟩ z).drew).cell? ⟨b1, 2, none⟩ = some a2) ∧ (((((w.setCell ⟨B, 0, none⟩ x).setCell ⟨B, 1, none⟩ y).setCell ⟨B, 2, none⟩ z).drew).cell? ⟨b2, 0, none⟩ = some c0 ∧ ((((w.setCell ⟨B, 0, none⟩ x).setCell ⟨B, 1, none⟩ y).setCell ⟨B, 2, none⟩ z).drew).cell? ⟨b2, 1, none⟩ = some c1 ∧ ((((w.setCell ⟨B, 0, none⟩ x).setCell ⟨B, 1, none⟩ y).setCell ⟨B, 2, none⟩ z).drew).cell? ⟨b2, 2, none⟩ = some c2 ∧ ((((w.setCell ⟨B, 0, none⟩ x).setCell ⟨B, 1, none⟩ y).setCell ⟨B, 2, none⟩ z).drew).cell? ⟨b2, 3, none⟩ = some c3) := by
  obtain ⟨⟨g0, g1, g2⟩, g3, g4, g5, g6⟩ := h
  simp only [cell_drew]
  exact ⟨⟨(set3_other h1).trans g0, (set3_other h1).trans g1, (set3_other h1).trans g2⟩, (set3_other h2).trans g3, (set3_other h2).trans g4, (set3_other h2).trans g5, (set3_other h2).trans g6⟩
theorem keep7_put4 {w : World} {B b1 b2 : Nat} {x y z u a0 a1 a2 c0 c1 c2 c3 : Value} (h : ((w.drew).cell? ⟨b1, 0, none⟩ = some a0 ∧ (w.drew).cell? ⟨b1, 1, none⟩ = some a1 ∧ (w.drew).cell? ⟨b1, 2, none⟩ = some a2) ∧ ((w.drew).cell? ⟨b2, 0, none⟩ = some c0 ∧ (w.drew).cell? ⟨b2, 1, none⟩ = some c1 ∧ (w.drew).cell? ⟨b2, 2, none⟩ = some c2 ∧ (w.drew).cell? ⟨b2, 3, none⟩ = some c3)) (h1 : b1 ≠ B) (h2 : b2 ≠ B) :
    ((((((w.setCell ⟨B, 0, none⟩ x).setCell ⟨B, 1, none⟩ y).setCell ⟨B, 2, none⟩ z).setCell ⟨B, 3, none⟩ u).drew).cell? ⟨b1, 0, none⟩ = some a0 ∧ (((((w.setCell ⟨B, 0, none⟩ x).setCell ⟨B, 1, none⟩ y).setCell ⟨B, 2, none⟩ z).setCell ⟨B, 3, none⟩ u).drew).cell? ⟨b1, 1, none⟩ = some a1 ∧ (((((w.setCell ⟨B, 0, none⟩ x).setCell ⟨B, 1, none⟩ y).setCell ⟨B, 2, none⟩ z).setCell ⟨B, 3, none⟩ u).drew).cell? ⟨b1, 2, none⟩ = some a2) ∧ ((((((w.setCell ⟨B, 0, none⟩ x).setCell ⟨B, 1, none⟩ y).setCell ⟨B, 2, none⟩ z).setCell ⟨B, 3, none⟩ u).drew).cell? ⟨b2, 0, none⟩ = some c0 ∧ (((((w.setCell ⟨B, 0, none⟩ x).setCell ⟨B, 1, none⟩ y).setCell ⟨B, 2, none⟩ z).setCell ⟨B, 3, none⟩ u).drew).cell? ⟨b2, 1, none⟩ = some c1 ∧ (((((w.setCell ⟨B, 0, none⟩ x).setCell ⟨B, 1, none⟩ y).setCell ⟨B, 2, none⟩ z).setCell ⟨B, 3, none⟩ u).drew).cell? ⟨b2, 2, none⟩ = some c2 ∧ (((((w.setCell ⟨B, 0, none⟩ x).setCell ⟨B, 1, none⟩ y).setCell ⟨B, 2, none⟩ z).setCell ⟨B, 3, none⟩ u).drew).cell? ⟨b2, 3, none⟩ = some c3) := by
  obtain ⟨⟨g0, g1, g2⟩, g3, g4, g5, g6⟩ := h
  simp only [cell_drew] at *
  exact ⟨⟨(put4_other h1).trans g0, (put4_other h1).trans g1, (put4_other h1).trans g2⟩, (put4_other h2).trans g3, (put4_other h2).trans g4, (put4_other h2).trans g5, (put4_other h2).trans g6⟩
theorem set3_heap {w : World} {B b : Nat} {x y z : Value} {o : Obj} (h : w.heap[b]? = some o) (hne : b ≠ B) : (((w.setCell ⟨B, 0, none⟩ x).setCell ⟨B, 1, none⟩ y).setCell ⟨B, 2, none⟩ z).heap[b]? = some o := by
  simp [World.setCell, Array.getElem?_modify, Ne.symm hne, h]

set_option maxRecDepth 100000 in
set_option maxHeartbeats 4000000 in
theorem frac_c (w : World) (s : ByteArray) (hs : s.size ≤ 140737488355328) (most : Nat) (hm0 : 1 ≤ most) (hm1 : most ≤ 1000) :
    Calls Tryz.prog 13 #[.string s, .int .i64 most] w (Ret (fracR w most)) := by
  have hss : s.size = (bytesOf s).length := (bytesOf_length s).symm
  have hm2 : (most : Int) ≤ 1000 := by omega
  have HB := hide (And.intro (bytesOf_byts s) (And.intro (str_bytes s).symm (And.intro hss hm0))); clear hss hm0
  obtain ⟨W, hW⟩ : ∃ W, W = (w.alloc (.cells #[.bool false, .slice none 0 0, .slice none 0 0] 35)).alloc (.cells #[.bool false, .slice none 0 0, .bool false, .slice none 0 0] 41) := ⟨_, rfl⟩
  have hb0 : Below w.heap.size w W := by rw [hW]; exact ((Below.refl _ _).alloc (Nat.le_refl _) _).alloc (by simp) _
  have hr1 : W.heap[w.heap.size]? = some (.cells #[.bool false, .slice none 0 0, .slice none 0 0] 35) := by rw [hW]; exact at_old (at_new _ _) _
  have hr2 : W.heap[w.heap.size + 1]? = some (.cells #[.bool false, .slice none 0 0, .bool false, .slice none 0 0] 41) := by rw [hW]; exact at_new' _ (by simp)
  have HW := hide (And.intro hW (And.intro hb0 (And.intro hr1 hr2))); clear hW hb0 hr1 hr2
  go_enter Tryz.func13, Tryz.ntmps13
  go_wp2_with fail
  rw [← HW.out.1]
  refine (show Calls _ _ _ _ _ from by rw [HB.out.2.1]; exact read9_c _ _ HB.out.1 (by have := HB.out.2.2.1; omega)).mono ?_
  rintro e w1 ⟨_, rfl, u, ok, rfl, hd1, hor⟩
  obtain ⟨t, A, n, c, B, m, d, rfl⟩ : ∃ t A n c B m d, u = .agg #[.bool t, .slice A n c, .bool false, .slice B m d] := by
    rcases hor with ⟨_, q, _, hq⟩ | ⟨_, _, h⟩
    · obtain ⟨t, A, n, c, B, m, d, e, _⟩ := hq.parts
      exact ⟨t, A, n, c, B, m, d, e⟩
    · exact ⟨_, _, _, _, _, _, _, h⟩
  obtain ⟨W2, hW2⟩ : ∃ W2, W2 = w1.alloc (.cells #[.bool t, .slice A n c, .bool false, .slice B m d] 41) := ⟨_, rfl⟩
  have hda : Below w1.heap.size w1 W2 := by rw [hW2]; exact (Below.refl _ _).alloc (Nat.le_refl _) _
  have hn2 : W2.heap[w1.heap.size]? = some (.cells #[.bool t, .slice A n c, .bool false, .slice B m d] 41) := by rw [hW2]; exact at_new _ _
  have hor2 : (ok = true ∧ ∃ q : Rat, bytesOf s = ratText q ∧ QV W2 (.agg #[.bool t, .slice A n c, .bool false, .slice B m d]) q ((bytesOf s).length / 9 + 3)) ∨ ok = false := by
    rcases hor with ⟨h, q, h1, hq⟩ | ⟨h, _⟩
    · exact Or.inl ⟨h, q, h1, hq.below hda⟩
    · exact Or.inr h
  have HA := hide (And.intro hW2 (And.intro (below_next hd1 hda) (And.intro hn2 hor2))); clear hn2 hor2 hor hda hW2
  go_upto_region 2 with fail
  rw [← HA.out.1]
  obtain ⟨bad, hbad⟩ : ∃ bad : Bool, bad = (!ok || decide (most < s.size)) := ⟨_, rfl⟩
  have HD := hide hbad; clear hbad
  go_cut [22] (fun s22 wx => s22 = .bool bad ∧ wx = W2)
  case first =>
    cases ok with
    | false =>
      go_wp2
      go_meet
      exact ⟨by rw [HD.out]; rfl, rfl⟩
    | true =>
      by_cases hsm : most < s.size
      · go_wp2
        go_meet
        exact ⟨by rw [HD.out]; simp [hsm], rfl⟩
      · go_wp2
        go_meet
        exact ⟨by rw [HD.out]; simp [hsm], rfl⟩
  case rest =>
  obtain ⟨rfl, rfl⟩ := hcut
  go_upto_if 22 with fail
  go_cut [22] (fun s22 wx => ∃ (q : Rat) (t : Bool) (A : Option Addr) (n c : Nat) (B : Option Addr) (m d : Nat), wx.heap[w1.heap.size]? = some (.cells #[.bool t, .slice A n c, .bool false, .slice B m d] 41 (0, 0)) ∧ QV wx (.agg #[.bool t, .slice A n c, .bool false, .slice B m d]) q (most / 9 + 1) ∧ FracQ most q ∧ Below W.heap.size W wx)
  case first =>
    cases bad with
    | false =>
      go_wp2
      go_meet
      have hd := HD.out
      simp at hd
      rcases HA.out.2.2.2 with ⟨_, q, h1, hq⟩ | h
      · have hfq : FracQ most q := FracQ.of_text (by rw [← h1]; have := HB.out.2.2.1; omega) HB.out.2.2.2
        exact ⟨q, t, A, n, c, B, m, d, HA.out.2.2.1, hq.fit hfq, hfq, HA.out.2.1⟩
      · rw [h] at hd; simp at hd
    | true =>
        go_wp2_with fail
        refine (frac9_c _ 1 1 (by omega) (by omega) (by omega) (by omega) (by omega)).mono ?_
        rintro e w4 ⟨_, rfl, hq4, hd4⟩
        obtain ⟨t4, A4, n4, c4, B4, m4, d4, rfl, _⟩ := hq4.parts
        have hn4 := at_later HA.out.2.2.1 hd4
        have hbl : Below W.heap.size W w4 := below_next HA.out.2.1 hd4
        obtain ⟨y0, y1, y2, y3, f0, f1, f2, f3⟩ := four_cells hn4
        have HF := hide (And.intro hq4 (And.intro hn4 hbl)); clear hq4 hn4 hbl hd4
        go_wp2
        go_meet
        exact ⟨_, t4, A4, n4, c4, B4, m4, d4, put4_same HF.out.2.1, (HF.out.1.put4 HF.out.2.1 (by decide)).fit (FracQ.one _ HB.out.2.2.2), FracQ.one _ HB.out.2.2.2, below_put4 HF.out.2.2 (by have := hd1.size; omega)⟩
  case rest =>
    obtain ⟨q, t', A', n', c', B', m', d', hbx, hqv, hfq, hbel⟩ := hcut
    obtain ⟨y0, y1, y2, y3, f0, f1, f2, f3⟩ := four_cells hbx
    have HF := hide (And.intro hqv (And.intro hfq (And.intro hbx hbel))); clear hqv hfq hbx hbel
    clear f0 f1 f2 f3
    go_wp2_with fail
    refine (form9_c _ _ q _ HF.out.1 (by omega)).mono ?_
    rintro e w5 ⟨_, rfl, rfl, hd5⟩
    go_wp2_with fail
    refine (parse_c _ q (by have := text_len HF.out.2.1 HB.out.2.2.2; omega)).mono ?_
    rintro e w6 ⟨_, rfl, hd6, hor⟩
    rcases hor with ⟨hq, v6, rfl, hv6⟩ | ⟨hq, _⟩
    · replace hv6 := hv6.fit HF.out.2.1.fit
      obtain ⟨s6, A6, n6, c6, B6, m6, d6, rfl⟩ := hv6.shape
      have hd56 := below_next hd5 hd6
      obtain ⟨W7, hW7⟩ : ∃ W7, W7 = w6.alloc (.cells #[.bool s6, .slice A6 n6 c6, .slice B6 m6 d6] 35) := ⟨_, rfl⟩
      have hda : Below w6.heap.size w6 W7 := by rw [hW7]; exact (Below.refl _ _).alloc (Nat.le_refl _) _
      have hn7 : W7.heap[w6.heap.size]? = some (.cells #[.bool s6, .slice A6 n6 c6, .slice B6 m6 d6] 35) := by rw [hW7]; exact at_new _ _
      have hbl7 := HF.out.2.2.2.trans ((below_next hd56 hda).mono HF.out.2.2.2.size)
      have hq7 := (HF.out.1.below hd56).below hda
      have hx7 := at_later (at_later HF.out.2.2.1 hd56) hda
      have hR1 := at_later HW.out.2.2.1 hbl7
      have hR2 := at_later HW.out.2.2.2 hbl7
      have hG := And.intro (hv6.below hda) (And.intro hq7 (And.intro hbl7 (And.intro hR1 hR2)))
      have hbw7 : w6.heap.size < W7.heap.size := lt_of_block hn7
      obtain ⟨k0, k1, k2⟩ := three_cells hn7
      obtain ⟨x0, x1, x2, x3, _⟩ := four_cells hx7
      obtain ⟨r0, r1, r2⟩ := three_cells hR1
      obtain ⟨g0, g1, g2⟩ := three_frozen hR1
      obtain ⟨q0, q1, q2, q3, e0, e1, e2, e3⟩ := four_cells hR2
      have hS : ∀ w', Below W7.heap.size W7 w' → (w'.cell? ⟨w6.heap.size, 0, none⟩ = some (.bool s6) ∧ w'.cell? ⟨w6.heap.size, 1, none⟩ = some (.slice A6 n6 c6) ∧ w'.cell? ⟨w6.heap.size, 2, none⟩ = some (.slice B6 m6 d6)) ∧ (w'.cell? ⟨w1.heap.size, 0, none⟩ = some (.bool t') ∧ w'.cell? ⟨w1.heap.size, 1, none⟩ = some (.slice A' n' c') ∧ w'.cell? ⟨w1.heap.size, 2, none⟩ = some (.bool false) ∧ w'.cell? ⟨w1.heap.size, 3, none⟩ = some (.slice B' m' d')) := fun w' h => by
        obtain ⟨a, b, c⟩ := three_cells (at_later hn7 h)
        obtain ⟨a', b', c', d', _⟩ := four_cells (at_later hx7 h)
        exact ⟨⟨a, b, c⟩, a', b', c', d'⟩
      have HSS := hide hS
      have HG := hide (And.intro hG hW7); clear hG hW7 hn7 hx7 hR1 hR2 hbl7 hq7 hv6 hda hd56 hS y0 y1 y2 y3
      have hlt1 := lt_of_block HG.out.1.2.2.2.1
      have hlt2 := lt_of_block HG.out.1.2.2.2.2
      clear k0 k1 k2 x0 x1 x2 x3
      go_wp2
      rw [← HG.out.2]

      have hw0 : w.heap.size + 1 < w1.heap.size := by have := lt_of_block HW.out.2.2.2; have := hd1.size; omega
      have hw1 : w1.heap.size < w6.heap.size := by have := lt_of_block HF.out.2.2.1; have := hd5.size; have := hd6.size; omega
      have hw2 : ¬ w.heap.size = w6.heap.size := by omega
      have hw3 : ¬ w.heap.size = w1.heap.size := by omega
      have hw4 : ¬ w.heap.size + 1 = w6.heap.size := by omega
      have hw5 : ¬ w.heap.size + 1 = w1.heap.size := by omega
      have hC := HSS.out _ (Below.refl _ _)
      have hS0 := HSS.out _ (Below.refl _ _).drew
      go_region_held3 (fun w' => (w'.cell? ⟨w6.heap.size, 0, none⟩ = some (.bool s6) ∧ w'.cell? ⟨w6.heap.size, 1, none⟩ = some (.slice A6 n6 c6) ∧ w'.cell? ⟨w6.heap.size, 2, none⟩ = some (.slice B6 m6 d6)) ∧ (w'.cell? ⟨w1.heap.size, 0, none⟩ = some (.bool t') ∧ w'.cell? ⟨w1.heap.size, 1, none⟩ = some (.slice A' n' c') ∧ w'.cell? ⟨w1.heap.size, 2, none⟩ = some (.bool false) ∧ w'.cell? ⟨w1.heap.size, 3, none⟩ = some (.slice B' m' d'))) (first | (with_reducible exact hS0) | (with_reducible exact keep7_set3 hC (Ne.symm hw2) (Ne.symm hw3)) | (with_reducible exact keep7_put4 (keep7_set3 hC (Ne.symm hw2) (Ne.symm hw3)) (Ne.symm hw4) (Ne.symm hw5))) (fail)
      go_wp2
      refine bodyPost_ret (v := .tuple #[.agg #[.bool s6, .slice A6 n6 c6, .slice B6 m6 d6], .agg #[.bool t', .slice A' n' c', .bool false, .slice B' m' d']]) ?_ rfl ?_
      · simp [results, Tryz.results13, go_sem, r0, r1, r2, q0, q1, q2, q3, hlt1, hlt2]
      obtain ⟨hv, hq7, hb, hR1, hR2⟩ := HG.out.1
      have hR3 := set3_heap (x := .bool s6) (y := .slice A6 n6 c6) (z := .slice B6 m6 d6) hR2 (show w.heap.size + 1 ≠ w.heap.size by omega)
      refine ⟨_, rfl, q, _, _, _, _, _, _, _, _, _, _, _, _, _, _, rfl, HF.out.2.1, ?_, ?_, ?_⟩
      · exact ((hv.put3 hR1).put4 hR3 (by decide)).below (Below.refl _ _).drew
      · exact ((hq7.putR hR1 (by decide)).put4 hR3 (by decide)).below (Below.refl _ _).drew
      · exact (below_put4 (below_set3 (below_next HW.out.2.1 hb) (by omega) _ _ _) (by omega)).drew
    · exact absurd (HF.out.2.1.small (by omega)) hq
end Go.Proofs.YthnnbpnocefmgaaGreat
namespace Go.Proofs.YthnnbpnocefmgaaGreat
open Go.RowKit
set_option linter.unusedVariables false
set_option linter.unusedSimpArgs false

theorem divInt_le (n d : Int) (hd : 0 < d) : (Rat.divInt n d).num.natAbs ≤ n.natAbs ∧ ((Rat.divInt n d).den : Int) ≤ d := by
  have hg : 0 < Int.gcd d n := Int.gcd_pos_of_ne_zero_left n (by omega)
  constructor
  · rw [Rat.num_divInt, Int.sign_eq_one_of_pos hd, Int.one_mul, Int.natAbs_ediv_of_dvd (Int.gcd_dvd_right d n)]
    exact Nat.div_le_self _ _
  · rw [Rat.den_divInt, if_neg (by omega)]
    have := Nat.div_le_self d.natAbs (Int.gcd d n)
    omega

theorem fit_divInt {L : Nat} {n d : Int} (hd : 0 < d) (h1 : (n.natAbs : Int) < 4294967296 ^ L) (h2 : d ≤ 4294967296 ^ L) : FitQ L (Rat.divInt n d) := by
  obtain ⟨a, b⟩ := divInt_le n d hd
  exact ⟨by omega, by omega⟩

theorem FitQ.more {L L' : Nat} {q : Rat} (h : FitQ L q) (hL : L ≤ L') : FitQ L' q := by
  have := pow_le_pow' (B := 4294967296) (by omega) hL
  exact ⟨by have := h.1; omega, by have := h.2; omega⟩

theorem mul_lt' {a b B : Int} (ha : 0 ≤ a) (hb : 0 ≤ b) (h1 : a ≤ B) (h2 : b ≤ B) : a * b ≤ B * B :=
  Int.mul_le_mul h1 h2 hb (by omega)

theorem pow_dbl (B : Int) (L : Nat) : B ^ (2 * L) = B ^ L * B ^ L := by rw [← Int.pow_add]; congr 1; omega

theorem FitQ.add {L : Nat} {p q : Rat} (hp : FitQ L p) (hq : FitQ L q) : FitQ (2 * L + 1) (p + q) := by
  have hpd := den_pos p
  have hqd := den_pos q
  have e : p + q = Rat.divInt (p.num * q.den + q.num * p.den) (p.den * q.den) := by
    conv => lhs; rw [← Rat.num_divInt_den p, ← Rat.num_divInt_den q]
    exact Rat.divInt_add_divInt _ _ (by omega) (by omega)
  rw [e]
  have hB := pow_dbl 4294967296 L
  have hB1 : (4294967296 : Int) ^ (2 * L + 1) = 4294967296 ^ (2 * L) * 4294967296 := Int.pow_succ _ _
  have hB0 : (0 : Int) < 4294967296 ^ L := Int.pow_pos (by omega)
  have h1 := mul_lt' (a := (p.num.natAbs : Int)) (b := (q.den : Int)) (by omega) (by omega) (by have := hp.1; omega) hq.2
  have h2 := mul_lt' (a := (q.num.natAbs : Int)) (b := (p.den : Int)) (by omega) (by omega) (by have := hq.1; omega) hp.2
  have h3 := mul_lt' (a := (p.den : Int)) (b := (q.den : Int)) (by omega) (by omega) hp.2 hq.2
  have h0 : (0 : Int) < 4294967296 ^ L * 4294967296 ^ L := Int.mul_pos hB0 hB0
  refine fit_divInt (Int.mul_pos hpd hqd) ?_ (by omega)
  have t := Int.natAbs_add_le (p.num * q.den) (q.num * p.den)
  rw [Int.natAbs_mul, Int.natAbs_mul, Int.natAbs_natCast, Int.natAbs_natCast] at t
  have t2 : ((p.num * q.den + q.num * p.den).natAbs : Int) ≤ (p.num.natAbs : Int) * (q.den : Int) + (q.num.natAbs : Int) * (p.den : Int) := by exact_mod_cast t
  omega

theorem FitQ.mul {L : Nat} {p q : Rat} (hp : FitQ L p) (hq : FitQ L q) : FitQ (2 * L + 1) (p * q) := by
  have hpd := den_pos p
  have hqd := den_pos q
  have e : p * q = Rat.divInt (p.num * q.num) (p.den * q.den) := by
    conv => lhs; rw [← Rat.num_divInt_den p, ← Rat.num_divInt_den q]
    exact Rat.divInt_mul_divInt _ _
  rw [e]
  have hB := pow_dbl 4294967296 L
  have hB1 : (4294967296 : Int) ^ (2 * L + 1) = 4294967296 ^ (2 * L) * 4294967296 := Int.pow_succ _ _
  have hB0 : (0 : Int) < 4294967296 ^ L := Int.pow_pos (by omega)
  have h1 := mul_lt' (a := (p.num.natAbs : Int)) (b := (q.num.natAbs : Int)) (B := 4294967296 ^ L) (by omega) (by omega) (by have := hp.1; omega) (by have := hq.1; omega)
  have h3 := mul_lt' (a := (p.den : Int)) (b := (q.den : Int)) (by omega) (by omega) hp.2 hq.2
  have h0 : (0 : Int) < 4294967296 ^ L * 4294967296 ^ L := Int.mul_pos hB0 hB0
  refine fit_divInt (Int.mul_pos hpd hqd) ?_ (by omega)
  rw [Int.natAbs_mul, Int.natCast_mul]
  omega

theorem FitQ.neg {L : Nat} {p : Rat} (hp : FitQ L p) : FitQ L (-p) := by
  refine ⟨?_, hp.2⟩
  rw [Rat.neg_num, Int.natAbs_neg]
  exact hp.1
theorem FitQ.sub {L : Nat} {p q : Rat} (hp : FitQ L p) (hq : FitQ L q) : FitQ (2 * L + 1) (p - q) := by
  rw [Rat.sub_eq_add_neg]
  exact hp.add hq.neg
theorem FitQ.inv {L : Nat} {q : Rat} (hq : FitQ L q) (h0 : q ≠ 0) : FitQ (L + 1) q⁻¹ := by
  have hqd := den_pos q
  have hn : q.num ≠ 0 := fun e => h0 (Rat.num_eq_zero.1 e)
  have hB1 : (4294967296 : Int) ^ (L + 1) = 4294967296 ^ L * 4294967296 := Int.pow_succ _ _
  have hB0 : (0 : Int) < 4294967296 ^ L := Int.pow_pos (by omega)
  obtain ⟨a, b⟩ := hq
  rw [Rat.inv_def]
  by_cases hneg : q.num < 0
  · rw [← Rat.neg_divInt_neg]
    refine fit_divInt (by omega) ?_ (by omega)
    rw [Int.natAbs_neg, Int.natAbs_natCast]
    omega
  · exact fit_divInt (by omega) (by rw [Int.natAbs_natCast]; omega) (by omega)
theorem FitQ.div {L : Nat} {p q : Rat} (hp : FitQ L p) (hq : FitQ L q) (h0 : q ≠ 0) : FitQ (2 * L + 3) (p / q) := by
  rw [Rat.div_def]
  have := (hp.more (show L ≤ L + 1 by omega)).mul (hq.inv h0)
  exact this.more (by omega)
theorem FitQ.smallQ {L : Nat} {q : Rat} (h : FitQ L q) (hL : L ≤ 3000) : SmallQ q := by
  have h1 : (4294967296 : Int) ^ L = 2 ^ (32 * L) := by rw [Int.pow_mul]; rfl
  have h2 : (2 : Int) ^ (32 * L + 1) ≤ 2 ^ mostBits := pow_le_pow' (by omega) (by unfold mostBits; omega)
  have h3 : (2 : Int) ^ (32 * L + 1) = 2 ^ (32 * L) * 2 := Int.pow_succ _ _
  have h4 : (0 : Int) < 2 ^ (32 * L) := Int.pow_pos (by omega)
  exact ⟨by have := h.1; unfold Small; omega, by have := h.2; unfold Small; omega⟩

theorem BoxR.below {w w' : World} {g : Nat} {q : Rat} {L : Nat} (h : BoxR w g q L) (hb : Below w.heap.size w w') : BoxR w' g q L := by
  obtain ⟨s, A, n, c, B, m, d, h1, h2⟩ := h
  exact ⟨s, A, n, c, B, m, d, at_later h1 hb, h2.below hb⟩
/-- the box of the reference's fraction -/
def BoxQ (w : World) (g : Nat) (q : Rat) (L : Nat) : Prop := ∃ t A n c B m d, w.heap[g]? = some (.cells #[.bool t, .slice A n c, .bool false, .slice B m d] 41 (0, 0)) ∧ QV w (.agg #[.bool t, .slice A n c, .bool false, .slice B m d]) q L
theorem BoxQ.below {w w' : World} {g : Nat} {q : Rat} {L : Nat} (h : BoxQ w g q L) (hb : Below w.heap.size w w') : BoxQ w' g q L := by
  obtain ⟨s, A, n, c, B, m, d, h1, h2⟩ := h
  exact ⟨s, A, n, c, B, m, d, at_later h1 hb, h2.below hb⟩

theorem sgnQ_zero {p q : Rat} (h : p = q) : sgnQ (p - q) = 0 := by
  subst h
  rw [Rat.sub_self]
  rfl
theorem pos_num (q : Rat) : 0 < q ↔ 0 < q.num := by
  rw [Rat.lt_iff]
  show (0 : Int) * q.den < q.num * ((1 : Nat) : Int) ↔ _
  simp
theorem neg_num (q : Rat) : q < 0 ↔ q.num < 0 := by
  rw [Rat.lt_iff]
  show q.num * ((1 : Nat) : Int) < (0 : Int) * q.den ↔ _
  simp
theorem sgnQ_cases (q : Rat) : (sgnQ q = 1 ∧ 0 < q) ∨ (sgnQ q = 0 ∧ q = 0) ∨ (sgnQ q = -1 ∧ q < 0) := by
  unfold sgnQ
  by_cases h1 : q.num < 0
  · right; right
    rw [if_pos h1]
    exact ⟨rfl, (neg_num q).2 h1⟩
  · rw [if_neg h1]
    by_cases h2 : 0 < q.num
    · left
      rw [if_pos h2]
      exact ⟨rfl, (pos_num q).2 h2⟩
    · right; left
      rw [if_neg h2]
      exact ⟨rfl, Rat.num_eq_zero.1 (by omega)⟩
theorem sgnQ_neg (q : Rat) : sgnQ (-q) = - sgnQ q := by
  unfold sgnQ
  rw [Rat.neg_num]
  repeat' split
  all_goals omega
end Go.Proofs.YthnnbpnocefmgaaGreat
