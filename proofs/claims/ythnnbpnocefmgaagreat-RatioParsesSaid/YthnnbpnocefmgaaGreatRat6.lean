/- Walks: differences of fractions, fractions of whole numbers. -/
import Derived.Test.YthnnbpnocefmgaaGreatRat4
namespace Go.Proofs.YthnnbpnocefmgaaGreat
set_option linter.unusedVariables false
set_option linter.unusedSimpArgs false
open Go.RowKit
theorem minus_q (w : World) (a b : Value) (p q : Rat) (L : Nat) (ha : RatV w a p L) (hb : RatV w b q L) (hL : L ≤ 268435456) :
    Calls Tryz.prog 62 #[a, b] w (Ret (ratR w (p - q) (2 * L + 4))) := by
  have HA := hide (And.intro ha hb)
  obtain ⟨n1, l1, rfl, h1, g1⟩ := ha
  obtain ⟨n2, l2, rfl, h2, g2⟩ := hb
  obtain ⟨A1, c1, xs1, rfl, _⟩ := h1.open_
  obtain ⟨A2, c2, xs2, rfl, _⟩ := g1.open_
  obtain ⟨A3, c3, xs3, rfl, _⟩ := h2.open_
  obtain ⟨A4, c4, xs4, rfl, _⟩ := g2.open_
  clear h1 g1 h2 g2
  obtain ⟨b1, hs1⟩ : ∃ s, s = decide (p.num < 0) := ⟨_, rfl⟩
  obtain ⟨b2, hs2⟩ : ∃ s, s = decide (q.num < 0) := ⟨_, rfl⟩
  rw [← hs1, ← hs2] at HA
  rw [← hs1, ← hs2]
  clear hs1 hs2
  have hsub : p - q = p + -q := Rat.sub_eq_add_neg p q
  rw [hsub]; clear hsub
  go_enter Tryz.func62, Tryz.ntmps62
  go_wp2_with fail
  have hb0 : Below w.heap.size w (((w.alloc (.cells #[.bool b1, .slice A1 xs1.length c1, .slice A2 xs2.length c2] 35)).alloc (.cells #[.bool b2, .slice A3 xs3.length c3, .slice A4 xs4.length c4] 35)).alloc (.cells #[.bool false, .slice none 0 0, .slice none 0 0] 35)).drew := ((((Below.refl _ _).alloc (Nat.le_refl _) _).alloc (by simp) _).alloc (by simp; omega) _).drew
  have hs0 : Below (w.heap.size + 3) (((w.alloc (.cells #[.bool b1, .slice A1 xs1.length c1, .slice A2 xs2.length c2] 35)).alloc (.cells #[.bool b2, .slice A3 xs3.length c3, .slice A4 xs4.length c4] 35)).alloc (.cells #[.bool false, .slice none 0 0, .slice none 0 0] 35)) (((w.alloc (.cells #[.bool b1, .slice A1 xs1.length c1, .slice A2 xs2.length c2] 35)).alloc (.cells #[.bool b2, .slice A3 xs3.length c3, .slice A4 xs4.length c4] 35)).alloc (.cells #[.bool false, .slice none 0 0, .slice none 0 0] 35)).drew := (Below.refl _ _).drew
  have HK := hide (fun w' (h : Below (w.heap.size + 3) (((w.alloc (.cells #[.bool b1, .slice A1 xs1.length c1, .slice A2 xs2.length c2] 35)).alloc (.cells #[.bool b2, .slice A3 xs3.length c3, .slice A4 xs4.length c4] 35)).alloc (.cells #[.bool false, .slice none 0 0, .slice none 0 0] 35)) w') => (two_of h : (w'.cell? ⟨w.heap.size, 0, none⟩ = some (.bool b1) ∧ w'.cell? ⟨w.heap.size, 1, none⟩ = some (.slice A1 xs1.length c1) ∧ w'.cell? ⟨w.heap.size, 2, none⟩ = some (.slice A2 xs2.length c2) ∧ w'.cell? ⟨w.heap.size + 1, 0, none⟩ = some (.bool b2) ∧ w'.cell? ⟨w.heap.size + 1, 1, none⟩ = some (.slice A3 xs3.length c3) ∧ w'.cell? ⟨w.heap.size + 1, 2, none⟩ = some (.slice A4 xs4.length c4))))
  go_region_held3 (fun w' => (w'.cell? ⟨w.heap.size, 0, none⟩ = some (.bool b1) ∧ w'.cell? ⟨w.heap.size, 1, none⟩ = some (.slice A1 xs1.length c1) ∧ w'.cell? ⟨w.heap.size, 2, none⟩ = some (.slice A2 xs2.length c2) ∧ w'.cell? ⟨w.heap.size + 1, 0, none⟩ = some (.bool b2) ∧ w'.cell? ⟨w.heap.size + 1, 1, none⟩ = some (.slice A3 xs3.length c3) ∧ w'.cell? ⟨w.heap.size + 1, 2, none⟩ = some (.slice A4 xs4.length c4)))
    (first | (go_keep; done) | (have hq := HK.out _ hs2; simp only [set3_other (show w.heap.size ≠ w.heap.size + 1 + 1 by omega), set3_other (show w.heap.size + 1 ≠ w.heap.size + 1 + 1 by omega)]; exact hq) | (exact HK.out _ hs2) | (have hq := HK.out _ hs1; simp only [set3_other (show w.heap.size ≠ w.heap.size + 1 + 1 by omega), set3_other (show w.heap.size + 1 ≠ w.heap.size + 1 + 1 by omega)]; exact hq) | (exact HK.out _ hs1))
    (first
      | (go_at_call 35; refine (neg_q _ _ q L (HA.out.2.below hb0)).mono ?_; rintro e w1 ⟨u1, rfl, q1, hd1⟩; have hs1 := below_more hs0 hd1 (by simp); have hb1 := below_next hb0 hd1)
      | (go_at_call 64; refine (plus_q _ _ _ p (-q) L (HA.out.1.below hb1) q1 hL).mono ?_; rintro e w2 ⟨u2, rfl, ⟨rn, rl, rfl, q2, p2⟩, hd2⟩; have hs2 := below_more hs1 hd2 (by simp); have hb2 := below_next hb1 hd2; obtain ⟨_, _, ⟨m0, m1, m2⟩, ⟨f0, f1, f2⟩, hz⟩ := boxes3 hs2; obtain ⟨Ae, ce, xe, rfl, _⟩ := q2.open_; obtain ⟨Af, cf, xf, rfl, _⟩ := p2.open_))
  go_wp2
  refine bodyPost_ret (v := .agg #[.bool (decide ((p + -q).num < 0)), .slice Ae xe.length ce, .slice Af xf.length cf]) ?_ rfl ?_
  · simp [results, Tryz.results62, go_sem, m0, m1, m2, hz]
  refine ⟨_, rfl, ⟨.slice Ae xe.length ce, .slice Af xf.length cf, rfl, ?_, ?_⟩, below_set3 hb2 (by omega) _ _ _⟩
  · exact q2.set3 m0 m1 m2
  · exact p2.set3 m0 m1 m2
theorem wrap_neg (n : Int) (h0 : -9223372036854775808 ≤ n) (hn : n < 0) : IntKind.u64.wrap (-IntKind.u64.wrap n) = (n.natAbs : Int) := by
  simp only [IntKind.wrap, IntKind.bits, IntKind.signed]
  simp
  omega
theorem sized_c (w : World) (n : Int) (h0 : -9223372036854775808 ≤ n) (h1 : n ≤ 9223372036854775807) :
    Calls Tryz.prog 83 #[.int .i64 n] w (Ret (natR w (n.natAbs : Int) 2)) := by
  by_cases hn : n < 0
  · have hd : decide (n < 0) = true := decide_eq_true hn
    go_enter Tryz.func83, Tryz.ntmps83
    go_wp2_with fail
    rw [wrap_neg n h0 hn]
    refine (natOf_c _ _ (by omega) (by omega)).mono ?_
    rintro e w1 ⟨u1, rfl, q1, hd1⟩
    go_wp2
    go_ret
    exact ⟨_, rfl, q1, hd1⟩
  · have hd : decide (n < 0) = false := decide_eq_false hn
    go_enter Tryz.func83, Tryz.ntmps83
    go_wp2_with fail
    rw [show n = (n.natAbs : Int) from by omega]
    refine (natOf_c _ _ (by omega) (by omega)).mono ?_
    rintro e w1 ⟨u1, rfl, q1, hd1⟩
    go_wp2
    go_ret
    exact ⟨_, rfl, q1, hd1⟩
theorem of_c (w : World) (n : Int) (h0 : -9223372036854775808 ≤ n) (h1 : n ≤ 9223372036854775807) :
    Calls Tryz.prog 36 #[.int .i64 n] w (Ret (ratR w (n : Rat) 2)) := by
  go_enter Tryz.func36, Tryz.ntmps36
  go_wp2_with fail
  have hb0 : Below w.heap.size w (w.alloc (.cells #[.bool false, .slice none 0 0, .slice none 0 0] 35)) := (Below.refl _ _).alloc (Nat.le_refl _) _
  refine (sized_c _ n h0 h1).mono ?_
  rintro e w1 ⟨u1, rfl, q1, hd1⟩
  have hc1 := below_more (below_start w _) hd1 (by simp)
  have hb1 := below_next hb0 hd1
  obtain ⟨k0, k1, k2, f0, f1, f2, ks⟩ := box3 hc1
  obtain ⟨A1, c1, xs1, rfl, _⟩ := q1.open_
  go_wp2
  refine bodyPost_ret (v := .agg #[.bool (decide (n < 0)), .slice A1 xs1.length c1, .slice none 0 0]) ?_ rfl ?_
  · simp [results, Tryz.results36, go_sem, k0, k1, k2, ks]
  refine ⟨_, rfl, ⟨.slice A1 xs1.length c1, .slice none 0 0, by rw [Rat.num_intCast], ?_, ?_⟩, below_set3 hb1 (Nat.le_refl _) _ _ _⟩
  · rw [Rat.num_intCast]; exact q1.set3 k0 k1 k2
  · rw [Rat.den_intCast]; exact NatV.nil _ _
/-- a fraction, or ErrZero -/
def makeR (w : World) (m n : Int) (v : Value) (w' : World) : Prop :=
  Below w.heap.size w w' ∧ ∃ r, v = .tuple #[r, .int .i64 (if n = 0 then 6 else 0)] ∧ RatV w' r (if n = 0 then 0 else Rat.divInt m n) 2
theorem make_id (m n : Int) : Rat.divInt (sgd (!(decide (m < 0) == decide (n < 0))) (m.natAbs : Int)) (n.natAbs : Int) = Rat.divInt m n := by
  have hx := sgd_abs m
  generalize (m.natAbs : Int) = A at *
  by_cases hy : n < 0
  · rw [show (n.natAbs : Int) = - n from by omega]
    rw [Rat.divInt_neg']
    simp only [hy, decide_true, beq_true, sgd_neg, hx]
    congr 1
    omega
  · rw [show (n.natAbs : Int) = n from by omega]
    simp only [hy, decide_false, beq_false, Bool.not_not, hx]
theorem make_c (w : World) (m n : Int) (h0 : -9223372036854775808 ≤ m) (h1 : m ≤ 9223372036854775807) (g0 : -9223372036854775808 ≤ n) (g1 : n ≤ 9223372036854775807) :
    Calls Tryz.prog 68 #[.int .i64 m, .int .i64 n] w (Ret (makeR w m n)) := by
  have hb0 : Below w.heap.size w (w.alloc (.cells #[.bool false, .slice none 0 0, .slice none 0 0] 35)) := (Below.refl _ _).alloc (Nat.le_refl _) _
  have hs0 := below_start w (.cells #[.bool false, .slice none 0 0, .slice none 0 0] 35)
  by_cases hn : n = 0
  · have hd : (n == 0) = true := by simp [hn]
    have hm : makeR w m n = makeR w m 0 := by rw [hn]
    rw [hm]; clear hm
    obtain ⟨k0, k1, k2, f0, f1, f2, ks⟩ := box3 hs0
    go_enter Tryz.func68, Tryz.ntmps68
    go_wp2
    refine bodyPost_ret (v := .tuple #[.agg #[.bool false, .slice none 0 0, .slice none 0 0], .int .i64 6]) ?_ rfl ?_
    · simp [results, Tryz.results68, go_sem, k0, k1, k2, ks]
    · exact ⟨_, rfl, hb0, _, rfl, ⟨_, _, rfl, NatV.nil _ _, NatV.nil _ _⟩⟩
  · have hd : (n == 0) = false := by simp [hn]
    go_enter Tryz.func68, Tryz.ntmps68
    go_wp2_with fail
    refine (sized_c _ m h0 h1).mono ?_
    rintro e w1 ⟨u1, rfl, q1, hd1⟩
    have hs1 := below_more hs0 hd1 (by simp)
    have hb1 := below_next hb0 hd1
    go_wp2_with fail
    refine (sized_c _ n g0 g1).mono ?_
    rintro e w2 ⟨u2, rfl, q2, hd2⟩
    have hs2 := below_more hs1 hd2 (by simp)
    have hb2 := below_next hb1 hd2
    go_wp2_with fail
    refine (lowest_c _ _ _ _ _ _ 2 (q1.below hd2) q2 (by omega) (by omega)).mono ?_
    rw [make_id]
    rintro e w3 ⟨u3, rfl, ⟨rn, rl, rfl, q3, p3⟩, hd3⟩
    have hs3 := below_more hs2 hd3 (by simp)
    have hb3 := below_next hb2 hd3
    obtain ⟨k0, k1, k2, f0, f1, f2, ks⟩ := box3 hs3
    obtain ⟨A1, c1, xs1, rfl, _⟩ := q3.open_
    obtain ⟨A2, c2, xs2, rfl, _⟩ := p3.open_
    go_wp2
    refine bodyPost_ret (v := .tuple #[.agg #[.bool (decide ((Rat.divInt m n).num < 0)), .slice A1 xs1.length c1, .slice A2 xs2.length c2], .int .i64 0]) ?_ rfl ?_
    · simp [results, Tryz.results68, go_sem, k0, k1, k2, ks]
    · refine ⟨_, rfl, below_set3 hb3 (Nat.le_refl _) _ _ _, _, by rw [if_neg hn], ?_⟩
      rw [if_neg hn]
      exact ⟨_, _, rfl, q3.set3 k0 k1 k2, p3.set3 k0 k1 k2⟩
end Go.Proofs.YthnnbpnocefmgaaGreat
