/- Walks: fractions, more. -/
import Derived.Test.YtpoahodnakhmiaaGreatRat
namespace Go.Proofs.YtpoahodnakhmiaaGreat
set_option linter.unusedVariables false
set_option linter.unusedSimpArgs false
open Go.RowKit
/-- the cells of two boxes -/
@[reducible] def Two (w' : World) (B : Nat) (a0 b0 c0 a1 b1 c1 : Value) : Prop :=
  w'.cell? ⟨B, 0, none⟩ = some a0 ∧ w'.cell? ⟨B, 1, none⟩ = some b0 ∧ w'.cell? ⟨B, 2, none⟩ = some c0 ∧ w'.cell? ⟨B + 1, 0, none⟩ = some a1 ∧ w'.cell? ⟨B + 1, 1, none⟩ = some b1 ∧ w'.cell? ⟨B + 1, 2, none⟩ = some c1
theorem two_of {w w' : World} {a0 b0 c0 a1 b1 c1 a2 b2 c2 : Value} {e : TypeId}
    (h : Below (w.heap.size + 3) (((w.alloc (.cells #[a0, b0, c0] e)).alloc (.cells #[a1, b1, c1] e)).alloc (.cells #[a2, b2, c2] e)) w') : Two w' w.heap.size a0 b0 c0 a1 b1 c1 := by
  obtain ⟨⟨h0, h1, h2⟩, ⟨g0, g1, g2⟩, _⟩ := boxes3 h
  exact ⟨h0, h1, h2, g0, g1, g2⟩
theorem times_rat (w : World) (b1 b2 : Bool) (n1 l1 n2 l2 : Value) (x1 y1 x2 y2 : Int) (L : Nat) (h1 : NatV w n1 x1 L) (g1 : NatV w l1 y1 L) (h2 : NatV w n2 x2 L) (g2 : NatV w l2 y2 L) (hL : L ≤ 268435456) :
    Calls Tryz.prog 73 #[.agg #[.bool b1, n1, l1], .agg #[.bool b2, n2, l2]] w (Ret (ratR w (Rat.divInt (sgd (!(b1 == b2)) (x1 * x2)) ((y1 + 1) * (y2 + 1))) (2 * L + 4))) := by
  have hy1 := g1.nonneg
  have hy2 := g2.nonneg
  obtain ⟨A1, c1, xs1, rfl, _⟩ := h1.open_
  obtain ⟨A2, c2, xs2, rfl, _⟩ := g1.open_
  obtain ⟨A3, c3, xs3, rfl, _⟩ := h2.open_
  obtain ⟨A4, c4, xs4, rfl, _⟩ := g2.open_
  have HA := hide (And.intro h1 (And.intro g1 (And.intro h2 g2))); clear h1 g1 h2 g2
  go_enter Tryz.func73, Tryz.ntmps73
  go_wp2_with fail
  have hb0 : Below w.heap.size w (((w.alloc (.cells #[.bool b1, .slice A1 xs1.length c1, .slice A2 xs2.length c2] 43)).alloc (.cells #[.bool b2, .slice A3 xs3.length c3, .slice A4 xs4.length c4] 43)).alloc (.cells #[.bool false, .slice none 0 0, .slice none 0 0] 43)).drew := ((((Below.refl _ _).alloc (Nat.le_refl _) _).alloc (by simp) _).alloc (by simp; omega) _).drew
  have hs0 : Below (w.heap.size + 3) (((w.alloc (.cells #[.bool b1, .slice A1 xs1.length c1, .slice A2 xs2.length c2] 43)).alloc (.cells #[.bool b2, .slice A3 xs3.length c3, .slice A4 xs4.length c4] 43)).alloc (.cells #[.bool false, .slice none 0 0, .slice none 0 0] 43)) (((w.alloc (.cells #[.bool b1, .slice A1 xs1.length c1, .slice A2 xs2.length c2] 43)).alloc (.cells #[.bool b2, .slice A3 xs3.length c3, .slice A4 xs4.length c4] 43)).alloc (.cells #[.bool false, .slice none 0 0, .slice none 0 0] 43)).drew := (Below.refl _ _).drew
  have HK := hide (fun w' (h : Below (w.heap.size + 3) (((w.alloc (.cells #[.bool b1, .slice A1 xs1.length c1, .slice A2 xs2.length c2] 43)).alloc (.cells #[.bool b2, .slice A3 xs3.length c3, .slice A4 xs4.length c4] 43)).alloc (.cells #[.bool false, .slice none 0 0, .slice none 0 0] 43)) w') => (two_of h : w'.cell? ⟨w.heap.size, 0, none⟩ = some (.bool b1) ∧ w'.cell? ⟨w.heap.size, 1, none⟩ = some (.slice A1 xs1.length c1) ∧ w'.cell? ⟨w.heap.size, 2, none⟩ = some (.slice A2 xs2.length c2) ∧ w'.cell? ⟨w.heap.size + 1, 0, none⟩ = some (.bool b2) ∧ w'.cell? ⟨w.heap.size + 1, 1, none⟩ = some (.slice A3 xs3.length c3) ∧ w'.cell? ⟨w.heap.size + 1, 2, none⟩ = some (.slice A4 xs4.length c4)))
  go_region_held3 (fun w' => w'.cell? ⟨w.heap.size, 0, none⟩ = some (.bool b1) ∧ w'.cell? ⟨w.heap.size, 1, none⟩ = some (.slice A1 xs1.length c1) ∧ w'.cell? ⟨w.heap.size, 2, none⟩ = some (.slice A2 xs2.length c2) ∧ w'.cell? ⟨w.heap.size + 1, 0, none⟩ = some (.bool b2) ∧ w'.cell? ⟨w.heap.size + 1, 1, none⟩ = some (.slice A3 xs3.length c3) ∧ w'.cell? ⟨w.heap.size + 1, 2, none⟩ = some (.slice A4 xs4.length c4))
    (first | (go_keep; done) | (have hq := HK.out _ hs5; simp only [set3_other (show w.heap.size ≠ w.heap.size + 1 + 1 by omega), set3_other (show w.heap.size + 1 ≠ w.heap.size + 1 + 1 by omega)]; exact hq) | (exact HK.out _ hs5) | (exact HK.out _ hs4) | (exact HK.out _ hs3) | (exact HK.out _ hs2) | (exact HK.out _ hs1))
    (first
      | (go_at_call_of 128 (Value.slice A1 xs1.length c1); refine (times_c _ _ _ x1 x2 L L (HA.out.1.below hb0) (HA.out.2.2.1.below hb0) (by omega) (by omega)).mono ?_; rintro e w1 ⟨u1, rfl, q1, hd1⟩; have hs1 := below_more hs0 hd1 (by simp); have hb1 := below_next hb0 hd1)
      | (go_at_call_of 129 (Value.agg #[.bool b1, .slice A1 xs1.length c1, .slice A2 xs2.length c2]); refine (den_c _ _ _ _ y1 L (HA.out.2.1.below hb1) (by omega)).mono ?_; rintro e w2 ⟨u2, rfl, q2, hd2⟩; have hs2 := below_more hs1 hd2 (by simp); have hb2 := below_next hb1 hd2)
      | (go_at_call_of 129 (Value.agg #[.bool b2, .slice A3 xs3.length c3, .slice A4 xs4.length c4]); refine (den_c _ _ _ _ y2 L (HA.out.2.2.2.below hb2) (by omega)).mono ?_; rintro e w3 ⟨u3, rfl, q3, hd3⟩; have hs3 := below_more hs2 hd3 (by simp); have hb3 := below_next hb2 hd3)
      | (go_at_call_of 128 u2; refine (times_c _ _ _ (y1 + 1) (y2 + 1) (L + 2) (L + 2) (q2.below hd3) q3 (by omega) (by omega)).mono ?_; rintro e w4 ⟨u4, rfl, q4, hd4⟩; have hs4 := below_more hs3 hd4 (by simp); have hb4 := below_next hb3 hd4)
      | (go_at_call 127; refine (lowest_c _ _ _ _ (x1 * x2) ((y1 + 1) * (y2 + 1)) (2 * L + 4) ((q1.below (below_next (below_next hd2 hd3) hd4)).more (by omega)) (q4.more (by omega)) (by omega) (Int.mul_pos (by omega) (by omega))).mono ?_; rintro e w5 ⟨u5, rfl, ⟨rn, rl, rfl, q5, q6⟩, hd5⟩; have hs5 := below_more hs4 hd5 (by simp); have hb5 := below_next hb4 hd5; obtain ⟨A5, c5, xs5, rfl, _⟩ := q5.open_; obtain ⟨A6, c6, xs6, rfl, _⟩ := q6.open_; obtain ⟨_, _, ⟨m0, m1, m2⟩, ⟨f0, f1, f2⟩, hz⟩ := boxes3 hs5))
  go_wp2
  refine bodyPost_ret (v := .agg #[.bool (decide ((Rat.divInt (sgd (!(b1 == b2)) (x1 * x2)) ((y1 + 1) * (y2 + 1))).num < 0)), .slice A5 xs5.length c5, .slice A6 xs6.length c6]) ?_ rfl ?_
  · simp [results, Tryz.results73, go_sem, m0, m1, m2, hz]
  refine ⟨_, rfl, ⟨.slice A5 xs5.length c5, .slice A6 xs6.length c6, rfl, ?_, ?_⟩, below_set3 hb5 (by omega) _ _ _⟩
  · exact q5.set3 m0 m1 m2
  · exact q6.set3 m0 m1 m2
theorem over_rat (w : World) (b1 b2 : Bool) (n1 l1 n2 l2 : Value) (x1 y1 x2 y2 : Int) (L : Nat) (h1 : NatV w n1 x1 L) (g1 : NatV w l1 y1 L) (h2 : NatV w n2 x2 L) (g2 : NatV w l2 y2 L) (hL : L ≤ 268435456) (hx2 : 0 < x2) :
    Calls Tryz.prog 76 #[.agg #[.bool b1, n1, l1], .agg #[.bool b2, n2, l2]] w (Ret (ratR w (Rat.divInt (sgd (!(b1 == b2)) (x1 * (y2 + 1))) ((y1 + 1) * x2)) (2 * L + 4))) := by
  have hy1 := g1.nonneg
  have hy2 := g2.nonneg
  obtain ⟨A1, c1, xs1, rfl, _⟩ := h1.open_
  obtain ⟨A2, c2, xs2, rfl, _⟩ := g1.open_
  obtain ⟨A3, c3, xs3, rfl, _⟩ := h2.open_
  obtain ⟨A4, c4, xs4, rfl, _⟩ := g2.open_
  have HA := hide (And.intro h1 (And.intro g1 (And.intro h2 g2))); clear h1 g1 h2 g2
  go_enter Tryz.func76, Tryz.ntmps76
  go_wp2_with fail
  have hb0 : Below w.heap.size w (((w.alloc (.cells #[.bool b1, .slice A1 xs1.length c1, .slice A2 xs2.length c2] 43)).alloc (.cells #[.bool b2, .slice A3 xs3.length c3, .slice A4 xs4.length c4] 43)).alloc (.cells #[.bool false, .slice none 0 0, .slice none 0 0] 43)).drew := ((((Below.refl _ _).alloc (Nat.le_refl _) _).alloc (by simp) _).alloc (by simp; omega) _).drew
  have hs0 : Below (w.heap.size + 3) (((w.alloc (.cells #[.bool b1, .slice A1 xs1.length c1, .slice A2 xs2.length c2] 43)).alloc (.cells #[.bool b2, .slice A3 xs3.length c3, .slice A4 xs4.length c4] 43)).alloc (.cells #[.bool false, .slice none 0 0, .slice none 0 0] 43)) (((w.alloc (.cells #[.bool b1, .slice A1 xs1.length c1, .slice A2 xs2.length c2] 43)).alloc (.cells #[.bool b2, .slice A3 xs3.length c3, .slice A4 xs4.length c4] 43)).alloc (.cells #[.bool false, .slice none 0 0, .slice none 0 0] 43)).drew := (Below.refl _ _).drew
  have HK := hide (fun w' (h : Below (w.heap.size + 3) (((w.alloc (.cells #[.bool b1, .slice A1 xs1.length c1, .slice A2 xs2.length c2] 43)).alloc (.cells #[.bool b2, .slice A3 xs3.length c3, .slice A4 xs4.length c4] 43)).alloc (.cells #[.bool false, .slice none 0 0, .slice none 0 0] 43)) w') => (two_of h : w'.cell? ⟨w.heap.size, 0, none⟩ = some (.bool b1) ∧ w'.cell? ⟨w.heap.size, 1, none⟩ = some (.slice A1 xs1.length c1) ∧ w'.cell? ⟨w.heap.size, 2, none⟩ = some (.slice A2 xs2.length c2) ∧ w'.cell? ⟨w.heap.size + 1, 0, none⟩ = some (.bool b2) ∧ w'.cell? ⟨w.heap.size + 1, 1, none⟩ = some (.slice A3 xs3.length c3) ∧ w'.cell? ⟨w.heap.size + 1, 2, none⟩ = some (.slice A4 xs4.length c4)))
  go_region_held3 (fun w' => w'.cell? ⟨w.heap.size, 0, none⟩ = some (.bool b1) ∧ w'.cell? ⟨w.heap.size, 1, none⟩ = some (.slice A1 xs1.length c1) ∧ w'.cell? ⟨w.heap.size, 2, none⟩ = some (.slice A2 xs2.length c2) ∧ w'.cell? ⟨w.heap.size + 1, 0, none⟩ = some (.bool b2) ∧ w'.cell? ⟨w.heap.size + 1, 1, none⟩ = some (.slice A3 xs3.length c3) ∧ w'.cell? ⟨w.heap.size + 1, 2, none⟩ = some (.slice A4 xs4.length c4))
    (first | (go_keep; done) | (have hq := HK.out _ hs5; simp only [set3_other (show w.heap.size ≠ w.heap.size + 1 + 1 by omega), set3_other (show w.heap.size + 1 ≠ w.heap.size + 1 + 1 by omega)]; exact hq) | (exact HK.out _ hs5) | (exact HK.out _ hs4) | (exact HK.out _ hs3) | (exact HK.out _ hs2) | (exact HK.out _ hs1))
    (first
      | (go_at_call_of 129 (Value.agg #[.bool b2, .slice A3 xs3.length c3, .slice A4 xs4.length c4]); refine (den_c _ _ _ _ y2 L (HA.out.2.2.2.below hb0) (by omega)).mono ?_; rintro e w1 ⟨u1, rfl, q1, hd1⟩; have hs1 := below_more hs0 hd1 (by simp); have hb1 := below_next hb0 hd1)
      | (go_at_call_of 128 (Value.slice A1 xs1.length c1); refine (times_c _ _ _ x1 (y2 + 1) L (L + 2) (HA.out.1.below hb1) q1 (by omega) (by omega)).mono ?_; rintro e w2 ⟨u2, rfl, q2, hd2⟩; have hs2 := below_more hs1 hd2 (by simp); have hb2 := below_next hb1 hd2)
      | (go_at_call_of 129 (Value.agg #[.bool b1, .slice A1 xs1.length c1, .slice A2 xs2.length c2]); refine (den_c _ _ _ _ y1 L (HA.out.2.1.below hb2) (by omega)).mono ?_; rintro e w3 ⟨u3, rfl, q3, hd3⟩; have hs3 := below_more hs2 hd3 (by simp); have hb3 := below_next hb2 hd3)
      | (go_at_call_of 128 u3; refine (times_c _ _ _ (y1 + 1) x2 (L + 2) L q3 (HA.out.2.2.1.below hb3) (by omega) (by omega)).mono ?_; rintro e w4 ⟨u4, rfl, q4, hd4⟩; have hs4 := below_more hs3 hd4 (by simp); have hb4 := below_next hb3 hd4)
      | (go_at_call 127; refine (lowest_c _ _ _ _ (x1 * (y2 + 1)) ((y1 + 1) * x2) (2 * L + 4) ((q2.below (below_next hd3 hd4)).more (by omega)) (q4.more (by omega)) (by omega) (Int.mul_pos (by omega) hx2)).mono ?_; rintro e w5 ⟨u5, rfl, ⟨rn, rl, rfl, q5, q6⟩, hd5⟩; have hs5 := below_more hs4 hd5 (by simp); have hb5 := below_next hb4 hd5; obtain ⟨A5, c5, xs5, rfl, _⟩ := q5.open_; obtain ⟨A6, c6, xs6, rfl, _⟩ := q6.open_; obtain ⟨_, _, ⟨m0, m1, m2⟩, ⟨f0, f1, f2⟩, hz⟩ := boxes3 hs5))
  go_wp2
  refine bodyPost_ret (v := .agg #[.bool (decide ((Rat.divInt (sgd (!(b1 == b2)) (x1 * (y2 + 1))) ((y1 + 1) * x2)).num < 0)), .slice A5 xs5.length c5, .slice A6 xs6.length c6]) ?_ rfl ?_
  · simp [results, Tryz.results76, go_sem, m0, m1, m2, hz]
  refine ⟨_, rfl, ⟨.slice A5 xs5.length c5, .slice A6 xs6.length c6, rfl, ?_, ?_⟩, below_set3 hb5 (by omega) _ _ _⟩
  · exact q5.set3 m0 m1 m2
  · exact q6.set3 m0 m1 m2
end Go.Proofs.YtpoahodnakhmiaaGreat
