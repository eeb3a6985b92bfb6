/- Walks: numbers that are too large end the calculation. -/
import Derived.Test.YthnnbpnocefmgaaGreatRat6
import Derived.Test.YthnnbpnocefmgaaGreatBits
import Derived.Defers
import Derived.Recover
import Derived.WalkSmall
namespace Go.Proofs.YthnnbpnocefmgaaGreat
set_option linter.unusedVariables false
set_option linter.unusedSimpArgs false
open Go.RowKit
/-- two boxes of three cells each, a while later -/
theorem boxes2 {w w' : World} {a0 b0 c0 a1 b1 c1 : Value} {e : TypeId}
    (h : Below (w.heap.size + 2) ((w.alloc (.cells #[a0, b0, c0] e)).alloc (.cells #[a1, b1, c1] e)) w') :
    (w'.cell? ⟨w.heap.size, 0, none⟩ = some a0 ∧ w'.cell? ⟨w.heap.size, 1, none⟩ = some b0 ∧ w'.cell? ⟨w.heap.size, 2, none⟩ = some c0) ∧
    (w'.cell? ⟨w.heap.size + 1, 0, none⟩ = some a1 ∧ w'.cell? ⟨w.heap.size + 1, 1, none⟩ = some b1 ∧ w'.cell? ⟨w.heap.size + 1, 2, none⟩ = some c1) ∧
    (w'.frozen? ⟨w.heap.size + 1, 0, none⟩ = false ∧ w'.frozen? ⟨w.heap.size + 1, 1, none⟩ = false ∧ w'.frozen? ⟨w.heap.size + 1, 2, none⟩ = false) ∧ w.heap.size + 1 < w'.heap.size := by
  have s1 : (w.alloc (.cells #[a0, b0, c0] e)).heap.size = w.heap.size + 1 := by simp
  have h1 : w'.heap[w.heap.size + 1]? = some (.cells #[a1, b1, c1] e (0, 0)) := (h.block _ (by omega)).trans (by rw [← s1]; exact heap_alloc_new _ _)
  have h0 : w'.heap[w.heap.size]? = some (.cells #[a0, b0, c0] e (0, 0)) := (h.block _ (by omega)).trans (by rw [Below.heap_alloc _ _ _ (by rw [s1]; omega)]; exact heap_alloc_new _ _)
  refine ⟨⟨?_, ?_, ?_⟩, ⟨?_, ?_, ?_⟩, ⟨?_, ?_, ?_⟩, ?_⟩
  all_goals first
    | (simp [World.cell?, h0]; done)
    | (simp [World.cell?, h1]; done)
    | (simp [World.frozen?, h1]; done)
    | (have := h.size; simp at this; omega)
/-- how many bits a number may have -/
def mostBits : Nat := 100000
/-- a number that is kept -/
def Small (x : Int) : Prop := x < 2 ^ mostBits
theorem small_of (M n : Nat) (x : Int) (h0 : 0 < n) (h1 : (2 : Int) ^ (n - 1) ≤ x) (h2 : x < 2 ^ n) : n ≤ M ↔ x < 2 ^ M := by
  constructor
  · intro h
    have := pow_le_pow' (B := 2) (by omega) h
    omega
  · intro h
    rcases Nat.lt_or_ge M n with hlt | hge
    · have := pow_le_pow' (B := 2) (by omega) (show M ≤ n - 1 by omega)
      omega
    · exact hge
/-- the panic that ends a calculation -/
def failedV : Value := .iface 144 (.agg #[.int .i64 11])
theorem small_zero {x : Int} (h : x ≤ 0) : Small x := by
  unfold Small
  have : (0 : Int) < 2 ^ mostBits := Int.pow_pos (by omega)
  omega
theorem kept_small (w : World) (v : Value) (x : Int) (L : Nat) (hx : NatV w v x L) (hL : L ≤ 1073741824) (hs : Small x) :
    Calls Tryz.prog 112 #[v] w (Ret (fun v' w' => v' = v ∧ w = w')) := by
  have hx0 := hx.nonneg
  go_enter Tryz.func112, Tryz.ntmps112
  go_wp2_with fail
  refine (size_c _ _ x L hx hL).mono ?_
  rintro e w1 ⟨_, rfl, n, rfl, hn0, hn1, rfl⟩
  have hn : decide ((100000 : Int) < (n : Int)) = false := by
    apply decide_eq_false
    rcases Int.lt_or_eq_of_le hx0 with hp | hp
    · obtain ⟨g1, g2, g3⟩ := hn1 hp
      have := (small_of mostBits n x g1 g2 g3).2 hs
      unfold mostBits at this; omega
    · have := hn0 hp.symm; omega
  clear hn0 hn1 hs
  go_wp2
  go_ret
  exact ⟨_, rfl, rfl, rfl⟩
theorem kept_large (w : World) (v : Value) (x : Int) (L : Nat) (hx : NatV w v x L) (hL : L ≤ 1073741824) (hs : ¬ Small x) :
    Calls Tryz.prog 112 #[v] w (fun e w' => e = .panicked [{ v := failedV, recovered := false }] ∧ w = w') := by
  have hx0 := hx.nonneg
  go_enter Tryz.func112, Tryz.ntmps112
  go_wp2_with fail
  refine (size_c _ _ x L hx hL).mono ?_
  rintro e w1 ⟨_, rfl, n, rfl, hn0, hn1, rfl⟩
  have hn : decide ((100000 : Int) < (n : Int)) = true := by
    apply decide_eq_true
    rcases Int.lt_or_eq_of_le hx0 with hp | hp
    · obtain ⟨g1, g2, g3⟩ := hn1 hp
      have := (small_of mostBits n x g1 g2 g3).1
      unfold mostBits at this
      rcases Nat.lt_or_ge 100000 n with h | h
      · omega
      · exact absurd (this h) hs
    · exact absurd (small_zero (by omega)) hs
  clear hn0 hn1 hs
  go_wp2
  exact ⟨rfl, rfl, rfl⟩
/-- a fraction that is kept -/
def SmallQ (q : Rat) : Prop := Small (q.num.natAbs : Int) ∧ Small (q.den : Int)
theorem keptQ_small (w : World) (a : Value) (q : Rat) (L : Nat) (ha : RatV w a q L) (hL : L ≤ 1073741800) (hs : SmallQ q) :
    Calls Tryz.prog 70 #[a] w (Ret (ratR w q L)) := by
  obtain ⟨n1, l1, rfl, h1, g1⟩ := ha
  obtain ⟨A1, c1, xs1, rfl, _⟩ := h1.open_
  obtain ⟨A2, c2, xs2, rfl, _⟩ := g1.open_
  have HA := hide (And.intro h1 (And.intro g1 hs)); clear h1 g1 hs
  obtain ⟨b1, hs1⟩ : ∃ s, s = decide (q.num < 0) := ⟨_, rfl⟩
  rw [← hs1]
  have HS := hide hs1; clear hs1
  go_enter Tryz.func70, Tryz.ntmps70
  have hb0 : Below w.heap.size w ((w.alloc (.cells #[.bool b1, .slice A1 xs1.length c1, .slice A2 xs2.length c2] 35)).alloc (.cells #[.bool false, .slice none 0 0, .slice none 0 0] 35)) := ((Below.refl _ _).alloc (Nat.le_refl _) _).alloc (by simp) _
  have hs0 : Below (w.heap.size + 2) ((w.alloc (.cells #[.bool b1, .slice A1 xs1.length c1, .slice A2 xs2.length c2] 35)).alloc (.cells #[.bool false, .slice none 0 0, .slice none 0 0] 35)) ((w.alloc (.cells #[.bool b1, .slice A1 xs1.length c1, .slice A2 xs2.length c2] 35)).alloc (.cells #[.bool false, .slice none 0 0, .slice none 0 0] 35)) := Below.refl _ _
  go_wp2_with fail
  refine (kept_small _ _ (q.num.natAbs : Int) L (HA.out.1.below hb0) (by omega) HA.out.2.2.1).mono ?_
  rintro e w1 ⟨_, rfl, rfl, rfl⟩
  go_wp2_with fail
  refine (den_c _ _ _ _ ((q.den : Int) - 1) L (HA.out.2.1.below hb0) (by omega)).mono ?_
  rintro e w2 ⟨u, rfl, q2, hd2⟩
  have hb2 := below_next hb0 hd2
  have hs2 := below_more hs0 hd2 (by simp)
  go_wp2_with fail
  refine (kept_small _ _ _ (L + 2) q2 (by omega) (by rw [show (q.den : Int) - 1 + 1 = q.den from by omega]; exact HA.out.2.2.2)).mono ?_
  rintro e w3 ⟨_, rfl, rfl, rfl⟩
  obtain ⟨⟨k0, k1, k2⟩, ⟨m0, m1, m2⟩, ⟨f0, f1, f2⟩, hz⟩ := boxes2 hs2
  go_wp2
  refine bodyPost_ret (v := .agg #[.bool b1, .slice A1 xs1.length c1, .slice A2 xs2.length c2]) ?_ rfl ?_
  · simp [results, Tryz.results70, go_sem, m0, m1, m2, hz]
  rw [HS.out]
  refine ⟨_, rfl, ⟨.slice A1 xs1.length c1, .slice A2 xs2.length c2, rfl, ?_, ?_⟩, below_set3 hb2 (by omega) _ _ _⟩
  · exact (HA.out.1.below hb2).set3 m0 m1 m2
  · exact (HA.out.2.1.below hb2).set3 m0 m1 m2
theorem keptQ_large (w : World) (a : Value) (q : Rat) (L : Nat) (ha : RatV w a q L) (hL : L ≤ 1073741800) (hs : ¬ SmallQ q) :
    Calls Tryz.prog 70 #[a] w (fun e w' => e = .panicked [{ v := failedV, recovered := false }] ∧ Below w.heap.size w w') := by
  obtain ⟨n1, l1, rfl, h1, g1⟩ := ha
  obtain ⟨A1, c1, xs1, rfl, _⟩ := h1.open_
  obtain ⟨A2, c2, xs2, rfl, _⟩ := g1.open_
  have HA := hide (And.intro h1 g1); clear h1 g1
  obtain ⟨b1, hs1⟩ : ∃ s, s = decide (q.num < 0) := ⟨_, rfl⟩
  rw [← hs1]
  clear hs1
  have hb0 : Below w.heap.size w ((w.alloc (.cells #[.bool b1, .slice A1 xs1.length c1, .slice A2 xs2.length c2] 35)).alloc (.cells #[.bool false, .slice none 0 0, .slice none 0 0] 35)) := ((Below.refl _ _).alloc (Nat.le_refl _) _).alloc (by simp) _
  have hs0 : Below (w.heap.size + 2) ((w.alloc (.cells #[.bool b1, .slice A1 xs1.length c1, .slice A2 xs2.length c2] 35)).alloc (.cells #[.bool false, .slice none 0 0, .slice none 0 0] 35)) ((w.alloc (.cells #[.bool b1, .slice A1 xs1.length c1, .slice A2 xs2.length c2] 35)).alloc (.cells #[.bool false, .slice none 0 0, .slice none 0 0] 35)) := Below.refl _ _
  by_cases hs1 : Small (q.num.natAbs : Int)
  · have HS := hide (And.intro hs1 hs); clear hs1 hs
    go_enter Tryz.func70, Tryz.ntmps70
    go_wp2_with fail
    refine (kept_small _ _ (q.num.natAbs : Int) L (HA.out.1.below hb0) (by omega) HS.out.1).mono ?_
    rintro e w1 ⟨_, rfl, rfl, rfl⟩
    go_wp2_with fail
    refine (den_c _ _ _ _ ((q.den : Int) - 1) L (HA.out.2.below hb0) (by omega)).mono ?_
    rintro e w2 ⟨u, rfl, q2, hd2⟩
    have hb2 := below_next hb0 hd2
    go_wp2_with fail
    refine (kept_large _ _ _ (L + 2) q2 (by omega) ?_).mono ?_
    · rw [show (q.den : Int) - 1 + 1 = q.den from by omega]; intro h; exact HS.out.2 ⟨HS.out.1, h⟩
    rintro e w3 ⟨rfl, rfl⟩
    exact ⟨rfl, rfl, hb2⟩
  · have HS := hide hs1; clear hs1 hs
    go_enter Tryz.func70, Tryz.ntmps70
    go_wp2_with fail
    refine (kept_large _ _ (q.num.natAbs : Int) L (HA.out.1.below hb0) (by omega) HS.out).mono ?_
    rintro e w1 ⟨rfl, rfl⟩
    exact ⟨rfl, rfl, hb0⟩
end Go.Proofs.YthnnbpnocefmgaaGreat
