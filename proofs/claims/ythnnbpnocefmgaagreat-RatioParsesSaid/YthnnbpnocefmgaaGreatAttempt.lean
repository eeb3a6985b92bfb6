/- Walks: what a calculation returns, or the code with which it failed. -/
import Derived.Test.YthnnbpnocefmgaaGreatKept
import Derived.Laws.Pointers
namespace Go.Proofs.YthnnbpnocefmgaaGreat
set_option linter.unusedVariables false
set_option linter.unusedSimpArgs false
open Go.RowKit
theorem catch_idle (p q : Addr) (w : World) :
    CallsD Tryz.prog 111 #[.pointer (some p), .pointer (some q)] .returning w fun e u' w' => e = .returned (.tuple #[]) ∧ u' = .returning ∧ w' = w := by
  refine callsD_of_wpS Tryz.func111 rfl fun c₀ cs hu => ?_
  apply wpS_seq
  apply wpS_region
  simp [wpOpsS, go_sem, recoverD, hu, Tryz.ntmps111, Exit.thenS]
  refine wpS_of_wp ?_
  simp only [Array.replicate, List.replicate, List.setIfInBounds_toArray, Array.setIfInBounds, List.size_toArray, List.length_cons]
  go_wp2
  cases c₀
  simp_all [bodyPostS, results, Tryz.results111]
set_option maxRecDepth 100000 in
theorem catch_failed (B E : Nat) (a0 : Bool) (A1 A2 : Option Addr) (n1 c1 n2 c2 : Nat) (x : Int) (older : List PanicEntry) (w : World) (hEB : ¬ E = B)
    (k0 : w.cell? ⟨B, 0, none⟩ = some (.bool a0)) (k1 : w.cell? ⟨B, 1, none⟩ = some (.slice A1 n1 c1)) (k2 : w.cell? ⟨B, 2, none⟩ = some (.slice A2 n2 c2)) (kE : w.cell? ⟨E, 0, none⟩ = some (.int .i64 x))
    (f0 : w.frozen? ⟨B, 0, none⟩ = false) (f1 : w.frozen? ⟨B, 1, none⟩ = false) (f2 : w.frozen? ⟨B, 2, none⟩ = false) (fE : w.frozen? ⟨E, 0, none⟩ = false) :
    CallsD Tryz.prog 111 #[.pointer (some ⟨B, 0, none⟩), .pointer (some ⟨E, 0, none⟩)] (.panicking ({ v := failedV, recovered := false } :: older)) w fun e u' w' =>
      e = .returned (.tuple #[]) ∧ u' = .panicking ({ v := failedV, recovered := true } :: older) ∧
      ∃ W, Below w.heap.size w W ∧ w' = ((((W.setCell ⟨B, 0, none⟩ (.bool false)).setCell ⟨B, 1, none⟩ (.slice none 0 0)).setCell ⟨B, 2, none⟩ (.slice none 0 0)).setCell ⟨E, 0, none⟩ (.int .i64 11)).drew := by
  refine callsD_of_wpS Tryz.func111 rfl fun c₀ cs hu => ?_
  unfold failedV at *
  have HC := hide (And.intro k0 (And.intro k1 (And.intro k2 (And.intro kE (And.intro f0 (And.intro f1 (And.intro f2 fE)))))))
  clear k0 k1 k2 kE f0 f1 f2 fE
  apply wpS_seq
  apply wpS_region
  simp [wpOpsS, go_sem, recoverD, hu, Tryz.ntmps111, Exit.thenS]
  refine wpS_of_wp ?_
  simp only [Array.replicate, List.replicate, List.setIfInBounds_toArray, Array.setIfInBounds, List.size_toArray, List.length_cons]
  have has : ∀ (v : Value) (w : World), (Instr.typeAssert (.iface 144 v) 20 144 true).run Tryz.prog w = .ok (.tuple #[v, .bool true]) w := fun _ _ => by kernel_rfl
  go_wp2
  have s1 : (w.alloc (Obj.cells #[Value.int IntKind.i64 11] 144)).heap.size = w.heap.size + 1 := by simp
  have hbw : Below w.heap.size w ((w.alloc (Obj.cells #[Value.int IntKind.i64 11] 144)).alloc (Obj.cells #[Value.bool false, Value.slice none 0 0, Value.slice none 0 0] 35)) := ((Below.refl _ _).alloc (Nat.le_refl _) _).alloc (by simp) _
  have h1 : ((w.alloc (Obj.cells #[Value.int IntKind.i64 11] 144)).alloc (Obj.cells #[Value.bool false, Value.slice none 0 0, Value.slice none 0 0] 35)).heap[w.heap.size + 1]? = some (Obj.cells #[Value.bool false, Value.slice none 0 0, Value.slice none 0 0] 35) := by rw [← s1]; exact heap_alloc_new _ _
  have h0 : ((w.alloc (Obj.cells #[Value.int IntKind.i64 11] 144)).alloc (Obj.cells #[Value.bool false, Value.slice none 0 0, Value.slice none 0 0] 35)).heap[w.heap.size]? = some (Obj.cells #[Value.int IntKind.i64 11] 144) := by
    rw [Below.heap_alloc _ _ _ (by rw [s1]; omega)]; exact heap_alloc_new _ _
  obtain ⟨k0, k1, k2, kE, f0, f1, f2, fE⟩ := HC.out
  have lB := lt_of_cell k0
  have lE := lt_of_cell kE
  replace k0 := (hbw.cell (by exact lB)).trans k0
  replace k1 := (hbw.cell (by exact lB)).trans k1
  replace k2 := (hbw.cell (by exact lB)).trans k2
  replace kE := (hbw.cell (by exact lE)).trans kE
  have hne : ¬ E = B := hEB
  generalize ((w.alloc (Obj.cells #[Value.int IntKind.i64 11] 144)).alloc (Obj.cells #[Value.bool false, Value.slice none 0 0, Value.slice none 0 0] 35)) = W at *
  have hb1 := hbw.drew
  have q0 : W.cell? ⟨w.heap.size, 0, none⟩ = some (.int .i64 11) := by simp [World.cell?, h0]
  have q1 : W.cell? ⟨w.heap.size + 1, 0, none⟩ = some (.bool false) := by simp [World.cell?, h1]
  have q2 : W.cell? ⟨w.heap.size + 1, 1, none⟩ = some (.slice none 0 0) := by simp [World.cell?, h1]
  have q3 : W.cell? ⟨w.heap.size + 1, 2, none⟩ = some (.slice none 0 0) := by simp [World.cell?, h1]
  replace f0 := (hbw.frozen (by exact lB)).trans f0
  replace f1 := (hbw.frozen (by exact lB)).trans f1
  replace f2 := (hbw.frozen (by exact lB)).trans f2
  replace fE := (hbw.frozen (by exact lE)).trans fE
  have n1 : ¬ B = w.heap.size := by intro e; simp at lB; omega
  have n2 : ¬ E = w.heap.size := by intro e; simp at lE; omega
  have n3 : ¬ B = w.heap.size + 1 := by intro e; simp at lB; omega
  have n4 : ¬ E = w.heap.size + 1 := by intro e; simp at lE; omega
  have HB := hide (And.intro hbw hb1)
  clear hbw hb1 h0 h1 s1 lB lE
  generalize hN : w.heap.size = N at *
  go_region
  refine ⟨rfl, _, rfl, _, results_none rfl _ _ _, rfl, rfl, W, by rw [hN]; exact HB.out.1, rfl⟩
/-- a box of three cells and one of one cell, a while later -/
theorem boxesE {w w' : World} {a0 b0 c0 a1 : Value} {e e' : TypeId}
    (h : Below (w.heap.size + 2) ((w.alloc (.cells #[a0, b0, c0] e)).alloc (.cells #[a1] e')) w') :
    (w'.cell? ⟨w.heap.size, 0, none⟩ = some a0 ∧ w'.cell? ⟨w.heap.size, 1, none⟩ = some b0 ∧ w'.cell? ⟨w.heap.size, 2, none⟩ = some c0) ∧
    w'.cell? ⟨w.heap.size + 1, 0, none⟩ = some a1 ∧
    (w'.frozen? ⟨w.heap.size, 0, none⟩ = false ∧ w'.frozen? ⟨w.heap.size, 1, none⟩ = false ∧ w'.frozen? ⟨w.heap.size, 2, none⟩ = false) ∧ w'.frozen? ⟨w.heap.size + 1, 0, none⟩ = false ∧ w.heap.size + 1 < w'.heap.size := by
  have s1 : (w.alloc (.cells #[a0, b0, c0] e)).heap.size = w.heap.size + 1 := by simp
  have h1 : w'.heap[w.heap.size + 1]? = some (.cells #[a1] e' (0, 0)) := (h.block _ (by omega)).trans (by rw [← s1]; exact heap_alloc_new _ _)
  have h0 : w'.heap[w.heap.size]? = some (.cells #[a0, b0, c0] e (0, 0)) := (h.block _ (by omega)).trans (by rw [Below.heap_alloc _ _ _ (by rw [s1]; omega)]; exact heap_alloc_new _ _)
  refine ⟨⟨?_, ?_, ?_⟩, ?_, ⟨?_, ?_, ?_⟩, ?_, ?_⟩
  all_goals first
    | (simp [World.cell?, h0]; done)
    | (simp [World.cell?, h1]; done)
    | (simp [World.frozen?, h0]; done)
    | (simp [World.frozen?, h1]; done)
    | (have := h.size; simp at this; omega)
theorem Arr.set1 {w : World} {A : Option Addr} {xs : List Int} (h : Arr w A .u32 xs) {E : Nat} {x : Int} {y : Value} (kE : w.cell? ⟨E, 0, none⟩ = some (.int .i64 x)) :
    Arr (w.setCell ⟨E, 0, none⟩ y) A .u32 xs := by
  intro hx
  obtain ⟨b', o, rfl, ht, hc⟩ := h hx
  refine ⟨b', o, rfl, ht.setCell _ _, fun j hj => ?_⟩
  have hq := hc j hj
  have n0 : (⟨b', o + j, none⟩ : Addr) ≠ ⟨E, 0, none⟩ := by intro e; rw [e, kE] at hq; cases hq
  rw [World.cell?_setCell_other _ _ _ _ n0.symm]
  exact hq
theorem NatV.setE {w : World} {v : Value} {x : Int} {L : Nat} (h : NatV w v x L) {B : Nat} {a b c y : Value} {a0 : Bool} {A1 A2 : Option Addr} {n1 c1 n2 c2 : Nat} {z : Int} (k0 : w.cell? ⟨B, 0, none⟩ = some (.bool a0)) (k1 : w.cell? ⟨B, 1, none⟩ = some (.slice A1 n1 c1)) (k2 : w.cell? ⟨B, 2, none⟩ = some (.slice A2 n2 c2)) (kE : w.cell? ⟨B + 1, 0, none⟩ = some (.int .i64 z)) :
    NatV ((((w.setCell ⟨B, 0, none⟩ a).setCell ⟨B, 1, none⟩ b).setCell ⟨B, 2, none⟩ c).setCell ⟨B + 1, 0, none⟩ y) v x L := by
  obtain ⟨A, c', xs, rfl, g1, g2, g3, g4⟩ := h.set3 (a := a) (b := b) (c := c) k0 k1 k2
  exact ⟨A, c', xs, rfl, g1, g2, g3.set1 ((set3_other (by omega)).trans kE), g4⟩
theorem below_setE {B0 B : Nat} {a w : World} (h : Below B0 a w) (hB : B0 ≤ B) (hE : B0 ≤ B + 1) (x y z u : Value) :
    Below B0 a ((((w.setCell ⟨B, 0, none⟩ x).setCell ⟨B, 1, none⟩ y).setCell ⟨B, 2, none⟩ z).setCell ⟨B + 1, 0, none⟩ u) :=
  (below_set3 h hB x y z).setCell (by exact hE) _
/-- a fraction that is small, or 0 with the code of what is too large -/
def doneR (w : World) (q : Rat) (L : Nat) (v : Value) (w' : World) : Prop :=
  Below w.heap.size w w' ∧ ((SmallQ q ∧ ∃ r, v = .tuple #[r, .int .i64 0] ∧ RatV w' r q L) ∨ (¬ SmallQ q ∧ ∃ r, v = .tuple #[r, .int .i64 11] ∧ RatV w' r 0 L))
theorem attempt_kept (w : World) (a : Value) (q : Rat) (L : Nat) (ha : RatV w a q L) (hL : L ≤ 1073741800) :
    Calls Tryz.prog 69 #[.func (.func 70) #[a] #[]] w (Ret (doneR w q L)) := by
  have hmf : ∀ (fn : Fn) (first cap : Array Value) (w : World), (Instr.makeFunc fn first cap).run Tryz.prog w = .ok (.func fn first cap) w := fun _ _ _ _ => rfl
  by_cases hs : SmallQ q
  · have HA := hide (And.intro ha hs); clear ha hs
    go_enter_defers Tryz.func69, Tryz.ntmps69
    go_wp2_with fail
    have hb0 : Below w.heap.size w ((w.alloc (.cells #[.bool false, .slice none 0 0, .slice none 0 0] 35)).alloc (.cells #[.int .i64 0] 49)) := ((Below.refl _ _).alloc (Nat.le_refl _) _).alloc (by simp) _
    have hs0 : Below (w.heap.size + 2) ((w.alloc (.cells #[.bool false, .slice none 0 0, .slice none 0 0] 35)).alloc (.cells #[.int .i64 0] 49)) ((w.alloc (.cells #[.bool false, .slice none 0 0, .slice none 0 0] 35)).alloc (.cells #[.int .i64 0] 49)) := Below.refl _ _
    refine (keptQ_small _ a q L (HA.out.1.below hb0) hL HA.out.2).mono ?_
    rintro e w1 ⟨r, rfl, ⟨n1, l1, rfl, h1, g1⟩, hd1⟩
    have hb1 := below_next hb0 hd1
    have hs1 := below_more hs0 hd1 (by simp)
    obtain ⟨⟨k0, k1, k2⟩, kE, ⟨f0, f1, f2⟩, fE, hz⟩ := boxesE hs1
    obtain ⟨A1, c1, xs1, rfl, _⟩ := h1.open_
    obtain ⟨A2, c2, xs2, rfl, _⟩ := g1.open_
    go_wp2
    refine leaves_cons (f := 111) (args := #[.pointer (some ⟨w.heap.size, 0, none⟩), .pointer (some ⟨w.heap.size + 1, 0, none⟩)]) (by simp) (by simp [go_sem]) ?_
    refine (catch_idle _ _ _).mono ?_
    rintro e u' w'' ⟨rfl, rfl, rfl⟩
    simp only [Leaves, settle]
    refine ⟨.tuple #[.agg #[.bool (decide (q.num < 0)), .slice A1 xs1.length c1, .slice A2 xs2.length c2], .int .i64 0], ?_, _, rfl, below_setE hb1 (Nat.le_refl _) (by omega) _ _ _ _, Or.inl ⟨HA.out.2, _, rfl, ⟨_, _, rfl, h1.setE k0 k1 k2 kE, g1.setE k0 k1 k2 kE⟩⟩⟩
    simp [results, Tryz.results69, go_sem, k0, k1, k2, kE, hz]
  · have HA := hide (And.intro ha hs); clear ha hs
    go_enter_defers Tryz.func69, Tryz.ntmps69
    go_wp2_with fail
    have hb0 : Below w.heap.size w ((w.alloc (.cells #[.bool false, .slice none 0 0, .slice none 0 0] 35)).alloc (.cells #[.int .i64 0] 49)) := ((Below.refl _ _).alloc (Nat.le_refl _) _).alloc (by simp) _
    have hs0 : Below (w.heap.size + 2) ((w.alloc (.cells #[.bool false, .slice none 0 0, .slice none 0 0] 35)).alloc (.cells #[.int .i64 0] 49)) ((w.alloc (.cells #[.bool false, .slice none 0 0, .slice none 0 0] 35)).alloc (.cells #[.int .i64 0] 49)) := Below.refl _ _
    refine (keptQ_large _ a q L (HA.out.1.below hb0) hL HA.out.2).mono ?_
    rintro e w1 ⟨rfl, hd1⟩
    have hb1 := below_next hb0 hd1
    have hs1 := below_more hs0 hd1 (by simp)
    obtain ⟨⟨k0, k1, k2⟩, kE, ⟨f0, f1, f2⟩, fE, hz⟩ := boxesE hs1
    refine leaves_cons (f := 111) (args := #[.pointer (some ⟨w.heap.size, 0, none⟩), .pointer (some ⟨w.heap.size + 1, 0, none⟩)]) (by simp) (by simp [go_sem]) ?_
    refine (catch_failed w.heap.size (w.heap.size + 1) _ _ _ _ _ _ _ _ _ _ (by omega) k0 k1 k2 kE f0 f1 f2 fE).mono ?_
    rintro e u' w'' ⟨rfl, rfl, W, hW, rfl⟩
    have b0 := (hW.cell (p := ⟨w.heap.size, 0, none⟩) (by simp; omega)).trans k0
    have b1 := (hW.cell (p := ⟨w.heap.size, 1, none⟩) (by simp; omega)).trans k1
    have b2 := (hW.cell (p := ⟨w.heap.size, 2, none⟩) (by simp; omega)).trans k2
    have bE := (hW.cell (p := ⟨w.heap.size + 1, 0, none⟩) (by simp; omega)).trans kE
    have hbW := (below_next hb1 hW)
    have hzW := hW.size
    simp only [Leaves, settle, List.dropWhile]
    refine ⟨.tuple #[.agg #[.bool false, .slice none 0 0, .slice none 0 0], .int .i64 11], ?_, _, rfl, (below_setE hbW (Nat.le_refl _) (by omega) _ _ _ _).drew, Or.inr ⟨HA.out.2, _, rfl, ⟨.slice none 0 0, .slice none 0 0, rfl, NatV.nil _ _, NatV.nil _ _⟩⟩⟩
    simp [results, Tryz.results69, go_sem, b0, b1, b2, bE, hz]
end Go.Proofs.YthnnbpnocefmgaaGreat
