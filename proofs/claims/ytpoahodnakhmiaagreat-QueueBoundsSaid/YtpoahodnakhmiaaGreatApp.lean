/- Walks: what a calculation returns, or the code with which it failed. Walks: sums and products, or the error of what is too large. A row of integers grows: where its new block lies. Walks: a slice of bytes is turned round in place. -/
import Derived.Test.YtpoahodnakhmiaaGreatKept
import Derived.Test.YtpoahodnakhmiaaGreatDig
import Derived.Laws.Pointers
import Derived.Deep.AppendLies
namespace Go.Proofs.YtpoahodnakhmiaaGreat
set_option linter.unusedVariables false
set_option linter.unusedSimpArgs false
open Go.RowKit
theorem catch_idle (p q : Addr) (w : World) :
    CallsD Tryz.prog 126 #[.pointer (some p), .pointer (some q)] .returning w fun e u' w' => e = .returned (.tuple #[]) ∧ u' = .returning ∧ w' = w := by
  refine callsD_of_wpS Tryz.func126 rfl fun c₀ cs hu => ?_
  apply wpS_seq
  apply wpS_region
  simp [wpOpsS, go_sem, recoverD, hu, Tryz.ntmps126, Exit.thenS]
  refine wpS_of_wp ?_
  simp only [Array.replicate, List.replicate, List.setIfInBounds_toArray, Array.setIfInBounds, List.size_toArray, List.length_cons]
  go_wp2
  cases c₀
  simp_all [bodyPostS, results, Tryz.results126]
set_option maxRecDepth 100000 in
theorem catch_failed (B E : Nat) (a0 : Bool) (A1 A2 : Option Addr) (n1 c1 n2 c2 : Nat) (x : Int) (older : List PanicEntry) (w : World) (hEB : ¬ E = B)
    (k0 : w.cell? ⟨B, 0, none⟩ = some (.bool a0)) (k1 : w.cell? ⟨B, 1, none⟩ = some (.slice A1 n1 c1)) (k2 : w.cell? ⟨B, 2, none⟩ = some (.slice A2 n2 c2)) (kE : w.cell? ⟨E, 0, none⟩ = some (.int .i64 x))
    (f0 : w.frozen? ⟨B, 0, none⟩ = false) (f1 : w.frozen? ⟨B, 1, none⟩ = false) (f2 : w.frozen? ⟨B, 2, none⟩ = false) (fE : w.frozen? ⟨E, 0, none⟩ = false) :
    CallsD Tryz.prog 126 #[.pointer (some ⟨B, 0, none⟩), .pointer (some ⟨E, 0, none⟩)] (.panicking ({ v := failedV, recovered := false } :: older)) w fun e u' w' =>
      e = .returned (.tuple #[]) ∧ u' = .panicking ({ v := failedV, recovered := true } :: older) ∧
      ∃ W, Below w.heap.size w W ∧ w' = ((((W.setCell ⟨B, 0, none⟩ (.bool false)).setCell ⟨B, 1, none⟩ (.slice none 0 0)).setCell ⟨B, 2, none⟩ (.slice none 0 0)).setCell ⟨E, 0, none⟩ (.int .i64 11)).drew := by
  refine callsD_of_wpS Tryz.func126 rfl fun c₀ cs hu => ?_
  unfold failedV at *
  have HC := hide (And.intro k0 (And.intro k1 (And.intro k2 (And.intro kE (And.intro f0 (And.intro f1 (And.intro f2 fE)))))))
  clear k0 k1 k2 kE f0 f1 f2 fE
  apply wpS_seq
  apply wpS_region
  simp [wpOpsS, go_sem, recoverD, hu, Tryz.ntmps126, Exit.thenS]
  refine wpS_of_wp ?_
  simp only [Array.replicate, List.replicate, List.setIfInBounds_toArray, Array.setIfInBounds, List.size_toArray, List.length_cons]
  have has : ∀ (v : Value) (w : World), (Instr.typeAssert (.iface 153 v) 20 153 true).run Tryz.prog w = .ok (.tuple #[v, .bool true]) w := fun _ _ => by kernel_rfl
  go_wp2
  have s1 : (w.alloc (Obj.cells #[Value.int IntKind.i64 11] 153)).heap.size = w.heap.size + 1 := by simp
  have hbw : Below w.heap.size w ((w.alloc (Obj.cells #[Value.int IntKind.i64 11] 153)).alloc (Obj.cells #[Value.bool false, Value.slice none 0 0, Value.slice none 0 0] 43)) := ((Below.refl _ _).alloc (Nat.le_refl _) _).alloc (by simp) _
  have h1 : ((w.alloc (Obj.cells #[Value.int IntKind.i64 11] 153)).alloc (Obj.cells #[Value.bool false, Value.slice none 0 0, Value.slice none 0 0] 43)).heap[w.heap.size + 1]? = some (Obj.cells #[Value.bool false, Value.slice none 0 0, Value.slice none 0 0] 43) := by rw [← s1]; exact heap_alloc_new _ _
  have h0 : ((w.alloc (Obj.cells #[Value.int IntKind.i64 11] 153)).alloc (Obj.cells #[Value.bool false, Value.slice none 0 0, Value.slice none 0 0] 43)).heap[w.heap.size]? = some (Obj.cells #[Value.int IntKind.i64 11] 153) := by
    rw [Below.heap_alloc _ _ _ (by rw [s1]; omega)]; exact heap_alloc_new _ _
  obtain ⟨k0, k1, k2, kE, f0, f1, f2, fE⟩ := HC.out
  have lB := lt_of_cell k0
  have lE := lt_of_cell kE
  replace k0 := (hbw.cell (by exact lB)).trans k0
  replace k1 := (hbw.cell (by exact lB)).trans k1
  replace k2 := (hbw.cell (by exact lB)).trans k2
  replace kE := (hbw.cell (by exact lE)).trans kE
  have hne : ¬ E = B := hEB
  generalize ((w.alloc (Obj.cells #[Value.int IntKind.i64 11] 153)).alloc (Obj.cells #[Value.bool false, Value.slice none 0 0, Value.slice none 0 0] 43)) = W at *
  have hb1 := hbw.drew
  have q0 : W.cell? ⟨w.heap.size, 0, none⟩ = some (.int .i64 11) := by simp [World.cell?, h0]
  have q1 : W.cell? ⟨w.heap.size + 1, 0, none⟩ = some (.bool false) := by simp [World.cell?, h1]
  have q2 : W.cell? ⟨w.heap.size + 1, 1, none⟩ = some (.slice none 0 0) := by simp [World.cell?, h1]
  have q3 : W.cell? ⟨w.heap.size + 1, 2, none⟩ = some (.slice none 0 0) := by simp [World.cell?, h1]
  replace f0 := (hbw.frozen (by exact lB)).trans f0
  replace f1 := (hbw.frozen (by exact lB)).trans f1
  replace f2 := (hbw.frozen (by exact lB)).trans f2
  replace fE := (hbw.frozen (by exact lE)).trans fE
  have n1 : ¬ B = w.heap.size := by intro e; simp at lB; omega
  have n2 : ¬ E = w.heap.size := by intro e; simp at lE; omega
  have n3 : ¬ B = w.heap.size + 1 := by intro e; simp at lB; omega
  have n4 : ¬ E = w.heap.size + 1 := by intro e; simp at lE; omega
  have HB := hide (And.intro hbw hb1)
  clear hbw hb1 h0 h1 s1 lB lE
  generalize hN : w.heap.size = N at *
  go_region
  refine ⟨rfl, _, rfl, _, results_none rfl _ _ _, rfl, rfl, W, by rw [hN]; exact HB.out.1, rfl⟩
/-- a box of three cells and one of one cell, a while later -/
theorem boxesE {w w' : World} {a0 b0 c0 a1 : Value} {e e' : TypeId}
    (h : Below (w.heap.size + 2) ((w.alloc (.cells #[a0, b0, c0] e)).alloc (.cells #[a1] e')) w') :
    (w'.cell? ⟨w.heap.size, 0, none⟩ = some a0 ∧ w'.cell? ⟨w.heap.size, 1, none⟩ = some b0 ∧ w'.cell? ⟨w.heap.size, 2, none⟩ = some c0) ∧
    w'.cell? ⟨w.heap.size + 1, 0, none⟩ = some a1 ∧
    (w'.frozen? ⟨w.heap.size, 0, none⟩ = false ∧ w'.frozen? ⟨w.heap.size, 1, none⟩ = false ∧ w'.frozen? ⟨w.heap.size, 2, none⟩ = false) ∧ w'.frozen? ⟨w.heap.size + 1, 0, none⟩ = false ∧ w.heap.size + 1 < w'.heap.size := by
  have s1 : (w.alloc (.cells #[a0, b0, c0] e)).heap.size = w.heap.size + 1 := by simp
  have h1 : w'.heap[w.heap.size + 1]? = some (.cells #[a1] e' (0, 0)) := (h.block _ (by omega)).trans (by rw [← s1]; exact heap_alloc_new _ _)
  have h0 : w'.heap[w.heap.size]? = some (.cells #[a0, b0, c0] e (0, 0)) := (h.block _ (by omega)).trans (by rw [Below.heap_alloc _ _ _ (by rw [s1]; omega)]; exact heap_alloc_new _ _)
  refine ⟨⟨?_, ?_, ?_⟩, ?_, ⟨?_, ?_, ?_⟩, ?_, ?_⟩
  all_goals first
    | (simp [World.cell?, h0]; done)
    | (simp [World.cell?, h1]; done)
    | (simp [World.frozen?, h0]; done)
    | (simp [World.frozen?, h1]; done)
    | (have := h.size; simp at this; omega)
theorem Arr.set1 {w : World} {A : Option Addr} {xs : List Int} (h : Arr w A .u32 xs) {E : Nat} {x : Int} {y : Value} (kE : w.cell? ⟨E, 0, none⟩ = some (.int .i64 x)) :
    Arr (w.setCell ⟨E, 0, none⟩ y) A .u32 xs := by
  intro hx
  obtain ⟨b', o, rfl, ht, hc⟩ := h hx
  refine ⟨b', o, rfl, ht.setCell _ _, fun j hj => ?_⟩
  have hq := hc j hj
  have n0 : (⟨b', o + j, none⟩ : Addr) ≠ ⟨E, 0, none⟩ := by intro e; rw [e, kE] at hq; cases hq
  rw [World.cell?_setCell_other _ _ _ _ n0.symm]
  exact hq
theorem NatV.setE {w : World} {v : Value} {x : Int} {L : Nat} (h : NatV w v x L) {B : Nat} {a b c y : Value} {a0 : Bool} {A1 A2 : Option Addr} {n1 c1 n2 c2 : Nat} {z : Int} (k0 : w.cell? ⟨B, 0, none⟩ = some (.bool a0)) (k1 : w.cell? ⟨B, 1, none⟩ = some (.slice A1 n1 c1)) (k2 : w.cell? ⟨B, 2, none⟩ = some (.slice A2 n2 c2)) (kE : w.cell? ⟨B + 1, 0, none⟩ = some (.int .i64 z)) :
    NatV ((((w.setCell ⟨B, 0, none⟩ a).setCell ⟨B, 1, none⟩ b).setCell ⟨B, 2, none⟩ c).setCell ⟨B + 1, 0, none⟩ y) v x L := by
  obtain ⟨A, c', xs, rfl, g1, g2, g3, g4⟩ := h.set3 (a := a) (b := b) (c := c) k0 k1 k2
  exact ⟨A, c', xs, rfl, g1, g2, g3.set1 ((set3_other (by omega)).trans kE), g4⟩
theorem below_setE {B0 B : Nat} {a w : World} (h : Below B0 a w) (hB : B0 ≤ B) (hE : B0 ≤ B + 1) (x y z u : Value) :
    Below B0 a ((((w.setCell ⟨B, 0, none⟩ x).setCell ⟨B, 1, none⟩ y).setCell ⟨B, 2, none⟩ z).setCell ⟨B + 1, 0, none⟩ u) :=
  (below_set3 h hB x y z).setCell (by exact hE) _
/-- a fraction that is small, or 0 with the code of what is too large -/
def doneR (w : World) (q : Rat) (L : Nat) (v : Value) (w' : World) : Prop :=
  Below w.heap.size w w' ∧ ((SmallQ q ∧ ∃ r, v = .tuple #[r, .int .i64 0] ∧ RatV w' r q L) ∨ (¬ SmallQ q ∧ ∃ r, v = .tuple #[r, .int .i64 11] ∧ RatV w' r 0 L))
theorem attempt_kept (w : World) (a : Value) (q : Rat) (L : Nat) (ha : RatV w a q L) (hL : L ≤ 1073741800) :
    Calls Tryz.prog 72 #[.func (.func 74) #[a] #[]] w (Ret (doneR w q L)) := by
  have hmf : ∀ (fn : Fn) (first cap : Array Value) (w : World), (Instr.makeFunc fn first cap).run Tryz.prog w = .ok (.func fn first cap) w := fun _ _ _ _ => rfl
  by_cases hs : SmallQ q
  · have HA := hide (And.intro ha hs); clear ha hs
    go_enter_defers Tryz.func72, Tryz.ntmps72
    go_wp2_with fail
    have hb0 : Below w.heap.size w ((w.alloc (.cells #[.bool false, .slice none 0 0, .slice none 0 0] 43)).alloc (.cells #[.int .i64 0] 36)) := ((Below.refl _ _).alloc (Nat.le_refl _) _).alloc (by simp) _
    have hs0 : Below (w.heap.size + 2) ((w.alloc (.cells #[.bool false, .slice none 0 0, .slice none 0 0] 43)).alloc (.cells #[.int .i64 0] 36)) ((w.alloc (.cells #[.bool false, .slice none 0 0, .slice none 0 0] 43)).alloc (.cells #[.int .i64 0] 36)) := Below.refl _ _
    refine (keptQ_small _ a q L (HA.out.1.below hb0) hL HA.out.2).mono ?_
    rintro e w1 ⟨r, rfl, ⟨n1, l1, rfl, h1, g1⟩, hd1⟩
    have hb1 := below_next hb0 hd1
    have hs1 := below_more hs0 hd1 (by simp)
    obtain ⟨⟨k0, k1, k2⟩, kE, ⟨f0, f1, f2⟩, fE, hz⟩ := boxesE hs1
    obtain ⟨A1, c1, xs1, rfl, _⟩ := h1.open_
    obtain ⟨A2, c2, xs2, rfl, _⟩ := g1.open_
    go_wp2
    refine leaves_cons (f := 126) (args := #[.pointer (some ⟨w.heap.size, 0, none⟩), .pointer (some ⟨w.heap.size + 1, 0, none⟩)]) (by simp) (by simp [go_sem]) ?_
    refine (catch_idle _ _ _).mono ?_
    rintro e u' w'' ⟨rfl, rfl, rfl⟩
    simp only [Leaves, settle]
    refine ⟨.tuple #[.agg #[.bool (decide (q.num < 0)), .slice A1 xs1.length c1, .slice A2 xs2.length c2], .int .i64 0], ?_, _, rfl, below_setE hb1 (Nat.le_refl _) (by omega) _ _ _ _, Or.inl ⟨HA.out.2, _, rfl, ⟨_, _, rfl, h1.setE k0 k1 k2 kE, g1.setE k0 k1 k2 kE⟩⟩⟩
    simp [results, Tryz.results72, go_sem, k0, k1, k2, kE, hz]
  · have HA := hide (And.intro ha hs); clear ha hs
    go_enter_defers Tryz.func72, Tryz.ntmps72
    go_wp2_with fail
    have hb0 : Below w.heap.size w ((w.alloc (.cells #[.bool false, .slice none 0 0, .slice none 0 0] 43)).alloc (.cells #[.int .i64 0] 36)) := ((Below.refl _ _).alloc (Nat.le_refl _) _).alloc (by simp) _
    have hs0 : Below (w.heap.size + 2) ((w.alloc (.cells #[.bool false, .slice none 0 0, .slice none 0 0] 43)).alloc (.cells #[.int .i64 0] 36)) ((w.alloc (.cells #[.bool false, .slice none 0 0, .slice none 0 0] 43)).alloc (.cells #[.int .i64 0] 36)) := Below.refl _ _
    refine (keptQ_large _ a q L (HA.out.1.below hb0) hL HA.out.2).mono ?_
    rintro e w1 ⟨rfl, hd1⟩
    have hb1 := below_next hb0 hd1
    have hs1 := below_more hs0 hd1 (by simp)
    obtain ⟨⟨k0, k1, k2⟩, kE, ⟨f0, f1, f2⟩, fE, hz⟩ := boxesE hs1
    refine leaves_cons (f := 126) (args := #[.pointer (some ⟨w.heap.size, 0, none⟩), .pointer (some ⟨w.heap.size + 1, 0, none⟩)]) (by simp) (by simp [go_sem]) ?_
    refine (catch_failed w.heap.size (w.heap.size + 1) _ _ _ _ _ _ _ _ _ _ (by omega) k0 k1 k2 kE f0 f1 f2 fE).mono ?_
    rintro e u' w'' ⟨rfl, rfl, W, hW, rfl⟩
    have b0 := (hW.cell (p := ⟨w.heap.size, 0, none⟩) (by simp; omega)).trans k0
    have b1 := (hW.cell (p := ⟨w.heap.size, 1, none⟩) (by simp; omega)).trans k1
    have b2 := (hW.cell (p := ⟨w.heap.size, 2, none⟩) (by simp; omega)).trans k2
    have bE := (hW.cell (p := ⟨w.heap.size + 1, 0, none⟩) (by simp; omega)).trans kE
    have hbW := (below_next hb1 hW)
    have hzW := hW.size
    simp only [Leaves, settle, List.dropWhile]
    refine ⟨.tuple #[.agg #[.bool false, .slice none 0 0, .slice none 0 0], .int .i64 11], ?_, _, rfl, (below_setE hbW (Nat.le_refl _) (by omega) _ _ _ _).drew, Or.inr ⟨HA.out.2, _, rfl, ⟨.slice none 0 0, .slice none 0 0, rfl, NatV.nil _ _, NatV.nil _ _⟩⟩⟩
    simp [results, Tryz.results72, go_sem, b0, b1, b2, bE, hz]
end Go.Proofs.YtpoahodnakhmiaaGreat
namespace Go.Proofs.YtpoahodnakhmiaaGreat
set_option linter.unusedVariables false
set_option linter.unusedSimpArgs false
open Go.RowKit
theorem add_q (w : World) (a b : Value) (p q : Rat) (L : Nat) (ha : RatV w a p L) (hb : RatV w b q L) (hL : L ≤ 268435456) :
    Calls Tryz.prog 40 #[a, b] w (Ret (doneR w (p + q) (2 * L + 4))) := by
  have hmf : ∀ (fn : Fn) (first cap : Array Value) (w : World), (Instr.makeFunc fn first cap).run Tryz.prog w = .ok (.func fn first cap) w := fun _ _ _ _ => rfl
  have HA := hide (And.intro ha hb)
  obtain ⟨n1, l1, rfl, h1, g1⟩ := ha
  obtain ⟨n2, l2, rfl, h2, g2⟩ := hb
  obtain ⟨A1, c1, xs1, rfl, _⟩ := h1.open_
  obtain ⟨A2, c2, xs2, rfl, _⟩ := g1.open_
  obtain ⟨A3, c3, xs3, rfl, _⟩ := h2.open_
  obtain ⟨A4, c4, xs4, rfl, _⟩ := g2.open_
  clear h1 g1 h2 g2
  obtain ⟨b1, hs1⟩ : ∃ s, s = decide (p.num < 0) := ⟨_, rfl⟩
  obtain ⟨b2, hs2⟩ : ∃ s, s = decide (q.num < 0) := ⟨_, rfl⟩
  rw [← hs1, ← hs2] at HA
  rw [← hs1, ← hs2]
  clear hs1 hs2
  have hb0 : Below w.heap.size w (((w.alloc (.cells #[.bool b1, .slice A1 xs1.length c1, .slice A2 xs2.length c2] 43)).alloc (.cells #[.bool b2, .slice A3 xs3.length c3, .slice A4 xs4.length c4] 43)).alloc (.cells #[.bool false, .slice none 0 0, .slice none 0 0] 43)) := ((((Below.refl _ _).alloc (Nat.le_refl _) _).alloc (by simp) _).alloc (by simp; omega) _)
  have hs0 : Below (w.heap.size + 3) (((w.alloc (.cells #[.bool b1, .slice A1 xs1.length c1, .slice A2 xs2.length c2] 43)).alloc (.cells #[.bool b2, .slice A3 xs3.length c3, .slice A4 xs4.length c4] 43)).alloc (.cells #[.bool false, .slice none 0 0, .slice none 0 0] 43)) (((w.alloc (.cells #[.bool b1, .slice A1 xs1.length c1, .slice A2 xs2.length c2] 43)).alloc (.cells #[.bool b2, .slice A3 xs3.length c3, .slice A4 xs4.length c4] 43)).alloc (.cells #[.bool false, .slice none 0 0, .slice none 0 0] 43)) := (Below.refl _ _)
  go_enter Tryz.func40, Tryz.ntmps40
  go_wp2_with fail
  refine (plus_q _ _ _ p q L (HA.out.1.below hb0) (HA.out.2.below hb0) hL).mono ?_
  rintro e w1 ⟨u1, rfl, q1, hd1⟩
  have hs1 := below_more hs0 hd1 (by simp)
  have hb1 := below_next hb0 hd1
  go_wp2_with fail
  refine (attempt_kept _ u1 (p + q) (2 * L + 4) q1 (by omega)).mono ?_
  rintro e w2 ⟨_, rfl, hd2, ⟨hq, u2, rfl, n1, l1, rfl, q2, p2⟩ | ⟨hq, u2, rfl, n1, l1, rfl, q2, p2⟩⟩
  · have hs2 := below_more hs1 hd2 (by simp)
    have hb2 := below_next hb1 hd2
    obtain ⟨_, _, ⟨m0, m1, m2⟩, ⟨f0, f1, f2⟩, hz⟩ := boxes3 hs2
    obtain ⟨Ae, ce, xe, rfl, _⟩ := q2.open_
    obtain ⟨Af, cf, xf, rfl, _⟩ := p2.open_
    have HQ := hide hq; clear hq
    go_wp2
    refine bodyPost_ret (v := .tuple #[.agg #[.bool (decide ((p + q).num < 0)), .slice Ae xe.length ce, .slice Af xf.length cf], .int .i64 0]) ?_ rfl ?_
    · simp [results, Tryz.results40, go_sem, m0, m1, m2, hz]
    exact ⟨_, rfl, below_set3 hb2 (by omega) _ _ _, Or.inl ⟨HQ.out, _, rfl, _, _, rfl, q2.set3 m0 m1 m2, p2.set3 m0 m1 m2⟩⟩
  · have hs2 := below_more hs1 hd2 (by simp)
    have hb2 := below_next hb1 hd2
    obtain ⟨_, _, ⟨m0, m1, m2⟩, ⟨f0, f1, f2⟩, hz⟩ := boxes3 hs2
    obtain ⟨Ae, ce, xe, rfl, _⟩ := q2.open_
    obtain ⟨Af, cf, xf, rfl, _⟩ := p2.open_
    have HQ := hide hq; clear hq
    go_wp2
    refine bodyPost_ret (v := .tuple #[.agg #[.bool (decide ((0 : Rat).num < 0)), .slice Ae xe.length ce, .slice Af xf.length cf], .int .i64 11]) ?_ rfl ?_
    · simp [results, Tryz.results40, go_sem, m0, m1, m2, hz]
    exact ⟨_, rfl, below_set3 hb2 (by omega) _ _ _, Or.inr ⟨HQ.out, _, rfl, _, _, rfl, q2.set3 m0 m1 m2, p2.set3 m0 m1 m2⟩⟩
theorem mul_q (w : World) (a b : Value) (p q : Rat) (L : Nat) (ha : RatV w a p L) (hb : RatV w b q L) (hL : L ≤ 268435456) :
    Calls Tryz.prog 21 #[a, b] w (Ret (doneR w (p * q) (2 * L + 4))) := by
  have hmf : ∀ (fn : Fn) (first cap : Array Value) (w : World), (Instr.makeFunc fn first cap).run Tryz.prog w = .ok (.func fn first cap) w := fun _ _ _ _ => rfl
  have HA := hide (And.intro ha hb)
  obtain ⟨n1, l1, rfl, h1, g1⟩ := ha
  obtain ⟨n2, l2, rfl, h2, g2⟩ := hb
  obtain ⟨A1, c1, xs1, rfl, _⟩ := h1.open_
  obtain ⟨A2, c2, xs2, rfl, _⟩ := g1.open_
  obtain ⟨A3, c3, xs3, rfl, _⟩ := h2.open_
  obtain ⟨A4, c4, xs4, rfl, _⟩ := g2.open_
  clear h1 g1 h2 g2
  obtain ⟨b1, hs1⟩ : ∃ s, s = decide (p.num < 0) := ⟨_, rfl⟩
  obtain ⟨b2, hs2⟩ : ∃ s, s = decide (q.num < 0) := ⟨_, rfl⟩
  rw [← hs1, ← hs2] at HA
  rw [← hs1, ← hs2]
  clear hs1 hs2
  have hb0 : Below w.heap.size w (((w.alloc (.cells #[.bool b1, .slice A1 xs1.length c1, .slice A2 xs2.length c2] 43)).alloc (.cells #[.bool b2, .slice A3 xs3.length c3, .slice A4 xs4.length c4] 43)).alloc (.cells #[.bool false, .slice none 0 0, .slice none 0 0] 43)) := ((((Below.refl _ _).alloc (Nat.le_refl _) _).alloc (by simp) _).alloc (by simp; omega) _)
  have hs0 : Below (w.heap.size + 3) (((w.alloc (.cells #[.bool b1, .slice A1 xs1.length c1, .slice A2 xs2.length c2] 43)).alloc (.cells #[.bool b2, .slice A3 xs3.length c3, .slice A4 xs4.length c4] 43)).alloc (.cells #[.bool false, .slice none 0 0, .slice none 0 0] 43)) (((w.alloc (.cells #[.bool b1, .slice A1 xs1.length c1, .slice A2 xs2.length c2] 43)).alloc (.cells #[.bool b2, .slice A3 xs3.length c3, .slice A4 xs4.length c4] 43)).alloc (.cells #[.bool false, .slice none 0 0, .slice none 0 0] 43)) := (Below.refl _ _)
  go_enter Tryz.func21, Tryz.ntmps21
  go_wp2_with fail
  refine (times_q _ _ _ p q L (HA.out.1.below hb0) (HA.out.2.below hb0) hL).mono ?_
  rintro e w1 ⟨u1, rfl, q1, hd1⟩
  have hs1 := below_more hs0 hd1 (by simp)
  have hb1 := below_next hb0 hd1
  go_wp2_with fail
  refine (attempt_kept _ u1 (p * q) (2 * L + 4) q1 (by omega)).mono ?_
  rintro e w2 ⟨_, rfl, hd2, ⟨hq, u2, rfl, n1, l1, rfl, q2, p2⟩ | ⟨hq, u2, rfl, n1, l1, rfl, q2, p2⟩⟩
  · have hs2 := below_more hs1 hd2 (by simp)
    have hb2 := below_next hb1 hd2
    obtain ⟨_, _, ⟨m0, m1, m2⟩, ⟨f0, f1, f2⟩, hz⟩ := boxes3 hs2
    obtain ⟨Ae, ce, xe, rfl, _⟩ := q2.open_
    obtain ⟨Af, cf, xf, rfl, _⟩ := p2.open_
    have HQ := hide hq; clear hq
    go_wp2
    refine bodyPost_ret (v := .tuple #[.agg #[.bool (decide ((p * q).num < 0)), .slice Ae xe.length ce, .slice Af xf.length cf], .int .i64 0]) ?_ rfl ?_
    · simp [results, Tryz.results21, go_sem, m0, m1, m2, hz]
    exact ⟨_, rfl, below_set3 hb2 (by omega) _ _ _, Or.inl ⟨HQ.out, _, rfl, _, _, rfl, q2.set3 m0 m1 m2, p2.set3 m0 m1 m2⟩⟩
  · have hs2 := below_more hs1 hd2 (by simp)
    have hb2 := below_next hb1 hd2
    obtain ⟨_, _, ⟨m0, m1, m2⟩, ⟨f0, f1, f2⟩, hz⟩ := boxes3 hs2
    obtain ⟨Ae, ce, xe, rfl, _⟩ := q2.open_
    obtain ⟨Af, cf, xf, rfl, _⟩ := p2.open_
    have HQ := hide hq; clear hq
    go_wp2
    refine bodyPost_ret (v := .tuple #[.agg #[.bool (decide ((0 : Rat).num < 0)), .slice Ae xe.length ce, .slice Af xf.length cf], .int .i64 11]) ?_ rfl ?_
    · simp [results, Tryz.results21, go_sem, m0, m1, m2, hz]
    exact ⟨_, rfl, below_set3 hb2 (by omega) _ _ _, Or.inr ⟨HQ.out, _, rfl, _, _, rfl, q2.set3 m0 m1 m2, p2.set3 m0 m1 m2⟩⟩
end Go.Proofs.YtpoahodnakhmiaaGreat
namespace Go.Proofs.YtpoahodnakhmiaaGreat
set_option linter.unusedVariables false
set_option linter.unusedSimpArgs false
open Go.RowKit
/-- one integer more; the row stays in its block, or moves to a new one -/
theorem app1x {P : Program} {t e : TypeId} {k : IntKind} {bytes : Nat} (S : IntT P t e k bytes) (w : World) {ops : Array Oper} {rest : List Oper} {o : Oper} {a : Act} {Q : Exit → Act → World → Prop} (hgd : o.guard = none) (s x : Operand)
    (ho : o.op = .call { callee := .builtin .append, args := #[s, x], argTypes := #[t, t] })
    (base : Nat) (v : Value) (xs : List Int) (d : Int) (hs : a.eval s = v) (hown : OwnI w base e k v xs)
    (ad : Addr) (c : Nat) (hx : a.eval x = .slice (some ad) 1 c) (hcell : w.cell? ad = some (.int k d))
    (hlen : xs.length ≤ 17592186044000) (hbase : base ≤ w.heap.size)
    (h : ∀ g c' w', OwnI w' base e k (.slice (some ⟨g, 0, none⟩) (xs.length + 1) c') (xs ++ [d]) → xs.length + 1 ≤ c' → c' ≤ maxLen → Below base w w' → w.grownBy w' v.ownBlock → (v.ownBlock = some g ∨ g = w.heap.size) → g < w'.heap.size →
      wpList P ops Q rest (a.put o.dst (.slice (some ⟨g, 0, none⟩) (xs.length + 1) c')) w') : wpList P ops Q (o :: rest) a w := by
  obtain ⟨i, hi, hz, hsz, hby⟩ := info_parts S.hi
  have hb := S.hb
  refine wpList_append_lies w hgd s x t ho base e i (.int k 0) 1 bytes S.ht hi hz hsz hby rfl (by decide) v xs.length (xs.map (Value.int k)) hs hown ad 1 c [.int k d] hx rfl ?_ ?_ (by omega) ?_ ?_ hbase w.heap.size rfl ?_
  · intro j u hj
    match j, hj with
    | 0, hj => simp at hj; subst hj; simpa [Addr.add] using hcell
  · intro u hu; simp at hu; subst hu; rfl
  · unfold maxLen; omega
  · have := Nat.mul_le_mul_left (xs.length + 1) hb; omega
  · intro g cap w' hown' hg hor hlt
    have hbl : Below base w w' := (Below.refl _ _).grown hg hbase fun g hgv => (hown.lt g hgv).1
    have hown2 : OwnI w' base e k (.slice (some ⟨g, 0, none⟩) (xs.length + 1) cap) (xs ++ [d]) := by unfold OwnI; simpa using hown'
    rcases hown'.2 with ⟨_, h0⟩ | ⟨g', cap', cur, hv, _, _, hc, hm, _, _⟩
    · omega
    · injection hv with e1 e2 e3
      subst e3
      exact h g cap w' hown2 hc hm hbl hg hor hlt
theorem Arr.only {w w' : World} {A : Option Addr} {k : IntKind} {xs : List Int} (h : Arr w A k xs) {r : Option Nat} (hg : w.grownBy w' r) (hne : ∀ b o, A = some ⟨b, o, none⟩ → r ≠ some b) : Arr w' A k xs := by
  intro hx
  obtain ⟨b, o, rfl, ht, hc⟩ := h hx
  have hbk := hg.block b ht.lt (fun e => hne b o rfl e.symm)
  refine ⟨b, o, rfl, ht.same hbk, fun j hj => ?_⟩
  rw [← hc j hj]
  exact World.cell?_of_block (w := w) hbk
theorem NatV.only {w w' : World} {b o n c : Nat} {x : Int} {L : Nat} (h : NatV w (.slice (some ⟨b, o, none⟩) n c) x L) {r : Option Nat} (hg : w.grownBy w' r) (hne : r ≠ some b) : NatV w' (.slice (some ⟨b, o, none⟩) n c) x L := by
  obtain ⟨A, c', xs, e, h1, h2, h3, h4⟩ := h
  injection e with e1 e2 e3
  subst e1 e2 e3
  exact ⟨_, _, xs, rfl, h1, h2, h3.only hg (by intro b' o' e; injection e with e; injection e with e1 e2; subst e1; exact hne), h4⟩
end Go.Proofs.YtpoahodnakhmiaaGreat
namespace Go.Proofs.YtpoahodnakhmiaaGreat
set_option linter.unusedVariables false
set_option linter.unusedSimpArgs false
open Go.RowKit
/-- block g begins with these integers, and may be written -/
def Cel (w : World) (g : Nat) (e : TypeId) (k : IntKind) (xs : List Int) (rest : List Value) : Prop := w.heap[g]? = some (.cells (xs.map (Value.int k) ++ rest).toArray e (0, 0))
section
variable {w w' : World} {g : Nat} {e : TypeId} {k : IntKind} {xs : List Int} {rest : List Value}
theorem Cel.lt (h : Cel w g e k xs rest) : g < w.heap.size := lt_of_block h
theorem Cel.cell (h : Cel w g e k xs rest) {j : Nat} (hj : j < xs.length) : w.cell? ⟨g, j, none⟩ = some (.int k (xs.getD j 0)) := by
  unfold Cel at h
  have hj2 : j < (xs.map (Value.int k)).length := by simpa using hj
  simp only [World.cell?, h, List.getElem?_toArray, List.getElem?_append_left hj2, List.getElem?_map, List.getElem?_eq_getElem hj]
  simp [List.getD, List.getElem?_eq_getElem hj]
theorem Cel.frozen (h : Cel w g e k xs rest) (j : Nat) : w.frozen? ⟨g, j, none⟩ = false := by unfold Cel at h; simp [World.frozen?, h]
theorem Cel.set_ (h : Cel w g e k xs rest) {i : Nat} (d : Int) (hi : i < xs.length) : Cel (w.setCell ⟨g, i, none⟩ (.int k d)) g e k (xs.set i d) rest := by
  unfold Cel at h ⊢
  have hj2 : i < (xs.map (Value.int k)).length := by simpa using hi
  simp [World.setCell, Array.getElem?_modify, h, List.map_set, List.set_append_left _ _ hj2]
theorem Cel.below {B : Nat} (h : Cel w g e k xs rest) (hb : Below B w w') (hg : g < B) : Cel w' g e k xs rest := (hb.block g hg).trans h
theorem Cel.drew (h : Cel w g e k xs rest) : Cel w.drew g e k xs rest := h
theorem Cel.arr (h : Cel w g e k xs rest) (he : e = tyOf k := by rfl) : Arr w (some ⟨g, 0, none⟩) k xs := fun _ => ⟨g, 0, rfl, ⟨_, _, by rw [← he]; exact h⟩, fun j hj => by rw [Nat.zero_add]; exact h.cell hj⟩
end
theorem OwnI.cel {w : World} {base : Nat} {e : TypeId} {k : IntKind} {v : Value} {xs : List Int} (h : OwnI w base e k v xs) (h0 : 0 < xs.length) :
    ∃ g c rest, v = .slice (some ⟨g, 0, none⟩) xs.length c ∧ base ≤ g ∧ xs.length ≤ c ∧ c ≤ maxLen ∧ Cel w g e k xs rest := by
  rcases h.2 with ⟨hv, h0⟩ | ⟨g, cap, cur, hv, hg, hh, hc, hm, hs, ht⟩
  · omega
  · refine ⟨g, cap, cur.toList.drop xs.length, hv, hg, hc, hm, ?_⟩
    unfold Cel
    rw [hh, ← ht, Nat.mul_one, List.take_append_drop]
/-- swapped at both ends as far as k -/
def RevTo (xs zs : List Int) (k : Nat) : Prop :=
  zs.length = xs.length ∧ ∀ m, m < xs.length → zs.getD m 0 = if m < k ∨ xs.length ≤ m + k then xs.getD (xs.length - 1 - m) 0 else xs.getD m 0
theorem revTo_zero (xs : List Int) : RevTo xs xs 0 := ⟨rfl, fun m hm => by rw [if_neg (by omega)]⟩
theorem revTo_end {xs zs : List Int} {k : Nat} (h : RevTo xs zs k) (hk : xs.length ≤ 2 * k + 1) : zs = xs.reverse := by
  obtain ⟨h1, h2⟩ := h
  apply List.ext_getElem (by simp [h1])
  intro i hi hi'
  have hx : i < xs.length := by omega
  have := h2 i hx
  rw [List.getElem_reverse]
  have e1 : zs.getD i 0 = zs[i] := by simp [List.getD, hi]
  rw [e1] at this
  rw [this]
  split
  · simp [List.getD, show xs.length - 1 - i < xs.length by omega]
  · have : xs.length - 1 - i = i := by omega
    simp [List.getD, hx, this]
theorem revTo_step {xs zs : List Int} {k : Nat} (h : RevTo xs zs k) (hk : 2 * k + 1 < xs.length) :
    RevTo xs ((zs.set k (zs.getD (xs.length - 1 - k) 0)).set (xs.length - 1 - k) (zs.getD k 0)) (k + 1) := by
  obtain ⟨h1, h2⟩ := h
  refine ⟨by simp [h1], fun m hm => ?_⟩
  have ha := h2 k (by omega)
  have hb := h2 (xs.length - 1 - k) (by omega)
  rw [if_neg (by omega)] at ha hb
  by_cases e1 : m = xs.length - 1 - k
  · subst e1
    rw [getD_set_eq (by simp [h1]; omega), ha, if_pos (by omega)]
    rw [show xs.length - 1 - (xs.length - 1 - k) = k by omega]
  · rw [getD_set_ne (fun e => e1 e.symm)]
    by_cases e2 : m = k
    · subst e2
      rw [getD_set_eq (by rw [h1]; omega), hb, if_pos (by omega)]
    · rw [getD_set_ne (fun e => e2 e.symm), h2 m hm]
      by_cases c : m < k ∨ xs.length ≤ m + k
      · rw [if_pos c, if_pos (by omega)]
      · rw [if_neg c, if_neg (by omega)]
theorem reverse_c (w : World) (g c : Nat) (xs : List Int) (rest : List Value) (h0 : 0 < xs.length) (hc : xs.length ≤ c) (hm : c ≤ maxLen) (h : Cel w g 5 .u8 xs rest) :
    Calls Tryz.prog 178 #[.slice (some ⟨g, 0, none⟩) xs.length c] w (Ret (fun v w' => v = .tuple #[] ∧ Cel w' g 5 .u8 xs.reverse rest ∧ w.grownBy w' (some g) ∧ w'.heap.size = w.heap.size)) := by
  unfold maxLen at hm
  have HC := hide h; clear h
  go_enter Tryz.func178, Tryz.ntmps178
  go_wp2
  go_loopw [2, 3] (fun s2 s3 wr => ∃ (k j : Nat) (zs : List Int), 2 * k ≤ xs.length ∧ k + j + 1 = xs.length ∧ s2 = .int .i64 k ∧ s3 = .int .i64 j ∧ RevTo xs zs k ∧ Cel wr g 5 .u8 zs rest ∧ w.grownBy wr (some g) ∧ wr.heap.size = w.heap.size) (fun s2 _ _ => xs.length - (intOf s2).toNat)
  case atStart => exact ⟨0, xs.length - 1, xs, by omega, by omega, rfl, by congr 1; omega, revTo_zero xs, HC.out, ⟨rfl, rfl, rfl, Nat.le_refl _, fun _ _ _ => rfl⟩, rfl⟩
  case round =>
    obtain ⟨k, j, zs, hk, hj, rfl, rfl, hrev, hcel, hgr, hsz⟩ := hrel
    have hzl := hrev.1
    by_cases hlt : k < j
    · have ci := hcel.cell (j := k) (by omega)
      have cj := hcel.cell (j := j) (by omega)
      have fi := hcel.frozen k
      have fj := hcel.frozen j
      obtain ⟨x, hx⟩ : ∃ x, x = zs.getD k 0 := ⟨_, rfl⟩
      obtain ⟨y, hy⟩ : ∃ y, y = zs.getD j 0 := ⟨_, rfl⟩
      rw [← hx] at ci
      rw [← hy] at cj
      have hne : ¬ k = j := by omega
      have hkl : k < xs.length := by omega
      have hjl : j < xs.length := by omega
      have HH := hide (And.intro hrev (And.intro hx (And.intro hy (And.intro hcel (And.intro hgr hsz))))); clear hrev hx hy hcel hgr hsz
      go_wp2
      go_region
      go_wp2
      go_roundw
      case rel =>
        obtain ⟨hrev, hx, hy, hcel, hgr, hsz⟩ := HH.out
        refine ⟨k + 1, j - 1, (zs.set k y).set j x, by omega, by omega, by go_num, by go_num, ?_, ?_, ?_, ?_⟩
        · have := revTo_step hrev (by omega)
          rw [show xs.length - 1 - k = j by omega, ← hx, ← hy] at this
          exact this
        · exact ((hcel.set_ y (by omega)).set_ x (by simp; omega)).drew
        · exact ⟨hgr.os, hgr.tape, hgr.output, by simpa using hgr.size, fun b hb hne => by
            have e1 : g ≠ b := by intro e; exact hne (by rw [e])
            have := hgr.block b hb hne
            rw [← this]
            simp [World.setCell, World.drew, Array.getElem?_modify, e1]⟩
        · simpa using hsz
      case measure => simp [intOf]; omega
    · have HH := hide (And.intro hrev (And.intro hcel (And.intro hgr hsz))); clear hrev hcel hgr hsz
      go_wp2
      go_end0
      obtain ⟨hrev, hcel, hgr, hsz⟩ := HH.out
      rw [revTo_end hrev (by omega)] at hcel
      exact ⟨_, rfl, rfl, hcel, hgr, hsz⟩
end Go.Proofs.YtpoahodnakhmiaaGreat
