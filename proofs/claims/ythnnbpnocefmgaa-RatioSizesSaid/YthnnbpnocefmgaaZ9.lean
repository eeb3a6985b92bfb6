/- Walks of the reference: integers. Walks of the reference: integers, the other sign, quotients, greatest common divisors. Walks of the reference: integers of int64s, the sign, the order. Walks of the reference: sums of integers of different signs, the sign, the order. Walks of the reference: differences of integers that are not negative, the sign, the order. -/
import Derived.Test.YthnnbpnocefmgaaLim
import Derived.Test.YthnnbpnocefmgaaRat4
import Derived.Test.YthnnbpnocefmgaaOver
import Derived.Test.YthnnbpnocefmgaaRat6
import Derived.Deep.RegionHeld3
namespace Go.Proofs.Ythnnbpnocefmgaa
set_option linter.unusedVariables false
set_option linter.unusedSimpArgs false
open Go.RowKit
/-- an integer: its sign, and it without its sign -/
def ZV (w : World) (v : Value) (z : Int) (L : Nat) : Prop := ∃ m, v = .agg #[.bool (decide (z < 0)), m] ∧ LimV w m (z.natAbs : Int) L
theorem ZV.below {w w' : World} {v : Value} {z : Int} {L : Nat} (h : ZV w v z L) (hb : Below w.heap.size w w') : ZV w' v z L := by
  obtain ⟨m, rfl, h1⟩ := h; exact ⟨m, rfl, h1.below hb⟩
theorem ZV.more {w : World} {v : Value} {z : Int} {L L' : Nat} (h : ZV w v z L) (hL : L ≤ L') : ZV w v z L' := by
  obtain ⟨m, rfl, h1⟩ := h; exact ⟨m, rfl, h1.more hL⟩
end Go.Proofs.Ythnnbpnocefmgaa
namespace Go.Proofs.Ythnnbpnocefmgaa
set_option linter.unusedVariables false
set_option linter.unusedSimpArgs false
open Go.RowKit
theorem at_new (w : World) (o : Obj) : (w.alloc o).heap[w.heap.size]? = some o := heap_alloc_new w o
theorem at_old {w : World} {b : Nat} {x : Obj} (h : w.heap[b]? = some x) (o : Obj) : (w.alloc o).heap[b]? = some x := (Below.heap_alloc _ _ _ (lt_of_block h)).trans h
theorem at_new' {w : World} {b : Nat} (o : Obj) (hb : w.heap.size = b) : (w.alloc o).heap[b]? = some o := by subst hb; exact heap_alloc_new w o
theorem at_later {w w' : World} {b : Nat} {x : Obj} (h : w.heap[b]? = some x) (hb : Below w.heap.size w w') : w'.heap[b]? = some x := (hb.block _ (lt_of_block h)).trans h
end Go.Proofs.Ythnnbpnocefmgaa
namespace Go.Proofs.Ythnnbpnocefmgaa
set_option linter.unusedVariables false
set_option linter.unusedSimpArgs false
open Go.RowKit
end Go.Proofs.Ythnnbpnocefmgaa
namespace Go.Proofs.Ythnnbpnocefmgaa
set_option linter.unusedVariables false
set_option linter.unusedSimpArgs false
open Go.RowKit
end Go.Proofs.Ythnnbpnocefmgaa
namespace Go.Proofs.Ythnnbpnocefmgaa
set_option linter.unusedVariables false
set_option linter.unusedSimpArgs false
open Go.RowKit
end Go.Proofs.Ythnnbpnocefmgaa
