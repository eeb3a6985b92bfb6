/-
  No cell of these rows narrows 'for every input' (looked for: loops, veiled, ifaces, maps, wideKeys, modest, calm, conditions, laid).
  DERIVED. THE GIVEN ROWS OF THIS SEAT. 10 by the template 'for every input the law returns true; each argument reads behind the call as it read before'; 0 by the template 'total and deterministic' (their statements: YtpoahodnakhmiaaGreatTotals.lean).
  GIVEN WITH THE SEED: the statements are not yours to turn. If you find one false, say at which input.
  Laid BY PROGRAM, IN A SANDBOX (cutbox-rows.mjs): the forced cells as the released guide's own fill.sh prints them over the translation 1218fdcc43dc8bcc… (all of the seat's roots in one cut). By AI agents, Wed Nov 11 2026. No macro, syntax, notation, axiom, sorry.
-/
import Derived.Test.YtpoahodnakhmiaaGreatChecked
import GoSem.Claim
import GoSem.ClaimJoined
import GoSem.ClaimMapViews
import Derived.JoinedTies
import Derived.KernelRfl
namespace Go.Proofs.YtpoahodnakhmiaaGreat
/- THE CELL 'sum', in the pinned program and in every row, IS THE sha256 OF THE DUMP (.gsa) THAT YtpoahodnakhmiaaGreatProg.lean LOADS. Nothing in Lean hashes anything: it is a label: what it is worth is what the hold of that sum in a sandbox is worth. -/
noncomputable def Tryz.pinned : Pinned := { name := "ytpoahodnakhmiaagreat", sum := "1218fdcc43dc8bcc6d0ab4b411d14f7a1e42062652783ab9257785d8edded6f6", checked := Tryz.checked }
namespace Rows
def none {H : Type} : Left H := { results := [], args := [] }

/-- 'minikinlaw07.QueueBuzen': WHATEVER THE INPUT: true; the input reads as it did. -/
def queueBuzenSpec : ChangeSpec := { name := "queueBuzen", fn := fun _ => fun
  | [d1, d2, d3] => { results := [.lit (.bool true)], args := [d1, d2, d3] }
  | _ => none }
def queueBuzenRow : OpenClaim := { program := "ytpoahodnakhmiaagreat", sum := "1218fdcc43dc8bcc6d0ab4b411d14f7a1e42062652783ab9257785d8edded6f6", func := "minikin/minikinlaw07.QueueBuzen", spec := "queueBuzen", inPlace := ["internal/bytealg.IndexByteString", "internal/bytealg.IndexString"], unfollowed := true, recurses := true, named := ["internal/bytealg.MaxLen"], plainKeys := false, apart := false }
def QueueBuzenSaid : Prop := queueBuzenRow.holds Tryz.pinned (OpenSpec.ofChange queueBuzenSpec)

/-- ITS FALSE NEIGHBOUR: 'it returns false'. Refute it at one input. -/
def queueBuzenWrong : ChangeSpec := { name := "queueBuzen", fn := fun _ => fun
  | [d1, d2, d3] => { results := [.lit (.bool false)], args := [d1, d2, d3] }
  | _ => none }
def QueueBuzenWrongFalsely : Prop := queueBuzenRow.holds Tryz.pinned (OpenSpec.ofChange queueBuzenWrong)

/-- 'minikinlaw07.QueueSeen': WHATEVER THE INPUT: true; the input reads as it did. -/
def queueSeenSpec : ChangeSpec := { name := "queueSeen", fn := fun _ => fun
  | [d1, d2, d3] => { results := [.lit (.bool true)], args := [d1, d2, d3] }
  | _ => none }
def queueSeenRow : OpenClaim := { program := "ytpoahodnakhmiaagreat", sum := "1218fdcc43dc8bcc6d0ab4b411d14f7a1e42062652783ab9257785d8edded6f6", func := "minikin/minikinlaw07.QueueSeen", spec := "queueSeen", inPlace := ["internal/bytealg.IndexByteString", "internal/bytealg.IndexString"], unfollowed := true, recurses := true, named := ["internal/bytealg.MaxLen"], plainKeys := false, apart := false }
def QueueSeenSaid : Prop := queueSeenRow.holds Tryz.pinned (OpenSpec.ofChange queueSeenSpec)

/-- ITS FALSE NEIGHBOUR: 'it returns false'. Refute it at one input. -/
def queueSeenWrong : ChangeSpec := { name := "queueSeen", fn := fun _ => fun
  | [d1, d2, d3] => { results := [.lit (.bool false)], args := [d1, d2, d3] }
  | _ => none }
def QueueSeenWrongFalsely : Prop := queueSeenRow.holds Tryz.pinned (OpenSpec.ofChange queueSeenWrong)

/-- 'minikinlaw07.QueueArrives': WHATEVER THE INPUT: true; the input reads as it did. -/
def queueArrivesSpec : ChangeSpec := { name := "queueArrives", fn := fun _ => fun
  | [d1, d2, d3] => { results := [.lit (.bool true)], args := [d1, d2, d3] }
  | _ => none }
def queueArrivesRow : OpenClaim := { program := "ytpoahodnakhmiaagreat", sum := "1218fdcc43dc8bcc6d0ab4b411d14f7a1e42062652783ab9257785d8edded6f6", func := "minikin/minikinlaw07.QueueArrives", spec := "queueArrives", inPlace := ["internal/bytealg.IndexByteString", "internal/bytealg.IndexString"], unfollowed := true, recurses := true, named := ["internal/bytealg.MaxLen"], plainKeys := false, apart := false }
def QueueArrivesSaid : Prop := queueArrivesRow.holds Tryz.pinned (OpenSpec.ofChange queueArrivesSpec)

/-- ITS FALSE NEIGHBOUR: 'it returns false'. Refute it at one input. -/
def queueArrivesWrong : ChangeSpec := { name := "queueArrives", fn := fun _ => fun
  | [d1, d2, d3] => { results := [.lit (.bool false)], args := [d1, d2, d3] }
  | _ => none }
def QueueArrivesWrongFalsely : Prop := queueArrivesRow.holds Tryz.pinned (OpenSpec.ofChange queueArrivesWrong)

/-- 'minikinlaw07.QueueSpeeds': WHATEVER THE INPUT: true; the input reads as it did. -/
def queueSpeedsSpec : ChangeSpec := { name := "queueSpeeds", fn := fun _ => fun
  | [d1, d2, d3] => { results := [.lit (.bool true)], args := [d1, d2, d3] }
  | _ => none }
def queueSpeedsRow : OpenClaim := { program := "ytpoahodnakhmiaagreat", sum := "1218fdcc43dc8bcc6d0ab4b411d14f7a1e42062652783ab9257785d8edded6f6", func := "minikin/minikinlaw07.QueueSpeeds", spec := "queueSpeeds", inPlace := ["internal/bytealg.IndexByteString", "internal/bytealg.IndexString"], unfollowed := true, recurses := true, named := ["internal/bytealg.MaxLen"], plainKeys := false, apart := false }
def QueueSpeedsSaid : Prop := queueSpeedsRow.holds Tryz.pinned (OpenSpec.ofChange queueSpeedsSpec)

/-- ITS FALSE NEIGHBOUR: 'it returns false'. Refute it at one input. -/
def queueSpeedsWrong : ChangeSpec := { name := "queueSpeeds", fn := fun _ => fun
  | [d1, d2, d3] => { results := [.lit (.bool false)], args := [d1, d2, d3] }
  | _ => none }
def QueueSpeedsWrongFalsely : Prop := queueSpeedsRow.holds Tryz.pinned (OpenSpec.ofChange queueSpeedsWrong)

/-- 'minikinlaw07.QueueMeans': WHATEVER THE INPUT: true; the input reads as it did. -/
def queueMeansSpec : ChangeSpec := { name := "queueMeans", fn := fun _ => fun
  | [d1, d2, d3] => { results := [.lit (.bool true)], args := [d1, d2, d3] }
  | _ => none }
def queueMeansRow : OpenClaim := { program := "ytpoahodnakhmiaagreat", sum := "1218fdcc43dc8bcc6d0ab4b411d14f7a1e42062652783ab9257785d8edded6f6", func := "minikin/minikinlaw07.QueueMeans", spec := "queueMeans", inPlace := ["internal/bytealg.IndexByteString", "internal/bytealg.IndexString"], unfollowed := true, recurses := true, named := ["internal/bytealg.MaxLen"], plainKeys := false, apart := false }
def QueueMeansSaid : Prop := queueMeansRow.holds Tryz.pinned (OpenSpec.ofChange queueMeansSpec)

/-- ITS FALSE NEIGHBOUR: 'it returns false'. Refute it at one input. -/
def queueMeansWrong : ChangeSpec := { name := "queueMeans", fn := fun _ => fun
  | [d1, d2, d3] => { results := [.lit (.bool false)], args := [d1, d2, d3] }
  | _ => none }
def QueueMeansWrongFalsely : Prop := queueMeansRow.holds Tryz.pinned (OpenSpec.ofChange queueMeansWrong)

/-- 'minikinlaw07.QueueChances': WHATEVER THE INPUT: true; the input reads as it did. -/
def queueChancesSpec : ChangeSpec := { name := "queueChances", fn := fun _ => fun
  | [d1, d2, d3] => { results := [.lit (.bool true)], args := [d1, d2, d3] }
  | _ => none }
def queueChancesRow : OpenClaim := { program := "ytpoahodnakhmiaagreat", sum := "1218fdcc43dc8bcc6d0ab4b411d14f7a1e42062652783ab9257785d8edded6f6", func := "minikin/minikinlaw07.QueueChances", spec := "queueChances", inPlace := ["internal/bytealg.IndexByteString", "internal/bytealg.IndexString"], unfollowed := true, recurses := true, named := ["internal/bytealg.MaxLen"], plainKeys := false, apart := false }
def QueueChancesSaid : Prop := queueChancesRow.holds Tryz.pinned (OpenSpec.ofChange queueChancesSpec)

/-- ITS FALSE NEIGHBOUR: 'it returns false'. Refute it at one input. -/
def queueChancesWrong : ChangeSpec := { name := "queueChances", fn := fun _ => fun
  | [d1, d2, d3] => { results := [.lit (.bool false)], args := [d1, d2, d3] }
  | _ => none }
def QueueChancesWrongFalsely : Prop := queueChancesRow.holds Tryz.pinned (OpenSpec.ofChange queueChancesWrong)

/-- 'minikinlaw07.QueueBounds': WHATEVER THE INPUT: true; the input reads as it did. -/
def queueBoundsSpec : ChangeSpec := { name := "queueBounds", fn := fun _ => fun
  | [d1, d2, d3] => { results := [.lit (.bool true)], args := [d1, d2, d3] }
  | _ => none }
def queueBoundsRow : OpenClaim := { program := "ytpoahodnakhmiaagreat", sum := "1218fdcc43dc8bcc6d0ab4b411d14f7a1e42062652783ab9257785d8edded6f6", func := "minikin/minikinlaw07.QueueBounds", spec := "queueBounds", inPlace := ["internal/bytealg.IndexByteString", "internal/bytealg.IndexString"], unfollowed := true, recurses := true, named := ["internal/bytealg.MaxLen"], plainKeys := false, apart := false }
def QueueBoundsSaid : Prop := queueBoundsRow.holds Tryz.pinned (OpenSpec.ofChange queueBoundsSpec)

/-- ITS FALSE NEIGHBOUR: 'it returns false'. Refute it at one input. -/
def queueBoundsWrong : ChangeSpec := { name := "queueBounds", fn := fun _ => fun
  | [d1, d2, d3] => { results := [.lit (.bool false)], args := [d1, d2, d3] }
  | _ => none }
def QueueBoundsWrongFalsely : Prop := queueBoundsRow.holds Tryz.pinned (OpenSpec.ofChange queueBoundsWrong)

/-- 'minikinlaw07.QueueBalances': WHATEVER THE INPUT: true; the input reads as it did. -/
def queueBalancesSpec : ChangeSpec := { name := "queueBalances", fn := fun _ => fun
  | [d1, d2, d3] => { results := [.lit (.bool true)], args := [d1, d2, d3] }
  | _ => none }
def queueBalancesRow : OpenClaim := { program := "ytpoahodnakhmiaagreat", sum := "1218fdcc43dc8bcc6d0ab4b411d14f7a1e42062652783ab9257785d8edded6f6", func := "minikin/minikinlaw07.QueueBalances", spec := "queueBalances", inPlace := ["internal/bytealg.IndexByteString", "internal/bytealg.IndexString"], unfollowed := true, recurses := true, named := ["internal/bytealg.MaxLen"], plainKeys := false, apart := false }
def QueueBalancesSaid : Prop := queueBalancesRow.holds Tryz.pinned (OpenSpec.ofChange queueBalancesSpec)

/-- ITS FALSE NEIGHBOUR: 'it returns false'. Refute it at one input. -/
def queueBalancesWrong : ChangeSpec := { name := "queueBalances", fn := fun _ => fun
  | [d1, d2, d3] => { results := [.lit (.bool false)], args := [d1, d2, d3] }
  | _ => none }
def QueueBalancesWrongFalsely : Prop := queueBalancesRow.holds Tryz.pinned (OpenSpec.ofChange queueBalancesWrong)

/-- 'minikinlaw07.QueueGordon': WHATEVER THE INPUT: true; the input reads as it did. -/
def queueGordonSpec : ChangeSpec := { name := "queueGordon", fn := fun _ => fun
  | [d1, d2, d3] => { results := [.lit (.bool true)], args := [d1, d2, d3] }
  | _ => none }
def queueGordonRow : OpenClaim := { program := "ytpoahodnakhmiaagreat", sum := "1218fdcc43dc8bcc6d0ab4b411d14f7a1e42062652783ab9257785d8edded6f6", func := "minikin/minikinlaw07.QueueGordon", spec := "queueGordon", inPlace := ["internal/bytealg.IndexByteString", "internal/bytealg.IndexString"], unfollowed := true, recurses := true, named := ["internal/bytealg.MaxLen"], plainKeys := false, apart := false }
def QueueGordonSaid : Prop := queueGordonRow.holds Tryz.pinned (OpenSpec.ofChange queueGordonSpec)

/-- ITS FALSE NEIGHBOUR: 'it returns false'. Refute it at one input. -/
def queueGordonWrong : ChangeSpec := { name := "queueGordon", fn := fun _ => fun
  | [d1, d2, d3] => { results := [.lit (.bool false)], args := [d1, d2, d3] }
  | _ => none }
def QueueGordonWrongFalsely : Prop := queueGordonRow.holds Tryz.pinned (OpenSpec.ofChange queueGordonWrong)

/-- 'minikinlaw07.QueueChecks': WHATEVER THE INPUT: true; the input reads as it did. -/
def queueChecksSpec : ChangeSpec := { name := "queueChecks", fn := fun _ => fun
  | [d1, d2] => { results := [.lit (.bool true)], args := [d1, d2] }
  | _ => none }
def queueChecksRow : OpenClaim := { program := "ytpoahodnakhmiaagreat", sum := "1218fdcc43dc8bcc6d0ab4b411d14f7a1e42062652783ab9257785d8edded6f6", func := "minikin/minikinlaw07.QueueChecks", spec := "queueChecks", inPlace := ["internal/bytealg.IndexByteString", "internal/bytealg.IndexString"], unfollowed := true, recurses := true, named := ["internal/bytealg.MaxLen"], plainKeys := false, apart := false }
def QueueChecksSaid : Prop := queueChecksRow.holds Tryz.pinned (OpenSpec.ofChange queueChecksSpec)

/-- ITS FALSE NEIGHBOUR: 'it returns false'. Refute it at one input. -/
def queueChecksWrong : ChangeSpec := { name := "queueChecks", fn := fun _ => fun
  | [d1, d2] => { results := [.lit (.bool false)], args := [d1, d2] }
  | _ => none }
def QueueChecksWrongFalsely : Prop := queueChecksRow.holds Tryz.pinned (OpenSpec.ofChange queueChecksWrong)

/- THE SECOND FORM. 'bulk': how many values and letters a reading holds, each counted each time it is reached (what is shared counts as often as it is met; a slice's spare places count too). A statement '..UptoSaid' is the law's where the arguments, and the package variables that the reading takes, are together of bulk at most 1048576: NARROWER than '..Said'. Prove '..Said' where nothing that the law and all that it calls make is longer than what came in: it says more and counts as full. Else prove '..UptoSaid'. A law counts once. -/
mutual
def uptoBulk {H : Type} : DataW H → Nat
  | .lit (.string bytes) => bytes.length + 1
  | .lit _ => 1
  | .nil => 1
  | .ptr d => uptoBulk d + 1
  | .slice elems spare => uptoBulkAll elems + uptoBulkAll spare + 1
  | .agg parts => uptoBulkAll parts + 1
  | .iface _ d => uptoBulk d + 1
  | .map entries => uptoBulkEntries entries + 1
  | .held _ => 1
def uptoBulkAll {H : Type} : List (DataW H) → Nat
  | [] => 0
  | d :: r => uptoBulk d + uptoBulkAll r
def uptoBulkEntries {H : Type} : List (Lit × DataW H) → Nat
  | [] => 0
  | x :: r => uptoBulkEntry x + uptoBulkEntries r
def uptoBulkEntry {H : Type} : Lit × DataW H → Nat
  | (.string bytes, d) => bytes.length + uptoBulk d + 1
  | (_, d) => uptoBulk d + 1
 end
def uptoSmall : (H : Type) → List (DataW H) → Bool := fun _ ds => decide (uptoBulkAll ds ≤ 1048576)
def OpenSpec.upto (s : _root_.Go.ChangeSpec) : _root_.Go.OpenSpec := { _root_.Go.OpenSpec.ofChange s with cond := some uptoSmall }

/-- 'minikinlaw07.QueueBuzen', WHERE WHAT IT READS IS OF BULK AT MOST 1048576: true; the input reads as it did. -/
def queueBuzenUptoRow : OpenClaim := { program := "ytpoahodnakhmiaagreat", sum := "1218fdcc43dc8bcc6d0ab4b411d14f7a1e42062652783ab9257785d8edded6f6", func := "minikin/minikinlaw07.QueueBuzen", spec := "queueBuzen", inPlace := ["internal/bytealg.IndexByteString", "internal/bytealg.IndexString"], unfollowed := true, recurses := true, named := ["internal/bytealg.MaxLen"], plainKeys := false, apart := false, narrowed := true }
def QueueBuzenUptoSaid : Prop := queueBuzenUptoRow.holds Tryz.pinned (OpenSpec.upto queueBuzenSpec)

/-- 'minikinlaw07.QueueSeen', WHERE WHAT IT READS IS OF BULK AT MOST 1048576: true; the input reads as it did. -/
def queueSeenUptoRow : OpenClaim := { program := "ytpoahodnakhmiaagreat", sum := "1218fdcc43dc8bcc6d0ab4b411d14f7a1e42062652783ab9257785d8edded6f6", func := "minikin/minikinlaw07.QueueSeen", spec := "queueSeen", inPlace := ["internal/bytealg.IndexByteString", "internal/bytealg.IndexString"], unfollowed := true, recurses := true, named := ["internal/bytealg.MaxLen"], plainKeys := false, apart := false, narrowed := true }
def QueueSeenUptoSaid : Prop := queueSeenUptoRow.holds Tryz.pinned (OpenSpec.upto queueSeenSpec)

/-- 'minikinlaw07.QueueArrives', WHERE WHAT IT READS IS OF BULK AT MOST 1048576: true; the input reads as it did. -/
def queueArrivesUptoRow : OpenClaim := { program := "ytpoahodnakhmiaagreat", sum := "1218fdcc43dc8bcc6d0ab4b411d14f7a1e42062652783ab9257785d8edded6f6", func := "minikin/minikinlaw07.QueueArrives", spec := "queueArrives", inPlace := ["internal/bytealg.IndexByteString", "internal/bytealg.IndexString"], unfollowed := true, recurses := true, named := ["internal/bytealg.MaxLen"], plainKeys := false, apart := false, narrowed := true }
def QueueArrivesUptoSaid : Prop := queueArrivesUptoRow.holds Tryz.pinned (OpenSpec.upto queueArrivesSpec)

/-- 'minikinlaw07.QueueSpeeds', WHERE WHAT IT READS IS OF BULK AT MOST 1048576: true; the input reads as it did. -/
def queueSpeedsUptoRow : OpenClaim := { program := "ytpoahodnakhmiaagreat", sum := "1218fdcc43dc8bcc6d0ab4b411d14f7a1e42062652783ab9257785d8edded6f6", func := "minikin/minikinlaw07.QueueSpeeds", spec := "queueSpeeds", inPlace := ["internal/bytealg.IndexByteString", "internal/bytealg.IndexString"], unfollowed := true, recurses := true, named := ["internal/bytealg.MaxLen"], plainKeys := false, apart := false, narrowed := true }
def QueueSpeedsUptoSaid : Prop := queueSpeedsUptoRow.holds Tryz.pinned (OpenSpec.upto queueSpeedsSpec)

/-- 'minikinlaw07.QueueMeans', WHERE WHAT IT READS IS OF BULK AT MOST 1048576: true; the input reads as it did. -/
def queueMeansUptoRow : OpenClaim := { program := "ytpoahodnakhmiaagreat", sum := "1218fdcc43dc8bcc6d0ab4b411d14f7a1e42062652783ab9257785d8edded6f6", func := "minikin/minikinlaw07.QueueMeans", spec := "queueMeans", inPlace := ["internal/bytealg.IndexByteString", "internal/bytealg.IndexString"], unfollowed := true, recurses := true, named := ["internal/bytealg.MaxLen"], plainKeys := false, apart := false, narrowed := true }
def QueueMeansUptoSaid : Prop := queueMeansUptoRow.holds Tryz.pinned (OpenSpec.upto queueMeansSpec)

/-- 'minikinlaw07.QueueChances', WHERE WHAT IT READS IS OF BULK AT MOST 1048576: true; the input reads as it did. -/
def queueChancesUptoRow : OpenClaim := { program := "ytpoahodnakhmiaagreat", sum := "1218fdcc43dc8bcc6d0ab4b411d14f7a1e42062652783ab9257785d8edded6f6", func := "minikin/minikinlaw07.QueueChances", spec := "queueChances", inPlace := ["internal/bytealg.IndexByteString", "internal/bytealg.IndexString"], unfollowed := true, recurses := true, named := ["internal/bytealg.MaxLen"], plainKeys := false, apart := false, narrowed := true }
def QueueChancesUptoSaid : Prop := queueChancesUptoRow.holds Tryz.pinned (OpenSpec.upto queueChancesSpec)

/-- 'minikinlaw07.QueueBounds', WHERE WHAT IT READS IS OF BULK AT MOST 1048576: true; the input reads as it did. -/
def queueBoundsUptoRow : OpenClaim := { program := "ytpoahodnakhmiaagreat", sum := "1218fdcc43dc8bcc6d0ab4b411d14f7a1e42062652783ab9257785d8edded6f6", func := "minikin/minikinlaw07.QueueBounds", spec := "queueBounds", inPlace := ["internal/bytealg.IndexByteString", "internal/bytealg.IndexString"], unfollowed := true, recurses := true, named := ["internal/bytealg.MaxLen"], plainKeys := false, apart := false, narrowed := true }
def QueueBoundsUptoSaid : Prop := queueBoundsUptoRow.holds Tryz.pinned (OpenSpec.upto queueBoundsSpec)

/-- 'minikinlaw07.QueueBalances', WHERE WHAT IT READS IS OF BULK AT MOST 1048576: true; the input reads as it did. -/
def queueBalancesUptoRow : OpenClaim := { program := "ytpoahodnakhmiaagreat", sum := "1218fdcc43dc8bcc6d0ab4b411d14f7a1e42062652783ab9257785d8edded6f6", func := "minikin/minikinlaw07.QueueBalances", spec := "queueBalances", inPlace := ["internal/bytealg.IndexByteString", "internal/bytealg.IndexString"], unfollowed := true, recurses := true, named := ["internal/bytealg.MaxLen"], plainKeys := false, apart := false, narrowed := true }
def QueueBalancesUptoSaid : Prop := queueBalancesUptoRow.holds Tryz.pinned (OpenSpec.upto queueBalancesSpec)

/-- 'minikinlaw07.QueueGordon', WHERE WHAT IT READS IS OF BULK AT MOST 1048576: true; the input reads as it did. -/
def queueGordonUptoRow : OpenClaim := { program := "ytpoahodnakhmiaagreat", sum := "1218fdcc43dc8bcc6d0ab4b411d14f7a1e42062652783ab9257785d8edded6f6", func := "minikin/minikinlaw07.QueueGordon", spec := "queueGordon", inPlace := ["internal/bytealg.IndexByteString", "internal/bytealg.IndexString"], unfollowed := true, recurses := true, named := ["internal/bytealg.MaxLen"], plainKeys := false, apart := false, narrowed := true }
def QueueGordonUptoSaid : Prop := queueGordonUptoRow.holds Tryz.pinned (OpenSpec.upto queueGordonSpec)

/-- 'minikinlaw07.QueueChecks', WHERE WHAT IT READS IS OF BULK AT MOST 1048576: true; the input reads as it did. -/
def queueChecksUptoRow : OpenClaim := { program := "ytpoahodnakhmiaagreat", sum := "1218fdcc43dc8bcc6d0ab4b411d14f7a1e42062652783ab9257785d8edded6f6", func := "minikin/minikinlaw07.QueueChecks", spec := "queueChecks", inPlace := ["internal/bytealg.IndexByteString", "internal/bytealg.IndexString"], unfollowed := true, recurses := true, named := ["internal/bytealg.MaxLen"], plainKeys := false, apart := false, narrowed := true }
def QueueChecksUptoSaid : Prop := queueChecksUptoRow.holds Tryz.pinned (OpenSpec.upto queueChecksSpec)

end Rows
end Go.Proofs.YtpoahodnakhmiaaGreat
