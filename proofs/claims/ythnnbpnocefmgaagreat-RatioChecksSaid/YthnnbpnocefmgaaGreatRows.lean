/-
  No cell of these rows narrows 'for every input' (looked for: loops, veiled, ifaces, maps, wideKeys, modest, calm, conditions, laid).
  DERIVED. THE GIVEN ROWS OF THIS SEAT. 8 by the template 'for every input the law returns true; each argument reads behind the call as it read before'; 0 by the template 'total and deterministic' (their statements: YthnnbpnocefmgaaGreatTotals.lean).
  GIVEN WITH THE SEED: the statements are not yours to turn. If you find one false, say at which input.
  Laid BY PROGRAM, IN A SANDBOX (cutbox-rows.mjs): the forced cells as the released guide's own fill.sh prints them over the translation f13215042523d704… (all of the seat's roots in one cut). By AI agents, Wed Nov 11 2026. No macro, syntax, notation, axiom, sorry.
-/
import Derived.Test.YthnnbpnocefmgaaGreatChecked
import GoSem.Claim
import GoSem.ClaimJoined
import GoSem.ClaimMapViews
import Derived.JoinedTies
import Derived.KernelRfl
namespace Go.Proofs.YthnnbpnocefmgaaGreat
/- THE CELL 'sum', in the pinned program and in every row, IS THE sha256 OF THE DUMP (.gsa) THAT YthnnbpnocefmgaaGreatProg.lean LOADS. Nothing in Lean hashes anything: it is a label: what it is worth is what the hold of that sum in a sandbox is worth. -/
noncomputable def Tryz.pinned : Pinned := { name := "ythnnbpnocefmgaagreat", sum := "f13215042523d7046b1fe2ad427abee16da087f3122041ece60ad6aa6d681190", checked := Tryz.checked }
namespace Rows
def none {H : Type} : Left H := { results := [], args := [] }

/-- 'minikinlaw01.RatioDenies': WHATEVER THE INPUT: true; the input reads as it did. -/
def ratioDeniesSpec : ChangeSpec := { name := "ratioDenies", fn := fun _ => fun
  | [d1, d2, d3] => { results := [.lit (.bool true)], args := [d1, d2, d3] }
  | _ => none }
def ratioDeniesRow : OpenClaim := { program := "ythnnbpnocefmgaagreat", sum := "f13215042523d7046b1fe2ad427abee16da087f3122041ece60ad6aa6d681190", func := "minikin/minikinlaw01.RatioDenies", spec := "ratioDenies", inPlace := ["internal/bytealg.IndexByteString", "internal/bytealg.IndexString"], unfollowed := true, recurses := true, named := ["internal/bytealg.MaxLen"], apart := false }
def RatioDeniesSaid : Prop := ratioDeniesRow.holds Tryz.pinned (OpenSpec.ofChange ratioDeniesSpec)

/-- ITS FALSE NEIGHBOUR: 'it returns false'. Refute it at one input. -/
def ratioDeniesWrong : ChangeSpec := { name := "ratioDenies", fn := fun _ => fun
  | [d1, d2, d3] => { results := [.lit (.bool false)], args := [d1, d2, d3] }
  | _ => none }
def RatioDeniesWrongFalsely : Prop := ratioDeniesRow.holds Tryz.pinned (OpenSpec.ofChange ratioDeniesWrong)

/-- 'minikinlaw01.RatioCalculates': WHATEVER THE INPUT: true; the input reads as it did. -/
def ratioCalculatesSpec : ChangeSpec := { name := "ratioCalculates", fn := fun _ => fun
  | [d1, d2] => { results := [.lit (.bool true)], args := [d1, d2] }
  | _ => none }
def ratioCalculatesRow : OpenClaim := { program := "ythnnbpnocefmgaagreat", sum := "f13215042523d7046b1fe2ad427abee16da087f3122041ece60ad6aa6d681190", func := "minikin/minikinlaw01.RatioCalculates", spec := "ratioCalculates", inPlace := ["internal/bytealg.IndexByteString", "internal/bytealg.IndexString"], unfollowed := true, recurses := true, named := ["internal/bytealg.MaxLen"], apart := false }
def RatioCalculatesSaid : Prop := ratioCalculatesRow.holds Tryz.pinned (OpenSpec.ofChange ratioCalculatesSpec)

/-- ITS FALSE NEIGHBOUR: 'it returns false'. Refute it at one input. -/
def ratioCalculatesWrong : ChangeSpec := { name := "ratioCalculates", fn := fun _ => fun
  | [d1, d2] => { results := [.lit (.bool false)], args := [d1, d2] }
  | _ => none }
def RatioCalculatesWrongFalsely : Prop := ratioCalculatesRow.holds Tryz.pinned (OpenSpec.ofChange ratioCalculatesWrong)

/-- 'minikinlaw01.RatioField': WHATEVER THE INPUT: true; the input reads as it did. -/
def ratioFieldSpec : ChangeSpec := { name := "ratioField", fn := fun _ => fun
  | [d] => { results := [.lit (.bool true)], args := [d] }
  | _ => none }
def ratioFieldRow : OpenClaim := { program := "ythnnbpnocefmgaagreat", sum := "f13215042523d7046b1fe2ad427abee16da087f3122041ece60ad6aa6d681190", func := "minikin/minikinlaw01.RatioField", spec := "ratioField", inPlace := ["internal/bytealg.IndexByteString", "internal/bytealg.IndexString"], unfollowed := true, recurses := true, named := ["internal/bytealg.MaxLen"], apart := false }
def RatioFieldSaid : Prop := ratioFieldRow.holds Tryz.pinned (OpenSpec.ofChange ratioFieldSpec)

/-- ITS FALSE NEIGHBOUR: 'it returns false'. Refute it at one input. -/
def ratioFieldWrong : ChangeSpec := { name := "ratioField", fn := fun _ => fun
  | [d] => { results := [.lit (.bool false)], args := [d] }
  | _ => none }
def RatioFieldWrongFalsely : Prop := ratioFieldRow.holds Tryz.pinned (OpenSpec.ofChange ratioFieldWrong)

/-- 'minikinlaw01.RatioParses': WHATEVER THE INPUT: true; the input reads as it did. -/
def ratioParsesSpec : ChangeSpec := { name := "ratioParses", fn := fun _ => fun
  | [d] => { results := [.lit (.bool true)], args := [d] }
  | _ => none }
def ratioParsesRow : OpenClaim := { program := "ythnnbpnocefmgaagreat", sum := "f13215042523d7046b1fe2ad427abee16da087f3122041ece60ad6aa6d681190", func := "minikin/minikinlaw01.RatioParses", spec := "ratioParses", inPlace := ["internal/bytealg.IndexByteString", "internal/bytealg.IndexString"], unfollowed := true, recurses := true, named := ["internal/bytealg.MaxLen"], apart := false }
def RatioParsesSaid : Prop := ratioParsesRow.holds Tryz.pinned (OpenSpec.ofChange ratioParsesSpec)

/-- ITS FALSE NEIGHBOUR: 'it returns false'. Refute it at one input. -/
def ratioParsesWrong : ChangeSpec := { name := "ratioParses", fn := fun _ => fun
  | [d] => { results := [.lit (.bool false)], args := [d] }
  | _ => none }
def RatioParsesWrongFalsely : Prop := ratioParsesRow.holds Tryz.pinned (OpenSpec.ofChange ratioParsesWrong)

/-- 'minikinlaw01.RatioPowers': WHATEVER THE INPUT: true; the input reads as it did. -/
def ratioPowersSpec : ChangeSpec := { name := "ratioPowers", fn := fun _ => fun
  | [d1, d2] => { results := [.lit (.bool true)], args := [d1, d2] }
  | _ => none }
def ratioPowersRow : OpenClaim := { program := "ythnnbpnocefmgaagreat", sum := "f13215042523d7046b1fe2ad427abee16da087f3122041ece60ad6aa6d681190", func := "minikin/minikinlaw01.RatioPowers", spec := "ratioPowers", inPlace := ["internal/bytealg.IndexByteString", "internal/bytealg.IndexString"], unfollowed := true, recurses := true, named := ["internal/bytealg.MaxLen"], apart := false }
def RatioPowersSaid : Prop := ratioPowersRow.holds Tryz.pinned (OpenSpec.ofChange ratioPowersSpec)

/-- ITS FALSE NEIGHBOUR: 'it returns false'. Refute it at one input. -/
def ratioPowersWrong : ChangeSpec := { name := "ratioPowers", fn := fun _ => fun
  | [d1, d2] => { results := [.lit (.bool false)], args := [d1, d2] }
  | _ => none }
def RatioPowersWrongFalsely : Prop := ratioPowersRow.holds Tryz.pinned (OpenSpec.ofChange ratioPowersWrong)

/-- 'minikinlaw01.RatioOnly': WHATEVER THE INPUT: true; the input reads as it did. -/
def ratioOnlySpec : ChangeSpec := { name := "ratioOnly", fn := fun _ => fun
  | [d1, d2] => { results := [.lit (.bool true)], args := [d1, d2] }
  | _ => none }
def ratioOnlyRow : OpenClaim := { program := "ythnnbpnocefmgaagreat", sum := "f13215042523d7046b1fe2ad427abee16da087f3122041ece60ad6aa6d681190", func := "minikin/minikinlaw01.RatioOnly", spec := "ratioOnly", inPlace := ["internal/bytealg.IndexByteString", "internal/bytealg.IndexString"], unfollowed := true, recurses := true, named := ["internal/bytealg.MaxLen"], apart := false }
def RatioOnlySaid : Prop := ratioOnlyRow.holds Tryz.pinned (OpenSpec.ofChange ratioOnlySpec)

/-- ITS FALSE NEIGHBOUR: 'it returns false'. Refute it at one input. -/
def ratioOnlyWrong : ChangeSpec := { name := "ratioOnly", fn := fun _ => fun
  | [d1, d2] => { results := [.lit (.bool false)], args := [d1, d2] }
  | _ => none }
def RatioOnlyWrongFalsely : Prop := ratioOnlyRow.holds Tryz.pinned (OpenSpec.ofChange ratioOnlyWrong)

/-- 'minikinlaw01.RatioSolves': WHATEVER THE INPUT: true; the input reads as it did. -/
def ratioSolvesSpec : ChangeSpec := { name := "ratioSolves", fn := fun _ => fun
  | [d1, d2] => { results := [.lit (.bool true)], args := [d1, d2] }
  | _ => none }
def ratioSolvesRow : OpenClaim := { program := "ythnnbpnocefmgaagreat", sum := "f13215042523d7046b1fe2ad427abee16da087f3122041ece60ad6aa6d681190", func := "minikin/minikinlaw01.RatioSolves", spec := "ratioSolves", inPlace := ["internal/bytealg.IndexByteString", "internal/bytealg.IndexString"], unfollowed := true, recurses := true, named := ["internal/bytealg.MaxLen"], apart := false }
def RatioSolvesSaid : Prop := ratioSolvesRow.holds Tryz.pinned (OpenSpec.ofChange ratioSolvesSpec)

/-- ITS FALSE NEIGHBOUR: 'it returns false'. Refute it at one input. -/
def ratioSolvesWrong : ChangeSpec := { name := "ratioSolves", fn := fun _ => fun
  | [d1, d2] => { results := [.lit (.bool false)], args := [d1, d2] }
  | _ => none }
def RatioSolvesWrongFalsely : Prop := ratioSolvesRow.holds Tryz.pinned (OpenSpec.ofChange ratioSolvesWrong)

/-- 'minikinlaw01.RatioChecks': WHATEVER THE INPUT: true; the input reads as it did. -/
def ratioChecksSpec : ChangeSpec := { name := "ratioChecks", fn := fun _ => fun
  | [d1, d2] => { results := [.lit (.bool true)], args := [d1, d2] }
  | _ => none }
def ratioChecksRow : OpenClaim := { program := "ythnnbpnocefmgaagreat", sum := "f13215042523d7046b1fe2ad427abee16da087f3122041ece60ad6aa6d681190", func := "minikin/minikinlaw01.RatioChecks", spec := "ratioChecks", inPlace := ["internal/bytealg.IndexByteString", "internal/bytealg.IndexString"], unfollowed := true, recurses := true, named := ["internal/bytealg.MaxLen"], apart := false }
def RatioChecksSaid : Prop := ratioChecksRow.holds Tryz.pinned (OpenSpec.ofChange ratioChecksSpec)

/-- ITS FALSE NEIGHBOUR: 'it returns false'. Refute it at one input. -/
def ratioChecksWrong : ChangeSpec := { name := "ratioChecks", fn := fun _ => fun
  | [d1, d2] => { results := [.lit (.bool false)], args := [d1, d2] }
  | _ => none }
def RatioChecksWrongFalsely : Prop := ratioChecksRow.holds Tryz.pinned (OpenSpec.ofChange ratioChecksWrong)

/- THE SECOND FORM. 'bulk': how many values and letters a reading holds, each counted each time it is reached (what is shared counts as often as it is met; a slice's spare places count too). A statement '..UptoSaid' is the law's where the arguments, and the package variables that the reading takes, are together of bulk at most 1048576: NARROWER than '..Said'. Prove '..Said' where nothing that the law and all that it calls make is longer than what came in: it says more and counts as full. Else prove '..UptoSaid'. A law counts once. -/
mutual
def uptoBulk {H : Type} : DataW H → Nat
  | .lit (.string bytes) => bytes.length + 1
  | .lit _ => 1
  | .nil => 1
  | .ptr d => uptoBulk d + 1
  | .slice elems spare => uptoBulkAll elems + uptoBulkAll spare + 1
  | .agg parts => uptoBulkAll parts + 1
  | .iface _ d => uptoBulk d + 1
  | .map entries => uptoBulkEntries entries + 1
  | .held _ => 1
def uptoBulkAll {H : Type} : List (DataW H) → Nat
  | [] => 0
  | d :: r => uptoBulk d + uptoBulkAll r
def uptoBulkEntries {H : Type} : List (Lit × DataW H) → Nat
  | [] => 0
  | x :: r => uptoBulkEntry x + uptoBulkEntries r
def uptoBulkEntry {H : Type} : Lit × DataW H → Nat
  | (.string bytes, d) => bytes.length + uptoBulk d + 1
  | (_, d) => uptoBulk d + 1
 end
def uptoSmall : (H : Type) → List (DataW H) → Bool := fun _ ds => decide (uptoBulkAll ds ≤ 1048576)
def OpenSpec.upto (s : _root_.Go.ChangeSpec) : _root_.Go.OpenSpec := { _root_.Go.OpenSpec.ofChange s with cond := some uptoSmall }

/-- 'minikinlaw01.RatioDenies', WHERE WHAT IT READS IS OF BULK AT MOST 1048576: true; the input reads as it did. -/
def ratioDeniesUptoRow : OpenClaim := { program := "ythnnbpnocefmgaagreat", sum := "f13215042523d7046b1fe2ad427abee16da087f3122041ece60ad6aa6d681190", func := "minikin/minikinlaw01.RatioDenies", spec := "ratioDenies", inPlace := ["internal/bytealg.IndexByteString", "internal/bytealg.IndexString"], unfollowed := true, recurses := true, named := ["internal/bytealg.MaxLen"], apart := false, narrowed := true }
def RatioDeniesUptoSaid : Prop := ratioDeniesUptoRow.holds Tryz.pinned (OpenSpec.upto ratioDeniesSpec)

/-- 'minikinlaw01.RatioCalculates', WHERE WHAT IT READS IS OF BULK AT MOST 1048576: true; the input reads as it did. -/
def ratioCalculatesUptoRow : OpenClaim := { program := "ythnnbpnocefmgaagreat", sum := "f13215042523d7046b1fe2ad427abee16da087f3122041ece60ad6aa6d681190", func := "minikin/minikinlaw01.RatioCalculates", spec := "ratioCalculates", inPlace := ["internal/bytealg.IndexByteString", "internal/bytealg.IndexString"], unfollowed := true, recurses := true, named := ["internal/bytealg.MaxLen"], apart := false, narrowed := true }
def RatioCalculatesUptoSaid : Prop := ratioCalculatesUptoRow.holds Tryz.pinned (OpenSpec.upto ratioCalculatesSpec)

/-- 'minikinlaw01.RatioField', WHERE WHAT IT READS IS OF BULK AT MOST 1048576: true; the input reads as it did. -/
def ratioFieldUptoRow : OpenClaim := { program := "ythnnbpnocefmgaagreat", sum := "f13215042523d7046b1fe2ad427abee16da087f3122041ece60ad6aa6d681190", func := "minikin/minikinlaw01.RatioField", spec := "ratioField", inPlace := ["internal/bytealg.IndexByteString", "internal/bytealg.IndexString"], unfollowed := true, recurses := true, named := ["internal/bytealg.MaxLen"], apart := false, narrowed := true }
def RatioFieldUptoSaid : Prop := ratioFieldUptoRow.holds Tryz.pinned (OpenSpec.upto ratioFieldSpec)

/-- 'minikinlaw01.RatioParses', WHERE WHAT IT READS IS OF BULK AT MOST 1048576: true; the input reads as it did. -/
def ratioParsesUptoRow : OpenClaim := { program := "ythnnbpnocefmgaagreat", sum := "f13215042523d7046b1fe2ad427abee16da087f3122041ece60ad6aa6d681190", func := "minikin/minikinlaw01.RatioParses", spec := "ratioParses", inPlace := ["internal/bytealg.IndexByteString", "internal/bytealg.IndexString"], unfollowed := true, recurses := true, named := ["internal/bytealg.MaxLen"], apart := false, narrowed := true }
def RatioParsesUptoSaid : Prop := ratioParsesUptoRow.holds Tryz.pinned (OpenSpec.upto ratioParsesSpec)

/-- 'minikinlaw01.RatioPowers', WHERE WHAT IT READS IS OF BULK AT MOST 1048576: true; the input reads as it did. -/
def ratioPowersUptoRow : OpenClaim := { program := "ythnnbpnocefmgaagreat", sum := "f13215042523d7046b1fe2ad427abee16da087f3122041ece60ad6aa6d681190", func := "minikin/minikinlaw01.RatioPowers", spec := "ratioPowers", inPlace := ["internal/bytealg.IndexByteString", "internal/bytealg.IndexString"], unfollowed := true, recurses := true, named := ["internal/bytealg.MaxLen"], apart := false, narrowed := true }
def RatioPowersUptoSaid : Prop := ratioPowersUptoRow.holds Tryz.pinned (OpenSpec.upto ratioPowersSpec)

/-- 'minikinlaw01.RatioOnly', WHERE WHAT IT READS IS OF BULK AT MOST 1048576: true; the input reads as it did. -/
def ratioOnlyUptoRow : OpenClaim := { program := "ythnnbpnocefmgaagreat", sum := "f13215042523d7046b1fe2ad427abee16da087f3122041ece60ad6aa6d681190", func := "minikin/minikinlaw01.RatioOnly", spec := "ratioOnly", inPlace := ["internal/bytealg.IndexByteString", "internal/bytealg.IndexString"], unfollowed := true, recurses := true, named := ["internal/bytealg.MaxLen"], apart := false, narrowed := true }
def RatioOnlyUptoSaid : Prop := ratioOnlyUptoRow.holds Tryz.pinned (OpenSpec.upto ratioOnlySpec)

/-- 'minikinlaw01.RatioSolves', WHERE WHAT IT READS IS OF BULK AT MOST 1048576: true; the input reads as it did. -/
def ratioSolvesUptoRow : OpenClaim := { program := "ythnnbpnocefmgaagreat", sum := "f13215042523d7046b1fe2ad427abee16da087f3122041ece60ad6aa6d681190", func := "minikin/minikinlaw01.RatioSolves", spec := "ratioSolves", inPlace := ["internal/bytealg.IndexByteString", "internal/bytealg.IndexString"], unfollowed := true, recurses := true, named := ["internal/bytealg.MaxLen"], apart := false, narrowed := true }
def RatioSolvesUptoSaid : Prop := ratioSolvesUptoRow.holds Tryz.pinned (OpenSpec.upto ratioSolvesSpec)

/-- 'minikinlaw01.RatioChecks', WHERE WHAT IT READS IS OF BULK AT MOST 1048576: true; the input reads as it did. -/
def ratioChecksUptoRow : OpenClaim := { program := "ythnnbpnocefmgaagreat", sum := "f13215042523d7046b1fe2ad427abee16da087f3122041ece60ad6aa6d681190", func := "minikin/minikinlaw01.RatioChecks", spec := "ratioChecks", inPlace := ["internal/bytealg.IndexByteString", "internal/bytealg.IndexString"], unfollowed := true, recurses := true, named := ["internal/bytealg.MaxLen"], apart := false, narrowed := true }
def RatioChecksUptoSaid : Prop := ratioChecksUptoRow.holds Tryz.pinned (OpenSpec.upto ratioChecksSpec)

end Rows
end Go.Proofs.YthnnbpnocefmgaaGreat
