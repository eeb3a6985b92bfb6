/- Proved: for any three strings the law RatioField returns true, and the strings read afterwards as they read before; no conditions. -/
import Derived.Test.YthnnbpnocefmgaaGreatRows
import Derived.Test.YthnnbpnocefmgaaGreatField
import Derived.WalkKit
import Derived.ProofKit
import Derived.OpenShut
import Derived.Carry
import Derived.SizedLaws
import Derived.ChangeMaps5
import Derived.Laws.IdiomArrays
namespace Go.Proofs.YthnnbpnocefmgaaGreat.ratioField
open Go.ChangeShapes Go.WideShapes Go.ChangeAt Go.RowKit
set_option linter.unusedVariables false
set_option linter.unusedSimpArgs false

theorem own : ownKnob Tryz.prog.godebug = none := by kernel_rfl

theorem arr3 {cs : Array Value} (h : cs.size = 3) : ∃ a b c, cs = #[a, b, c] := by
  obtain ⟨l⟩ := cs
  match l, h with
  | [a, b, c], _ => exact ⟨a, b, c, rfl⟩

section
variable {H : Type} {enc : TypeId × Value → H} {P : Program} {w : World} {base : Nat} {spare : Nat → Bool} {held : Bool}
theorem shut_three {t e : TypeId} {s0 s1 s2 : ByteArray} (ht : P.underlying t = some (.array 3 e)) (hce : P.cellsOf e = 1) (hc3 : P.cellsOf t = 3) (he : P.underlying e = some .string) (h0 : s0.size ≤ maxLen) (h1 : s1.size ≤ maxLen) (h2 : s2.size ≤ maxLen) :
    DataW.Trod enc P w base spare held t (.agg #[.string s0, .string s1, .string s2]) (.agg [.lit (.string s0.data.toList), .lit (.string s1.data.toList), .lit (.string s2.data.toList)]) [] := by
  refine ⟨2, ?_⟩
  have r3 : List.range 3 = [0, 1, 2] := rfl
  simp [DataW.trod, Value.cells, ht, r3, hce, hc3, he, h0, h1, h2]
end

set_option maxRecDepth 100000 in
theorem lifted (os : Os) (started : os.Started) (H : Type) (enc : TypeId × Value → H) :
    ReturnsInHanded {} Tryz.checked os 5 .any (Rows.ratioFieldSpec.pre6 enc Tryz.prog Tryz.f5 Rows.ratioFieldRow.domain false) (Rows.ratioFieldSpec.post enc Tryz.prog Tryz.f5 false true false false) := by
  refine returnsInHanded_of_change_sized (C := Tryz.checked) own started (by kernel_rfl) Tryz.func5
    (ChangeSpec.witness6 (enc := enc) (C := Tryz.checked) false ⟨#[], #[.agg #[.string ⟨#[]⟩, .string ⟨#[]⟩, .string ⟨#[]⟩]], []⟩ 8 (by kernel_rfl) (by kernel_rfl) (by kernel_rfl) (by kernel_rfl)) ?_
  intro W base args ds gs before hval0 hW hcnd hsz0 _
  have hval : ∀ (j : Nat) t v, Tryz.f5.params[j]? = some t → args[j]? = some v → Value.okWide Tryz.prog W .any base t v := hval0
  have hsz : (DataW.weightsEach Tryz.prog (Tryz.f5.params.toList ++ Rows.ratioFieldSpec.plain.varTypes Tryz.prog) (ds ++ gs)).all (· ≤ reachBytes) = true := hsz0
  have hW' := hW
  obtain ⟨p, q, hA0, hV, rfl, hfz, hnd⟩ := hW
  have hA : DataW.TrodAll enc Tryz.prog W 0 (fun _ => true) true Tryz.f5.params.toList args.toList ds p := hA0
  rw [Tryz.params5] at hA hval hsz
  obtain ⟨v0, vs0, d0, ds0, p0, q0, hargs, rfl, rfl, h0, r0⟩ := trodAll_cons hA
  obtain ⟨rfl, rfl, rfl⟩ := trodAll_nil r0
  obtain rfl : args = #[v0] := by cases args; simp_all
  obtain ⟨rfl, rfl⟩ := trodVars_none hV
  have hw0 := hval 0 64 v0 rfl rfl
  have ht : Tryz.prog.underlying 64 = some (.array 3 9) := by kernel_rfl
  have hce : Tryz.prog.cellsOf 9 = 1 := by kernel_rfl
  have hc3 : Tryz.prog.cellsOf 64 = 3 := by kernel_rfl
  simp only [Value.okWide, ht] at hw0
  obtain ⟨cs, rfl, hcs, _⟩ := hw0
  obtain ⟨c0, c1, c2, rfl⟩ := arr3 (hcs.trans hc3)
  obtain ⟨fuel, hf⟩ := h0
  obtain ⟨y0, y1, y2, n, hx, g0, g1, g2⟩ := trod_array3 ht hce hf
  obtain ⟨z0, e0, rfl, w0⟩ := DataW.trod_string Tryz.underlying9 g0
  obtain ⟨z1, e1, rfl, w1⟩ := DataW.trod_string Tryz.underlying9 g1
  obtain ⟨z2, e2, rfl, w2⟩ := DataW.trod_string Tryz.underlying9 g2
  simp only [List.cons.injEq, and_true] at e0 e1 e2
  subst e0 e1 e2
  simp only [Prod.mk.injEq] at hx
  obtain ⟨rfl, rfl⟩ := hx
  clear hA0 hval0 hf
  simp only [List.append_nil] at hW'
  have hsz1 : (DataW.weightsEach Tryz.prog [64] [DataW.agg [DataW.lit (Lit.string z0.data.toList), DataW.lit (Lit.string z1.data.toList), DataW.lit (Lit.string z2.data.toList)]]).all (fun x => decide (x ≤ reachBytes)) = true := hsz
  simp only [DataW.weightsEach, DataW.weights, DataW.weightsAll, ht, List.append_nil, List.cons_append, List.nil_append, List.all_cons, List.all_nil, Bool.and_true, Bool.and_eq_true, decide_eq_true_eq, reachBytes, Array.length_toList] at hsz1
  obtain ⟨b0, b1, b2⟩ := hsz1
  replace b0 : z0.size ≤ 140737488355328 := by have := of_decide_eq_true b0; show z0.data.size ≤ _; omega
  replace b1 : z1.size ≤ 140737488355328 := by have := of_decide_eq_true b1; show z1.data.size ≤ _; omega
  replace b2 : z2.size ≤ 140737488355328 := by have := of_decide_eq_true b2; show z2.data.size ≤ _; omega
  refine (field_c W z0 z1 z2 b0 b1 b2).mono fun e W' he => ?_
  obtain ⟨v, rfl, rfl, hb⟩ := he
  exact ⟨_, rfl, ⟨_, _, _, [], [], [], hW', trodAll_cons_mk (shut_bool Tryz.underlying4 true) trodAll_mk0, trodAll_cons_mk (shut_three ht hce hc3 Tryz.underlying9 w0 w1 w2) trodAll_mk0, rfl, hb.frame _, fun h => by cases h⟩⟩

theorem over : Rows.ratioFieldRow.holds Tryz.pinned (OpenSpec.ofChange Rows.ratioFieldSpec) :=
  OpenClaim.holds_of_wide 5 Tryz.f5 rfl rfl rfl rfl rfl rfl rfl ⟨rfl, rfl, rfl, rfl, rfl⟩ rfl rfl rfl rfl rfl (by kernel_rfl) Tryz.func5 (by kernel_rfl)
    (of_decide_eq_true (by kernel_rfl)) (by unfold Func.isWrapper; first | (rw [if_pos (by decide +kernel)]; kernel_rfl) | (rw [if_neg (by decide +kernel)]; exact ⟨rfl, rfl⟩))
    (fun os started H enc _ => lifted os started H enc)
end Go.Proofs.YthnnbpnocefmgaaGreat.ratioField

namespace Go.Proofs.YthnnbpnocefmgaaGreat
/-- the statement -/
theorem ratioField_holds : Rows.RatioFieldSaid := ratioField.over
end Go.Proofs.YthnnbpnocefmgaaGreat
