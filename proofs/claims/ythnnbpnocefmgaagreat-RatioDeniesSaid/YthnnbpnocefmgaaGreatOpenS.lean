/- Arguments that are lists of strings, and lists of these, read as lists. No walk. -/
import Derived.Test.YthnnbpnocefmgaaGreatList
import Derived.Test.YthnnbpnocefmgaaGreatLst2
import Derived.SliceStrings
import Derived.Deep.Slices
import Derived.SizedLaws
namespace Go.Proofs.YthnnbpnocefmgaaGreat
set_option linter.unusedVariables false
set_option linter.unusedSimpArgs false
open Go.RowKit Go.ChangeShapes Go.WideShapes
/-- where a cell can be read there is a block, and the address is plain -/
theorem cell_typed {w : World} {a : Addr} {v : Value} (h : w.cell? a = some v) : a.spot = none ∧ ∃ T, Typed w a.block T := by
  unfold World.cell? at h
  split at h
  · rename_i c e f hb
    split at h
    · cases h
    · rename_i hs
      exact ⟨by simpa using hs, e, c, f, hb⟩
  · cases h
theorem add_plain {a : Addr} (h : a.spot = none) (i : Nat) : a.add i = ⟨a.block, a.off + i, none⟩ := by
  obtain ⟨b, o, s⟩ := a
  simp only at h
  subst h
  unfold Addr.add
  split <;> simp_all
section
variable {H : Type} {enc : TypeId × Value → H} {P : Program} {w : World} {base : Nat} {spare : Nat → Bool} {held : Bool}
theorem all_le {l : List Nat} (h : l.all (· ≤ reachBytes) = true) {n : Nat} (hn : n ∈ l) : n ≤ reachBytes := by
  have := List.all_eq_true.1 h n hn
  simpa using this
theorem weightsAll_mem {e : TypeId} {l : List (DataW H)} {d : DataW H} (hd : d ∈ l) {n : Nat} (hn : n ∈ d.weights P e) : n ∈ DataW.weightsAll P e l := by
  induction l with
  | nil => cases hd
  | cons x l ih =>
    rw [DataW.weightsAll]
    rcases List.mem_cons.1 hd with rfl | hd
    · exact List.mem_append_left _ hn
    · exact List.mem_append_right _ (ih hd)
/-- a list of strings -/
theorem open_strsE {t e : TypeId} {fuel : Nat} {cs : List Value} {x : DataW H × List MemPlace} (ht : P.underlying t = some (.slice e)) (he : P.underlying e = some .string) (hc : P.cellsOf e = 1)
    (h : DataW.trod enc P w base spare held fuel t cs = some x) (hsz : ∀ n ∈ x.1.weights P t, n ≤ reachBytes) : ∃ v ss, cs = [v] ∧ StrsE w v ss := by
  rcases open_strings ht he hc h with ⟨hcs, hx⟩ | ⟨a, len, cap, ss, hcs, hb, hl, hm, hz, rfl, hcell, hms⟩
  · exact ⟨_, [], hcs, 0, LstV.nil _ _ _ _⟩
  · have hlen : len ≤ ss.length := by rw [hz]; split <;> omega
    have hw : ∀ s ∈ ss.take len, s.size ≤ 140737488355328 := by
      intro s hs
      have h1 : s.data.toList.length ∈ (DataW.slice (H := H) (strs (ss.take len)) (strs (ss.drop len))).weights P t := by
        rw [DataW.weights, ht]
        refine List.mem_cons_of_mem _ (List.mem_append_left _ (weightsAll_mem (d := .lit (.string s.data.toList)) ?_ ?_))
        · unfold strs; exact List.mem_map.2 ⟨s, hs, rfl⟩
        · rw [DataW.weights]; exact List.mem_singleton.2 rfl
      have h2 := hsz _ h1
      have h3 := reachBytes_lt
      rw [Array.length_toList] at h2
      show s.data.size ≤ _
      omega
    by_cases h0 : len = 0
    · refine ⟨_, [], hcs, 0, _, _, by rw [h0]; rfl, Nat.zero_le _, hm, fun hx => by simp at hx⟩
    · have hc0 := hcell 0 (by omega)
      obtain ⟨hsp, T, ht0⟩ := cell_typed hc0
      have hsp' : a.spot = none := by
        obtain ⟨b, o, s⟩ := a
        unfold Addr.add at hsp
        split at hsp <;> simp_all
      have hblk : (a.add 0).block = a.block := by rw [add_plain hsp']
      rw [hblk] at ht0
      have hll : (ss.take len).length = len := by rw [List.length_take]; omega
      refine ⟨_, ss.take len, hcs, T, some a, cap, by rw [hll], by rw [hll]; exact hl, hm, fun _ => ⟨a.block, a.off, by obtain ⟨b, o, s⟩ := a; simp only at hsp'; rw [hsp'], ht0, fun i s hi => ?_⟩⟩
      have hil : i < len := by have := (List.getElem?_eq_some_iff.1 hi).1; omega
      have hc1 := hcell i (by omega)
      rw [add_plain hsp'] at hc1
      have hs : ss.getD i ByteArray.empty = s := by
        rw [List.getElem?_take_of_lt hil] at hi
        rw [List.getD, hi]; rfl
      rw [hs] at hc1
      refine ⟨.string s, rfl, fun j hj => ?_, rfl, hw s (List.mem_of_getElem? hi)⟩
      have : j = 0 := by have : (Value.string s).cells.size = 1 := rfl
                         omega
      subst this
      rw [Nat.mul_one, Nat.add_zero]
      exact hc1
/-- a list of lists of strings -/
theorem open_strssE {t u e : TypeId} {fuel : Nat} {cs : List Value} {x : DataW H × List MemPlace} (ht : P.underlying t = some (.slice u)) (hu : P.underlying u = some (.slice e)) (he : P.underlying e = some .string) (hcu : P.cellsOf u = 1) (hc : P.cellsOf e = 1)
    (h : DataW.trod enc P w base spare held fuel t cs = some x) (hsz : ∀ n ∈ x.1.weights P t, n ≤ reachBytes) : ∃ v T ls, cs = [v] ∧ LstV T 1 StrsE w v ls := by
  rcases Deep.open_slice1 ht hcu h with ⟨hcs, hx⟩ | ⟨a, len, cap, m, n, V, D, Pl, hcs, hb, hl, hm, hz, rfl, hrow⟩
  · exact ⟨_, 0, [], hcs, LstV.nil _ _ _ _⟩
  · have hlen : len ≤ m := by rw [hz]; split <;> omega
    have each : ∀ i, i < len → ∃ ss, StrsE w (V i) ss := by
      intro i hi
      obtain ⟨v, ss, hv, hs⟩ := open_strsE hu he hc (hrow i (by omega)).2 (fun k hk => hsz k (by
        rw [DataW.weights, ht]
        refine List.mem_cons_of_mem _ (List.mem_append_left _ (weightsAll_mem (d := D i) ?_ hk))
        exact List.mem_map.2 ⟨i, List.mem_range.2 hi, rfl⟩))
      injection hv with hv
      rw [hv]; exact ⟨ss, hs⟩
    obtain ⟨S, hS⟩ := Deep.choose_lt each
    by_cases h0 : len = 0
    · refine ⟨_, 0, [], hcs, _, _, by rw [h0]; rfl, Nat.zero_le _, hm, fun hx => by simp at hx⟩
    · have hc0 := (hrow 0 (by omega)).1
      obtain ⟨hsp, T, ht0⟩ := cell_typed hc0
      have hsp' : a.spot = none := by
        obtain ⟨b, o, s⟩ := a
        unfold Addr.add at hsp
        split at hsp <;> simp_all
      have hblk : (a.add 0).block = a.block := by rw [add_plain hsp']
      rw [hblk] at ht0
      have hll : ((List.range len).map S).length = len := by simp
      refine ⟨_, T, (List.range len).map S, hcs, some a, cap, by rw [hll], by rw [hll]; exact hl, hm, fun _ => ⟨a.block, a.off, by obtain ⟨b, o, s⟩ := a; simp only at hsp'; rw [hsp'], ht0, fun i s hi => ?_⟩⟩
      have hil : i < len := by have := (List.getElem?_eq_some_iff.1 hi).1; omega
      have hc1 := (hrow i (by omega)).1
      rw [add_plain hsp'] at hc1
      have hs : S i = s := by
        simp [hil] at hi
        exact hi
      have hSi := hS i hil
      rw [hs] at hSi
      obtain ⟨A1, c1, hv1⟩ : ∃ A c, V i = .slice A s.length c := by obtain ⟨_, A, c, e, _⟩ := id hSi; exact ⟨A, c, e⟩
      refine ⟨V i, by rw [hv1]; rfl, fun j hj => ?_, hSi⟩
      have : j = 0 := by rw [hv1] at hj; have : (Value.slice A1 s.length c1).cells.size = 1 := rfl
                         omega
      subst this
      rw [Nat.mul_one, Nat.add_zero, hc1, hv1]
      rfl
end
end Go.Proofs.YthnnbpnocefmgaaGreat
