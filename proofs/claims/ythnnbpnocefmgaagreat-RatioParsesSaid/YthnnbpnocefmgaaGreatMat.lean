/- The matrix that elimination works on, in memory. -/
import Derived.Test.YthnnbpnocefmgaaGreatDot
namespace Go.Proofs.YthnnbpnocefmgaaGreat
set_option linter.unusedVariables false
set_option linter.unusedSimpArgs false
open Go.RowKit
/-- a slice that is all of a block of fractions -/
def RV (w : World) (v : Value) (g : Nat) (qs : List Rat) (L : Nat) : Prop :=
  ∃ c, v = .slice (some ⟨g, 0, none⟩) qs.length c ∧ qs.length ≤ c ∧ c ≤ maxLen ∧ RowC w g qs L
theorem RV.same {w w' : World} {v : Value} {g : Nat} {qs : List Rat} {L : Nat} (h : RV w v g qs L) (hk : Keeps w w') (hb : w'.heap[g]? = w.heap[g]?) : RV w' v g qs L := by
  obtain ⟨c, h1, h2, h3, h4⟩ := h; exact ⟨c, h1, h2, h3, h4.same hk hb⟩
structure MatS (w : World) (base M R D cR cD : Nat) (vs us rR rD : List Value) (gs hs : List Nat) (rows done : List (List Rat)) (L : Nat) : Prop where
  bM : base ≤ M
  bR : base ≤ R
  bD : base ≤ D
  hM : w.heap[M]? = some (.cells #[.slice (some ⟨R, 0, none⟩) rows.length cR, .slice (some ⟨D, 0, none⟩) rows.length cD] 141 (0, 0))
  hR : w.heap[R]? = some (.cells (vs ++ rR).toArray 26 (0, 0))
  hD : w.heap[D]? = some (.cells (us ++ rD).toArray 26 (0, 0))
  hRD : R ≠ D
  n1 : vs.length = rows.length
  n2 : us.length = rows.length
  n3 : done.length = rows.length
  n4 : gs.length = rows.length
  n5 : hs.length = rows.length
  c1 : rows.length ≤ cR
  c2 : cR ≤ maxLen
  c3 : rows.length ≤ cD
  c4 : cD ≤ maxLen
  rok : ∀ i, i < rows.length → base ≤ gs.getD i 0 ∧ RV w (vs.getD i undef) (gs.getD i 0) (rows.getD i []) L
  dok : ∀ i, i < rows.length → base ≤ hs.getD i 0 ∧ RV w (us.getD i undef) (hs.getD i 0) (done.getD i []) L
  dg : ∀ i j, i < rows.length → j < rows.length → i ≠ j → gs.getD i 0 ≠ gs.getD j 0
  dh : ∀ i j, i < rows.length → j < rows.length → i ≠ j → hs.getD i 0 ≠ hs.getD j 0
  dgh : ∀ i j, i < rows.length → j < rows.length → gs.getD i 0 ≠ hs.getD j 0
/-- two elements are exchanged -/
def swapL {α : Type} (l : List α) (i k : Nat) (d : α) : List α := (l.set i (l.getD k d)).set k (l.getD i d)
def sw (i k j : Nat) : Nat := if j = k then i else if j = i then k else j
theorem swapL_length {α : Type} (l : List α) (i k : Nat) (d : α) : (swapL l i k d).length = l.length := by simp [swapL]
theorem swapL_get {α : Type} (l : List α) (i k j : Nat) (d : α) (hj : j < l.length) : (swapL l i k d).getD j d = l.getD (sw i k j) d := by
  unfold swapL sw
  by_cases h1 : j = k
  · subst h1; rw [if_pos rfl]; simp [List.getD, hj]
  · rw [if_neg h1]
    have e : ((l.set i (l.getD k d)).set k (l.getD i d)).getD j d = (l.set i (l.getD k d)).getD j d := by
      simp only [List.getD]; rw [List.getElem?_set_ne (fun e => h1 e.symm)]
    rw [e]
    by_cases h2 : j = i
    · subst h2; rw [if_pos rfl]; simp [List.getD, hj]
    · rw [if_neg h2]; simp only [List.getD]; rw [List.getElem?_set_ne (fun e => h2 e.symm)]
theorem sw_lt {i k j n : Nat} (hi : i < n) (hk : k < n) (hj : j < n) : sw i k j < n := by
  unfold sw
  split
  · exact hi
  · split
    · exact hk
    · exact hj
theorem sw_inj {i k j l : Nat} (h : sw i k j = sw i k l) : j = l := by
  unfold sw at h
  split at h <;> split at h <;> (try split at h) <;> (try split at h) <;> omega
/-- a block that begins with these values -/
def VCel (w : World) (g : Nat) (e : TypeId) (vs rest : List Value) : Prop := w.heap[g]? = some (.cells (vs ++ rest).toArray e (0, 0))
section
variable {w w' : World} {g : Nat} {e : TypeId} {vs rest : List Value}
theorem VCel.lt (h : VCel w g e vs rest) : g < w.heap.size := lt_of_block h
theorem VCel.cell (h : VCel w g e vs rest) {j : Nat} (hj : j < vs.length) : w.cell? ⟨g, j, none⟩ = some (vs.getD j undef) := by
  unfold VCel at h
  simp only [World.cell?, h, List.getElem?_toArray, List.getElem?_append_left hj]
  simp [List.getD, List.getElem?_eq_getElem hj]
theorem VCel.frozen (h : VCel w g e vs rest) (j : Nat) : w.frozen? ⟨g, j, none⟩ = false := by unfold VCel at h; simp [World.frozen?, h]
theorem VCel.set_ (h : VCel w g e vs rest) {i : Nat} (d : Value) (hi : i < vs.length) : VCel (w.setCell ⟨g, i, none⟩ d) g e (vs.set i d) rest := by
  unfold VCel at h ⊢
  simp [World.setCell, Array.getElem?_modify, h, List.set_append_left _ _ hi]
end
theorem setCell_only (w : World) (g j : Nat) (v : Value) : w.grownBy (w.setCell ⟨g, j, none⟩ v) (some g) :=
  ⟨rfl, rfl, rfl, by simp [World.setCell], fun b hb hne => by
    have e1 : g ≠ b := by intro e; exact hne (by rw [e])
    simp [World.setCell, Array.getElem?_modify, e1]⟩
theorem RV.slice {w : World} {v : Value} {g : Nat} {qs : List Rat} {L : Nat} (h : RV w v g qs L) : ∃ c, v = .slice (some ⟨g, 0, none⟩) qs.length c := by
  obtain ⟨c, h1, _⟩ := h; exact ⟨c, h1⟩
theorem RV.sep {w : World} {v : Value} {g X : Nat} {qs : List Rat} {L : Nat} {e : TypeId} {cs : Array Value} (h : RV w v g qs L) (hX : w.heap[X]? = some (.cells cs e (0, 0))) (he : e ≠ 35) : g ≠ X := by
  obtain ⟨c, _, _, _, ⟨cs', h1⟩, _⟩ := h
  intro e1
  subst e1
  rw [h1] at hX
  injection hX with hX
  injection hX with _ h2 _
  exact he h2.symm
section
variable {w w' : World} {base M R D cR cD : Nat} {vs us rR rD : List Value} {gs hs : List Nat} {rows done : List (List Rat)} {L : Nat}
/-- two rows are exchanged -/
theorem MatS.swap (h : MatS w base M R D cR cD vs us rR rD gs hs rows done L) {i k : Nat} (hi : i < rows.length) (hk : k < rows.length)
    (hR : w'.heap[R]? = some (.cells (swapL vs i k undef ++ rR).toArray 26 (0, 0))) (hD : w'.heap[D]? = some (.cells (swapL us i k undef ++ rD).toArray 26 (0, 0)))
    (hb : ∀ b, b < w.heap.size → b ≠ R → b ≠ D → w'.heap[b]? = w.heap[b]?) (hkp : Keeps w w') :
    MatS w' base M R D cR cD (swapL vs i k undef) (swapL us i k undef) rR rD (swapL gs i k 0) (swapL hs i k 0) (swapL rows i k []) (swapL done i k []) L := by
  have hMR : M ≠ R := by
    intro e; have h1 := h.hM; have h2 := h.hR; rw [e, h2] at h1; injection h1 with h1; injection h1 with _ h1 _; revert h1; decide
  have hMD : M ≠ D := by
    intro e; have h1 := h.hM; have h2 := h.hD; rw [e, h2] at h1; injection h1 with h1; injection h1 with _ h1 _; revert h1; decide
  refine ⟨h.bM, h.bR, h.bD, ?_, hR, hD, h.hRD, ?_, ?_, ?_, ?_, ?_, ?_, h.c2, ?_, h.c4, ?_, ?_, ?_, ?_, ?_⟩
  · rw [swapL_length, hb M (lt_of_block h.hM) hMR hMD]; exact h.hM
  · rw [swapL_length, swapL_length]; exact h.n1
  · rw [swapL_length, swapL_length]; exact h.n2
  · rw [swapL_length, swapL_length]; exact h.n3
  · rw [swapL_length, swapL_length]; exact h.n4
  · rw [swapL_length, swapL_length]; exact h.n5
  · rw [swapL_length]; exact h.c1
  · rw [swapL_length]; exact h.c3
  · intro j hj
    rw [swapL_length] at hj
    have hs := sw_lt hi hk hj
    obtain ⟨q1, q2⟩ := h.rok _ hs
    rw [swapL_get _ _ _ _ _ (by rw [h.n4]; exact hj), swapL_get _ _ _ _ _ (by rw [h.n1]; exact hj), swapL_get _ _ _ _ _ hj]
    refine ⟨q1, q2.same hkp (hb _ ?_ (q2.sep h.hR (by decide)) (q2.sep h.hD (by decide)))⟩
    obtain ⟨_, _, _, _, q⟩ := q2; exact q.lt
  · intro j hj
    rw [swapL_length] at hj
    have hs := sw_lt hi hk hj
    obtain ⟨q1, q2⟩ := h.dok _ hs
    rw [swapL_get _ _ _ _ _ (by rw [h.n5]; exact hj), swapL_get _ _ _ _ _ (by rw [h.n2]; exact hj), swapL_get _ _ _ _ _ (by rw [h.n3]; exact hj)]
    refine ⟨q1, q2.same hkp (hb _ ?_ (q2.sep h.hR (by decide)) (q2.sep h.hD (by decide)))⟩
    obtain ⟨_, _, _, _, q⟩ := q2; exact q.lt
  · intro a b ha hb2 hne
    rw [swapL_length] at ha hb2
    rw [swapL_get _ _ _ _ _ (by rw [h.n4]; exact ha), swapL_get _ _ _ _ _ (by rw [h.n4]; exact hb2)]
    exact h.dg _ _ (sw_lt hi hk ha) (sw_lt hi hk hb2) (fun e => hne (sw_inj e))
  · intro a b ha hb2 hne
    rw [swapL_length] at ha hb2
    rw [swapL_get _ _ _ _ _ (by rw [h.n5]; exact ha), swapL_get _ _ _ _ _ (by rw [h.n5]; exact hb2)]
    exact h.dh _ _ (sw_lt hi hk ha) (sw_lt hi hk hb2) (fun e => hne (sw_inj e))
  · intro a b ha hb2
    rw [swapL_length] at ha hb2
    rw [swapL_get _ _ _ _ _ (by rw [h.n4]; exact ha), swapL_get _ _ _ _ _ (by rw [h.n5]; exact hb2)]
    exact h.dgh _ _ (sw_lt hi hk ha) (sw_lt hi hk hb2)
/-- nothing of it is written -/
theorem MatS.below (h : MatS w base M R D cR cD vs us rR rD gs hs rows done L) (hb : Below w.heap.size w w') : MatS w' base M R D cR cD vs us rR rD gs hs rows done L := by
  have hk := Below.keeps hb
  refine ⟨h.bM, h.bR, h.bD, (hb.block _ (lt_of_block h.hM)).trans h.hM, (hb.block _ (lt_of_block h.hR)).trans h.hR, (hb.block _ (lt_of_block h.hD)).trans h.hD, h.hRD, h.n1, h.n2, h.n3, h.n4, h.n5, h.c1, h.c2, h.c3, h.c4, ?_, ?_, h.dg, h.dh, h.dgh⟩
  · intro i hi
    obtain ⟨q1, q2⟩ := h.rok i hi
    refine ⟨q1, q2.same hk (hb.block _ ?_)⟩
    obtain ⟨_, _, _, _, q⟩ := q2; exact q.lt
  · intro i hi
    obtain ⟨q1, q2⟩ := h.dok i hi
    refine ⟨q1, q2.same hk (hb.block _ ?_)⟩
    obtain ⟨_, _, _, _, q⟩ := q2; exact q.lt
/-- one row is written -/
theorem MatS.row (h : MatS w base M R D cR cD vs us rR rD gs hs rows done L) {i : Nat} (hi : i < rows.length) {qs : List Rat} (hl : qs.length = (rows.getD i []).length)
    (hq : RowC w' (gs.getD i 0) qs L) (hk : Keeps w w') (hg : w.grownBy w' (some (gs.getD i 0))) : MatS w' base M R D cR cD vs us rR rD gs hs (rows.set i qs) done L := by
  obtain ⟨q1, q2⟩ := h.rok i hi
  have hbk : ∀ b, b < w.heap.size → b ≠ gs.getD i 0 → w'.heap[b]? = w.heap[b]? := fun b hb hne => hg.block b hb (by intro e; injection e with e; exact hne e)
  refine ⟨h.bM, h.bR, h.bD, ?_, ?_, ?_, h.hRD, ?_, ?_, ?_, ?_, ?_, ?_, h.c2, ?_, h.c4, ?_, ?_, ?_, ?_, ?_⟩
  · rw [List.length_set, hbk M (lt_of_block h.hM) (q2.sep h.hM (by decide)).symm]; exact h.hM
  · rw [hbk R (lt_of_block h.hR) (q2.sep h.hR (by decide)).symm]; exact h.hR
  · rw [hbk D (lt_of_block h.hD) (q2.sep h.hD (by decide)).symm]; exact h.hD
  · rw [List.length_set]; exact h.n1
  · rw [List.length_set]; exact h.n2
  · rw [List.length_set]; exact h.n3
  · rw [List.length_set]; exact h.n4
  · rw [List.length_set]; exact h.n5
  · rw [List.length_set]; exact h.c1
  · rw [List.length_set]; exact h.c3
  · intro j hj
    rw [List.length_set] at hj
    obtain ⟨p1, p2⟩ := h.rok j hj
    refine ⟨p1, ?_⟩
    by_cases e : i = j
    · subst e
      rw [show (rows.set i qs).getD i [] = qs by simp [List.getD, hi]]
      obtain ⟨c, e1, e2, e3, e4⟩ := p2
      exact ⟨c, by rw [e1, hl], by rw [hl]; exact e2, e3, hq⟩
    · rw [show (rows.set i qs).getD j [] = rows.getD j [] by simp only [List.getD]; rw [List.getElem?_set_ne e]]
      refine p2.same hk (hbk _ ?_ (h.dg j i hj hi (fun e' => e e'.symm)))
      obtain ⟨_, _, _, _, q⟩ := p2; exact q.lt
  · intro j hj
    rw [List.length_set] at hj
    obtain ⟨p1, p2⟩ := h.dok j hj
    refine ⟨p1, p2.same hk (hbk _ ?_ (h.dgh i j hi hj).symm)⟩
    obtain ⟨_, _, _, _, q⟩ := p2; exact q.lt
  · intro a b ha hb; rw [List.length_set] at ha hb; exact h.dg a b ha hb
  · intro a b ha hb; rw [List.length_set] at ha hb; exact h.dh a b ha hb
  · intro a b ha hb; rw [List.length_set] at ha hb; exact h.dgh a b ha hb
/-- one row of what was done is written -/
theorem MatS.doneRow (h : MatS w base M R D cR cD vs us rR rD gs hs rows done L) {i : Nat} (hi : i < rows.length) {qs : List Rat} (hl : qs.length = (done.getD i []).length)
    (hq : RowC w' (hs.getD i 0) qs L) (hk : Keeps w w') (hg : w.grownBy w' (some (hs.getD i 0))) : MatS w' base M R D cR cD vs us rR rD gs hs rows (done.set i qs) L := by
  obtain ⟨q1, q2⟩ := h.dok i hi
  have hbk : ∀ b, b < w.heap.size → b ≠ hs.getD i 0 → w'.heap[b]? = w.heap[b]? := fun b hb hne => hg.block b hb (by intro e; injection e with e; exact hne e)
  refine ⟨h.bM, h.bR, h.bD, ?_, ?_, ?_, h.hRD, h.n1, h.n2, ?_, h.n4, h.n5, h.c1, h.c2, h.c3, h.c4, ?_, ?_, h.dg, h.dh, h.dgh⟩
  · rw [hbk M (lt_of_block h.hM) (q2.sep h.hM (by decide)).symm]; exact h.hM
  · rw [hbk R (lt_of_block h.hR) (q2.sep h.hR (by decide)).symm]; exact h.hR
  · rw [hbk D (lt_of_block h.hD) (q2.sep h.hD (by decide)).symm]; exact h.hD
  · rw [List.length_set]; exact h.n3
  · intro j hj
    obtain ⟨p1, p2⟩ := h.rok j hj
    refine ⟨p1, p2.same hk (hbk _ ?_ (h.dgh j i hj hi))⟩
    obtain ⟨_, _, _, _, q⟩ := p2; exact q.lt
  · intro j hj
    obtain ⟨p1, p2⟩ := h.dok j hj
    refine ⟨p1, ?_⟩
    by_cases e : i = j
    · subst e
      rw [show (done.set i qs).getD i [] = qs by simp [List.getD, h.n3, hi]]
      obtain ⟨c, e1, e2, e3, e4⟩ := p2
      exact ⟨c, by rw [e1, hl], by rw [hl]; exact e2, e3, hq⟩
    · rw [show (done.set i qs).getD j [] = done.getD j [] by simp only [List.getD]; rw [List.getElem?_set_ne e]]
      refine p2.same hk (hbk _ ?_ (h.dh j i hj hi (fun e' => e e'.symm)))
      obtain ⟨_, _, _, _, q⟩ := p2; exact q.lt
/-- a block of another kind is written -/
theorem MatS.only (h : MatS w base M R D cR cD vs us rR rD gs hs rows done L) {r : Option Nat} {e : TypeId} (hg : w.grownBy w' r) (ht : ∀ b, r = some b → Typed w b e) (h1 : e ≠ 35) (h2 : e ≠ 26) (h3 : e ≠ 141) (h4 : e ≠ tyOf .u32) :
    MatS w' base M R D cR cD vs us rR rD gs hs rows done L := by
  have hb : ∀ b f, Typed w b f → e ≠ f → w'.heap[b]? = w.heap[b]? := fun b f hf hne => hg.block b hf.lt (by intro e'; exact (ht b e'.symm).ne hf hne rfl)
  have hk : Keeps w w' := fun b hf => hb b _ hf h4
  refine ⟨h.bM, h.bR, h.bD, (hb _ _ ⟨_, _, h.hM⟩ h3).trans h.hM, (hb _ _ ⟨_, _, h.hR⟩ h2).trans h.hR, (hb _ _ ⟨_, _, h.hD⟩ h2).trans h.hD, h.hRD, h.n1, h.n2, h.n3, h.n4, h.n5, h.c1, h.c2, h.c3, h.c4, ?_, ?_, h.dg, h.dh, h.dgh⟩
  · intro i hi
    obtain ⟨q1, q2⟩ := h.rok i hi
    refine ⟨q1, q2.same hk (hb _ _ ?_ h1)⟩
    obtain ⟨_, _, _, _, ⟨cs, q⟩, _⟩ := q2; exact ⟨cs, _, q⟩
  · intro i hi
    obtain ⟨q1, q2⟩ := h.dok i hi
    refine ⟨q1, q2.same hk (hb _ _ ?_ h1)⟩
    obtain ⟨_, _, _, _, ⟨cs, q⟩, _⟩ := q2; exact ⟨cs, _, q⟩
theorem MatS.le (h : MatS w base M R D cR cD vs us rR rD gs hs rows done L) : base ≤ w.heap.size := Nat.le_trans h.bM (Nat.le_of_lt (lt_of_block h.hM))
/-- the cells that a row is found by -/
theorem MatS.rowAt (h : MatS w base M R D cR cD vs us rR rD gs hs rows done L) {i : Nat} (hi : i < rows.length) :
    ∃ g c, g = gs.getD i 0 ∧ w.cell? ⟨R, i, none⟩ = some (.slice (some ⟨g, 0, none⟩) (rows.getD i []).length c) ∧ (rows.getD i []).length ≤ c ∧ c ≤ maxLen ∧ RowC w g (rows.getD i []) L ∧ base ≤ g := by
  obtain ⟨q1, c, q2, q3, q4, q5⟩ := h.rok i hi
  have vR : VCel w R 26 vs rR := h.hR
  have := vR.cell (j := i) (by rw [h.n1]; exact hi)
  exact ⟨_, c, rfl, by rw [this, q2], q3, q4, q5, q1⟩
theorem MatS.doneAt (h : MatS w base M R D cR cD vs us rR rD gs hs rows done L) {i : Nat} (hi : i < rows.length) :
    ∃ g c, g = hs.getD i 0 ∧ w.cell? ⟨D, i, none⟩ = some (.slice (some ⟨g, 0, none⟩) (done.getD i []).length c) ∧ (done.getD i []).length ≤ c ∧ c ≤ maxLen ∧ RowC w g (done.getD i []) L ∧ base ≤ g := by
  obtain ⟨q1, c, q2, q3, q4, q5⟩ := h.dok i hi
  have vD : VCel w D 26 us rD := h.hD
  have := vD.cell (j := i) (by rw [h.n2]; exact hi)
  exact ⟨_, c, rfl, by rw [this, q2], q3, q4, q5, q1⟩
theorem MatS.m0 (h : MatS w base M R D cR cD vs us rR rD gs hs rows done L) : w.cell? ⟨M, 0, none⟩ = some (.slice (some ⟨R, 0, none⟩) rows.length cR) := by simp [World.cell?, h.hM]
theorem MatS.m1 (h : MatS w base M R D cR cD vs us rR rD gs hs rows done L) : w.cell? ⟨M, 1, none⟩ = some (.slice (some ⟨D, 0, none⟩) rows.length cD) := by simp [World.cell?, h.hM]
theorem OwnI.same {w w' : World} {base : Nat} {e : TypeId} {k : IntKind} {v : Value} {xs : List Int} (h : OwnI w base e k v xs) (hb : ∀ b, Typed w b e → w'.heap[b]? = w.heap[b]?) : OwnI w' base e k v xs := by
  refine ⟨h.1, ?_⟩
  rcases h.2 with h2 | ⟨g, cap, cur, hv, hg, hh, r⟩
  · exact .inl h2
  · exact .inr ⟨g, cap, cur, hv, hg, (hb g ⟨_, _, hh⟩).trans hh, r⟩
theorem OwnI.typed {w : World} {base : Nat} {e : TypeId} {k : IntKind} {v : Value} {xs : List Int} (h : OwnI w base e k v xs) : ∀ b, v.ownBlock = some b → Typed w b e := by
  intro b hb
  rcases h.2 with ⟨h2, _⟩ | ⟨g, cap, cur, hv, hg, hh, r⟩
  · subst h2; simp [Value.ownBlock] at hb
  · subst hv; simp only [Value.ownBlock, Option.some.injEq] at hb; subst hb; exact ⟨_, _, hh⟩
end
end Go.Proofs.YthnnbpnocefmgaaGreat
