/- The matrix that elimination works on, in memory. Walks: two rows are exchanged. -/
import Derived.Test.YtpoahodnakhmiaaGreatLong
import Derived.BigRegion
import Derived.Deep.Cut
namespace Go.Proofs.YtpoahodnakhmiaaGreat
set_option linter.unusedVariables false
set_option linter.unusedSimpArgs false
open Go.RowKit
/-- a slice that is all of a block of fractions -/
def RV (w : World) (v : Value) (g : Nat) (qs : List Rat) (L : Nat) : Prop :=
  ∃ c, v = .slice (some ⟨g, 0, none⟩) qs.length c ∧ qs.length ≤ c ∧ c ≤ maxLen ∧ RowC w g qs L
theorem RV.same {w w' : World} {v : Value} {g : Nat} {qs : List Rat} {L : Nat} (h : RV w v g qs L) (hk : Keeps w w') (hb : w'.heap[g]? = w.heap[g]?) : RV w' v g qs L := by
  obtain ⟨c, h1, h2, h3, h4⟩ := h; exact ⟨c, h1, h2, h3, h4.same hk hb⟩
structure MatS (w : World) (base M R D cR cD : Nat) (vs us rR rD : List Value) (gs hs : List Nat) (rows done : List (List Rat)) (L : Nat) : Prop where
  bM : base ≤ M
  bR : base ≤ R
  bD : base ≤ D
  hM : w.heap[M]? = some (.cells #[.slice (some ⟨R, 0, none⟩) rows.length cR, .slice (some ⟨D, 0, none⟩) rows.length cD] 211 (0, 0))
  hR : w.heap[R]? = some (.cells (vs ++ rR).toArray 30 (0, 0))
  hD : w.heap[D]? = some (.cells (us ++ rD).toArray 30 (0, 0))
  hRD : R ≠ D
  n1 : vs.length = rows.length
  n2 : us.length = rows.length
  n3 : done.length = rows.length
  n4 : gs.length = rows.length
  n5 : hs.length = rows.length
  c1 : rows.length ≤ cR
  c2 : cR ≤ maxLen
  c3 : rows.length ≤ cD
  c4 : cD ≤ maxLen
  rok : ∀ i, i < rows.length → base ≤ gs.getD i 0 ∧ RV w (vs.getD i undef) (gs.getD i 0) (rows.getD i []) L
  dok : ∀ i, i < rows.length → base ≤ hs.getD i 0 ∧ RV w (us.getD i undef) (hs.getD i 0) (done.getD i []) L
  dg : ∀ i j, i < rows.length → j < rows.length → i ≠ j → gs.getD i 0 ≠ gs.getD j 0
  dh : ∀ i j, i < rows.length → j < rows.length → i ≠ j → hs.getD i 0 ≠ hs.getD j 0
  dgh : ∀ i j, i < rows.length → j < rows.length → gs.getD i 0 ≠ hs.getD j 0
/-- two elements are exchanged -/
def swapL {α : Type} (l : List α) (i k : Nat) (d : α) : List α := (l.set i (l.getD k d)).set k (l.getD i d)
def sw (i k j : Nat) : Nat := if j = k then i else if j = i then k else j
theorem swapL_length {α : Type} (l : List α) (i k : Nat) (d : α) : (swapL l i k d).length = l.length := by simp [swapL]
theorem swapL_get {α : Type} (l : List α) (i k j : Nat) (d : α) (hj : j < l.length) : (swapL l i k d).getD j d = l.getD (sw i k j) d := by
  unfold swapL sw
  by_cases h1 : j = k
  · subst h1; rw [if_pos rfl]; simp [List.getD, hj]
  · rw [if_neg h1]
    have e : ((l.set i (l.getD k d)).set k (l.getD i d)).getD j d = (l.set i (l.getD k d)).getD j d := by
      simp only [List.getD]; rw [List.getElem?_set_ne (fun e => h1 e.symm)]
    rw [e]
    by_cases h2 : j = i
    · subst h2; rw [if_pos rfl]; simp [List.getD, hj]
    · rw [if_neg h2]; simp only [List.getD]; rw [List.getElem?_set_ne (fun e => h2 e.symm)]
theorem sw_lt {i k j n : Nat} (hi : i < n) (hk : k < n) (hj : j < n) : sw i k j < n := by
  unfold sw
  split
  · exact hi
  · split
    · exact hk
    · exact hj
theorem sw_inj {i k j l : Nat} (h : sw i k j = sw i k l) : j = l := by
  unfold sw at h
  split at h <;> split at h <;> (try split at h) <;> (try split at h) <;> omega
/-- a block that begins with these values -/
def VCel (w : World) (g : Nat) (e : TypeId) (vs rest : List Value) : Prop := w.heap[g]? = some (.cells (vs ++ rest).toArray e (0, 0))
section
variable {w w' : World} {g : Nat} {e : TypeId} {vs rest : List Value}
theorem VCel.lt (h : VCel w g e vs rest) : g < w.heap.size := lt_of_block h
theorem VCel.cell (h : VCel w g e vs rest) {j : Nat} (hj : j < vs.length) : w.cell? ⟨g, j, none⟩ = some (vs.getD j undef) := by
  unfold VCel at h
  simp only [World.cell?, h, List.getElem?_toArray, List.getElem?_append_left hj]
  simp [List.getD, List.getElem?_eq_getElem hj]
theorem VCel.frozen (h : VCel w g e vs rest) (j : Nat) : w.frozen? ⟨g, j, none⟩ = false := by unfold VCel at h; simp [World.frozen?, h]
theorem VCel.set_ (h : VCel w g e vs rest) {i : Nat} (d : Value) (hi : i < vs.length) : VCel (w.setCell ⟨g, i, none⟩ d) g e (vs.set i d) rest := by
  unfold VCel at h ⊢
  simp [World.setCell, Array.getElem?_modify, h, List.set_append_left _ _ hi]
end
theorem setCell_only (w : World) (g j : Nat) (v : Value) : w.grownBy (w.setCell ⟨g, j, none⟩ v) (some g) :=
  ⟨rfl, rfl, rfl, by simp [World.setCell], fun b hb hne => by
    have e1 : g ≠ b := by intro e; exact hne (by rw [e])
    simp [World.setCell, Array.getElem?_modify, e1]⟩
theorem RV.slice {w : World} {v : Value} {g : Nat} {qs : List Rat} {L : Nat} (h : RV w v g qs L) : ∃ c, v = .slice (some ⟨g, 0, none⟩) qs.length c := by
  obtain ⟨c, h1, _⟩ := h; exact ⟨c, h1⟩
theorem RV.sep {w : World} {v : Value} {g X : Nat} {qs : List Rat} {L : Nat} {e : TypeId} {cs : Array Value} (h : RV w v g qs L) (hX : w.heap[X]? = some (.cells cs e (0, 0))) (he : e ≠ 43) : g ≠ X := by
  obtain ⟨c, _, _, _, ⟨cs', h1⟩, _⟩ := h
  intro e1
  subst e1
  rw [h1] at hX
  injection hX with hX
  injection hX with _ h2 _
  exact he h2.symm
section
variable {w w' : World} {base M R D cR cD : Nat} {vs us rR rD : List Value} {gs hs : List Nat} {rows done : List (List Rat)} {L : Nat}
/-- two rows are exchanged -/
theorem MatS.swap (h : MatS w base M R D cR cD vs us rR rD gs hs rows done L) {i k : Nat} (hi : i < rows.length) (hk : k < rows.length)
    (hR : w'.heap[R]? = some (.cells (swapL vs i k undef ++ rR).toArray 30 (0, 0))) (hD : w'.heap[D]? = some (.cells (swapL us i k undef ++ rD).toArray 30 (0, 0)))
    (hb : ∀ b, b < w.heap.size → b ≠ R → b ≠ D → w'.heap[b]? = w.heap[b]?) (hkp : Keeps w w') :
    MatS w' base M R D cR cD (swapL vs i k undef) (swapL us i k undef) rR rD (swapL gs i k 0) (swapL hs i k 0) (swapL rows i k []) (swapL done i k []) L := by
  have hMR : M ≠ R := by
    intro e; have h1 := h.hM; have h2 := h.hR; rw [e, h2] at h1; injection h1 with h1; injection h1 with _ h1 _; revert h1; decide
  have hMD : M ≠ D := by
    intro e; have h1 := h.hM; have h2 := h.hD; rw [e, h2] at h1; injection h1 with h1; injection h1 with _ h1 _; revert h1; decide
  refine ⟨h.bM, h.bR, h.bD, ?_, hR, hD, h.hRD, ?_, ?_, ?_, ?_, ?_, ?_, h.c2, ?_, h.c4, ?_, ?_, ?_, ?_, ?_⟩
  · rw [swapL_length, hb M (lt_of_block h.hM) hMR hMD]; exact h.hM
  · rw [swapL_length, swapL_length]; exact h.n1
  · rw [swapL_length, swapL_length]; exact h.n2
  · rw [swapL_length, swapL_length]; exact h.n3
  · rw [swapL_length, swapL_length]; exact h.n4
  · rw [swapL_length, swapL_length]; exact h.n5
  · rw [swapL_length]; exact h.c1
  · rw [swapL_length]; exact h.c3
  · intro j hj
    rw [swapL_length] at hj
    have hs := sw_lt hi hk hj
    obtain ⟨q1, q2⟩ := h.rok _ hs
    rw [swapL_get _ _ _ _ _ (by rw [h.n4]; exact hj), swapL_get _ _ _ _ _ (by rw [h.n1]; exact hj), swapL_get _ _ _ _ _ hj]
    refine ⟨q1, q2.same hkp (hb _ ?_ (q2.sep h.hR (by decide)) (q2.sep h.hD (by decide)))⟩
    obtain ⟨_, _, _, _, q⟩ := q2; exact q.lt
  · intro j hj
    rw [swapL_length] at hj
    have hs := sw_lt hi hk hj
    obtain ⟨q1, q2⟩ := h.dok _ hs
    rw [swapL_get _ _ _ _ _ (by rw [h.n5]; exact hj), swapL_get _ _ _ _ _ (by rw [h.n2]; exact hj), swapL_get _ _ _ _ _ (by rw [h.n3]; exact hj)]
    refine ⟨q1, q2.same hkp (hb _ ?_ (q2.sep h.hR (by decide)) (q2.sep h.hD (by decide)))⟩
    obtain ⟨_, _, _, _, q⟩ := q2; exact q.lt
  · intro a b ha hb2 hne
    rw [swapL_length] at ha hb2
    rw [swapL_get _ _ _ _ _ (by rw [h.n4]; exact ha), swapL_get _ _ _ _ _ (by rw [h.n4]; exact hb2)]
    exact h.dg _ _ (sw_lt hi hk ha) (sw_lt hi hk hb2) (fun e => hne (sw_inj e))
  · intro a b ha hb2 hne
    rw [swapL_length] at ha hb2
    rw [swapL_get _ _ _ _ _ (by rw [h.n5]; exact ha), swapL_get _ _ _ _ _ (by rw [h.n5]; exact hb2)]
    exact h.dh _ _ (sw_lt hi hk ha) (sw_lt hi hk hb2) (fun e => hne (sw_inj e))
  · intro a b ha hb2
    rw [swapL_length] at ha hb2
    rw [swapL_get _ _ _ _ _ (by rw [h.n4]; exact ha), swapL_get _ _ _ _ _ (by rw [h.n5]; exact hb2)]
    exact h.dgh _ _ (sw_lt hi hk ha) (sw_lt hi hk hb2)
/-- nothing of it is written -/
theorem MatS.below (h : MatS w base M R D cR cD vs us rR rD gs hs rows done L) (hb : Below w.heap.size w w') : MatS w' base M R D cR cD vs us rR rD gs hs rows done L := by
  have hk := Below.keeps hb
  refine ⟨h.bM, h.bR, h.bD, (hb.block _ (lt_of_block h.hM)).trans h.hM, (hb.block _ (lt_of_block h.hR)).trans h.hR, (hb.block _ (lt_of_block h.hD)).trans h.hD, h.hRD, h.n1, h.n2, h.n3, h.n4, h.n5, h.c1, h.c2, h.c3, h.c4, ?_, ?_, h.dg, h.dh, h.dgh⟩
  · intro i hi
    obtain ⟨q1, q2⟩ := h.rok i hi
    refine ⟨q1, q2.same hk (hb.block _ ?_)⟩
    obtain ⟨_, _, _, _, q⟩ := q2; exact q.lt
  · intro i hi
    obtain ⟨q1, q2⟩ := h.dok i hi
    refine ⟨q1, q2.same hk (hb.block _ ?_)⟩
    obtain ⟨_, _, _, _, q⟩ := q2; exact q.lt
/-- one row is written -/
theorem MatS.row (h : MatS w base M R D cR cD vs us rR rD gs hs rows done L) {i : Nat} (hi : i < rows.length) {qs : List Rat} (hl : qs.length = (rows.getD i []).length)
    (hq : RowC w' (gs.getD i 0) qs L) (hk : Keeps w w') (hg : w.grownBy w' (some (gs.getD i 0))) : MatS w' base M R D cR cD vs us rR rD gs hs (rows.set i qs) done L := by
  obtain ⟨q1, q2⟩ := h.rok i hi
  have hbk : ∀ b, b < w.heap.size → b ≠ gs.getD i 0 → w'.heap[b]? = w.heap[b]? := fun b hb hne => hg.block b hb (by intro e; injection e with e; exact hne e)
  refine ⟨h.bM, h.bR, h.bD, ?_, ?_, ?_, h.hRD, ?_, ?_, ?_, ?_, ?_, ?_, h.c2, ?_, h.c4, ?_, ?_, ?_, ?_, ?_⟩
  · rw [List.length_set, hbk M (lt_of_block h.hM) (q2.sep h.hM (by decide)).symm]; exact h.hM
  · rw [hbk R (lt_of_block h.hR) (q2.sep h.hR (by decide)).symm]; exact h.hR
  · rw [hbk D (lt_of_block h.hD) (q2.sep h.hD (by decide)).symm]; exact h.hD
  · rw [List.length_set]; exact h.n1
  · rw [List.length_set]; exact h.n2
  · rw [List.length_set]; exact h.n3
  · rw [List.length_set]; exact h.n4
  · rw [List.length_set]; exact h.n5
  · rw [List.length_set]; exact h.c1
  · rw [List.length_set]; exact h.c3
  · intro j hj
    rw [List.length_set] at hj
    obtain ⟨p1, p2⟩ := h.rok j hj
    refine ⟨p1, ?_⟩
    by_cases e : i = j
    · subst e
      rw [show (rows.set i qs).getD i [] = qs by simp [List.getD, hi]]
      obtain ⟨c, e1, e2, e3, e4⟩ := p2
      exact ⟨c, by rw [e1, hl], by rw [hl]; exact e2, e3, hq⟩
    · rw [show (rows.set i qs).getD j [] = rows.getD j [] by simp only [List.getD]; rw [List.getElem?_set_ne e]]
      refine p2.same hk (hbk _ ?_ (h.dg j i hj hi (fun e' => e e'.symm)))
      obtain ⟨_, _, _, _, q⟩ := p2; exact q.lt
  · intro j hj
    rw [List.length_set] at hj
    obtain ⟨p1, p2⟩ := h.dok j hj
    refine ⟨p1, p2.same hk (hbk _ ?_ (h.dgh i j hi hj).symm)⟩
    obtain ⟨_, _, _, _, q⟩ := p2; exact q.lt
  · intro a b ha hb; rw [List.length_set] at ha hb; exact h.dg a b ha hb
  · intro a b ha hb; rw [List.length_set] at ha hb; exact h.dh a b ha hb
  · intro a b ha hb; rw [List.length_set] at ha hb; exact h.dgh a b ha hb
/-- one row of what was done is written -/
theorem MatS.doneRow (h : MatS w base M R D cR cD vs us rR rD gs hs rows done L) {i : Nat} (hi : i < rows.length) {qs : List Rat} (hl : qs.length = (done.getD i []).length)
    (hq : RowC w' (hs.getD i 0) qs L) (hk : Keeps w w') (hg : w.grownBy w' (some (hs.getD i 0))) : MatS w' base M R D cR cD vs us rR rD gs hs rows (done.set i qs) L := by
  obtain ⟨q1, q2⟩ := h.dok i hi
  have hbk : ∀ b, b < w.heap.size → b ≠ hs.getD i 0 → w'.heap[b]? = w.heap[b]? := fun b hb hne => hg.block b hb (by intro e; injection e with e; exact hne e)
  refine ⟨h.bM, h.bR, h.bD, ?_, ?_, ?_, h.hRD, h.n1, h.n2, ?_, h.n4, h.n5, h.c1, h.c2, h.c3, h.c4, ?_, ?_, h.dg, h.dh, h.dgh⟩
  · rw [hbk M (lt_of_block h.hM) (q2.sep h.hM (by decide)).symm]; exact h.hM
  · rw [hbk R (lt_of_block h.hR) (q2.sep h.hR (by decide)).symm]; exact h.hR
  · rw [hbk D (lt_of_block h.hD) (q2.sep h.hD (by decide)).symm]; exact h.hD
  · rw [List.length_set]; exact h.n3
  · intro j hj
    obtain ⟨p1, p2⟩ := h.rok j hj
    refine ⟨p1, p2.same hk (hbk _ ?_ (h.dgh j i hj hi))⟩
    obtain ⟨_, _, _, _, q⟩ := p2; exact q.lt
  · intro j hj
    obtain ⟨p1, p2⟩ := h.dok j hj
    refine ⟨p1, ?_⟩
    by_cases e : i = j
    · subst e
      rw [show (done.set i qs).getD i [] = qs by simp [List.getD, h.n3, hi]]
      obtain ⟨c, e1, e2, e3, e4⟩ := p2
      exact ⟨c, by rw [e1, hl], by rw [hl]; exact e2, e3, hq⟩
    · rw [show (done.set i qs).getD j [] = done.getD j [] by simp only [List.getD]; rw [List.getElem?_set_ne e]]
      refine p2.same hk (hbk _ ?_ (h.dh j i hj hi (fun e' => e e'.symm)))
      obtain ⟨_, _, _, _, q⟩ := p2; exact q.lt
/-- a block of another kind is written -/
theorem MatS.only (h : MatS w base M R D cR cD vs us rR rD gs hs rows done L) {r : Option Nat} {e : TypeId} (hg : w.grownBy w' r) (ht : ∀ b, r = some b → Typed w b e) (h1 : e ≠ 43) (h2 : e ≠ 30) (h3 : e ≠ 211) (h4 : e ≠ tyOf .u32) :
    MatS w' base M R D cR cD vs us rR rD gs hs rows done L := by
  have hb : ∀ b f, Typed w b f → e ≠ f → w'.heap[b]? = w.heap[b]? := fun b f hf hne => hg.block b hf.lt (by intro e'; exact (ht b e'.symm).ne hf hne rfl)
  have hk : Keeps w w' := fun b hf => hb b _ hf h4
  refine ⟨h.bM, h.bR, h.bD, (hb _ _ ⟨_, _, h.hM⟩ h3).trans h.hM, (hb _ _ ⟨_, _, h.hR⟩ h2).trans h.hR, (hb _ _ ⟨_, _, h.hD⟩ h2).trans h.hD, h.hRD, h.n1, h.n2, h.n3, h.n4, h.n5, h.c1, h.c2, h.c3, h.c4, ?_, ?_, h.dg, h.dh, h.dgh⟩
  · intro i hi
    obtain ⟨q1, q2⟩ := h.rok i hi
    refine ⟨q1, q2.same hk (hb _ _ ?_ h1)⟩
    obtain ⟨_, _, _, _, ⟨cs, q⟩, _⟩ := q2; exact ⟨cs, _, q⟩
  · intro i hi
    obtain ⟨q1, q2⟩ := h.dok i hi
    refine ⟨q1, q2.same hk (hb _ _ ?_ h1)⟩
    obtain ⟨_, _, _, _, ⟨cs, q⟩, _⟩ := q2; exact ⟨cs, _, q⟩
theorem MatS.le (h : MatS w base M R D cR cD vs us rR rD gs hs rows done L) : base ≤ w.heap.size := Nat.le_trans h.bM (Nat.le_of_lt (lt_of_block h.hM))
/-- the cells that a row is found by -/
theorem MatS.rowAt (h : MatS w base M R D cR cD vs us rR rD gs hs rows done L) {i : Nat} (hi : i < rows.length) :
    ∃ g c, g = gs.getD i 0 ∧ w.cell? ⟨R, i, none⟩ = some (.slice (some ⟨g, 0, none⟩) (rows.getD i []).length c) ∧ (rows.getD i []).length ≤ c ∧ c ≤ maxLen ∧ RowC w g (rows.getD i []) L ∧ base ≤ g := by
  obtain ⟨q1, c, q2, q3, q4, q5⟩ := h.rok i hi
  have vR : VCel w R 30 vs rR := h.hR
  have := vR.cell (j := i) (by rw [h.n1]; exact hi)
  exact ⟨_, c, rfl, by rw [this, q2], q3, q4, q5, q1⟩
theorem MatS.doneAt (h : MatS w base M R D cR cD vs us rR rD gs hs rows done L) {i : Nat} (hi : i < rows.length) :
    ∃ g c, g = hs.getD i 0 ∧ w.cell? ⟨D, i, none⟩ = some (.slice (some ⟨g, 0, none⟩) (done.getD i []).length c) ∧ (done.getD i []).length ≤ c ∧ c ≤ maxLen ∧ RowC w g (done.getD i []) L ∧ base ≤ g := by
  obtain ⟨q1, c, q2, q3, q4, q5⟩ := h.dok i hi
  have vD : VCel w D 30 us rD := h.hD
  have := vD.cell (j := i) (by rw [h.n2]; exact hi)
  exact ⟨_, c, rfl, by rw [this, q2], q3, q4, q5, q1⟩
theorem MatS.m0 (h : MatS w base M R D cR cD vs us rR rD gs hs rows done L) : w.cell? ⟨M, 0, none⟩ = some (.slice (some ⟨R, 0, none⟩) rows.length cR) := by simp [World.cell?, h.hM]
theorem MatS.m1 (h : MatS w base M R D cR cD vs us rR rD gs hs rows done L) : w.cell? ⟨M, 1, none⟩ = some (.slice (some ⟨D, 0, none⟩) rows.length cD) := by simp [World.cell?, h.hM]
theorem OwnI.same {w w' : World} {base : Nat} {e : TypeId} {k : IntKind} {v : Value} {xs : List Int} (h : OwnI w base e k v xs) (hb : ∀ b, Typed w b e → w'.heap[b]? = w.heap[b]?) : OwnI w' base e k v xs := by
  refine ⟨h.1, ?_⟩
  rcases h.2 with h2 | ⟨g, cap, cur, hv, hg, hh, r⟩
  · exact .inl h2
  · exact .inr ⟨g, cap, cur, hv, hg, (hb g ⟨_, _, hh⟩).trans hh, r⟩
theorem OwnI.typed {w : World} {base : Nat} {e : TypeId} {k : IntKind} {v : Value} {xs : List Int} (h : OwnI w base e k v xs) : ∀ b, v.ownBlock = some b → Typed w b e := by
  intro b hb
  rcases h.2 with ⟨h2, _⟩ | ⟨g, cap, cur, hv, hg, hh, r⟩
  · subst h2; simp [Value.ownBlock] at hb
  · subst hv; simp only [Value.ownBlock, Option.some.injEq] at hb; subst hb; exact ⟨_, _, hh⟩
end
end Go.Proofs.YtpoahodnakhmiaaGreat
namespace Go.Proofs.YtpoahodnakhmiaaGreat
set_option linter.unusedVariables false
set_option linter.unusedSimpArgs false
open Go.RowKit
set_option maxRecDepth 100000 in
set_option maxHeartbeats 4000000 in
theorem swap_c (w : World) (base M R D cR cD : Nat) (vs us rR rD : List Value) (gs hs : List Nat) (rows done : List (List Rat)) (L i k : Nat) (h : MatS w base M R D cR cD vs us rR rD gs hs rows done L) (hi : i < rows.length) (hk : k < rows.length) (hn : rows.length ≤ 17592186044416) :
    Calls Tryz.prog 206 #[.pointer (some ⟨M, 0, none⟩), .int .i64 i, .int .i64 k] w (Ret (fun v w' => v = .tuple #[] ∧
      MatS w' base M R D cR cD (swapL vs i k undef) (swapL us i k undef) rR rD (swapL gs i k 0) (swapL hs i k 0) (swapL rows i k []) (swapL done i k []) L ∧ Keeps w w' ∧ Below base w w' ∧ w'.heap.size = w.heap.size ∧ ∀ b, b < w.heap.size → b ≠ R → b ≠ D → w'.heap[b]? = w.heap[b]?)) := by
  have vR : VCel w R 30 vs rR := h.hR
  have vD : VCel w D 30 us rD := h.hD
  have m0 : w.cell? ⟨M, 0, none⟩ = some (.slice (some ⟨R, 0, none⟩) rows.length cR) := by simp [World.cell?, h.hM]
  have m1 : w.cell? ⟨M, 1, none⟩ = some (.slice (some ⟨D, 0, none⟩) rows.length cD) := by simp [World.cell?, h.hM]
  have hMR : ¬ M = R := by
    intro e; have h1 := h.hM; have h2 := h.hR; rw [e, h2] at h1; injection h1 with h1; injection h1 with _ h1 _; revert h1; decide
  have hMD : ¬ M = D := by
    intro e; have h1 := h.hM; have h2 := h.hD; rw [e, h2] at h1; injection h1 with h1; injection h1 with _ h1 _; revert h1; decide
  have hRD : ¬ R = D := h.hRD
  have ri := vR.cell (j := i) (by rw [h.n1]; exact hi)
  have rk := vR.cell (j := k) (by rw [h.n1]; exact hk)
  have di := vD.cell (j := i) (by rw [h.n2]; exact hi)
  have dk := vD.cell (j := k) (by rw [h.n2]; exact hk)
  obtain ⟨ci, ei⟩ := (h.rok i hi).2.slice
  obtain ⟨ck, ek⟩ := (h.rok k hk).2.slice
  obtain ⟨ci', ei'⟩ := (h.dok i hi).2.slice
  obtain ⟨ck', ek'⟩ := (h.dok k hk).2.slice
  rw [ei] at ri
  rw [ek] at rk
  rw [ei'] at di
  rw [ek'] at dk
  have fi := vR.frozen i
  have fk := vR.frozen k
  have fi' := vD.frozen i
  have fk' := vD.frozen k
  have HH := hide (And.intro h (And.intro vR (And.intro vD (And.intro ei (And.intro ek (And.intro ei' ek')))))); clear h vR vD ei ek ei' ek'
  obtain ⟨n, hrn⟩ : ∃ n, n = rows.length := ⟨_, rfl⟩
  rw [← hrn] at m0 m1 hi hk hn
  generalize gs.getD i 0 = gi at *
  generalize gs.getD k 0 = gk at *
  generalize hs.getD i 0 = hi2 at *
  generalize hs.getD k 0 = hk2 at *
  generalize (rows.getD i []).length = li at *
  generalize (rows.getD k []).length = lk at *
  generalize (done.getD i []).length = li' at *
  generalize (done.getD k []).length = lk' at *
  obtain ⟨z, hz⟩ : ∃ z, (w.setCell ⟨R, i, none⟩ (.slice (some ⟨gk, 0, none⟩) lk ck)).cell? ⟨R, k, none⟩ = some z ∧ (∀ d, z ≠ .int .u32 d) := by
    by_cases e : i = k
    · subst e; exact ⟨_, World.cell?_setCell_same _ _ _ ri, by intro d e; cases e⟩
    · exact ⟨_, (World.cell?_setCell_other _ _ _ _ (by intro e'; injection e' with e1 e2; exact e e2)).trans rk, by intro d e; cases e⟩
  obtain ⟨hz, hzn⟩ := hz
  go_enter Tryz.func206, Tryz.ntmps206
  go_wp2
  go_cut [0, 1, 2] from 6 (fun s0 s1 s2 w' => s0 = .pointer (some ⟨M, 0, none⟩) ∧ s1 = .int .i64 i ∧ s2 = .int .i64 k ∧ w' = ((w.setCell ⟨R, i, none⟩ (.slice (some ⟨gk, 0, none⟩) lk ck)).setCell ⟨R, k, none⟩ (.slice (some ⟨gi, 0, none⟩) li ci)).drew)
  case first =>
    go_region
    go_wp2
    go_meet
    exact ⟨rfl, rfl, rfl, rfl⟩
  case rest =>
    obtain ⟨rfl, rfl, rfl, hW1⟩ := hcut
    have hg1 : w.grownBy wc (some R) := by rw [hW1]; exact grownBy_drew (only_trans (setCell_only _ _ _ _) (setCell_only _ _ _ _))
    have hv1 : VCel wc R 30 (swapL vs i k undef) rR := by
      obtain ⟨h, vR, vD, ei, ek, ei', ek'⟩ := HH.out
      have := (vR.set_ (i := i) (.slice (some ⟨gk, 0, none⟩) lk ck) (by rw [h.n1, ← hrn]; exact hi)).set_ (i := k) (.slice (some ⟨gi, 0, none⟩) li ci) (by rw [List.length_set, h.n1, ← hrn]; exact hk)
      rw [hW1]; unfold swapL; rw [ek, ei]; exact this
    have hkp1 : Keeps w wc := by
      exact Keeps.only hg1 ⟨_, _, HH.out.2.1⟩ (by decide)
    have hs1 : wc.heap.size = w.heap.size := by rw [hW1]; simp [World.setCell, World.drew]
    have eM : wc.heap[M]? = w.heap[M]? := hg1.block M (lt_of_cell m0) (by intro e; injection e with e; exact hMR e)
    have eD : wc.heap[D]? = w.heap[D]? := hg1.block D (lt_of_cell di) (by intro e; injection e with e; exact hRD e.symm)
    replace m1 := (World.cell?_of_block (w := w) (a := ⟨M, 1, none⟩) eM).trans m1
    replace di := (World.cell?_of_block (w := w) (a := ⟨D, i, none⟩) eD).trans di
    replace dk := (World.cell?_of_block (w := w) (a := ⟨D, k, none⟩) eD).trans dk
    replace fi' := (World.frozen?_of_block (w := w) (a := ⟨D, i, none⟩) eD).trans fi'
    replace fk' := (World.frozen?_of_block (w := w) (a := ⟨D, k, none⟩) eD).trans fk'
    obtain ⟨z2, hz2⟩ : ∃ z, (wc.setCell ⟨D, i, none⟩ (.slice (some ⟨hk2, 0, none⟩) lk' ck')).cell? ⟨D, k, none⟩ = some z ∧ (∀ d, z ≠ .int .u32 d) := by
      by_cases e : i = k
      · subst e; exact ⟨_, World.cell?_setCell_same _ _ _ di, by intro d e; cases e⟩
      · exact ⟨_, (World.cell?_setCell_other _ _ _ _ (by intro e'; injection e' with e1 e2; exact e e2)).trans dk, by intro d e; cases e⟩
    obtain ⟨hz2, hzn2⟩ := hz2
    have HW := hide (And.intro hW1 (And.intro hg1 (And.intro hv1 (And.intro hkp1 (And.intro hs1 (And.intro eD hzn2))))))
    clear hW1 hg1 hv1 hkp1 hs1 eM eD m0 ri rk fi fk hz hzn hzn2
    go_wp2
    go_region
    go_wp2
    go_end0
    obtain ⟨hW1, hg1, hv1, hkp1, hs1, eD, hzn2⟩ := HW.out
    obtain ⟨h, vR, vD, ei, ek, ei', ek'⟩ := HH.out
    obtain ⟨W2, hW2⟩ : ∃ W2, W2 = ((wc.setCell ⟨D, i, none⟩ (.slice (some ⟨hk2, 0, none⟩) lk' ck')).setCell ⟨D, k, none⟩ (.slice (some ⟨hi2, 0, none⟩) li' ci')).drew := ⟨_, rfl⟩
    rw [← hW2]
    have hg2 : wc.grownBy W2 (some D) := by rw [hW2]; exact grownBy_drew (only_trans (setCell_only _ _ _ _) (setCell_only _ _ _ _))
    have vD1 : VCel wc D 30 us rD := by unfold VCel; rw [eD]; exact vD
    have hv2 : VCel W2 D 30 (swapL us i k undef) rD := by
      have := (vD1.set_ (i := i) (.slice (some ⟨hk2, 0, none⟩) lk' ck') (by rw [h.n2, ← hrn]; exact hi)).set_ (i := k) (.slice (some ⟨hi2, 0, none⟩) li' ci') (by rw [List.length_set, h.n2, ← hrn]; exact hk)
      rw [hW2]; unfold swapL; rw [ek', ei']; exact this
    have hkp2 : Keeps wc W2 := by
      exact Keeps.only hg2 ⟨_, _, vD1⟩ (by decide)
    have hs2 : W2.heap.size = wc.heap.size := by rw [hW2]; simp [World.setCell, World.drew]
    have eR : W2.heap[R]? = wc.heap[R]? := hg2.block R (by rw [hs1]; exact vR.lt) (by intro e; injection e with e; exact hRD e)
    have hall : ∀ b, b < w.heap.size → b ≠ R → b ≠ D → W2.heap[b]? = w.heap[b]? := by
      intro b hb hb1 hb2
      rw [hg2.block b (by rw [hs1]; exact hb) (by intro e; injection e with e; exact hb2 e), hg1.block b hb (by intro e; injection e with e; exact hb1 e)]
    refine ⟨_, rfl, rfl, h.swap (by rw [← hrn]; exact hi) (by rw [← hrn]; exact hk) (eR.trans hv1) hv2 hall (hkp1.trans hkp2), hkp1.trans hkp2, ?_, by rw [hs2, hs1], hall⟩
    · have hbs : base ≤ w.heap.size := Nat.le_trans h.bR (Nat.le_of_lt vR.lt)
      exact only_below (only_below (Below.refl _ _) hg1 hbs h.bR) hg2 (by rw [hs1]; exact hbs) h.bD
end Go.Proofs.YtpoahodnakhmiaaGreat
