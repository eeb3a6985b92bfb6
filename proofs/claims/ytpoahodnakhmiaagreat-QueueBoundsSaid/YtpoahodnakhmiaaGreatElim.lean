/- Elimination, without memory. -/
import Derived.Test.YtpoahodnakhmiaaGreatSwap
namespace Go.Proofs.YtpoahodnakhmiaaGreat
set_option linter.unusedVariables false
set_option linter.unusedSimpArgs false
/-- the rows, and what makes them of the first ones -/
abbrev St := List (List Rat) × List (List Rat)
def ent (l : List (List Rat)) (i j : Nat) : Rat := (l.getD i []).getD j 0
/-- the first row from k on that is not 0 in a column -/
def findK (rows : List (List Rat)) (col : Nat) : Nat → Nat → Nat
  | 0, k => k
  | f + 1, k => if k < rows.length ∧ ent rows k col = 0 then findK rows col f (k + 1) else k
def divL (qs : List Rat) (q : Rat) : List Rat := qs.mapIdx fun _ x => x / q
def takeL (qs : List Rat) (q : Rat) (fs : List Rat) : List Rat := qs.mapIdx fun i x => x - q * fs.getD i 0
def swapS (a k : Nat) (S : St) : St := (swapL S.1 a k [], swapL S.2 a k [])
def divS (a col : Nat) (S : St) : St := (S.1.set a (divL (S.1.getD a []) (ent S.1 a col)), S.2.set a (divL (S.2.getD a []) (ent S.1 a col)))
def clearS (a col i : Nat) (S : St) : St :=
  if i = a ∨ ent S.1 i col = 0 then S else (S.1.set i (takeL (S.1.getD i []) (ent S.1 i col) (S.1.getD a [])), S.2.set i (takeL (S.2.getD i []) (ent S.1 i col) (S.2.getD a [])))
def clearN (a col : Nat) : Nat → St → St
  | 0, S => S
  | n + 1, S => clearS a col n (clearN a col n S)
def colS (col : Nat) (T : St × List Nat) : St × List Nat :=
  if findK T.1.1 col T.1.1.length T.2.length = T.1.1.length then T
  else (clearN T.2.length col T.1.1.length (divS T.2.length col (swapS T.2.length (findK T.1.1 col T.1.1.length T.2.length) T.1)), T.2 ++ [col])
def echN : Nat → St → St × List Nat
  | 0, S => (S, [])
  | n + 1, S => colS n (echN n S)
/-- as many rows on both sides, each as long as it must be -/
structure Rect (wd : Nat) (S : St) : Prop where
  len : S.2.length = S.1.length
  row : ∀ i, i < S.1.length → (S.1.getD i []).length = wd
  done : ∀ i, i < S.1.length → (S.2.getD i []).length = S.1.length
theorem getD_set {α : Type} (l : List α) (i j : Nat) (x d : α) (hi : i < l.length) : (l.set i x).getD j d = if i = j then x else l.getD j d := by
  by_cases h : i = j
  · subst h; simp [List.getD, hi]
  · rw [if_neg h]; simp [List.getD, List.getElem?_set_ne h]
theorem takeL_length (qs : List Rat) (q : Rat) (fs : List Rat) : (takeL qs q fs).length = qs.length := by simp [takeL]
theorem divL_length (qs : List Rat) (q : Rat) : (divL qs q).length = qs.length := by simp [divL]
theorem rect_swap {wd a k : Nat} {S : St} (h : Rect wd S) (ha : a < S.1.length) (hk : k < S.1.length) : Rect wd (swapS a k S) := by
  refine ⟨by simp [swapS, swapL_length, h.len], fun i hi => ?_, fun i hi => ?_⟩
  · simp only [swapS, swapL_length] at hi ⊢
    rw [swapL_get _ _ _ _ _ hi]
    exact h.row _ (sw_lt ha hk hi)
  · simp only [swapS, swapL_length] at hi ⊢
    rw [swapL_get _ _ _ _ _ (by rw [h.len]; exact hi)]
    exact h.done _ (sw_lt ha hk hi)
theorem rect_set {wd a : Nat} {S : St} (h : Rect wd S) (ha : a < S.1.length) {r d : List Rat} (hr : r.length = wd) (hd : d.length = S.1.length) : Rect wd (S.1.set a r, S.2.set a d) := by
  refine ⟨by simp [h.len], fun i hi => ?_, fun i hi => ?_⟩
  · simp only [List.length_set] at hi ⊢
    rw [getD_set _ _ _ _ _ ha]
    split
    · exact hr
    · exact h.row i hi
  · simp only [List.length_set] at hi ⊢
    rw [getD_set _ _ _ _ _ (by rw [h.len]; exact ha)]
    split
    · exact hd
    · exact h.done i hi
theorem rect_div {wd a col : Nat} {S : St} (h : Rect wd S) (ha : a < S.1.length) : Rect wd (divS a col S) :=
  rect_set h ha (by rw [divL_length]; exact h.row a ha) (by rw [divL_length]; exact h.done a ha)
theorem rect_clear {wd a col i : Nat} {S : St} (h : Rect wd S) (hi : i < S.1.length) : Rect wd (clearS a col i S) := by
  unfold clearS
  split
  · exact h
  · exact rect_set h hi (by rw [takeL_length]; exact h.row i hi) (by rw [takeL_length]; exact h.done i hi)
theorem swapS_length (a k : Nat) (S : St) : (swapS a k S).1.length = S.1.length := by simp [swapS, swapL_length]
theorem divS_length (a col : Nat) (S : St) : (divS a col S).1.length = S.1.length := by simp [divS]
theorem clearS_length (a col i : Nat) (S : St) : (clearS a col i S).1.length = S.1.length := by unfold clearS; split <;> simp
theorem clearN_length (a col : Nat) : ∀ (n : Nat) (S : St), (clearN a col n S).1.length = S.1.length := by
  intro n
  induction n with
  | zero => intro S; rfl
  | succ n ih => intro S; rw [clearN, clearS_length, ih]
theorem rect_clearN {wd a col : Nat} : ∀ (n : Nat) {S : St}, Rect wd S → n ≤ S.1.length → Rect wd (clearN a col n S) := by
  intro n
  induction n with
  | zero => intro S h _; exact h
  | succ n ih => intro S h hn; rw [clearN]; exact rect_clear (ih h (by omega)) (by rw [clearN_length]; omega)
theorem findK_range (rows : List (List Rat)) (col : Nat) : ∀ (f k : Nat), k ≤ rows.length → k ≤ findK rows col f k ∧ findK rows col f k ≤ rows.length := by
  intro f
  induction f with
  | zero => intro k hk; exact ⟨Nat.le_refl _, hk⟩
  | succ f ih =>
    intro k hk
    unfold findK
    split
    · rename_i h
      obtain ⟨h1, h2⟩ := ih (k + 1) h.1
      exact ⟨by omega, h2⟩
    · exact ⟨Nat.le_refl _, hk⟩
theorem findK_nz (rows : List (List Rat)) (col : Nat) : ∀ (f k : Nat), rows.length ≤ k + f → findK rows col f k < rows.length → ent rows (findK rows col f k) col ≠ 0 := by
  intro f
  induction f with
  | zero => intro k hk h; simp only [findK] at h; omega
  | succ f ih =>
    intro k hk h
    unfold findK at h ⊢
    split at h
    · rename_i hc; rw [if_pos hc]; exact ih (k + 1) (by omega) h
    · rename_i hc; rw [if_neg hc]; intro e; exact hc ⟨h, e⟩
/-- one step of the search -/
theorem findK_step (rows : List (List Rat)) (col f k : Nat) (h : k < rows.length) (he : ent rows k col = 0) : findK rows col (f + 1) k = findK rows col f (k + 1) := by
  rw [findK, if_pos ⟨h, he⟩]
theorem findK_stop (rows : List (List Rat)) (col f k : Nat) (h : ¬ (k < rows.length ∧ ent rows k col = 0)) : findK rows col f k = k := by
  cases f with
  | zero => rfl
  | succ f => rw [findK, if_neg h]
theorem colS_same {col : Nat} {T : St × List Nat} (h : findK T.1.1 col T.1.1.length T.2.length = T.1.1.length) : colS col T = T := by unfold colS; rw [if_pos h]
theorem colS_step {col : Nat} {T : St × List Nat} (h : findK T.1.1 col T.1.1.length T.2.length ≠ T.1.1.length) :
    colS col T = (clearN T.2.length col T.1.1.length (divS T.2.length col (swapS T.2.length (findK T.1.1 col T.1.1.length T.2.length) T.1)), T.2 ++ [col]) := by unfold colS; rw [if_neg h]
theorem colS_length (col : Nat) (T : St × List Nat) : (colS col T).1.1.length = T.1.1.length := by
  unfold colS
  split
  · rfl
  · rw [clearN_length, divS_length, swapS_length]
theorem echN_length : ∀ (n : Nat) (S : St), (echN n S).1.1.length = S.1.length := by
  intro n
  induction n with
  | zero => intro S; rfl
  | succ n ih => intro S; rw [echN, colS_length, ih]
theorem colS_out {col : Nat} {T : St × List Nat} (h : T.2.length ≤ T.1.1.length) : (colS col T).2.length ≤ T.1.1.length := by
  unfold colS
  split
  · exact h
  · rename_i hk
    have := findK_range T.1.1 col T.1.1.length T.2.length h
    simp; omega
theorem echN_out : ∀ (n : Nat) (S : St), (echN n S).2.length ≤ S.1.length := by
  intro n
  induction n with
  | zero => intro S; exact Nat.zero_le _
  | succ n ih =>
    intro S
    have := colS_out (col := n) (T := echN n S) (by rw [echN_length]; exact ih S)
    rw [echN_length] at this
    exact this
theorem rect_colS {wd col : Nat} {T : St × List Nat} (h : Rect wd T.1) (ho : T.2.length ≤ T.1.1.length) : Rect wd (colS col T).1 := by
  unfold colS
  split
  · exact h
  · rename_i hk
    have hr := findK_range T.1.1 col T.1.1.length T.2.length ho
    have h1 := rect_swap h (a := T.2.length) (k := findK T.1.1 col T.1.1.length T.2.length) (by omega) (by omega)
    have h2 := rect_div (col := col) h1 (a := T.2.length) (by rw [swapS_length]; omega)
    exact rect_clearN _ h2 (by rw [divS_length, swapS_length]; exact Nat.le_refl _)
theorem rect_echN {wd : Nat} : ∀ (n : Nat) {S : St}, Rect wd S → Rect wd (echN n S).1 := by
  intro n
  induction n with
  | zero => intro S h; exact h
  | succ n ih => intro S h; rw [echN]; exact rect_colS (ih h) (by rw [echN_length]; exact echN_out n S)
/-- all numbers have at most L words -/
def FitS (L : Nat) (S : St) : Prop := ∀ i j, FitQ L (ent S.1 i j) ∧ FitQ L (ent S.2 i j)
theorem divL_get (qs : List Rat) (q : Rat) (i : Nat) (hi : i < qs.length) : (divL qs q).getD i 0 = qs.getD i 0 / q := by
  simp [divL, List.getD, hi]
theorem takeL_get (qs : List Rat) (q : Rat) (fs : List Rat) (i : Nat) (hi : i < qs.length) : (takeL qs q fs).getD i 0 = qs.getD i 0 - q * fs.getD i 0 := by
  simp [takeL, List.getD, hi]
theorem fit_div {L a col : Nat} {S : St} (h : FitS L (divS a col S)) (hl : S.2.length = S.1.length) (ha : a < S.1.length) :
    (∀ i, i < (S.1.getD a []).length → FitQ L ((S.1.getD a []).getD i 0 / ent S.1 a col)) ∧ (∀ i, i < (S.2.getD a []).length → FitQ L ((S.2.getD a []).getD i 0 / ent S.1 a col)) := by
  constructor
  · intro i hi
    have := (h a i).1
    unfold ent divS at this
    rw [getD_set _ _ _ _ _ ha, if_pos rfl, divL_get _ _ _ hi] at this
    exact this
  · intro i hi
    have := (h a i).2
    unfold ent divS at this
    rw [getD_set _ _ _ _ _ (by rw [hl]; exact ha), if_pos rfl, divL_get _ _ _ hi] at this
    exact this
theorem fit_take {L a col i : Nat} {S : St} (h : FitS L (clearS a col i S)) (hl : S.2.length = S.1.length) (hi : i < S.1.length) (hne : i ≠ a) (hz : ent S.1 i col ≠ 0) :
    (∀ j, j < (S.1.getD i []).length → FitQ L ((S.1.getD i []).getD j 0 - ent S.1 i col * (S.1.getD a []).getD j 0)) ∧ (∀ j, j < (S.2.getD i []).length → FitQ L ((S.2.getD i []).getD j 0 - ent S.1 i col * (S.2.getD a []).getD j 0)) := by
  unfold clearS at h
  rw [if_neg (fun e => e.elim hne hz)] at h
  constructor
  · intro j hj
    have := (h i j).1
    unfold ent at this
    rw [getD_set _ _ _ _ _ hi, if_pos rfl, takeL_get _ _ _ _ hj] at this
    exact this
  · intro j hj
    have := (h i j).2
    unfold ent at this
    rw [getD_set _ _ _ _ _ (by rw [hl]; exact hi), if_pos rfl, takeL_get _ _ _ _ hj] at this
    exact this
/-- all numbers that elimination meets have at most L words -/
def EchFit (L cols : Nat) (S : St) : Prop :=
  ∀ n, n < cols → ∀ i, i ≤ S.1.length →
    findK (echN n S).1.1 n S.1.length (echN n S).2.length ≠ S.1.length →
    FitS L (clearN (echN n S).2.length n i (divS (echN n S).2.length n (swapS (echN n S).2.length (findK (echN n S).1.1 n S.1.length (echN n S).2.length) (echN n S).1)))
end Go.Proofs.YtpoahodnakhmiaaGreat
