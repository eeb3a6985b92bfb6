/- Elimination, without memory: what is kept, and what stands at the end; denials and solutions. -/
import Derived.Test.YthnnbpnocefmgaaGreatElimE
namespace Go.Proofs.YthnnbpnocefmgaaGreat
set_option linter.unusedVariables false
set_option linter.unusedSimpArgs false
/-- sums of rows are kept -/
structure Lin (φ : (Nat → Rat) → Rat) : Prop where
  div : ∀ f c, φ (fun j => f j / c) = φ f / c
  take : ∀ f g c, φ (fun j => f j - c * g j) = φ f - c * φ g
theorem lin_col {φ : (Nat → Rat) → Rat} (hφ : Lin φ) (bs : List Rat) {wd col : Nat} {T : St × List Nat} (hr : Rect wd T.1) (ho : T.2.length ≤ T.1.1.length) :
    (∀ i, i < T.1.1.length → φ (ex bs T.1 i) = 0) ↔ (∀ i, i < T.1.1.length → φ (ex bs (colS col T).1 i) = 0) := by
  by_cases hp : pivK col T = T.1.1.length
  · rw [colS_same hp]
  · rw [colS_step hp]
    obtain ⟨h1, h2, h3⟩ := piv_facts hr ho hp
    have e : ∀ i, i < T.1.1.length → ex bs (clearN T.2.length col T.1.1.length (divS T.2.length col (swapS T.2.length (pivK col T) T.1))) i =
        if i = T.2.length then (fun j => ex bs T.1 (pivK col T) j / ent T.1.1 (pivK col T) col)
        else (fun j => ex bs T.1 (sw T.2.length (pivK col T) i) j - ent T.1.1 (sw T.2.length (pivK col T) i) col * (fun j => ex bs T.1 (pivK col T) j / ent T.1.1 (pivK col T) col) j) := by
      intro i hi
      funext j
      rw [ex_colN bs hr ho hp _ (Nat.le_refl _) i j hi, if_pos hi]
      split <;> rfl
    constructor
    · intro h i hi
      rw [e i hi]
      have hq := h _ h1
      split
      · rw [hφ.div, hq]; grind
      · rw [hφ.take, hφ.div, hq, h _ (sw_lt (by omega) h1 hi)]; grind
    · intro h
      have ha := h T.2.length (by omega)
      rw [e _ (by omega), if_pos rfl, hφ.div] at ha
      have hq : φ (ex bs T.1 (pivK col T)) = 0 := by grind
      intro i hi
      by_cases ei : i = pivK col T
      · rw [ei]; exact hq
      · have hs := sw_lt (i := T.2.length) (k := pivK col T) (by omega) h1 hi
        have hx := h _ hs
        rw [e _ hs, if_neg (by intro e0; have := sw_sw T.2.length (pivK col T) i; rw [e0, sw_left] at this; omega), sw_sw, hφ.take, hφ.div, hq] at hx
        grind
theorem lin_ech {φ : (Nat → Rat) → Rat} (hφ : Lin φ) (bs : List Rat) {wd : Nat} {S : St} (hr : Rect wd S) : ∀ k,
    (∀ i, i < S.1.length → φ (ex bs S i) = 0) ↔ (∀ i, i < S.1.length → φ (ex bs (echN k S).1 i) = 0)
  | 0 => Iff.rfl
  | k + 1 => by
    have := lin_col (col := k) hφ bs (rect_echN k hr) (by rw [echN_length]; exact echN_out k S)
    rw [echN_length] at this
    rw [lin_ech hφ bs hr k, echN, this]
/-- the first n numbers of a sequence times others -/
def sumN (f : Nat → Rat) : Nat → Rat
  | 0 => 0
  | k + 1 => sumN f k + f k
theorem sumN_div (f : Nat → Rat) (c : Rat) : ∀ n, sumN (fun k => f k / c) n = sumN f n / c
  | 0 => by simp only [sumN]; grind
  | n + 1 => by rw [sumN, sumN, sumN_div]; grind
theorem sumN_take (f g : Nat → Rat) (c : Rat) : ∀ n, sumN (fun k => f k - c * g k) n = sumN f n - c * sumN g n
  | 0 => by simp only [sumN]; grind
  | n + 1 => by rw [sumN, sumN, sumN, sumN_take]; grind
theorem sumN_zero {f : Nat → Rat} (n : Nat) (h : ∀ k, k < n → f k = 0) : sumN f n = 0 := by
  induction n with
  | zero => rfl
  | succ n ih => rw [sumN, ih (fun k hk => h k (by omega)), h n (by omega)]; grind
theorem sumN_one {f : Nat → Rat} (n c : Nat) (hc : c < n) (h : ∀ k, k < n → k ≠ c → f k = 0) : sumN f n = f c := by
  induction n with
  | zero => omega
  | succ n ih =>
    rw [sumN]
    by_cases e : c = n
    · subst e
      rw [sumN_zero c (fun k hk => h k (by omega) (by omega))]; grind
    · rw [ih (by omega) (fun k hk => h k (by omega)), h n (by omega) (by omega)]; grind
theorem dotN_sum (ps ss : List Rat) : ∀ k, dotN ps ss k = sumN (fun t => ps.getD t 0 * ss.getD t 0) k
  | 0 => rfl
  | k + 1 => by rw [dotN, sumN, dotN_sum]
theorem dotL_one (n : Nat) (i : Nat) (bs : List Rat) (hi : i < n) : dotL ((idRows n).getD i []) bs = bs.getD i 0 := by
  have e : (idRows n).getD i [] = (List.replicate n 0).set i 1 := by simp [idRows, List.getD, hi]
  have g : ∀ k, ((List.replicate n (0 : Rat)).set i 1).getD k 0 = if i = k then 1 else 0 := by
    intro k
    rw [getD_set _ _ _ _ _ (by simpa using hi)]
    by_cases hk : i = k
    · rw [if_pos hk, if_pos hk]
    · rw [if_neg hk, if_neg hk]; simp only [List.getD, List.getElem?_replicate]; split <;> rfl
  unfold dotL
  rw [e, dotN_sum, List.length_set, List.length_replicate, sumN_one n i hi]
  · show _ * _ = _; rw [g, if_pos rfl]; grind
  · intro k hk hne; show _ * _ = _; rw [g, if_neg (by omega)]; grind
theorem ent_id (n i k : Nat) (hi : i < n) : ent (idRows n) i k = if i = k then 1 else 0 := by
  have e : (idRows n).getD i [] = (List.replicate n 0).set i 1 := by simp [idRows, List.getD, hi]
  unfold ent
  rw [e, getD_set _ _ _ _ _ (by simpa using hi)]
  by_cases hk : i = k
  · rw [if_pos hk, if_pos hk]
  · rw [if_neg hk, if_neg hk]; simp only [List.getD, List.getElem?_replicate]; split <;> rfl
theorem idRow_length (n i : Nat) (hi : i < n) : ((idRows n).getD i []).length = n := by simp [idRows, List.getD, hi]
/-- rows of one width, nothing done yet -/
theorem rect_id {wd : Nat} {rows : List (List Rat)} (h : ∀ i, i < rows.length → (rows.getD i []).length = wd) : Rect wd (rows, idRows rows.length) :=
  ⟨idRows_length _, h, fun i hi => idRow_length _ _ hi⟩
/-- each row is what its makers make of the first ones -/
theorem comb_ech {wd : Nat} {rows : List (List Rat)} (h : ∀ i, i < rows.length → (rows.getD i []).length = wd) (k i j : Nat) (hi : i < rows.length) :
    sumN (fun t => ent (echN k (rows, idRows rows.length)).1.2 i t * ent rows t j) rows.length = ent (echN k (rows, idRows rows.length)).1.1 i j := by
  have hφ : Lin (fun f => sumN (fun t => f (3 * t + 1) * ent rows t j) rows.length - f (3 * j)) := by
    constructor
    · intro f c
      show sumN (fun t => f (3 * t + 1) / c * ent rows t j) rows.length - f (3 * j) / c = _
      rw [show (fun t => f (3 * t + 1) / c * ent rows t j) = (fun t => (f (3 * t + 1) * ent rows t j) / c) from by funext t; grind, sumN_div]
      grind
    · intro f g c
      show sumN (fun t => (f (3 * t + 1) - c * g (3 * t + 1)) * ent rows t j) rows.length - (f (3 * j) - c * g (3 * j)) = _
      rw [show (fun t => (f (3 * t + 1) - c * g (3 * t + 1)) * ent rows t j) = (fun t => (f (3 * t + 1) * ent rows t j) - c * (g (3 * t + 1) * ent rows t j)) from by funext t; grind, sumN_take]
      grind
  have h0 : ∀ i, i < rows.length → sumN (fun t => ex [] (rows, idRows rows.length) i (3 * t + 1) * ent rows t j) rows.length - ex [] (rows, idRows rows.length) i (3 * j) = 0 := by
    intro i hi
    rw [sumN_one rows.length i hi]
    · rw [ex_done, ex_row]; show ent (idRows rows.length) i i * _ - _ = _; rw [ent_id _ _ _ hi, if_pos rfl]; grind
    · intro k hk hne; show ex _ _ _ _ * _ = _; rw [ex_done]; show ent (idRows rows.length) i k * _ = _; rw [ent_id _ _ _ hi, if_neg (by omega)]; grind
  have h1 := (lin_ech hφ [] (rect_id h) k).1 h0 i hi
  simp only [ex_done, ex_row] at h1
  grind
/-- what stands after some columns -/
structure EchI (k : Nat) (T : St × List Nat) : Prop where
  lt : ∀ r, r < T.2.length → T.2.getD r 0 < k
  mono : ∀ r s, r < s → s < T.2.length → T.2.getD r 0 < T.2.getD s 0
  one : ∀ r, r < T.2.length → ent T.1.1 r (T.2.getD r 0) = 1
  alone : ∀ r i, r < T.2.length → i < T.1.1.length → i ≠ r → ent T.1.1 i (T.2.getD r 0) = 0
  left : ∀ r c, r < T.2.length → c < T.2.getD r 0 → ent T.1.1 r c = 0
  low : ∀ i c, T.2.length ≤ i → i < T.1.1.length → c < k → ent T.1.1 i c = 0
theorem findK_all (rows : List (List Rat)) (col : Nat) : ∀ (f k : Nat), rows.length ≤ k + f → findK rows col f k = rows.length → ∀ i, k ≤ i → i < rows.length → ent rows i col = 0
  | 0, k, h, e, i, h1, h2 => by omega
  | f + 1, k, h, e, i, h1, h2 => by
    by_cases hk : k < rows.length ∧ ent rows k col = 0
    · rw [findK, if_pos hk] at e
      by_cases ei : i = k
      · rw [ei]; exact hk.2
      · exact findK_all rows col f (k + 1) (by omega) e i (by omega) h2
    · rw [findK, if_neg hk] at e
      omega
theorem echI_step {wd k : Nat} {T : St × List Nat} (hr : Rect wd T.1) (ho : T.2.length ≤ T.1.1.length) (h : EchI k T) : EchI (k + 1) (colS k T) := by
  by_cases hp : pivK k T = T.1.1.length
  · rw [colS_same hp]
    refine ⟨fun r hr => Nat.lt_succ_of_lt (h.lt r hr), h.mono, h.one, h.alone, h.left, fun i c h1 h2 hc => ?_⟩
    by_cases e : c = k
    · rw [e]; exact findK_all _ _ _ _ (by omega) hp i h1 h2
    · exact h.low i c h1 h2 (by omega)
  · have hlen := colS_length k T
    rw [colS_step hp] at hlen ⊢
    obtain ⟨h1, h2, h3⟩ := piv_facts hr ho hp
    have e : ∀ i j, i < T.1.1.length → ent (clearN T.2.length k T.1.1.length (divS T.2.length k (swapS T.2.length (pivK k T) T.1))).1 i j =
        if i = T.2.length then ent T.1.1 (pivK k T) j / ent T.1.1 (pivK k T) k
        else ent T.1.1 (sw T.2.length (pivK k T) i) j - ent T.1.1 (sw T.2.length (pivK k T) i) k * (ent T.1.1 (pivK k T) j / ent T.1.1 (pivK k T) k) := by
      intro i j hi
      have := ex_colN [] hr ho hp _ (Nat.le_refl _) i (3 * j) hi
      rw [if_pos hi, ex_row, ex_row, ex_row] at this
      exact this
    have hc0 : ∀ c, c < k → ent T.1.1 (pivK k T) c = 0 := fun c hc => h.low _ c h2 h1 hc
    have g1 : ∀ r, r < T.2.length → (T.2 ++ [k]).getD r 0 = T.2.getD r 0 := fun r hr => by simp [List.getD, List.getElem?_append_left hr]
    have g2 : (T.2 ++ [k]).getD T.2.length 0 = k := by simp [List.getD]
    have hl : (T.2 ++ [k]).length = T.2.length + 1 := by simp
    have hdv : ent T.1.1 (pivK k T) k / ent T.1.1 (pivK k T) k = 1 := by grind
    refine ⟨?_, ?_, ?_, ?_, ?_, ?_⟩
    · intro r hr
      replace hr : r < (T.2 ++ [k]).length := hr
      show (T.2 ++ [k]).getD r 0 < k + 1
      by_cases er : r = T.2.length
      · rw [er, g2]; omega
      · rw [g1 r (by omega)]; have := h.lt r (by omega); omega
    · intro r s hrs hs
      replace hs : s < (T.2 ++ [k]).length := hs
      show (T.2 ++ [k]).getD r 0 < (T.2 ++ [k]).getD s 0
      rw [g1 r (by omega)]
      by_cases es : s = T.2.length
      · rw [es, g2]; exact h.lt r (by omega)
      · rw [g1 s (by omega)]; exact h.mono r s hrs (by omega)
    · intro r hr
      replace hr : r < (T.2 ++ [k]).length := hr
      show ent _ r ((T.2 ++ [k]).getD r 0) = 1
      rw [e _ _ (by omega)]
      by_cases er : r = T.2.length
      · rw [if_pos er, er, g2]; exact hdv
      · rw [if_neg er, g1 r (by omega), sw_low h2 (by omega), hc0 _ (h.lt r (by omega)), h.one r (by omega)]; grind
    · intro r i hr hi hne
      replace hr : r < (T.2 ++ [k]).length := hr
      replace hi : i < T.1.1.length := by have hi2 := hi; rw [hlen] at hi2; exact hi2
      show ent _ i ((T.2 ++ [k]).getD r 0) = 0
      rw [e _ _ hi]
      by_cases er : r = T.2.length
      · rw [if_neg (by omega), er, g2, hdv]; grind
      · rw [g1 r (by omega), hc0 _ (h.lt r (by omega))]
        split
        · grind
        · have hs : sw T.2.length (pivK k T) i ≠ r := by
            intro e2
            by_cases hlow : i < T.2.length
            · rw [sw_low h2 hlow] at e2; omega
            · have := sw_high h2 (show T.2.length ≤ i by omega); omega
          rw [h.alone r _ (by omega) (sw_lt (by omega) h1 hi) hs]; grind
    · intro r c hr hc
      replace hr : r < (T.2 ++ [k]).length := hr
      replace hc : c < (T.2 ++ [k]).getD r 0 := hc
      show ent _ r c = 0
      rw [e _ _ (by omega)]
      by_cases er : r = T.2.length
      · rw [er, g2] at hc
        rw [if_pos er, hc0 c hc]; grind
      · rw [g1 r (by omega)] at hc
        have := h.lt r (by omega)
        rw [if_neg er, sw_low h2 (by omega), hc0 c (by omega), h.left r c (by omega) hc]; grind
    · intro i c h4 h5 hc
      replace h4 : (T.2 ++ [k]).length ≤ i := h4
      replace h5 : i < T.1.1.length := by have hi2 := h5; rw [hlen] at hi2; exact hi2
      show ent _ i c = 0
      rw [e _ _ h5, if_neg (by omega)]
      by_cases ec : c = k
      · rw [ec, hdv]; grind
      · rw [hc0 c (by omega), h.low _ c (sw_high h2 (by omega)) (sw_lt (by omega) h1 h5) (by omega)]; grind
theorem echI {wd : Nat} {S : St} (hr : Rect wd S) : ∀ k, EchI k (echN k S)
  | 0 => ⟨fun r h => absurd h (Nat.not_lt_zero r), fun r s h1 h => absurd h (Nat.not_lt_zero s), fun r h => absurd h (Nat.not_lt_zero r), fun r i h => absurd h (Nat.not_lt_zero r), fun r c h => absurd h (Nat.not_lt_zero r), fun i c h1 h2 h => absurd h (Nat.not_lt_zero c)⟩
  | k + 1 => by rw [echN]; exact echI_step (rect_echN k hr) (by rw [echN_length]; exact echN_out k S) (echI hr k)
end Go.Proofs.YthnnbpnocefmgaaGreat
