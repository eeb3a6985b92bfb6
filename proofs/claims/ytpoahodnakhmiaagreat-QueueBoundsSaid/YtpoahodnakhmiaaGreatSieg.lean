/- Elimination, without memory: what is kept, and what stands at the end; denials and solutions. Elimination, without memory: a bound on all numbers that does not double with each column (small whole relations, by counting). -/
import Derived.Test.YtpoahodnakhmiaaGreatElimE
namespace Go.Proofs.YtpoahodnakhmiaaGreat
set_option linter.unusedVariables false
set_option linter.unusedSimpArgs false
/-- sums of rows are kept -/
structure Lin (φ : (Nat → Rat) → Rat) : Prop where
  div : ∀ f c, φ (fun j => f j / c) = φ f / c
  take : ∀ f g c, φ (fun j => f j - c * g j) = φ f - c * φ g
theorem lin_col {φ : (Nat → Rat) → Rat} (hφ : Lin φ) (bs : List Rat) {wd col : Nat} {T : St × List Nat} (hr : Rect wd T.1) (ho : T.2.length ≤ T.1.1.length) :
    (∀ i, i < T.1.1.length → φ (ex bs T.1 i) = 0) ↔ (∀ i, i < T.1.1.length → φ (ex bs (colS col T).1 i) = 0) := by
  by_cases hp : pivK col T = T.1.1.length
  · rw [colS_same hp]
  · rw [colS_step hp]
    obtain ⟨h1, h2, h3⟩ := piv_facts hr ho hp
    have e : ∀ i, i < T.1.1.length → ex bs (clearN T.2.length col T.1.1.length (divS T.2.length col (swapS T.2.length (pivK col T) T.1))) i =
        if i = T.2.length then (fun j => ex bs T.1 (pivK col T) j / ent T.1.1 (pivK col T) col)
        else (fun j => ex bs T.1 (sw T.2.length (pivK col T) i) j - ent T.1.1 (sw T.2.length (pivK col T) i) col * (fun j => ex bs T.1 (pivK col T) j / ent T.1.1 (pivK col T) col) j) := by
      intro i hi
      funext j
      rw [ex_colN bs hr ho hp _ (Nat.le_refl _) i j hi, if_pos hi]
      split <;> rfl
    constructor
    · intro h i hi
      rw [e i hi]
      have hq := h _ h1
      split
      · rw [hφ.div, hq]; grind
      · rw [hφ.take, hφ.div, hq, h _ (sw_lt (by omega) h1 hi)]; grind
    · intro h
      have ha := h T.2.length (by omega)
      rw [e _ (by omega), if_pos rfl, hφ.div] at ha
      have hq : φ (ex bs T.1 (pivK col T)) = 0 := by grind
      intro i hi
      by_cases ei : i = pivK col T
      · rw [ei]; exact hq
      · have hs := sw_lt (i := T.2.length) (k := pivK col T) (by omega) h1 hi
        have hx := h _ hs
        rw [e _ hs, if_neg (by intro e0; have := sw_sw T.2.length (pivK col T) i; rw [e0, sw_left] at this; omega), sw_sw, hφ.take, hφ.div, hq] at hx
        grind
theorem lin_ech {φ : (Nat → Rat) → Rat} (hφ : Lin φ) (bs : List Rat) {wd : Nat} {S : St} (hr : Rect wd S) : ∀ k,
    (∀ i, i < S.1.length → φ (ex bs S i) = 0) ↔ (∀ i, i < S.1.length → φ (ex bs (echN k S).1 i) = 0)
  | 0 => Iff.rfl
  | k + 1 => by
    have := lin_col (col := k) hφ bs (rect_echN k hr) (by rw [echN_length]; exact echN_out k S)
    rw [echN_length] at this
    rw [lin_ech hφ bs hr k, echN, this]
/-- the first n numbers of a sequence times others -/
def sumN (f : Nat → Rat) : Nat → Rat
  | 0 => 0
  | k + 1 => sumN f k + f k
theorem sumN_eq {f g : Nat → Rat} : ∀ n, (∀ k, k < n → f k = g k) → sumN f n = sumN g n
  | 0, _ => rfl
  | n + 1, h => by rw [sumN, sumN, sumN_eq n (fun k hk => h k (by omega)), h n (by omega)]
theorem sumN_div (f : Nat → Rat) (c : Rat) : ∀ n, sumN (fun k => f k / c) n = sumN f n / c
  | 0 => by simp only [sumN]; grind
  | n + 1 => by rw [sumN, sumN, sumN_div]; grind
theorem sumN_take (f g : Nat → Rat) (c : Rat) : ∀ n, sumN (fun k => f k - c * g k) n = sumN f n - c * sumN g n
  | 0 => by simp only [sumN]; grind
  | n + 1 => by rw [sumN, sumN, sumN, sumN_take]; grind
theorem sumN_zero {f : Nat → Rat} (n : Nat) (h : ∀ k, k < n → f k = 0) : sumN f n = 0 := by
  induction n with
  | zero => rfl
  | succ n ih => rw [sumN, ih (fun k hk => h k (by omega)), h n (by omega)]; grind
theorem sumN_one {f : Nat → Rat} (n c : Nat) (hc : c < n) (h : ∀ k, k < n → k ≠ c → f k = 0) : sumN f n = f c := by
  induction n with
  | zero => omega
  | succ n ih =>
    rw [sumN]
    by_cases e : c = n
    · subst e
      rw [sumN_zero c (fun k hk => h k (by omega) (by omega))]; grind
    · rw [ih (by omega) (fun k hk => h k (by omega)), h n (by omega) (by omega)]; grind
theorem dotN_sum (ps ss : List Rat) : ∀ k, dotN ps ss k = sumN (fun t => ps.getD t 0 * ss.getD t 0) k
  | 0 => rfl
  | k + 1 => by rw [dotN, sumN, dotN_sum]
theorem dotL_one (n : Nat) (i : Nat) (bs : List Rat) (hi : i < n) : dotL ((idRows n).getD i []) bs = bs.getD i 0 := by
  have e : (idRows n).getD i [] = (List.replicate n 0).set i 1 := by simp [idRows, List.getD, hi]
  have g : ∀ k, ((List.replicate n (0 : Rat)).set i 1).getD k 0 = if i = k then 1 else 0 := by
    intro k
    rw [getD_set _ _ _ _ _ (by simpa using hi)]
    by_cases hk : i = k
    · rw [if_pos hk, if_pos hk]
    · rw [if_neg hk, if_neg hk]; simp only [List.getD, List.getElem?_replicate]; split <;> rfl
  unfold dotL
  rw [e, dotN_sum, List.length_set, List.length_replicate, sumN_one n i hi]
  · show _ * _ = _; rw [g, if_pos rfl]; grind
  · intro k hk hne; show _ * _ = _; rw [g, if_neg (by omega)]; grind
theorem ent_id (n i k : Nat) (hi : i < n) : ent (idRows n) i k = if i = k then 1 else 0 := by
  have e : (idRows n).getD i [] = (List.replicate n 0).set i 1 := by simp [idRows, List.getD, hi]
  unfold ent
  rw [e, getD_set _ _ _ _ _ (by simpa using hi)]
  by_cases hk : i = k
  · rw [if_pos hk, if_pos hk]
  · rw [if_neg hk, if_neg hk]; simp only [List.getD, List.getElem?_replicate]; split <;> rfl
theorem idRow_length (n i : Nat) (hi : i < n) : ((idRows n).getD i []).length = n := by simp [idRows, List.getD, hi]
/-- rows of one width, nothing done yet -/
theorem rect_id {wd : Nat} {rows : List (List Rat)} (h : ∀ i, i < rows.length → (rows.getD i []).length = wd) : Rect wd (rows, idRows rows.length) :=
  ⟨idRows_length _, h, fun i hi => idRow_length _ _ hi⟩
/-- what stands after some columns -/
structure EchI (k : Nat) (T : St × List Nat) : Prop where
  lt : ∀ r, r < T.2.length → T.2.getD r 0 < k
  mono : ∀ r s, r < s → s < T.2.length → T.2.getD r 0 < T.2.getD s 0
  one : ∀ r, r < T.2.length → ent T.1.1 r (T.2.getD r 0) = 1
  alone : ∀ r i, r < T.2.length → i < T.1.1.length → i ≠ r → ent T.1.1 i (T.2.getD r 0) = 0
  left : ∀ r c, r < T.2.length → c < T.2.getD r 0 → ent T.1.1 r c = 0
  low : ∀ i c, T.2.length ≤ i → i < T.1.1.length → c < k → ent T.1.1 i c = 0
theorem findK_all (rows : List (List Rat)) (col : Nat) : ∀ (f k : Nat), rows.length ≤ k + f → findK rows col f k = rows.length → ∀ i, k ≤ i → i < rows.length → ent rows i col = 0
  | 0, k, h, e, i, h1, h2 => by omega
  | f + 1, k, h, e, i, h1, h2 => by
    by_cases hk : k < rows.length ∧ ent rows k col = 0
    · rw [findK, if_pos hk] at e
      by_cases ei : i = k
      · rw [ei]; exact hk.2
      · exact findK_all rows col f (k + 1) (by omega) e i (by omega) h2
    · rw [findK, if_neg hk] at e
      omega
theorem echI_step {wd k : Nat} {T : St × List Nat} (hr : Rect wd T.1) (ho : T.2.length ≤ T.1.1.length) (h : EchI k T) : EchI (k + 1) (colS k T) := by
  by_cases hp : pivK k T = T.1.1.length
  · rw [colS_same hp]
    refine ⟨fun r hr => Nat.lt_succ_of_lt (h.lt r hr), h.mono, h.one, h.alone, h.left, fun i c h1 h2 hc => ?_⟩
    by_cases e : c = k
    · rw [e]; exact findK_all _ _ _ _ (by omega) hp i h1 h2
    · exact h.low i c h1 h2 (by omega)
  · have hlen := colS_length k T
    rw [colS_step hp] at hlen ⊢
    obtain ⟨h1, h2, h3⟩ := piv_facts hr ho hp
    have e : ∀ i j, i < T.1.1.length → ent (clearN T.2.length k T.1.1.length (divS T.2.length k (swapS T.2.length (pivK k T) T.1))).1 i j =
        if i = T.2.length then ent T.1.1 (pivK k T) j / ent T.1.1 (pivK k T) k
        else ent T.1.1 (sw T.2.length (pivK k T) i) j - ent T.1.1 (sw T.2.length (pivK k T) i) k * (ent T.1.1 (pivK k T) j / ent T.1.1 (pivK k T) k) := by
      intro i j hi
      have := ex_colN [] hr ho hp _ (Nat.le_refl _) i (3 * j) hi
      rw [if_pos hi, ex_row, ex_row, ex_row] at this
      exact this
    have hc0 : ∀ c, c < k → ent T.1.1 (pivK k T) c = 0 := fun c hc => h.low _ c h2 h1 hc
    have g1 : ∀ r, r < T.2.length → (T.2 ++ [k]).getD r 0 = T.2.getD r 0 := fun r hr => by simp [List.getD, List.getElem?_append_left hr]
    have g2 : (T.2 ++ [k]).getD T.2.length 0 = k := by simp [List.getD]
    have hl : (T.2 ++ [k]).length = T.2.length + 1 := by simp
    have hdv : ent T.1.1 (pivK k T) k / ent T.1.1 (pivK k T) k = 1 := by grind
    refine ⟨?_, ?_, ?_, ?_, ?_, ?_⟩
    · intro r hr
      replace hr : r < (T.2 ++ [k]).length := hr
      show (T.2 ++ [k]).getD r 0 < k + 1
      by_cases er : r = T.2.length
      · rw [er, g2]; omega
      · rw [g1 r (by omega)]; have := h.lt r (by omega); omega
    · intro r s hrs hs
      replace hs : s < (T.2 ++ [k]).length := hs
      show (T.2 ++ [k]).getD r 0 < (T.2 ++ [k]).getD s 0
      rw [g1 r (by omega)]
      by_cases es : s = T.2.length
      · rw [es, g2]; exact h.lt r (by omega)
      · rw [g1 s (by omega)]; exact h.mono r s hrs (by omega)
    · intro r hr
      replace hr : r < (T.2 ++ [k]).length := hr
      show ent _ r ((T.2 ++ [k]).getD r 0) = 1
      rw [e _ _ (by omega)]
      by_cases er : r = T.2.length
      · rw [if_pos er, er, g2]; exact hdv
      · rw [if_neg er, g1 r (by omega), sw_low h2 (by omega), hc0 _ (h.lt r (by omega)), h.one r (by omega)]; grind
    · intro r i hr hi hne
      replace hr : r < (T.2 ++ [k]).length := hr
      replace hi : i < T.1.1.length := by have hi2 := hi; rw [hlen] at hi2; exact hi2
      show ent _ i ((T.2 ++ [k]).getD r 0) = 0
      rw [e _ _ hi]
      by_cases er : r = T.2.length
      · rw [if_neg (by omega), er, g2, hdv]; grind
      · rw [g1 r (by omega), hc0 _ (h.lt r (by omega))]
        split
        · grind
        · have hs : sw T.2.length (pivK k T) i ≠ r := by
            intro e2
            by_cases hlow : i < T.2.length
            · rw [sw_low h2 hlow] at e2; omega
            · have := sw_high h2 (show T.2.length ≤ i by omega); omega
          rw [h.alone r _ (by omega) (sw_lt (by omega) h1 hi) hs]; grind
    · intro r c hr hc
      replace hr : r < (T.2 ++ [k]).length := hr
      replace hc : c < (T.2 ++ [k]).getD r 0 := hc
      show ent _ r c = 0
      rw [e _ _ (by omega)]
      by_cases er : r = T.2.length
      · rw [er, g2] at hc
        rw [if_pos er, hc0 c hc]; grind
      · rw [g1 r (by omega)] at hc
        have := h.lt r (by omega)
        rw [if_neg er, sw_low h2 (by omega), hc0 c (by omega), h.left r c (by omega) hc]; grind
    · intro i c h4 h5 hc
      replace h4 : (T.2 ++ [k]).length ≤ i := h4
      replace h5 : i < T.1.1.length := by have hi2 := h5; rw [hlen] at hi2; exact hi2
      show ent _ i c = 0
      rw [e _ _ h5, if_neg (by omega)]
      by_cases ec : c = k
      · rw [ec, hdv]; grind
      · rw [hc0 c (by omega), h.low _ c (sw_high h2 (by omega)) (sw_lt (by omega) h1 h5) (by omega)]; grind
theorem echI {wd : Nat} {S : St} (hr : Rect wd S) : ∀ k, EchI k (echN k S)
  | 0 => ⟨fun r h => absurd h (Nat.not_lt_zero r), fun r s h1 h => absurd h (Nat.not_lt_zero s), fun r h => absurd h (Nat.not_lt_zero r), fun r i h => absurd h (Nat.not_lt_zero r), fun r c h => absurd h (Nat.not_lt_zero r), fun i c h1 h2 h => absurd h (Nat.not_lt_zero c)⟩
  | k + 1 => by rw [echN]; exact echI_step (rect_echN k hr) (by rw [echN_length]; exact echN_out k S) (echI hr k)
end Go.Proofs.YtpoahodnakhmiaaGreat
namespace Go.Proofs.YtpoahodnakhmiaaGreat
set_option linter.unusedVariables false
set_option linter.unusedSimpArgs false
/-- more numbers than values: two have one value -/
theorem php : ∀ (n : Nat) (f : Nat → Nat), (∀ i, i ≤ n → f i < n) → ∃ i j, i < j ∧ j ≤ n ∧ f i = f j
  | 0, f, h => absurd (h 0 (Nat.le_refl _)) (Nat.not_lt_zero _)
  | n + 1, f, h => by
    by_cases hv : ∃ i, i ≤ n ∧ f i = f (n + 1)
    · obtain ⟨i, hi, e⟩ := hv
      exact ⟨i, n + 1, by omega, Nat.le_refl _, e⟩
    · have hne : ∀ i, i ≤ n → f i ≠ f (n + 1) := fun i hi e => hv ⟨i, hi, e⟩
      obtain ⟨i, j, h1, h2, h3⟩ := php n (fun i => if f i < f (n + 1) then f i else f i - 1) (fun i hi => by
        have a := h i (by omega)
        have b := hne i hi
        have c := h (n + 1) (Nat.le_refl _)
        show (if f i < f (n + 1) then f i else f i - 1) < n
        split <;> omega)
      have b1 := hne i (by omega)
      have b2 := hne j h2
      refine ⟨i, j, h1, by omega, ?_⟩
      replace h3 : (if f i < f (n + 1) then f i else f i - 1) = (if f j < f (n + 1) then f j else f j - 1) := h3
      split at h3 <;> split at h3 <;> omega
/-- numbers below W as one number -/
def enc (W : Nat) : (Nat → Nat) → Nat → Nat
  | _, 0 => 0
  | f, n + 1 => f 0 + W * enc W (fun s => f (s + 1)) n
theorem enc_lt {W : Nat} (hW : 0 < W) : ∀ (n : Nat) (f : Nat → Nat), (∀ s, s < n → f s < W) → enc W f n < W ^ n
  | 0, f, _ => by simp [enc]
  | n + 1, f, h => by
    have h0 := h 0 (by omega)
    have h1 := enc_lt hW n (fun s => f (s + 1)) (fun s hs => h (s + 1) (by omega))
    rw [enc, Nat.pow_succ]
    have h2 : W * (enc W (fun s => f (s + 1)) n + 1) ≤ W * W ^ n := Nat.mul_le_mul_left _ h1
    rw [Nat.mul_add, Nat.mul_one] at h2
    rw [Nat.mul_comm (W ^ n) W]
    omega
theorem enc_inj {W : Nat} (hW : 0 < W) : ∀ (n : Nat) (f g : Nat → Nat), (∀ s, s < n → f s < W) → (∀ s, s < n → g s < W) → enc W f n = enc W g n → ∀ s, s < n → f s = g s
  | 0, f, g, _, _, _ => fun s hs => by omega
  | n + 1, f, g, hf, hg, h => by
    rw [enc, enc] at h
    have f0 := hf 0 (by omega)
    have g0 := hg 0 (by omega)
    have e0 : f 0 = g 0 := by
      have h1 := congrArg (· % W) h
      simp only [Nat.add_mul_mod_self_left] at h1
      rwa [Nat.mod_eq_of_lt f0, Nat.mod_eq_of_lt g0] at h1
    have e1 : enc W (fun s => f (s + 1)) n = enc W (fun s => g (s + 1)) n := Nat.eq_of_mul_eq_mul_left hW (by omega)
    intro s hs
    cases s with
    | zero => exact e0
    | succ s => exact enc_inj hW n _ _ (fun s hs => hf (s + 1) (by omega)) (fun s hs => hg (s + 1) (by omega)) e1 s (by omega)
theorem dig_inj {b : Nat} (hb : 0 < b) : ∀ (n u v : Nat), u < b ^ n → v < b ^ n → (∀ r, r < n → u / b ^ r % b = v / b ^ r % b) → u = v
  | 0, u, v, hu, hv, _ => by simp at hu hv; omega
  | n + 1, u, v, hu, hv, h => by
    have h0 := h 0 (by omega)
    simp only [Nat.pow_zero, Nat.div_one] at h0
    have key := dig_inj hb n (u / b) (v / b) (by rw [Nat.div_lt_iff_lt_mul hb, ← Nat.pow_succ]; exact hu) (by rw [Nat.div_lt_iff_lt_mul hb, ← Nat.pow_succ]; exact hv) (fun r hr => by
      have := h (r + 1) (by omega)
      rw [Nat.pow_succ, Nat.mul_comm] at this
      rw [Nat.div_div_eq_div_mul, Nat.div_div_eq_div_mul]; exact this)
    have e1 := Nat.div_add_mod u b
    have e2 := Nat.div_add_mod v b
    rw [key, h0] at e1
    omega
/-- sums of whole numbers -/
def sumZ (f : Nat → Int) : Nat → Int
  | 0 => 0
  | k + 1 => sumZ f k + f k
theorem sumZ_abs {f : Nat → Int} {B : Nat} : ∀ k, (∀ r, r < k → (f r).natAbs ≤ B) → (sumZ f k).natAbs ≤ k * B
  | 0, _ => by simp [sumZ]
  | k + 1, h => by
    have h1 := sumZ_abs k (fun r hr => h r (by omega))
    have h2 := h k (by omega)
    rw [sumZ, Nat.succ_mul]
    have := Int.natAbs_add_le (sumZ f k) (f k)
    omega
theorem sumZ_sub (f g : Nat → Int) : ∀ k, sumZ (fun r => f r - g r) k = sumZ f k - sumZ g k
  | 0 => rfl
  | k + 1 => by simp only [sumZ]; rw [sumZ_sub f g k]; omega
theorem sumZ_eq {f g : Nat → Int} : ∀ k, (∀ r, r < k → f r = g r) → sumZ f k = sumZ g k
  | 0, _ => rfl
  | k + 1, h => by rw [sumZ, sumZ, sumZ_eq k (fun r hr => h r (by omega)), h k (by omega)]
theorem sumZ_one {f : Nat → Int} (n c : Nat) (hc : c < n) (h : ∀ k, k < n → k ≠ c → f k = 0) : sumZ f n = f c := by
  induction n with
  | zero => omega
  | succ n ih =>
    rw [sumZ]
    by_cases e : c = n
    · subst e
      have : sumZ f c = 0 := by
        have key : ∀ m, m ≤ c → sumZ f m = 0 := by
          intro m
          induction m with
          | zero => intro _; rfl
          | succ m ih2 => intro hm; rw [sumZ, ih2 (by omega), h m (by omega) (by omega)]; rfl
        exact key c (Nat.le_refl _)
      omega
    · rw [ih (by omega) (fun k hk hne => h k (by omega) hne), h n (by omega) (fun e2 => e e2.symm)]; omega
/-- a small whole relation of n + 1 rows in n columns -/
theorem siegel (n M X : Nat) (C : Nat → Nat → Int) (hC : ∀ r s, r ≤ n → s < n → (C r s).natAbs ≤ M) (hX : (2 * ((n + 1) * (X * M)) + 1) ^ n < (X + 1) ^ (n + 1)) :
    ∃ y : Nat → Int, (∃ r, r ≤ n ∧ y r ≠ 0) ∧ (∀ r, (y r).natAbs ≤ X) ∧ ∀ s, s < n → sumZ (fun r => y r * C r s) (n + 1) = 0 := by
  obtain ⟨O, hO⟩ : ∃ O, O = (n + 1) * (X * M) := ⟨_, rfl⟩
  rw [← hO] at hX
  obtain ⟨Y, hY⟩ : ∃ Y : Nat → Nat → Int, ∀ u r, Y u r = ((u / (X + 1) ^ r % (X + 1) : Nat) : Int) := ⟨_, fun _ _ => rfl⟩
  have hY0 : ∀ u r, 0 ≤ Y u r ∧ Y u r ≤ X := fun u r => by
    rw [hY]
    have := Nat.mod_lt (u / (X + 1) ^ r) (show X + 1 > 0 by omega)
    omega
  obtain ⟨V, hV⟩ : ∃ V : Nat → Nat → Int, ∀ u s, V u s = sumZ (fun r => Y u r * C r s) (n + 1) := ⟨_, fun _ _ => rfl⟩
  have hVb : ∀ u s, s < n → (V u s).natAbs ≤ O := fun u s hs => by
    rw [hV, hO]
    refine sumZ_abs _ fun r hr => ?_
    rw [Int.natAbs_mul]
    have h1 := hY0 u r
    exact Nat.mul_le_mul (by omega) (hC r s (by omega) hs)
  have hW : 0 < 2 * O + 1 := by omega
  have hlt : ∀ u s, s < n → (V u s + O).toNat < 2 * O + 1 := fun u s hs => by have := hVb u s hs; omega
  obtain ⟨i, j, hij, hj, he⟩ := php ((2 * O + 1) ^ n) (fun u => enc (2 * O + 1) (fun s => (V u s + O).toNat) n) (fun u _ => enc_lt hW n _ (hlt u))
  have hs := enc_inj hW n _ _ (hlt i) (hlt j) he
  refine ⟨fun r => Y i r - Y j r, ?_, fun r => ?_, fun s hsn => ?_⟩
  · refine Classical.byContradiction fun hno => ?_
    have hall : ∀ r, r < n + 1 → i / (X + 1) ^ r % (X + 1) = j / (X + 1) ^ r % (X + 1) := by
      intro r hr
      refine Classical.byContradiction fun hne => hno ⟨r, by omega, ?_⟩
      show Y i r - Y j r ≠ 0
      rw [hY, hY]; omega
    have := dig_inj (show 0 < X + 1 by omega) (n + 1) i j (by omega) (by omega) hall
    omega
  · show (Y i r - Y j r).natAbs ≤ X
    have a := hY0 i r
    have b := hY0 j r
    omega
  · have h1 := hs s hsn
    have a := hVb i s hsn
    have b := hVb j s hsn
    have h2 : V i s = V j s := by omega
    rw [hV, hV] at h2
    have e : sumZ (fun r => (Y i r - Y j r) * C r s) (n + 1) = sumZ (fun r => Y i r * C r s - Y j r * C r s) (n + 1) := sumZ_eq _ fun r _ => by rw [Int.sub_mul]
    show sumZ (fun r => (Y i r - Y j r) * C r s) (n + 1) = 0
    rw [e, sumZ_sub, h2]; omega
/-- a bound that is enough -/
theorem siegel_room (n M : Nat) (hM : 0 < M) : (2 * ((n + 1) * ((2 * ((n + 1) * M)) ^ n * M)) + 1) ^ n < ((2 * ((n + 1) * M)) ^ n + 1) ^ (n + 1) := by
  obtain ⟨Q, hQ⟩ : ∃ Q, Q = 2 * ((n + 1) * M) := ⟨_, rfl⟩
  have hQ1 : 1 ≤ Q := by
    have := Nat.mul_pos (show 0 < n + 1 by omega) hM
    omega
  rw [← hQ]
  have e : 2 * ((n + 1) * (Q ^ n * M)) = Q * Q ^ n := by
    rw [hQ]
    generalize (2 * ((n + 1) * M)) ^ n = P
    rw [Nat.mul_comm P M, ← Nat.mul_assoc (n + 1) M P, ← Nat.mul_assoc 2]
  rw [e]
  have h1 : Q * Q ^ n + 1 ≤ Q * (Q ^ n + 1) := by rw [Nat.mul_add]; omega
  have h2 := Nat.pow_le_pow_left h1 n
  rw [Nat.mul_pow] at h2
  have h3 : Q ^ n * (Q ^ n + 1) ^ n < (Q ^ n + 1) * (Q ^ n + 1) ^ n := Nat.mul_lt_mul_of_pos_right (by omega) (Nat.pow_pos (by omega))
  rw [Nat.pow_succ (Q ^ n + 1) n, Nat.mul_comm ((Q ^ n + 1) ^ n)]
  omega
theorem sumN_add (f g : Nat → Rat) : ∀ k, sumN (fun r => f r + g r) k = sumN f k + sumN g k
  | 0 => by simp only [sumN]; grind
  | k + 1 => by simp only [sumN]; rw [sumN_add f g k]; grind
theorem sumN_mul (f : Nat → Rat) (c : Rat) : ∀ k, sumN (fun r => c * f r) k = c * sumN f k
  | 0 => by simp only [sumN]; grind
  | k + 1 => by simp only [sumN]; rw [sumN_mul f c k]; grind
end Go.Proofs.YtpoahodnakhmiaaGreat
