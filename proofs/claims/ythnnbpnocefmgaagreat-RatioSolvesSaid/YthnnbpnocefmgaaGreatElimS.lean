import Derived.Test.YthnnbpnocefmgaaGreatElimE
namespace Go.Proofs.YthnnbpnocefmgaaGreat
set_option linter.unusedVariables false
set_option linter.unusedSimpArgs false
structure Lin (φ : (Nat → Rat) → Rat) : Prop where
 div : ∀ f c, φ (fun j => f j / c) = φ f / c
 take : ∀ f g c, φ (fun j => f j - c * g j) = φ f - c * φ g
theorem lin_col {φ : (Nat → Rat) → Rat} (hφ : Lin φ) (bs : List Rat) {wd col : Nat} {T : St × List Nat} (hr : Rect wd T.1) (ho : T.2.length ≤ T.1.1.length) :
  (∀ i, i < T.1.1.length → φ (ex bs T.1 i) = 0) ↔ (∀ i, i < T.1.1.length → φ (ex bs (colS col T).1 i) = 0) := by
 by_cases hp : pivK col T = T.1.1.length
 ·rw [colS_same hp]
 ·rw [colS_step hp]
  obtain ⟨h1, h2, h3⟩ := piv_facts hr ho hp
  have e : ∀ i, i < T.1.1.length → ex bs (clearN T.2.length col T.1.1.length (divS T.2.length col (swapS T.2.length (pivK col T) T.1))) i =
    if i = T.2.length then (fun j => ex bs T.1 (pivK col T) j / ent T.1.1 (pivK col T) col)
    else (fun j => ex bs T.1 (sw T.2.length (pivK col T) i) j - ent T.1.1 (sw T.2.length (pivK col T) i) col * (fun j => ex bs T.1 (pivK col T) j / ent T.1.1 (pivK col T) col) j) := by
   intro i hi
   funext j
   rw [ex_colN bs hr ho hp _ (nr _) i j hi, if_pos hi]
   split <;> rfl
  constructor
  ·intro h i hi
   rw [e i hi]
   have hq := h _ h1
   split
   ·rw [hφ.div, hq]; grind
   ·rw [hφ.take, hφ.div, hq, h _ (sw_lt (by omega) h1 hi)]; grind
  ·intro h
   have ha := h T.2.length (by omega)
   rw [e _ (by omega), if_pos rfl, hφ.div] at ha
   have hq : φ (ex bs T.1 (pivK col T)) = 0 := by grind
   intro i hi
   by_cases ei : i = pivK col T
   ·rw [ei]; exact hq
   ·have hs := sw_lt (i := T.2.length) (k := pivK col T) (by omega) h1 hi
    have hx := h _ hs
    rw [e _ hs, if_neg (by intro e0; have := sw_sw T.2.length (pivK col T) i; rw [e0, sw_left] at this; omega), sw_sw, hφ.take, hφ.div, hq] at hx
    grind
theorem lin_ech {φ : (Nat → Rat) → Rat} (hφ : Lin φ) (bs : List Rat) {wd : Nat} {S : St} (hr : Rect wd S) : ∀ k,
  (∀ i, i < S.1.length → φ (ex bs S i) = 0) ↔ (∀ i, i < S.1.length → φ (ex bs (echN k S).1 i) = 0)
 | 0 => Iff.rfl
 | k + 1 => by
  have := lin_col (col := k) hφ bs (rect_echN k hr) (by rw [echN_length]; exact echN_out k S)
  rw [echN_length] at this
  rw [lin_ech hφ bs hr k, echN, this]
def sumN (f : Nat → Rat) : Nat → Rat
 | 0 => 0
 | k + 1 => sumN f k + f k
theorem sumN_div (f : Nat → Rat) (c : Rat) : ∀ n, sumN (fun k => f k / c) n = sumN f n / c
 | 0 => by simp only [sumN]; grind
 | n + 1 => by rw [sumN, sumN, sumN_div]; grind
theorem sumN_take (f g : Nat → Rat) (c : Rat) : ∀ n, sumN (fun k => f k - c * g k) n = sumN f n - c * sumN g n
 | 0 => by simp only [sumN]; grind
 | n + 1 => by rw [sumN, sumN, sumN, sumN_take]; grind
theorem sumN_zero {f : Nat → Rat} (n : Nat) (h : ∀ k, k < n → f k = 0) : sumN f n = 0 := by
 induction n with
 | zero => rfl
 | succ n ih => rw [sumN, ih (fun k hk => h k (by omega)), h n (by omega)]; grind
theorem sumN_one {f : Nat → Rat} (n c : Nat) (hc : c < n) (h : ∀ k, k < n → k ≠ c → f k = 0) : sumN f n = f c := by
 induction n with
 | zero => omega
 | succ n ih =>
  rw [sumN]
  by_cases e : c = n
  ·subst e
   rw [sumN_zero c (fun k hk => h k (by omega) (by omega))]; grind
  ·rw [ih (by omega) (fun k hk => h k (by omega)), h n (by omega) (by omega)]; grind
theorem dotN_sum (ps ss : List Rat) : ∀ k, dotN ps ss k = sumN (fun t => ps.getD t 0 * ss.getD t 0) k
 | 0 => rfl
 | k + 1 => by rw [dotN, sumN, dotN_sum]
theorem dotL_one (n : Nat) (i : Nat) (bs : List Rat) (hi : i < n) : dotL ((idRows n).getD i []) bs = bs.getD i 0 := by
 have e : (idRows n).getD i [] = (List.replicate n 0).set i 1 := by simp [idRows, List.getD, hi]
 have g : ∀ k, ((List.replicate n (0 : Rat)).set i 1).getD k 0 = if i = k then 1 else 0 := by
  intro k
  rw [getD_set _ _ _ _ _ (by simpa using hi)]
  by_cases hk : i = k
  ·rw [if_pos hk, if_pos hk]
  ·rw [if_neg hk, if_neg hk]; simp only [List.getD, List.getElem?_replicate]; split <;> rfl
 unfold dotL
 rw [e, dotN_sum, List.length_set, List.length_replicate, sumN_one n i hi]
 ·show _ * _ = _; rw [g, if_pos rfl]; grind
 ·intro k hk hne; show _ * _ = _; rw [g, if_neg (by omega)]; grind
theorem ent_id (n i k : Nat) (hi : i < n) : ent (idRows n) i k = if i = k then 1 else 0 := by
 have e : (idRows n).getD i [] = (List.replicate n 0).set i 1 := by simp [idRows, List.getD, hi]
 unfold ent
 rw [e, getD_set _ _ _ _ _ (by simpa using hi)]
 by_cases hk : i = k
 ·rw [if_pos hk, if_pos hk]
 ·rw [if_neg hk, if_neg hk]; simp only [List.getD, List.getElem?_replicate]; split <;> rfl
theorem idRow_length (n i : Nat) (hi : i < n) : ((idRows n).getD i []).length = n := by simp [idRows, List.getD, hi]
theorem rect_id {wd : Nat} {rows : List (List Rat)} (h : ∀ i, i < rows.length → (rows.getD i []).length = wd) : Rect wd (rows, idRows rows.length) :=
 ⟨idRows_length _, h, fun i hi => idRow_length _ _ hi⟩
theorem comb_ech {wd : Nat} {rows : List (List Rat)} (h : ∀ i, i < rows.length → (rows.getD i []).length = wd) (k i j : Nat) (hi : i < rows.length) :
  sumN (fun t => ent (echN k (rows, idRows rows.length)).1.2 i t * ent rows t j) rows.length = ent (echN k (rows, idRows rows.length)).1.1 i j := by
 have hφ : Lin (fun f => sumN (fun t => f (3 * t + 1) * ent rows t j) rows.length - f (3 * j)) := by
  constructor
  ·intro f c
   show sumN (fun t => f (3 * t + 1) / c * ent rows t j) rows.length - f (3 * j) / c = _
   rw [show (fun t => f (3 * t + 1) / c * ent rows t j) = (fun t => (f (3 * t + 1) * ent rows t j) / c) from by funext t; grind, sumN_div]
   grind
  ·intro f g c
   show sumN (fun t => (f (3 * t + 1) - c * g (3 * t + 1)) * ent rows t j) rows.length - (f (3 * j) - c * g (3 * j)) = _
   rw [show (fun t => (f (3 * t + 1) - c * g (3 * t + 1)) * ent rows t j) = (fun t => (f (3 * t + 1) * ent rows t j) - c * (g (3 * t + 1) * ent rows t j)) from by funext t; grind, sumN_take]
   grind
 have h0 : ∀ i, i < rows.length → sumN (fun t => ex [] (rows, idRows rows.length) i (3 * t + 1) * ent rows t j) rows.length - ex [] (rows, idRows rows.length) i (3 * j) = 0 := by
  intro i hi
  rw [sumN_one rows.length i hi]
  ·rw [ex_done, ex_row]; show ent (idRows rows.length) i i * _ - _ = _; rw [ent_id _ _ _ hi, if_pos rfl]; grind
  ·intro k hk hne; show ex _ _ _ _ * _ = _; rw [ex_done]; show ent (idRows rows.length) i k * _ = _; rw [ent_id _ _ _ hi, if_neg (by omega)]; grind
 have h1 := (lin_ech hφ [] (rect_id h) k).1 h0 i hi
 simp only [ex_done, ex_row] at h1
 grind
structure EchI (k : Nat) (T : St × List Nat) : Prop where
 lt : ∀ r, r < T.2.length → T.2.getD r 0 < k
 mono : ∀ r s, r < s → s < T.2.length → T.2.getD r 0 < T.2.getD s 0
 one : ∀ r, r < T.2.length → ent T.1.1 r (T.2.getD r 0) = 1
 alone : ∀ r i, r < T.2.length → i < T.1.1.length → i ≠ r → ent T.1.1 i (T.2.getD r 0) = 0
 left : ∀ r c, r < T.2.length → c < T.2.getD r 0 → ent T.1.1 r c = 0
 low : ∀ i c, T.2.length ≤ i → i < T.1.1.length → c < k → ent T.1.1 i c = 0
theorem findK_all (rows : List (List Rat)) (col : Nat) : ∀ (f k : Nat), rows.length ≤ k + f → findK rows col f k = rows.length → ∀ i, k ≤ i → i < rows.length → ent rows i col = 0
 | 0, k, h, e, i, h1, h2 => by omega
 | f + 1, k, h, e, i, h1, h2 => by
  by_cases hk : k < rows.length ∧ ent rows k col = 0
  ·rw [findK, if_pos hk] at e
   by_cases ei : i = k
   ·rw [ei]; exact hk.2
   ·exact findK_all rows col f (k + 1) (by omega) e i (by omega) h2
  ·rw [findK, if_neg hk] at e
   omega
theorem echI_step {wd k : Nat} {T : St × List Nat} (hr : Rect wd T.1) (ho : T.2.length ≤ T.1.1.length) (h : EchI k T) : EchI (k + 1) (colS k T) := by
 by_cases hp : pivK k T = T.1.1.length
 ·rw [colS_same hp]
  refine ⟨fun r hr => Nat.lt_succ_of_lt (h.lt r hr), h.mono, h.one, h.alone, h.left, fun i c h1 h2 hc => ?_⟩
  by_cases e : c = k
  ·rw [e]; exact findK_all _ _ _ _ (by omega) hp i h1 h2
  ·exact h.low i c h1 h2 (by omega)
 ·have hlen := colS_length k T
  rw [colS_step hp] at hlen ⊢
  obtain ⟨h1, h2, h3⟩ := piv_facts hr ho hp
  have e : ∀ i j, i < T.1.1.length → ent (clearN T.2.length k T.1.1.length (divS T.2.length k (swapS T.2.length (pivK k T) T.1))).1 i j =
    if i = T.2.length then ent T.1.1 (pivK k T) j / ent T.1.1 (pivK k T) k
    else ent T.1.1 (sw T.2.length (pivK k T) i) j - ent T.1.1 (sw T.2.length (pivK k T) i) k * (ent T.1.1 (pivK k T) j / ent T.1.1 (pivK k T) k) := by
   intro i j hi
   have := ex_colN [] hr ho hp _ (nr _) i (3 * j) hi
   rw [if_pos hi, ex_row, ex_row, ex_row] at this
   exact this
  have hc0 : ∀ c, c < k → ent T.1.1 (pivK k T) c = 0 := fun c hc => h.low _ c h2 h1 hc
  have g1 : ∀ r, r < T.2.length → (T.2 ++ [k]).getD r 0 = T.2.getD r 0 := fun r hr => by simp [List.getD, List.getElem?_append_left hr]
  have g2 : (T.2 ++ [k]).getD T.2.length 0 = k := by simp [List.getD]
  have hl : (T.2 ++ [k]).length = T.2.length + 1 := by simp
  have hdv : ent T.1.1 (pivK k T) k / ent T.1.1 (pivK k T) k = 1 := by grind
  refine ⟨?_, ?_, ?_, ?_, ?_, ?_⟩
  ·intro r hr
   replace hr : r < (T.2 ++ [k]).length := hr
   show (T.2 ++ [k]).getD r 0 < k + 1
   by_cases er : r = T.2.length
   ·rw [er, g2]; omega
   ·rw [g1 r (by omega)]; have := h.lt r (by omega); omega
  ·intro r s hrs hs
   replace hs : s < (T.2 ++ [k]).length := hs
   show (T.2 ++ [k]).getD r 0 < (T.2 ++ [k]).getD s 0
   rw [g1 r (by omega)]
   by_cases es : s = T.2.length
   ·rw [es, g2]; exact h.lt r (by omega)
   ·rw [g1 s (by omega)]; exact h.mono r s hrs (by omega)
  ·intro r hr
   replace hr : r < (T.2 ++ [k]).length := hr
   show ent _ r ((T.2 ++ [k]).getD r 0) = 1
   rw [e _ _ (by omega)]
   by_cases er : r = T.2.length
   ·rw [if_pos er, er, g2]; exact hdv
   ·rw [if_neg er, g1 r (by omega), sw_low h2 (by omega), hc0 _ (h.lt r (by omega)), h.one r (by omega)]; grind
  ·intro r i hr hi hne
   replace hr : r < (T.2 ++ [k]).length := hr
   replace hi : i < T.1.1.length := by have hi2 := hi; rw [hlen] at hi2; exact hi2
   show ent _ i ((T.2 ++ [k]).getD r 0) = 0
   rw [e _ _ hi]
   by_cases er : r = T.2.length
   ·rw [if_neg (by omega), er, g2, hdv]; grind
   ·rw [g1 r (by omega), hc0 _ (h.lt r (by omega))]
    split
    ·grind
    ·have hs : sw T.2.length (pivK k T) i ≠ r := by
      intro e2
      by_cases hlow : i < T.2.length
      ·rw [sw_low h2 hlow] at e2; omega
      ·have := sw_high h2 (show T.2.length ≤ i by omega); omega
     rw [h.alone r _ (by omega) (sw_lt (by omega) h1 hi) hs]; grind
  ·intro r c hr hc
   replace hr : r < (T.2 ++ [k]).length := hr
   replace hc : c < (T.2 ++ [k]).getD r 0 := hc
   show ent _ r c = 0
   rw [e _ _ (by omega)]
   by_cases er : r = T.2.length
   ·rw [er, g2] at hc
    rw [if_pos er, hc0 c hc]; grind
   ·rw [g1 r (by omega)] at hc
    have := h.lt r (by omega)
    rw [if_neg er, sw_low h2 (by omega), hc0 c (by omega), h.left r c (by omega) hc]; grind
  ·intro i c h4 h5 hc
   replace h4 : (T.2 ++ [k]).length ≤ i := h4
   replace h5 : i < T.1.1.length := by have hi2 := h5; rw [hlen] at hi2; exact hi2
   show ent _ i c = 0
   rw [e _ _ h5, if_neg (by omega)]
   by_cases ec : c = k
   ·rw [ec, hdv]; grind
   ·rw [hc0 c (by omega), h.low _ c (sw_high h2 (by omega)) (sw_lt (by omega) h1 h5) (by omega)]; grind
theorem echI {wd : Nat} {S : St} (hr : Rect wd S) : ∀ k, EchI k (echN k S)
 | 0 => ⟨fun r h => absurd h (Nat.not_lt_zero r), fun r s h1 h => absurd h (Nat.not_lt_zero s), fun r h => absurd h (Nat.not_lt_zero r), fun r i h => absurd h (Nat.not_lt_zero r), fun r c h => absurd h (Nat.not_lt_zero r), fun i c h1 h2 h => absurd h (Nat.not_lt_zero c)⟩
 | k + 1 => by rw [echN]; exact echI_step (rect_echN k hr) (by rw [echN_length]; exact echN_out k S) (echI hr k)
theorem natp (a : Nat) : (4294967296 : Int) ^ a = ((4294967296 ^ a : Nat) : Int) := by rw [Int.natCast_pow]; rfl
theorem FitQ.mulA {a b : Nat} {p q : Rat} (hp : FitQ a p) (hq : FitQ b q) : FitQ (a + b) (p * q) := by
 have hpd := den_pos p
 have hqd := den_pos q
 have e : p * q = Rat.divInt (p.num * q.num) (p.den * q.den) := by
  conv => lhs; rw [← Rat.num_divInt_den p, ← Rat.num_divInt_den q]
  exact Rat.divInt_mul_divInt _ _
 have h1 : p.num.natAbs < 4294967296 ^ a := by have := hp.1; rw [natp] at this; omega
 have h2 : q.num.natAbs < 4294967296 ^ b := by have := hq.1; rw [natp] at this; omega
 have h3 : p.den ≤ 4294967296 ^ a := by have := hp.2; rw [natp] at this; omega
 have h4 : q.den ≤ 4294967296 ^ b := by have := hq.2; rw [natp] at this; omega
 have g1 : p.num.natAbs * q.num.natAbs < 4294967296 ^ a * 4294967296 ^ b := Nat.mul_lt_mul'' h1 h2
 have g2 : p.den * q.den ≤ 4294967296 ^ a * 4294967296 ^ b := Nat.mul_le_mul h3 h4
 rw [← Nat.pow_add] at g1 g2
 rw [e]
 refine fit_divInt (Int.mul_pos hpd hqd) ?_ (by rw [natp, ← Int.natCast_mul]; exact Int.ofNat_le.2 g2)
 rw [Int.natAbs_mul, natp]
 exact Int.ofNat_lt.2 g1
theorem FitQ.addA {a b : Nat} {p q : Rat} (hp : FitQ a p) (hq : FitQ b q) : FitQ (a + b + 1) (p + q) := by
 have hpd := den_pos p
 have hqd := den_pos q
 have e : p + q = Rat.divInt (p.num * q.den + q.num * p.den) (p.den * q.den) := by
  conv => lhs; rw [← Rat.num_divInt_den p, ← Rat.num_divInt_den q]
  exact Rat.divInt_add_divInt _ _ (by omega) (by omega)
 have h1 : p.num.natAbs < 4294967296 ^ a := by have := hp.1; rw [natp] at this; omega
 have h2 : q.num.natAbs < 4294967296 ^ b := by have := hq.1; rw [natp] at this; omega
 have h3 : p.den ≤ 4294967296 ^ a := by have := hp.2; rw [natp] at this; omega
 have h4 : q.den ≤ 4294967296 ^ b := by have := hq.2; rw [natp] at this; omega
 have g1 : p.num.natAbs * q.den ≤ 4294967296 ^ a * 4294967296 ^ b := Nat.mul_le_mul (by omega) h4
 have g2 : q.num.natAbs * p.den ≤ 4294967296 ^ b * 4294967296 ^ a := Nat.mul_le_mul (by omega) h3
 have g3 : p.den * q.den ≤ 4294967296 ^ a * 4294967296 ^ b := Nat.mul_le_mul h3 h4
 have g4 : (0 : Nat) < 4294967296 ^ (a + b) := Nat.pow_pos (by omega)
 rw [Nat.mul_comm (4294967296 ^ b)] at g2
 rw [← Nat.pow_add] at g1 g2 g3
 have g5 : 4294967296 ^ (a + b + 1) = 4294967296 ^ (a + b) * 4294967296 := Nat.pow_succ _ _
 have t := Int.natAbs_add_le (p.num * q.den) (q.num * p.den)
 rw [Int.natAbs_mul, Int.natAbs_mul, Int.natAbs_natCast, Int.natAbs_natCast] at t
 rw [e]
 refine fit_divInt (Int.mul_pos hpd hqd) ?_ ?_
 ·have : (p.num * q.den + q.num * p.den).natAbs < 4294967296 ^ (a + b + 1) := by omega
  rw [natp]
  exact Int.ofNat_lt.2 this
 ·have : p.den * q.den ≤ 4294967296 ^ (a + b + 1) := by omega
  rw [natp, ← Int.natCast_mul]
  exact Int.ofNat_le.2 this
theorem one_den (D : Nat) (hD : 1 ≤ D) : ∀ (l : List Rat), (∀ x ∈ l, x.num.natAbs < D ∧ x.den < D) →
  ∃ m : Nat, 0 < m ∧ m ≤ D ^ (l.length + 1) ∧ ∀ x ∈ l, ∃ z : Int, x * (m : Int) = z ∧ z.natAbs ≤ D ^ (l.length + 1)
 | [], _ => ⟨1, by omega, Nat.pow_pos hD, fun x hx => by cases hx⟩
 | x :: l, h => by
  obtain ⟨m, h0, h1, h2⟩ := one_den D hD l (fun y hy => h y (List.mem_cons_of_mem _ hy))
  obtain ⟨hn, hd⟩ := h x (List.mem_cons_self ..)
  have hx : x * ((x.den : Int) : Rat) = (x.num : Rat) := by
   have h1 := Rat.num_divInt_den x
   rw [Rat.divInt_eq_div] at h1
   have h2 := castZ (z := (x.den : Int)) (by have := x.den_pos; omega)
   grind
  have hp : D ^ ((x :: l).length + 1) = D ^ (l.length + 1) * D := by rw [List.length_cons, Nat.pow_succ]
  have e2 : (((x.den * m : Nat) : Int) : Rat) = ((x.den : Int) : Rat) * ((m : Int) : Rat) := by simp
  refine ⟨x.den * m, Nat.mul_pos x.den_pos h0, ?_, fun y hy => ?_⟩
  ·rw [hp, Nat.mul_comm]; exact Nat.mul_le_mul h1 (by omega)
  ·rcases List.mem_cons.1 hy with rfl | hy
   ·refine ⟨y.num * m, ?_, ?_⟩
    ·have e1 : ((y.num * m : Int) : Rat) = (y.num : Rat) * ((m : Int) : Rat) := by simp
     rw [e1, e2]; grind
    ·rw [Int.natAbs_mul, Int.natAbs_natCast, hp, Nat.mul_comm]; exact Nat.mul_le_mul h1 (by omega)
   ·obtain ⟨z, a, b⟩ := h2 y hy
    refine ⟨z * x.den, ?_, ?_⟩
    ·have e1 : ((z * x.den : Int) : Rat) = (z : Rat) * ((x.den : Int) : Rat) := by simp
     rw [e1, e2]; grind
    ·rw [Int.natAbs_mul, Int.natAbs_natCast, hp]; exact Nat.mul_le_mul b (by omega)
structure Sys (wd : Nat) (rows : List (List Rat)) (bs : List Rat) : Prop where
 n6 : rows.length ≤ 6
 w6 : wd ≤ 6
 row : ∀ i, i < rows.length → (rows.getD i []).length = wd
 len : bs.length = rows.length
 small : ∀ i j, FracQ 12 (ent rows i j)
 smallB : ∀ i, FracQ 12 (bs.getD i 0)
theorem mem_getD {l : List Rat} {x : Rat} (h : x ∈ l) : ∃ j, l.getD j 0 = x := by
 obtain ⟨j, hj, e⟩ := List.mem_iff_getElem.1 h
 exact ⟨j, by simp [List.getD, hj, e]⟩
theorem getD_mem {l : List Rat} (j : Nat) (hj : j < l.length) : l.getD j 0 ∈ l := by
 simp [List.getD, hj]
theorem Sys.sb {wd : Nat} {rows : List (List Rat)} {bs : List Rat} (h : Sys wd rows bs) : SB 319 bs (rows, idRows rows.length) := by
 obtain ⟨N, hN⟩ : ∃ N, N = 319 := ⟨_, rfl⟩
 rw [← hN]
 have HNN := hide hN
 clear hN
 intro i hi
 replace hi : i < rows.length := hi
 have hF : ∀ {q : Rat}, FracQ 12 q → q.num.natAbs < 1000000000000 ∧ q.den < 1000000000000 := fun hq => ⟨by have := hq.1; omega, by have := hq.2; omega⟩
 obtain ⟨m, h0, h1, h2⟩ := one_den 1000000000000 (by omega) (rows.getD i [] ++ [bs.getD i 0]) (fun x hx => by
  rcases List.mem_append.1 hx with hx | hx
  ·obtain ⟨j, rfl⟩ := mem_getD hx; exact hF (h.small i j)
  ·rw [List.mem_singleton] at hx; subst hx; exact hF (h.smallB i))
 have hlen : (rows.getD i [] ++ [bs.getD i 0]).length + 1 ≤ 8 := by
  have := h.row i hi
  have := h.w6
  rw [List.length_append, List.length_singleton]; omega
 have hp := Nat.pow_le_pow_right (n := 1000000000000) (by omega) hlen
 have hq : 1000000000000 ^ 8 < 2 ^ N := by
  obtain ⟨a, b, ha, hb, hab⟩ : ∃ a b, a = 200 ∧ b = 119 ∧ N = a + b := ⟨200, 119, rfl, rfl, HNN.out⟩
  rw [hab, Nat.pow_add, ha, hb]
  decide +kernel
 refine ⟨m, h0, by omega, fun j => ?_⟩
 unfold ex
 split
 ·by_cases hj : j / 3 < (rows.getD i []).length
  ·obtain ⟨z, a, b⟩ := h2 _ (List.mem_append_left _ (getD_mem (j / 3) hj))
   exact ⟨z, a, by omega⟩
  ·refine ⟨0, ?_, by rw [Int.natAbs_zero]; exact Nat.pow_pos (by omega)⟩
   have : ent rows i (j / 3) = 0 := by unfold ent; simp only [List.getD_eq_getElem?_getD] at hj ⊢; rw [List.getElem?_eq_none (by omega)]; rfl
   show ent rows i (j / 3) * _ = _
   rw [this]; grind
 ·split
  ·show ∃ z : Int, ent (idRows rows.length) i (j / 3) * _ = _ ∧ _
   rw [ent_id _ _ _ hi]
   by_cases hk : i = j / 3
   ·rw [if_pos hk]; exact ⟨m, by grind, by rw [Int.natAbs_natCast]; omega⟩
   ·rw [if_neg hk]; exact ⟨0, by grind, by rw [Int.natAbs_zero]; exact Nat.pow_pos (by omega)⟩
  ·show ∃ z : Int, dotL ((idRows rows.length).getD i []) bs * _ = _ ∧ _
   rw [dotL_one _ _ _ hi]
   obtain ⟨z, a, b⟩ := h2 _ (List.mem_append_right _ (List.mem_singleton.2 rfl))
   exact ⟨z, a, by omega⟩
theorem Sys.width {wd : Nat} {rows : List (List Rat)} {bs : List Rat} (h : Sys wd rows bs) (h0 : 0 < rows.length) : (rows.getD 0 []).length = wd := h.row 0 h0
theorem Sys.solS_eq {wd : Nat} {rows : List (List Rat)} {bs : List Rat} (h : Sys wd rows bs) (h0 : 0 < rows.length) : solS rows = echN wd (rows, idRows rows.length) := by
 unfold solS; rw [h.width h0]
theorem bitsN_le (k : Nat) (hk : k ≤ 6) : bitsN 319 k ≤ 20479 := Nat.le_trans (bitsN_mono 319 hk) (by decide)
theorem Sys.sbK {wd : Nat} {rows : List (List Rat)} {bs : List Rat} (h : Sys wd rows bs) (k : Nat) (hk : k ≤ 6) : SB 20479 bs (echN k (rows, idRows rows.length)).1 :=
 (sb_ech bs (rect_id h.row) h.sb k).more (bitsN_le k hk)
theorem dotN_fit {ps ss : List Rat} {a b : Nat} (h1 : ∀ i, FitQ a (ps.getD i 0)) (h2 : ∀ i, FitQ b (ss.getD i 0)) : ∀ k, FitQ (k * (a + b + 1)) (dotN ps ss k)
 | 0 => fit_zero _
 | k + 1 => by
  rw [dotN]
  exact ((dotN_fit h1 h2 k).addA ((h1 k).mulA (h2 k))).more (by rw [Nat.succ_mul]; omega)
theorem FracQ.fit2 {q : Rat} (h : FracQ 12 q) : FitQ 2 q := h.fit
theorem Sys.fit {wd : Nat} {rows : List (List Rat)} {bs : List Rat} (h : Sys wd rows bs) (h0 : 0 < rows.length) : SolveFit 4000 rows bs := by
 have hk := h.sbK wd h.w6
 have hl : (echN wd (rows, idRows rows.length)).1.1.length = rows.length := echN_length _ _
 have hrk := rect_echN wd (rect_id h.row)
 refine ⟨?_, ?_, ?_⟩
 ·rw [h.width h0]
  exact ech_fitB bs (rect_id h.row) h.sb (Nat.le_trans (bitsN_le wd h.w6) (by omega))
 ·intro i hi k hk2
  rw [h.solS_eq h0]
  have hn := h.n6
  have := dotN_fit (a := 640) (b := 2) (ps := (echN wd (rows, idRows rows.length)).1.2.getD i []) (ss := bs) (fun j => (hk.fit (L := 640) hrk.len (by omega) i j).2) (fun j => (h.smallB j).fit2) k
  refine this.more ?_
  have : k * (640 + 2 + 1) ≤ 6 * (640 + 2 + 1) := Nat.mul_le_mul_right _ (by omega)
  omega
 ·intro i hi j hne
  rw [h.solS_eq h0] at hne ⊢
  have hv := (hk i (by rw [hl]; exact hi)).div 2 (by rw [ex_dot]; exact hne)
  have := hv.fit (L := 640) (by omega) (3 * j + 1)
  rw [ex_done, ex_dot] at this
  exact this.more (by omega)
def deniesQ (wd : Nat) (rows : List (List Rat)) (bs d : List Rat) : Prop := d.length = rows.length ∧ (∀ j, j < wd → sumN (fun t => d.getD t 0 * ent rows t j) rows.length = 0) ∧ dotL d bs = 1
theorem denial_denies {wd : Nat} {rows : List (List Rat)} {bs : List Rat} (hrow : ∀ i, i < rows.length → (rows.getD i []).length = wd) (k : Nat) (hk : k < rows.length)
  (hr : (echN wd (rows, idRows rows.length)).2.length ≤ k) (hne : dotL ((echN wd (rows, idRows rows.length)).1.2.getD k []) bs ≠ 0) :
  deniesQ wd rows bs (divL ((echN wd (rows, idRows rows.length)).1.2.getD k []) (dotL ((echN wd (rows, idRows rows.length)).1.2.getD k []) bs)) := by
 have hl : (echN wd (rows, idRows rows.length)).1.1.length = rows.length := echN_length _ _
 have hrk := rect_echN wd (rect_id hrow)
 refine ⟨?_, fun j hj => ?_, ?_⟩
 ·rw [divL_length, hrk.done k (by rw [hl]; exact hk), hl]
 ·have hc := comb_ech hrow wd k j hk
  rw [(echI (rect_id hrow) wd).low k j hr (by rw [hl]; exact hk) hj] at hc
  rw [show (fun t => (divL ((echN wd (rows, idRows rows.length)).1.2.getD k []) (dotL ((echN wd (rows, idRows rows.length)).1.2.getD k []) bs)).getD t 0 * ent rows t j) = (fun t => (ent (echN wd (rows, idRows rows.length)).1.2 k t * ent rows t j) / dotL ((echN wd (rows, idRows rows.length)).1.2.getD k []) bs) from by
   funext t; rw [divL_getA]; unfold ent; grind, sumN_div, hc]
  grind
 ·rw [dotL_div]; grind
theorem cols_all {wd : Nat} {rows : List (List Rat)} (hrow : ∀ i, i < rows.length → (rows.getD i []).length = wd) (hall : (echN wd (rows, idRows rows.length)).2.length = wd) : ∀ r, r < wd → (echN wd (rows, idRows rows.length)).2.getD r 0 = r := by
 have hI := echI (rect_id hrow) wd
 have hge : ∀ r, r < wd → r ≤ (echN wd (rows, idRows rows.length)).2.getD r 0 := by
  intro r
  induction r with
  | zero => intro _; omega
  | succ r ih => intro hr; have := hI.mono r (r + 1) (by omega) (by omega); have := ih (by omega); omega
 have hle : ∀ t, t < wd → (echN wd (rows, idRows rows.length)).2.getD (wd - 1 - t) 0 ≤ wd - 1 - t := by
  intro t
  induction t with
  | zero => intro h; have := hI.lt (wd - 1 - 0) (by omega); omega
  | succ t ih => intro h; have := hI.mono (wd - 1 - (t + 1)) (wd - 1 - t) (by omega) (by omega); have := ih (by omega); omega
 intro r hr
 have a := hge r hr
 have b := hle (wd - 1 - r) (by omega)
 rw [show wd - 1 - (wd - 1 - r) = r by omega] at b
 omega
end Go.Proofs.YthnnbpnocefmgaaGreat
