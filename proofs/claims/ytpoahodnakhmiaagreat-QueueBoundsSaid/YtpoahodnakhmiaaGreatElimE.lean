/- Walks: a denial of a system. The small system that the laws ask of; no program in sight. Rows of two fractions, written out. Elimination, without memory: what each step makes of a row, beside what makes it and its product with a list; sizes. -/
import Derived.Test.YtpoahodnakhmiaaGreatSolved
import Derived.Test.YtpoahodnakhmiaaGreatCalc2
namespace Go.Proofs.YtpoahodnakhmiaaGreat
set_option linter.unusedVariables false
set_option linter.unusedSimpArgs false
open Go.RowKit
def denied (rows : List (List Rat)) (bs : List Rat) : Prop := denyK (solS rows).1.2 bs rows.length (solS rows).2.length < rows.length
end Go.Proofs.YtpoahodnakhmiaaGreat
namespace Go.Proofs.YtpoahodnakhmiaaGreat
set_option linter.unusedVariables false
set_option linter.unusedSimpArgs false
theorem fit_zero (L : Nat) : FitQ L 0 := by
  have h : (0 : Int) < 4294967296 ^ L := Int.pow_pos (by omega)
  exact ⟨h, by have : ((0 : Rat).den : Int) = 1 := rfl; omega⟩
end Go.Proofs.YtpoahodnakhmiaaGreat
namespace Go.Proofs.YtpoahodnakhmiaaGreat
set_option linter.unusedVariables false
set_option linter.unusedSimpArgs false
open Go.RowKit
end Go.Proofs.YtpoahodnakhmiaaGreat
namespace Go.Proofs.YtpoahodnakhmiaaGreat
set_option linter.unusedVariables false
set_option linter.unusedSimpArgs false
theorem divL_getA (qs : List Rat) (q : Rat) (i : Nat) : (divL qs q).getD i 0 = qs.getD i 0 / q := by
  by_cases h : i < qs.length
  · exact divL_get _ _ _ h
  · simp [List.getD, divL, h]; grind
theorem takeL_getA (qs : List Rat) (q : Rat) (fs : List Rat) (i : Nat) (hl : fs.length ≤ qs.length) : (takeL qs q fs).getD i 0 = qs.getD i 0 - q * fs.getD i 0 := by
  by_cases h : i < qs.length
  · exact takeL_get _ _ _ _ h
  · simp [List.getD, takeL, h, show ¬ i < fs.length by omega]; grind
theorem dotN_div (ps : List Rat) (q : Rat) (bs : List Rat) : ∀ k, dotN (divL ps q) bs k = dotN ps bs k / q
  | 0 => by simp only [dotN]; grind
  | k + 1 => by rw [dotN, dotN, dotN_div, divL_getA]; grind
theorem dotN_take (ps : List Rat) (q : Rat) (fs bs : List Rat) (hl : fs.length ≤ ps.length) : ∀ k, dotN (takeL ps q fs) bs k = dotN ps bs k - q * dotN fs bs k
  | 0 => by simp only [dotN]; grind
  | k + 1 => by rw [dotN, dotN, dotN, dotN_take _ _ _ _ hl, takeL_getA _ _ _ _ hl]; grind
theorem dotL_div (ps : List Rat) (q : Rat) (bs : List Rat) : dotL (divL ps q) bs = dotL ps bs / q := by
  unfold dotL; rw [divL_length, dotN_div]
theorem dotL_take (ps : List Rat) (q : Rat) (fs bs : List Rat) (hl : fs.length = ps.length) : dotL (takeL ps q fs) bs = dotL ps bs - q * dotL fs bs := by
  unfold dotL; rw [takeL_length, dotN_take _ _ _ _ (by omega), hl]
/-- the numbers of a row, of what makes it, and the product of that with a list, in one count -/
def ex (bs : List Rat) (S : St) (i j : Nat) : Rat :=
  if j % 3 = 0 then ent S.1 i (j / 3) else if j % 3 = 1 then ent S.2 i (j / 3) else dotL (S.2.getD i []) bs
theorem ex_row (bs : List Rat) (S : St) (i j : Nat) : ex bs S i (3 * j) = ent S.1 i j := by
  unfold ex; rw [if_pos (by omega), show 3 * j / 3 = j by omega]
theorem ex_done (bs : List Rat) (S : St) (i j : Nat) : ex bs S i (3 * j + 1) = ent S.2 i j := by
  unfold ex; rw [if_neg (by omega), if_pos (by omega), show (3 * j + 1) / 3 = j by omega]
theorem ex_dot (bs : List Rat) (S : St) (i : Nat) : ex bs S i 2 = dotL (S.2.getD i []) bs := by
  unfold ex; rw [if_neg (by omega), if_neg (by omega)]
theorem ex_of (bs : List Rat) (S S' : St) (i i' j : Nat) (h1 : S'.1.getD i [] = S.1.getD i' []) (h2 : S'.2.getD i [] = S.2.getD i' []) : ex bs S' i j = ex bs S i' j := by
  unfold ex ent; rw [h1, h2]
theorem ex_swap (bs : List Rat) (a k : Nat) (S : St) (hl : S.2.length = S.1.length) (i j : Nat) (hi : i < S.1.length) : ex bs (swapS a k S) i j = ex bs S (sw a k i) j :=
  ex_of _ _ _ _ _ _ (by unfold swapS; exact swapL_get _ _ _ _ _ hi) (by unfold swapS; exact swapL_get _ _ _ _ _ (by omega))
theorem ex_set (bs : List Rat) (a : Nat) (r d : List Rat) (S : St) (hl : S.2.length = S.1.length) (ha : a < S.1.length) (i j : Nat) (hn : i ≠ a) : ex bs (S.1.set a r, S.2.set a d) i j = ex bs S i j :=
  ex_of _ _ _ _ _ _ (by show (S.1.set a r).getD i [] = _; rw [getD_set _ _ _ _ _ ha, if_neg (by omega)]) (by show (S.2.set a d).getD i [] = _; rw [getD_set _ _ _ _ _ (by omega), if_neg (by omega)])
theorem ex_div (bs : List Rat) (a col : Nat) (S : St) (hl : S.2.length = S.1.length) (ha : a < S.1.length) (i j : Nat) : ex bs (divS a col S) i j = if i = a then ex bs S a j / ent S.1 a col else ex bs S i j := by
  by_cases e : i = a
  · subst e
    rw [if_pos rfl]
    have h1 : (divS i col S).1.getD i [] = divL (S.1.getD i []) (ent S.1 i col) := by unfold divS; rw [getD_set _ _ _ _ _ ha, if_pos rfl]
    have h2 : (divS i col S).2.getD i [] = divL (S.2.getD i []) (ent S.1 i col) := by unfold divS; rw [getD_set _ _ _ _ _ (by omega), if_pos rfl]
    unfold ex
    split
    · unfold ent; rw [h1, divL_getA]; rfl
    · split
      · unfold ent; rw [h2, divL_getA]; rfl
      · rw [h2, dotL_div]
  · rw [if_neg e]
    unfold divS
    exact ex_set _ _ _ _ _ hl ha _ _ e
theorem ex_take (bs : List Rat) (S S' : St) (i a j : Nat) (c : Rat) (h1 : S'.1.getD i [] = takeL (S.1.getD i []) c (S.1.getD a [])) (h2 : S'.2.getD i [] = takeL (S.2.getD i []) c (S.2.getD a []))
    (l1 : (S.1.getD a []).length = (S.1.getD i []).length) (l2 : (S.2.getD a []).length = (S.2.getD i []).length) : ex bs S' i j = ex bs S i j - c * ex bs S a j := by
  unfold ex ent
  rw [h1, h2]
  split
  · rw [takeL_getA _ _ _ _ (by omega)]
  · split
    · rw [takeL_getA _ _ _ _ (by omega)]
    · rw [dotL_take _ _ _ _ (by omega)]
theorem ex_clear (bs : List Rat) (wd a col k : Nat) (S : St) (hr : Rect wd S) (ha : a < S.1.length) (hk : k < S.1.length) (i j : Nat) :
    ex bs (clearS a col k S) i j = if i = k ∧ i ≠ a then ex bs S i j - ent S.1 i col * ex bs S a j else ex bs S i j := by
  have hl := hr.len
  unfold clearS
  by_cases e : k = a
  · rw [if_pos (Or.inl e), if_neg (by omega)]
  · by_cases e0 : ent S.1 k col = 0
    · rw [if_pos (Or.inr e0)]
      by_cases ei : i = k
      · subst ei; rw [if_pos ⟨rfl, e⟩, e0]; grind
      · rw [if_neg (fun h => ei h.1)]
    · rw [if_neg (fun h => h.elim e e0)]
      by_cases ei : i = k
      · subst ei
        rw [if_pos ⟨rfl, e⟩]
        have h1 : ((S.1.set i (takeL (S.1.getD i []) (ent S.1 i col) (S.1.getD a [])), S.2.set i (takeL (S.2.getD i []) (ent S.1 i col) (S.2.getD a []))) : St).1.getD i [] = takeL (S.1.getD i []) (ent S.1 i col) (S.1.getD a []) := by
          show (S.1.set i _).getD i [] = _; rw [getD_set _ _ _ _ _ hk, if_pos rfl]
        have h2 : ((S.1.set i (takeL (S.1.getD i []) (ent S.1 i col) (S.1.getD a [])), S.2.set i (takeL (S.2.getD i []) (ent S.1 i col) (S.2.getD a []))) : St).2.getD i [] = takeL (S.2.getD i []) (ent S.1 i col) (S.2.getD a []) := by
          show (S.2.set i _).getD i [] = _; rw [getD_set _ _ _ _ _ (by omega), if_pos rfl]
        have l1 := hr.row i hk
        have l2 := hr.row a ha
        have l3 := hr.done i hk
        have l4 := hr.done a ha
        exact ex_take bs S _ i a j _ h1 h2 (by omega) (by omega)
      · rw [if_neg (fun h => ei h.1)]
        exact ex_set _ _ _ _ _ hl hk _ _ ei
theorem ex_clearN (bs : List Rat) (wd a col : Nat) (S : St) (hr : Rect wd S) (ha : a < S.1.length) : ∀ (k : Nat), k ≤ S.1.length → ∀ i j,
    ex bs (clearN a col k S) i j = if i < k ∧ i ≠ a then ex bs S i j - ent S.1 i col * ex bs S a j else ex bs S i j := by
  intro k
  induction k with
  | zero => intro _ i j; rw [clearN, if_neg (by omega)]
  | succ k ih =>
    intro hk i j
    have ih := ih (by omega)
    have hlen := clearN_length a col k S
    rw [clearN, ex_clear bs wd a col k _ (rect_clearN k hr (by omega)) (by omega) (by omega)]
    by_cases e : i = k ∧ i ≠ a
    · rw [if_pos e, if_pos ⟨by omega, e.2⟩, ih, if_neg (by omega), ← ex_row bs, ih, if_neg (by omega), ex_row, ih, if_neg (by omega)]
    · rw [if_neg e, ih]
      by_cases e2 : i < k ∧ i ≠ a
      · rw [if_pos e2, if_pos ⟨by omega, e2.2⟩]
      · rw [if_neg e2, if_neg (by omega)]
/-- a row of numbers with one denominator, of at most n bits -/
def VB (n : Nat) (f : Nat → Rat) : Prop := ∃ m : Nat, 0 < m ∧ m < 2 ^ n ∧ ∀ j, ∃ z : Int, f j * (m : Int) = z ∧ z.natAbs < 2 ^ n
theorem VB.more {n n' : Nat} {f : Nat → Rat} (h : VB n f) (hn : n ≤ n') : VB n' f := by
  obtain ⟨m, h0, h1, h2⟩ := h
  have := Nat.pow_le_pow_right (n := 2) (by omega) hn
  refine ⟨m, h0, by omega, fun j => ?_⟩
  obtain ⟨z, a, b⟩ := h2 j
  exact ⟨z, a, by omega⟩
theorem castZ {z : Int} (h : z ≠ 0) : (z : Rat) ≠ 0 := by exact_mod_cast h
theorem VB.div {n : Nat} {f : Nat → Rat} (h : VB n f) (c : Nat) (hc : f c ≠ 0) : VB n (fun j => f j / f c) := by
  obtain ⟨m, h0, h1, h2⟩ := h
  obtain ⟨z, a, b⟩ := h2 c
  have hm := castZ (z := (m : Int)) (by omega)
  have hz : z ≠ 0 := by
    intro e; subst e
    have : f c * (m : Int) = 0 := by rw [a]; rfl
    rcases Rat.mul_eq_zero.1 this with h | h
    · exact hc h
    · exact hm h
  have hz2 := castZ hz
  refine ⟨z.natAbs, by omega, b, fun j => ?_⟩
  obtain ⟨y, a2, b2⟩ := h2 j
  by_cases hp : 0 < z
  · refine ⟨y, ?_, b2⟩
    rw [Int.natAbs_of_nonneg (by omega)]
    grind
  · refine ⟨-y, ?_, by omega⟩
    rw [show (z.natAbs : Int) = -z by omega]
    have e1 : ((-z : Int) : Rat) = -(z : Rat) := by simp
    have e2 : ((-y : Int) : Rat) = -(y : Rat) := by simp
    rw [e1, e2]
    grind
theorem VB.take {n : Nat} {f g : Nat → Rat} (hf : VB n f) (hg : VB n g) (c : Nat) : VB (2 * n + 1) (fun j => f j - f c * g j) := by
  obtain ⟨m, h0, h1, h2⟩ := hf
  obtain ⟨p, k0, k1, k2⟩ := hg
  obtain ⟨zc, ac, bc⟩ := h2 c
  have e : 2 ^ (2 * n + 1) = 2 ^ n * 2 ^ n * 2 := by rw [Nat.pow_succ, ← Nat.pow_add]; congr 2; omega
  have hmp : m * p < 2 ^ n * 2 ^ n := Nat.mul_lt_mul'' h1 k1
  refine ⟨m * p, Nat.mul_pos h0 k0, by omega, fun j => ?_⟩
  obtain ⟨z, a, b⟩ := h2 j
  obtain ⟨y, a2, b2⟩ := k2 j
  refine ⟨z * p - zc * y, ?_, ?_⟩
  · have e1 : ((z * p - zc * y : Int) : Rat) = (z : Rat) * ((p : Int) : Rat) - (zc : Rat) * (y : Rat) := by simp
    have e2 : (((m * p : Nat) : Int) : Rat) = ((m : Int) : Rat) * ((p : Int) : Rat) := by simp
    rw [e1, e2]
    grind
  · have t := Int.natAbs_sub_le (z * p) (zc * y)
    rw [Int.natAbs_mul, Int.natAbs_mul, Int.natAbs_natCast] at t
    have t1 : z.natAbs * p < 2 ^ n * 2 ^ n := Nat.mul_lt_mul'' b k1
    have t2 : zc.natAbs * y.natAbs < 2 ^ n * 2 ^ n := Nat.mul_lt_mul'' bc b2
    omega
theorem VB.fit {n L : Nat} {f : Nat → Rat} (h : VB n f) (hL : n ≤ 32 * L) (j : Nat) : FitQ L (f j) := by
  obtain ⟨m, h0, h1, h2⟩ := h
  obtain ⟨z, a, b⟩ := h2 j
  have hm := castZ (z := (m : Int)) (by omega)
  have e : f j = Rat.divInt z m := by
    rw [Rat.divInt_eq_div]
    grind
  have h3 : (4294967296 : Int) ^ L = 2 ^ (32 * L) := by rw [Int.pow_mul]; rfl
  have h4 := Nat.pow_le_pow_right (n := 2) (by omega) hL
  have h5 : ((2 : Int) ^ (32 * L)) = ((2 ^ (32 * L) : Nat) : Int) := by simp
  rw [e]
  exact fit_divInt (by omega) (by rw [h3, h5]; omega) (by rw [h3, h5]; omega)
/-- the row that a column's step takes up, and where it goes -/
abbrev pivK (col : Nat) (T : St × List Nat) : Nat := findK T.1.1 col T.1.1.length T.2.length
theorem piv_facts {wd col : Nat} {T : St × List Nat} (hr : Rect wd T.1) (ho : T.2.length ≤ T.1.1.length) (hp : pivK col T ≠ T.1.1.length) :
    pivK col T < T.1.1.length ∧ T.2.length ≤ pivK col T ∧ ent T.1.1 (pivK col T) col ≠ 0 := by
  obtain ⟨h1, h2⟩ := findK_range T.1.1 col T.1.1.length T.2.length ho
  have h3 : pivK col T < T.1.1.length := by unfold pivK at hp ⊢; omega
  exact ⟨h3, h1, findK_nz _ _ _ _ (by omega) h3⟩
theorem sw_left (a p : Nat) : sw a p a = p := by unfold sw; split <;> simp_all
theorem sw_other {a p i : Nat} (h1 : i ≠ a) (h2 : i ≠ p) : sw a p i = i := by unfold sw; rw [if_neg h2, if_neg h1]
theorem sw_sw (a p i : Nat) : sw a p (sw a p i) = i := by unfold sw; repeat' split
                                                          all_goals omega
theorem sw_low {a p i : Nat} (h : a ≤ p) (hi : i < a) : sw a p i = i := sw_other (by omega) (by omega)
theorem sw_high {a p i : Nat} (h : a ≤ p) (hi : a ≤ i) : a ≤ sw a p i := by unfold sw; split <;> (try split) <;> omega
theorem ex_colN (bs : List Rat) {wd col : Nat} {T : St × List Nat} (hr : Rect wd T.1) (ho : T.2.length ≤ T.1.1.length) (hp : pivK col T ≠ T.1.1.length) (k : Nat) (hk : k ≤ T.1.1.length) (i j : Nat) (hi : i < T.1.1.length) :
    ex bs (clearN T.2.length col k (divS T.2.length col (swapS T.2.length (pivK col T) T.1))) i j =
      if i = T.2.length then ex bs T.1 (pivK col T) j / ent T.1.1 (pivK col T) col
      else if i < k then ex bs T.1 (sw T.2.length (pivK col T) i) j - ent T.1.1 (sw T.2.length (pivK col T) i) col * (ex bs T.1 (pivK col T) j / ent T.1.1 (pivK col T) col)
      else ex bs T.1 (sw T.2.length (pivK col T) i) j := by
  obtain ⟨h1, h2, h3⟩ := piv_facts hr ho hp
  have ha : T.2.length < T.1.1.length := by omega
  have r1 := rect_swap hr ha h1
  have l1 := swapS_length T.2.length (pivK col T) T.1
  have l2 := divS_length T.2.length col (swapS T.2.length (pivK col T) T.1)
  have r2 := rect_div (a := T.2.length) (col := col) r1 (by omega)
  have e1 : ∀ i j, i < T.1.1.length → ex bs (swapS T.2.length (pivK col T) T.1) i j = ex bs T.1 (sw T.2.length (pivK col T) i) j := fun i j h => ex_swap bs _ _ _ hr.len i j h
  have e2 : ent (swapS T.2.length (pivK col T) T.1).1 T.2.length col = ent T.1.1 (pivK col T) col := by
    rw [← ex_row bs, e1 _ _ ha, sw_left, ex_row]
  have e3 : ∀ i j, i < T.1.1.length → ex bs (divS T.2.length col (swapS T.2.length (pivK col T) T.1)) i j = if i = T.2.length then ex bs T.1 (pivK col T) j / ent T.1.1 (pivK col T) col else ex bs T.1 (sw T.2.length (pivK col T) i) j := by
    intro i j hi
    rw [ex_div bs _ _ _ r1.len (by omega), e2, e1 _ _ ha, sw_left]
    by_cases e : i = T.2.length
    · rw [if_pos e, if_pos e]
    · rw [if_neg e, if_neg e, e1 _ _ hi]
  rw [ex_clearN bs wd _ _ _ r2 (by omega) k (by omega), e3 _ _ ha, if_pos rfl, e3 _ _ hi]
  have e4 := e3 i (3 * col) hi
  rw [ex_row, ex_row, ex_row] at e4
  rw [e4]
  by_cases e : i = T.2.length
  · rw [if_neg (by omega), if_pos e, if_pos e]
  · rw [if_neg e, if_neg e, if_neg e]
    by_cases ek : i < k
    · rw [if_pos ⟨ek, e⟩, if_pos ek]
    · rw [if_neg (by omega), if_neg ek]
/-- every row of numbers has one denominator -/
def SB (n : Nat) (bs : List Rat) (S : St) : Prop := ∀ i, i < S.1.length → VB n (ex bs S i)
theorem SB.more {n n' : Nat} {bs : List Rat} {S : St} (h : SB n bs S) (hn : n ≤ n') : SB n' bs S := fun i hi => (h i hi).more hn
theorem SB.fit {n L : Nat} {bs : List Rat} {S : St} (h : SB n bs S) (hl : S.2.length = S.1.length) (hL : n ≤ 32 * L) : FitS L S := by
  intro i j
  by_cases hi : i < S.1.length
  · exact ⟨by have := (h i hi).fit hL (3 * j); rwa [ex_row] at this, by have := (h i hi).fit hL (3 * j + 1); rwa [ex_done] at this⟩
  · have e1 : ent S.1 i j = 0 := by unfold ent; simp [List.getD, hi]
    have e2 : ent S.2 i j = 0 := by unfold ent; simp [List.getD, show ¬ i < S.2.length by omega]
    rw [e1, e2]; exact ⟨fit_zero L, fit_zero L⟩
theorem VB.of {n : Nat} {f g : Nat → Rat} (h : VB n f) (e : ∀ j, g j = f j) : VB n g := by
  rw [show g = f from funext e]; exact h
theorem sb_colN (bs : List Rat) {wd col n : Nat} {T : St × List Nat} (hr : Rect wd T.1) (ho : T.2.length ≤ T.1.1.length) (hp : pivK col T ≠ T.1.1.length) (h : SB n bs T.1) (k : Nat) (hk : k ≤ T.1.1.length) :
    SB (2 * n + 1) bs (clearN T.2.length col k (divS T.2.length col (swapS T.2.length (pivK col T) T.1))) := by
  obtain ⟨h1, h2, h3⟩ := piv_facts hr ho hp
  intro i hi
  rw [clearN_length, divS_length, swapS_length] at hi
  have hv := (h _ h1).div (3 * col) (by rw [ex_row]; exact h3)
  have hs := h _ (sw_lt (i := T.2.length) (k := pivK col T) (by omega) h1 hi)
  by_cases e : i = T.2.length
  · refine (hv.more (by omega)).of fun j => ?_
    rw [ex_colN bs hr ho hp k hk i j hi, if_pos e, ex_row]
  · by_cases ek : i < k
    · refine (hs.take hv (3 * col)).of fun j => ?_
      rw [ex_colN bs hr ho hp k hk i j hi, if_neg e, if_pos ek, ex_row, ex_row]
    · refine (hs.more (by omega)).of fun j => ?_
      rw [ex_colN bs hr ho hp k hk i j hi, if_neg e, if_neg ek]
theorem sb_col (bs : List Rat) {wd col n : Nat} {T : St × List Nat} (hr : Rect wd T.1) (ho : T.2.length ≤ T.1.1.length) (h : SB n bs T.1) : SB (2 * n + 1) bs (colS col T).1 := by
  by_cases hp : pivK col T = T.1.1.length
  · rw [colS_same hp]; exact h.more (by omega)
  · rw [colS_step hp]; exact sb_colN bs hr ho hp h _ (Nat.le_refl _)
/-- how many bits there are after some columns -/
def bitsN (n : Nat) : Nat → Nat
  | 0 => n
  | k + 1 => 2 * bitsN n k + 1
theorem bitsN_mono (n : Nat) {k k' : Nat} (h : k ≤ k') : bitsN n k ≤ bitsN n k' := by
  induction k' with
  | zero => obtain rfl : k = 0 := by omega
            exact Nat.le_refl _
  | succ m ih =>
    by_cases e : k = m + 1
    · subst e; exact Nat.le_refl _
    · have := ih (by omega); rw [bitsN]; omega
theorem sb_ech (bs : List Rat) {wd n : Nat} {S : St} (hr : Rect wd S) (h : SB n bs S) : ∀ k, SB (bitsN n k) bs (echN k S).1
  | 0 => h
  | k + 1 => by rw [echN]; exact sb_col bs (rect_echN k hr) (by rw [echN_length]; exact echN_out k S) (sb_ech bs hr h k)
theorem ech_fitB (bs : List Rat) {wd n L cols : Nat} {S : St} (hr : Rect wd S) (h : SB n bs S) (hL : bitsN n cols ≤ 32 * L) : EchFit L cols S := by
  intro k hk i hi hne
  have hlen := echN_length k S
  have hrk := rect_echN k hr
  have ho : (echN k S).2.length ≤ (echN k S).1.1.length := by rw [hlen]; exact echN_out k S
  rw [← hlen] at hi hne
  have hb := sb_colN bs (col := k) hrk ho hne (sb_ech bs hr h k) i hi
  obtain ⟨h1, h2, h3⟩ := piv_facts hrk ho hne
  have hm := bitsN_mono n (show k + 1 ≤ cols by omega)
  rw [← hlen]
  refine hb.fit ?_ (by have e : bitsN n (k + 1) = 2 * bitsN n k + 1 := rfl; omega)
  refine (rect_clearN i (rect_div (rect_swap hrk (by omega) h1) ?_) ?_).len
  · rw [swapS_length]; omega
  · rw [divS_length, swapS_length]; exact hi
end Go.Proofs.YtpoahodnakhmiaaGreat
