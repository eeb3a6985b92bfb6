/- Shops without memory: stations on a ring; the visits are the only solution of their equations, and positive. -/
import Derived.Test.YtpoahodnakhmiaaGreatSieg
import Derived.Test.YtpoahodnakhmiaaGreatQTry
namespace Go.Proofs.YtpoahodnakhmiaaGreat
set_option linter.unusedVariables false
set_option linter.unusedSimpArgs false
def absQ (x : Rat) : Rat := if 0 ≤ x then x else -x
theorem absQ_add (x y : Rat) : absQ (x + y) ≤ absQ x + absQ y := by unfold absQ; grind
theorem absQ_nn (x : Rat) : 0 ≤ absQ x := by unfold absQ; grind
theorem absQ_zero {x : Rat} (h : absQ x = 0) : x = 0 := by unfold absQ at h; grind
theorem absQ_mul (x y : Rat) (hy : 0 ≤ y) : absQ (x * y) = absQ x * y := by
  unfold absQ
  by_cases hx : 0 ≤ x
  · rw [if_pos hx, if_pos (Rat.mul_nonneg hx hy)]
  · rw [if_neg hx]
    by_cases h : 0 ≤ x * y
    · rw [if_pos h]
      have := Rat.mul_nonneg (a := -x) (b := y) (by grind) hy
      grind
    · rw [if_neg h]; grind
theorem sumN_nn {f : Nat → Rat} : ∀ n, (∀ k, k < n → 0 ≤ f k) → 0 ≤ sumN f n
  | 0, _ => by simp [sumN]
  | n + 1, h => by
    have h1 := sumN_nn n (fun k hk => h k (by omega))
    have h2 := h n (by omega)
    rw [sumN]; grind
theorem sumN_abs (f : Nat → Rat) : ∀ n, absQ (sumN f n) ≤ sumN (fun k => absQ (f k)) n
  | 0 => by simp [sumN, absQ]
  | n + 1 => by
    have h1 := sumN_abs f n
    have h2 := absQ_add (sumN f n) (f n)
    rw [sumN, sumN]; grind
theorem sumN_swap (f : Nat → Nat → Rat) (n : Nat) : ∀ m, sumN (fun j => sumN (fun i => f i j) n) m = sumN (fun i => sumN (fun j => f i j) m) n
  | 0 => by simp only [sumN]; rw [sumN_zero n (fun _ _ => rfl)]
  | m + 1 => by
    simp only [sumN]
    rw [sumN_swap f n m, ← sumN_add]
theorem sumN_all {f : Nat → Rat} : ∀ n, (∀ k, k < n → 0 ≤ f k) → sumN f n = 0 → ∀ k, k < n → f k = 0
  | 0, _, _, k, hk => by omega
  | n + 1, h, e, k, hk => by
    have h1 := sumN_nn n (fun k hk => h k (by omega))
    have h2 := h n (by omega)
    rw [sumN] at e
    by_cases ek : k = n
    · subst ek; grind
    · exact sumN_all n (fun k hk => h k (by omega)) (by grind) k (by omega)
/-- ways of n stations, each with one to the next -/
structure Ring (n : Nat) (W : Nat → Nat → Rat) : Prop where
  pos : 0 < n
  nn : ∀ i j, i < n → j < n → 0 ≤ W i j
  one : ∀ i, i < n → sumN (W i) n = 1
  next : ∀ i, i < n → 0 < W i ((i + 1) % n)
/-- what goes in goes out -/
def Inv (n : Nat) (W : Nat → Nat → Rat) (e : Nat → Rat) : Prop := ∀ j, j < n → e j = sumN (fun i => e i * W i j) n
theorem Ring.total {n : Nat} {W : Nat → Nat → Rat} (h : Ring n W) (e : Nat → Rat) : sumN (fun j => sumN (fun i => e i * W i j) n) n = sumN e n := by
  rw [sumN_swap]
  exact sumN_eq n fun i hi => by rw [sumN_mul (fun j => W i j) (e i), show sumN (fun j => W i j) n = 1 from h.one i hi]; grind
theorem Ring.close {n : Nat} {W : Nat → Nat → Rat} (h : Ring n W) {e : Nat → Rat} (he : ∀ j, 1 ≤ j → j < n → e j = sumN (fun i => e i * W i j) n) : Inv n W e := by
  intro j hj
  by_cases hj0 : 1 ≤ j
  · exact he j hj0 hj
  · obtain rfl : j = 0 := by omega
    have h1 := sumN_take e (fun j => sumN (fun i => e i * W i j) n) 1 n
    rw [h.total e, sumN_one n 0 hj (fun k hk hne => by show e k - 1 * sumN _ n = 0; rw [← he k (by omega) hk]; grind)] at h1
    show e 0 = sumN _ n
    grind
theorem Ring.abs {n : Nat} {W : Nat → Nat → Rat} (h : Ring n W) {e : Nat → Rat} (he : Inv n W e) : Inv n W (fun i => absQ (e i)) := by
  have h1 : ∀ j, j < n → absQ (e j) ≤ sumN (fun i => absQ (e i) * W i j) n := fun j hj => by
    have a := sumN_abs (fun i => e i * W i j) n
    rw [← he j hj, sumN_eq n (fun i hi => absQ_mul (e i) (W i j) (h.nn i j hi hj))] at a
    exact a
  have h2 := sumN_take (fun j => sumN (fun i => absQ (e i) * W i j) n) (fun j => absQ (e j)) 1 n
  rw [h.total (fun i => absQ (e i))] at h2
  have h3 := sumN_all (f := fun j => sumN (fun i => absQ (e i) * W i j) n - 1 * absQ (e j)) n (fun j hj => by have := h1 j hj; show 0 ≤ sumN (fun i => absQ (e i) * W i j) n - 1 * absQ (e j); grind) (by rw [h2]; grind)
  intro j hj
  have := h3 j hj
  show absQ (e j) = sumN _ n
  grind
theorem Inv.sub {n : Nat} {W : Nat → Nat → Rat} {e f : Nat → Rat} (he : Inv n W e) (hf : Inv n W f) (c : Rat) : Inv n W (fun i => e i - c * f i) := by
  intro j hj
  show e j - c * f j = sumN (fun i => (e i - c * f i) * W i j) n
  rw [he j hj, hf j hj, ← sumN_take]
  exact sumN_eq n fun i _ => by grind
/-- nothing comes to a station: nothing comes to that before it -/
theorem Ring.back {n : Nat} {W : Nat → Nat → Rat} (h : Ring n W) {e : Nat → Rat} (he : Inv n W e) (h0 : ∀ i, i < n → 0 ≤ e i) {i : Nat} (hi : i < n) (hz : e ((i + 1) % n) = 0) : e i = 0 := by
  have hj : (i + 1) % n < n := Nat.mod_lt _ h.pos
  have h1 := he _ hj
  rw [hz] at h1
  have h2 := sumN_all n (fun k hk => Rat.mul_nonneg (h0 k hk) (h.nn k _ hk hj)) h1.symm i hi
  have h3 := h.next i hi
  rcases Rat.mul_eq_zero.1 h2 with h4 | h4
  · exact h4
  · grind
theorem Ring.down {n : Nat} {W : Nat → Nat → Rat} (h : Ring n W) {e : Nat → Rat} (he : Inv n W e) (h0 : ∀ i, i < n → 0 ≤ e i) {i : Nat} (hi : i < n) (hz : e i = 0) : ∀ t, t ≤ i → e (i - t) = 0
  | 0, _ => hz
  | t + 1, ht => by
    have h1 := h.down he h0 hi hz t (by omega)
    exact h.back he h0 (by omega) (by rw [Nat.mod_eq_of_lt (by omega), show i - (t + 1) + 1 = i - t by omega]; exact h1)
theorem Ring.zero {n : Nat} {W : Nat → Nat → Rat} (h : Ring n W) {e : Nat → Rat} (he : Inv n W e) (hz : e 0 = 0) (i : Nat) (hi : i < n) : e i = 0 := by
  have ha := h.abs he
  have hp := h.pos
  have h0 : ∀ i, i < n → 0 ≤ absQ (e i) := fun i _ => absQ_nn _
  have h1 : absQ (e (n - 1)) = 0 := h.back (e := fun i => absQ (e i)) ha h0 (by omega) (by
    show absQ (e _) = 0
    rw [show n - 1 + 1 = n by omega, Nat.mod_self, hz]; rfl)
  have h2 := h.down (e := fun i => absQ (e i)) ha h0 (i := n - 1) (by omega) h1 (n - 1 - i) (by omega)
  rw [show n - 1 - (n - 1 - i) = i by omega] at h2
  exact absQ_zero h2
theorem Ring.positive {n : Nat} {W : Nat → Nat → Rat} (h : Ring n W) {e : Nat → Rat} (he : Inv n W e) (hz : e 0 = 1) (i : Nat) (hi : i < n) : 0 < e i := by
  have ha := h.abs he
  have h0 : ∀ i, i < n → 0 ≤ absQ (e i) := fun i _ => absQ_nn _
  have h1 := h.zero (ha.sub he 1) (by show absQ (e 0) - 1 * e 0 = 0; rw [hz]; decide +kernel) i hi
  have h2 := absQ_nn (e i)
  refine Classical.byContradiction fun hn => ?_
  have h3 : absQ (e i) = 0 := by grind
  have h4 := h.down (e := fun i => absQ (e i)) ha h0 hi h3 i (Nat.le_refl _)
  rw [Nat.sub_self] at h4
  replace h4 : absQ (e 0) = 0 := h4
  rw [hz] at h4
  revert h4
  decide +kernel
/-- a column without a row of its own gives a relation of the columns -/
theorem one_of_kernel {wd : Nat} {rows : List (List Rat)} {bs : List Rat} (h : Sys wd rows bs) (hl : rows.length = wd) (h0 : 0 < wd)
    (hk : ∀ x : Nat → Rat, (∀ i, i < wd → sumN (fun j => ent rows i j * x j) wd = 0) → ∀ j, j < wd → x j = 0) : oneS rows := by
  unfold oneS
  rw [h.solS_eq (by omega), h.row 0 (by omega)]
  have hI := echI (rect_id h.row) wd
  have hle := h.rank_le
  rw [h.solS_eq (by omega), h.row 0 (by omega)] at hle
  have hlen : (echN wd (rows, idRows rows.length)).1.1.length = rows.length := echN_length _ _
  refine Nat.le_antisymm hle (Nat.le_of_not_lt fun hlt => ?_)
  obtain ⟨T, hT⟩ : ∃ T, T = echN wd (rows, idRows rows.length) := ⟨_, rfl⟩
  rw [← hT] at hI hlt hlen hle
  -- a column without a row
  obtain ⟨c, hc, hout⟩ : ∃ c, c < wd ∧ ∀ r, r < T.2.length → T.2.getD r 0 ≠ c := by
    refine Classical.byContradiction fun hn => ?_
    have hall : ∀ c, c < wd → ∃ r, r < T.2.length ∧ T.2.getD r 0 = c := fun c hc => Classical.byContradiction fun h2 => hn ⟨c, hc, fun r hr e => h2 ⟨r, hr, e⟩⟩
    have hch : ∀ c, ∃ r, c < wd → r < T.2.length ∧ T.2.getD r 0 = c := fun c => by
      by_cases hc : c < wd
      · obtain ⟨r, a, b⟩ := hall c hc; exact ⟨r, fun _ => ⟨a, b⟩⟩
      · exact ⟨0, fun h => absurd h hc⟩
    have hf := Classical.skolem.1 hch
    obtain ⟨f, hf⟩ := hf
    obtain ⟨i, j, hij, hj, e⟩ := php (wd - 1) f (fun i hi => by have := (hf i (by omega)).1; omega)
    have a := (hf i (by omega)).2
    have b := (hf j (by omega)).2
    rw [e] at a
    omega
  -- the relation
  have hdec : ∀ j, ∃ x : Rat, (j = c → x = 1) ∧ (∀ r, r < T.2.length → T.2.getD r 0 = j → x = -ent T.1.1 r c) ∧ (j ≠ c → (∀ r, r < T.2.length → T.2.getD r 0 ≠ j) → x = 0) := fun j => by
    by_cases hjc : j = c
    · exact ⟨1, fun _ => rfl, fun r hr e => absurd (e.trans hjc) (hout r hr), fun h => absurd hjc h⟩
    · by_cases hr : ∃ r, r < T.2.length ∧ T.2.getD r 0 = j
      · obtain ⟨r, hr, e⟩ := hr
        refine ⟨-ent T.1.1 r c, fun h => absurd h hjc, fun s hs e2 => ?_, fun _ h => absurd e (h r hr)⟩
        by_cases hrs : r < s
        · have := hI.mono r s hrs hs; omega
        · by_cases hsr : s < r
          · have := hI.mono s r hsr hr; omega
          · rw [show s = r by omega]
      · exact ⟨0, fun h => absurd h hjc, fun s hs e2 => absurd ⟨s, hs, e2⟩ hr, fun _ _ => rfl⟩
  obtain ⟨x, hx⟩ := Classical.skolem.1 hdec
  have hφ : Lin (fun f => sumN (fun j => f (3 * j) * x j) wd) := by
    constructor
    · intro f c
      show sumN (fun j => f (3 * j) / c * x j) wd = _
      rw [show (fun j => f (3 * j) / c * x j) = (fun j => (f (3 * j) * x j) / c) from by funext t; grind, sumN_div]
    · intro f g c
      show sumN (fun j => (f (3 * j) - c * g (3 * j)) * x j) wd = _
      rw [show (fun j => (f (3 * j) - c * g (3 * j)) * x j) = (fun j => (f (3 * j) * x j) - c * (g (3 * j) * x j)) from by funext t; grind, sumN_take]
  have hzero : ∀ i, i < rows.length → sumN (fun j => ent T.1.1 i j * x j) wd = 0 := by
    intro i hi
    by_cases hlow : i < T.2.length
    · -- its own column and c
      have hoc := hout i hlow
      have hlt2 := hI.lt i hlow
      have e1 : ∀ j, j < wd → ent T.1.1 i j * x j = (if j = T.2.getD i 0 then -ent T.1.1 i c else 0) + (if j = c then ent T.1.1 i c else 0) := by
        intro j hj
        by_cases hjc : j = c
        · rw [if_neg (by rw [hjc]; exact fun e => hoc e.symm), if_pos hjc, (hx j).1 hjc, hjc]; grind
        · rw [if_neg hjc]
          by_cases hjo : j = T.2.getD i 0
          · rw [if_pos hjo, (hx j).2.1 i hlow hjo.symm]
            have := hI.one i hlow
            rw [← hjo] at this
            rw [this]; grind
          · rw [if_neg hjo]
            by_cases hr : ∃ r, r < T.2.length ∧ T.2.getD r 0 = j
            · obtain ⟨r, hr, e⟩ := hr
              have hri : i ≠ r := fun e2 => hjo (by rw [e2]; exact e.symm)
              have := hI.alone r i hr (by omega) hri
              rw [e] at this
              rw [this]; grind
            · rw [(hx j).2.2 hjc (fun r hr e => hr |> fun hr2 => absurd ⟨r, hr2, e⟩ ‹¬ ∃ r, r < T.2.length ∧ T.2.getD r 0 = j›)]; grind
      rw [sumN_eq wd e1, sumN_add, sumN_one wd (T.2.getD i 0) hlt2 (fun k hk hne => by rw [if_neg hne]), if_pos rfl, sumN_one wd c hc (fun k hk hne => by rw [if_neg hne]), if_pos rfl]
      grind
    · exact sumN_zero wd fun j hj => by rw [hI.low i j (by omega) (by omega) hj]; grind
  have hback := (lin_ech hφ [] (rect_id h.row) wd).2 (fun i hi => by
    show sumN (fun j => ex [] _ i (3 * j) * x j) wd = 0
    simp only [ex_row]
    rw [← hT]
    exact hzero i hi)
  have := hk x (fun i hi => by
    have := hback i (by show i < rows.length; omega)
    simp only [ex_row] at this
    exact this) c hc
  rw [(hx c).1 rfl] at this
  revert this
  decide +kernel
/-- the program's equations -/
def rowsV (n : Nat) (W : Nat → Nat → Rat) : List (List Rat) := (List.range n).map fun j => (List.range n).map fun i => if j = 0 then (if i = j then 1 else 0) else (if i = j then 1 else 0) - W i j
def bsV (n : Nat) : List Rat := (List.replicate n 0).set 0 1
theorem rowsV_length (n : Nat) (W : Nat → Nat → Rat) : (rowsV n W).length = n := by simp [rowsV]
theorem rowsV_row (n : Nat) (W : Nat → Nat → Rat) (j : Nat) (hj : j < n) : (rowsV n W).getD j [] = (List.range n).map fun i => if j = 0 then (if i = j then 1 else 0) else (if i = j then 1 else 0) - W i j := by
  unfold rowsV; simp [List.getD, hj]
theorem rowsV_ent (n : Nat) (W : Nat → Nat → Rat) (j i : Nat) (hj : j < n) (hi : i < n) : ent (rowsV n W) j i = if j = 0 then (if i = j then 1 else 0) else (if i = j then 1 else 0) - W i j := by
  unfold ent; rw [rowsV_row n W j hj]; simp [List.getD, hi]
theorem rowsV_out (n : Nat) (W : Nat → Nat → Rat) (j i : Nat) (h : ¬ (j < n ∧ i < n)) : ent (rowsV n W) j i = 0 := by
  unfold ent
  by_cases hj : j < n
  · rw [rowsV_row n W j hj, getD_end (by simp; omega)]
  · rw [show (rowsV n W).getD j [] = [] by unfold rowsV; simp [List.getD, hj]]; rfl
theorem bsV_length (n : Nat) : (bsV n).length = n := by simp [bsV]
theorem bsV_get (n : Nat) (hn : 0 < n) (i : Nat) : (bsV n).getD i 0 = if i = 0 then 1 else 0 := by
  unfold bsV
  rw [getD_set _ _ _ _ _ (by simpa using hn)]
  by_cases h : i = 0
  · rw [if_pos h.symm, if_pos h]
  · rw [if_neg (fun e => h e.symm), if_neg h]; simp only [List.getD, List.getElem?_replicate]; split <;> rfl
/-- sums with the row of an equation -/
theorem rowsV_sum {n : Nat} {W : Nat → Nat → Rat} (x : Nat → Rat) (j : Nat) (hj : j < n) : sumN (fun i => ent (rowsV n W) j i * x i) n = if j = 0 then x 0 else x j - sumN (fun i => x i * W i j) n := by
  rw [sumN_eq n (fun i hi => by rw [rowsV_ent n W j i hj hi])]
  by_cases h0 : j = 0
  · subst h0
    simp only [if_true]
    rw [sumN_one n 0 hj (fun k hk hne => by rw [if_neg hne]; grind)]
    simp
  · simp only [if_neg h0]
    rw [show (fun k => ((if k = j then (1 : Rat) else 0) - W k j) * x k) = (fun k => (if k = j then x j else 0) - 1 * (x k * W k j)) from by funext k; by_cases e : k = j <;> simp [e] <;> grind, sumN_take, sumN_one n j hj (fun k hk hne => by rw [if_neg hne]), if_pos rfl]
    grind
theorem Ring.kernel {n : Nat} {W : Nat → Nat → Rat} (h : Ring n W) (x : Nat → Rat) (hx : ∀ j, j < n → sumN (fun i => ent (rowsV n W) j i * x i) n = 0) (i : Nat) (hi : i < n) : x i = 0 := by
  have h1 : Inv n W x := h.close fun j h1 hj => by
    have := hx j hj
    rw [rowsV_sum x j hj, if_neg (by omega)] at this
    grind
  have h2 : x 0 = 0 := by have := hx 0 h.pos; rwa [rowsV_sum x 0 h.pos, if_pos rfl] at this
  exact h.zero h1 h2 i hi
theorem rowsV_sys {n : Nat} {W : Nat → Nat → Rat} (hn : n ≤ 6) (h0 : 0 < n) (hW : ∀ i j, i < n → j < n → FracQ 12 (W i j) ∧ FracQ 12 (1 - W i j) ∧ FracQ 12 (0 - W i j)) : Sys n (rowsV n W) (bsV n) := by
  refine ⟨by rw [rowsV_length]; exact hn, hn, fun i hi => ?_, by rw [bsV_length, rowsV_length], fun i j => ?_, fun i => ?_⟩
  · rw [rowsV_length] at hi
    rw [rowsV_row n W i hi]; simp
  · by_cases hij : i < n ∧ j < n
    · rw [rowsV_ent n W i j hij.1 hij.2]
      split
      · split <;> exact ⟨by decide, by decide⟩
      · split
        · exact (hW j i hij.2 hij.1).2.1
        · exact (hW j i hij.2 hij.1).2.2
    · rw [rowsV_out n W i j hij]; exact ⟨by decide, by decide⟩
  · rw [bsV_get n h0]; split <;> exact ⟨by decide, by decide⟩
/-- the visits -/
def visV (n : Nat) (W : Nat → Nat → Rat) : List Rat := solX (rowsV n W) (bsV n)
theorem visV_length (n : Nat) (W : Nat → Nat → Rat) (hn : 0 < n) : (visV n W).length = n := by unfold visV; rw [solX_length, rowsV_row n W 0 hn]; simp
theorem Ring.one_sol {n : Nat} {W : Nat → Nat → Rat} (h : Ring n W) (hs : Sys n (rowsV n W) (bsV n)) : oneS (rowsV n W) ∧ ¬ denied (rowsV n W) (bsV n) := by
  have h1 : oneS (rowsV n W) := one_of_kernel hs (rowsV_length n W) h.pos (fun x hx => h.kernel x hx)
  refine ⟨h1, fun hd => ?_⟩
  unfold denied at hd
  unfold oneS at h1
  have hr : ((rowsV n W).getD 0 []).length = n := by rw [rowsV_row n W 0 h.pos]; simp
  have := (denyK_spec (solS (rowsV n W)).1.2 (bsV n) (rowsV n W).length (solS (rowsV n W)).2.length).1
  rw [h1, hr] at this
  rw [h1, hr, rowsV_length] at hd
  rw [rowsV_length] at this
  omega
theorem Ring.sol {n : Nat} {W : Nat → Nat → Rat} (h : Ring n W) (hs : Sys n (rowsV n W) (bsV n)) : Inv n W (fun i => (visV n W).getD i 0) ∧ (visV n W).getD 0 0 = 1 := by
  obtain ⟨h1, hno⟩ := h.one_sol hs
  have hp := h.pos
  have hl := rowsV_length n W
  have hr : ((rowsV n W).getD 0 []).length = n := by rw [rowsV_row n W 0 h.pos]; simp
  have h2 : (echN n (rowsV n W, idRows (rowsV n W).length)).2.length = n := by
    have := h1; unfold oneS at this; rwa [hs.solS_eq (by omega), hr] at this
  have key : ∀ j, j < n → sumN (fun i => ent (rowsV n W) j i * (visV n W).getD i 0) n = (bsV n).getD j 0 := fun j hj =>
    sol_solves hs.row (fun j => (solX (rowsV n W) (bsV n)).getD j 0) h2 (fun j hj => hs.solX_get (by omega) h1 j hj) (fun j hj1 hj2 => by omega) j (by omega)
  constructor
  · refine h.close fun j h1 hj => ?_
    have := key j hj
    rw [rowsV_sum _ j hj, if_neg (by omega), bsV_get n hp, if_neg (by omega)] at this
    grind
  · have := key 0 hp
    rwa [rowsV_sum _ 0 hp, if_pos rfl, bsV_get n hp, if_pos rfl] at this
theorem Ring.vis_pos {n : Nat} {W : Nat → Nat → Rat} (h : Ring n W) (hs : Sys n (rowsV n W) (bsV n)) (i : Nat) (hi : i < n) : 0 < (visV n W).getD i 0 :=
  h.positive (h.sol hs).1 (h.sol hs).2 i hi
/-- the only ones -/
theorem Ring.only {n : Nat} {W : Nat → Nat → Rat} (h : Ring n W) {e f : Nat → Rat} (he : Inv n W e) (hf : Inv n W f) (hz : f 0 = 1) (i : Nat) (hi : i < n) : e i = e 0 * f i := by
  have := h.zero (he.sub hf (e 0)) (by show e 0 - e 0 * f 0 = 0; rw [hz]; grind) i hi
  replace this : e i - e 0 * f i = 0 := this
  grind
end Go.Proofs.YtpoahodnakhmiaaGreat
