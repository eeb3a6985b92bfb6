/- Shops without memory: what opening asks of a tame shop; the sizes of its numbers. Walks: tame of the law. Arguments that are lists of ints, lists of these, and three ints, read as such. No walk. Two ints as an argument. No walk. -/
import Derived.Test.YtpoahodnakhmiaaGreatShopC
import Derived.Test.YtpoahodnakhmiaaGreatQOpen
import Derived.Test.YtpoahodnakhmiaaGreatPow
import Derived.Test.YtpoahodnakhmiaaGreatQGive
import Derived.Deep.CutBlock
import Derived.Deep.DeepCutAuto
import Derived.Deep.Slices
import Derived.SizedLaws
import Derived.OpenShut
import Derived.WideKeyArr2
namespace Go.Proofs.YtpoahodnakhmiaaGreat
set_option linter.unusedVariables false
set_option linter.unusedSimpArgs false
theorem fit_one1 {L : Nat} (h : 1 ≤ L) : FitQ L 1 := by
  have h1 := pow_le_pow' (B := 4294967296) (by omega) h
  exact ⟨by show ((1 : Nat) : Int) < _; omega, by show ((1 : Nat) : Int) ≤ _; omega⟩
theorem short_frac {q : Rat} (h : FracQ 6 q) : shortQ q = true := by
  unfold shortQ
  have h1 : (decText (q.num.natAbs : Int)).length ≤ 6 := by
    by_cases e : q.num.natAbs = 0
    · rw [e]; decide
    · exact dec_le (by omega) h.1
  have h2 : (decText (q.den : Int)).length ≤ 6 := dec_le (by have := q.den_pos; omega) h.2
  simp [h1, h2]
theorem badR_no {q : Rat} (h : FracQ 6 q) (h0 : 0 < q) : badR q = false := by
  unfold badR
  have h1 := sgn_pos q
  rw [decide_eq_true h0] at h1
  have h2 := of_decide_eq_true h1
  rw [short_frac h, decide_eq_false (by omega)]; rfl
theorem badW_no {q : Rat} (h : FracQ 6 q) (h0 : 0 ≤ q) : badW q = false := by
  unfold badW
  have h2 : ¬ sgnQ q < 0 := by
    rcases Rat.le_iff_lt_or_eq.1 h0 with h3 | h3
    · have h1 := sgn_pos q
      rw [decide_eq_true h3] at h1
      have := of_decide_eq_true h1
      omega
    · rw [← h3]; decide
  rw [short_frac h, decide_eq_false h2]; rfl
theorem rowsV_congr {n : Nat} {W W' : Nat → Nat → Rat} (h : ∀ i j, i < n → j < n → W i j = W' i j) : rowsV n W = rowsV n W' := by
  unfold rowsV
  refine List.map_congr_left fun j hj => List.map_congr_left fun i hi => ?_
  rw [List.mem_range] at hj hi
  rw [h i j hi hj]
theorem visV_congr {n : Nat} {W W' : Nat → Nat → Rat} (h : ∀ i j, i < n → j < n → W i j = W' i j) : visV n W = visV n W' := by
  unfold visV; rw [rowsV_congr h]
/-- a tame shop's lists -/
def tR (n : Nat) (a b : Nat → Nat) : List Rat := (List.range n).map (rateT a b)
def tW (n : Nat) (c : Nat → Nat → Nat) : List (List Rat) := (List.range n).map fun i => (List.range n).map (wayT n c i)
theorem tR_length (n : Nat) (a b : Nat → Nat) : (tR n a b).length = n := by simp [tR]
theorem tW_length (n : Nat) (c : Nat → Nat → Nat) : (tW n c).length = n := by simp [tW]
theorem tR_get (n : Nat) (a b : Nat → Nat) (i : Nat) (hi : i < n) : (tR n a b).getD i 0 = rateT a b i := by unfold tR; simp [List.getD, hi]
theorem tW_row (n : Nat) (c : Nat → Nat → Nat) (i : Nat) (hi : i < n) : (tW n c).getD i [] = (List.range n).map (wayT n c i) := by unfold tW; simp [List.getD, hi]
theorem tW_ent (n : Nat) (c : Nat → Nat → Nat) (i j : Nat) (hi : i < n) (hj : j < n) : ent (tW n c) i j = wayT n c i j := by unfold ent; rw [tW_row n c i hi]; simp [List.getD, hj]
theorem fit_sum {f : Nat → Rat} {L : Nat} : ∀ k, (∀ i, i < k → FitQ L (f i)) → FitQ ((L + 1) * k + 1) (sumN f k)
  | 0, _ => fit_zero _
  | k + 1, h => by
    rw [sumN]
    have := (fit_sum k (fun i hi => h i (by omega))).addA (h k (by omega))
    exact this.more (by rw [Nat.mul_succ]; omega)
theorem fit_pow {q : Rat} {L : Nat} (h : FitQ L q) : ∀ k, FitQ (L * k + 1) (powN q k)
  | 0 => by
    have : powN q 0 = 1 := rfl
    rw [this]; exact fit_one1 (by omega)
  | k + 1 => by
    rw [powN]
    exact ((fit_pow h k).mulA h).more (by rw [Nat.mul_succ]; omega)
theorem FitQ.divA {a b : Nat} {p q : Rat} (hp : FitQ a p) (hq : FitQ b q) (h0 : q ≠ 0) : FitQ (a + b + 1) (p / q) := by
  rw [Rat.div_def]
  exact (hp.mulA (hq.inv h0)).more (by omega)
namespace TameS
variable {n : Nat} {a b : Nat → Nat} {c : Nat → Nat → Nat}
theorem ringE (h : TameS n a b c) : Ring n (ent (tW n c)) where
  pos := h.pos
  nn i j hi hj := by rw [tW_ent n c i j hi hj]; exact h.ring.nn i j hi hj
  one i hi := by
    rw [← h.ring.one i hi]
    exact sumN_eq n fun j hj => tW_ent n c i j hi hj
  next i hi := by rw [tW_ent n c i _ hi (Nat.mod_lt _ h.pos)]; exact h.ring.next i hi
theorem rowsE (h : TameS n a b c) : rowsV n (ent (tW n c)) = rowsV n (wayT n c) := rowsV_congr fun i j hi hj => tW_ent n c i j hi hj
theorem visE (h : TameS n a b c) : visV n (ent (tW n c)) = visV n (wayT n c) := visV_congr fun i j hi hj => tW_ent n c i j hi hj
theorem shopOK (h : TameS n a b c) (L : Nat) (hL : 20 ≤ L) : ShopOK n L (tR n a b) (tW n c) where
  n1 := h.pos
  n8 := by have := h.n6; omega
  rl := tR_length n a b
  wl := tW_length n c
  rows i hi := by rw [tW_row n c i hi]; simp
  rok i hi := by rw [tR_get n a b i hi]; exact badR_no (h.rate_small i) (h.rate_pos i)
  wok i j hi hj := by rw [tW_ent n c i j hi hj]; exact badW_no (h.way_small i j hi hj) (h.ring.nn i j hi hj)
  fit i k hi hk := by
    have h1 := fit_sum (f := ent (tW n c) i) (L := 1) k (fun j hj => by rw [tW_ent n c i j hi (by omega)]; exact (h.way_small i j hi (by omega)).fit)
    have := h.n6
    exact h1.more (by omega)
  one i hi := h.ringE.one i hi
  all i hi o h0 hc x hx := by
    have key : ∀ t, (i + t) % n ∈ o := by
      intro t
      induction t with
      | zero => rw [Nat.add_zero, Nat.mod_eq_of_lt hi]; exact h0
      | succ t ih =>
        have h1 := Nat.mod_lt (i + t) h.pos
        have h2 := hc _ ih (((i + t) % n + 1) % n) (Nat.mod_lt _ h.pos) (h.ringE.next _ h1)
        rwa [show ((i + t) % n + 1) % n = (i + (t + 1)) % n by rw [Nat.mod_add_mod, Nat.add_assoc]] at h2
    have h1 := key (x + n - i)
    rwa [show i + (x + n - i) = x + n by omega, Nat.add_mod_right, Nat.mod_eq_of_lt hx] at h1
theorem rate_fit (h : TameS n a b c) (i : Nat) : FitQ 1 (rateT a b i) := (h.rate_small i).fit
theorem load_fit (h : TameS n a b c) (i : Nat) (hi : i < n) : FitQ 2 (load n a b c i) := by
  obtain ⟨D, z, hd⟩ := h.loads
  have h1 := hd.d0
  have h2 := hd.d1
  have h3 := hd.lt i hi
  exact fit_frac (a := (z i : Int)) (b := (D : Int)) (by omega) (hd.eq i hi) (by omega) (by omega)
theorem vis_mul (h : TameS n a b c) (i : Nat) : (visV n (wayT n c)).getD i 0 = load n a b c i * rateT a b i := by
  have := h.rate_pos i
  unfold load
  have h2 : rateT a b i ≠ 0 := by grind
  rw [Rat.div_mul_cancel h2]
theorem vis_fit (h : TameS n a b c) (i : Nat) (hi : i < n) : FitQ 3 ((visV n (wayT n c)).getD i 0) := by
  have h1 := (h.load_fit i hi).mulA (h.rate_fit i)
  have h2 := h1.more (show 2 + 1 ≤ 3 by omega)
  rw [← h.vis_mul i] at h2
  exact h2
theorem openOK (h : TameS n a b c) (L : Nat) (hL : 20 ≤ L) (hL2 : L ≤ 3000) : OpenOK n L (tR n a b) (tW n c) where
  shop := h.shopOK L hL
  ring := h.ringE
  sys := by rw [h.rowsE]; exact h.sys
  L1 := by omega
  L2 := hL2
  r0 i hi := by
    have := h.rate_pos i
    rw [tR_get n a b i hi]; grind
  fitV i hi := by rw [h.visE]; exact (h.vis_fit i hi).more (by omega)
  fitL i hi := by
    rw [h.visE, tR_get n a b i hi]
    exact (h.load_fit i hi).more (by omega)
  fitW j i t hj ht := by
    rw [prowV_get n _ j i t ht]
    have h0 : FitQ 1 (if t = j then (1 : Rat) else 0) := by
      split
      · exact fit_one1 (by omega)
      · exact fit_zero _
    have h1 : FitQ 1 (if t < i then ent (tW n c) t j else 0) := by
      split
      · rw [tW_ent n c t j ht hj]; exact (h.way_small t j ht hj).fit
      · exact fit_zero _
    split
    · exact h0.more (by omega)
    · exact (h0.sub h1).more (by omega)
theorem g_fit (h : TameS n a b c) (s k : Nat) (hs : s ≤ n) (hk : k ≤ 12) : FitQ 24 (gN (load n a b c) s k) := by
  obtain ⟨D, z, hd⟩ := h.loads
  have h1 := gN_int (l := load n a b c) (z := z) (D := D) s (fun i hi => hd.eq i (by omega)) k
  have h2 := gZ_le (z := z) (B := 2 ^ 59) s (fun i hi => Nat.le_of_lt (hd.lt i (by omega))) k
  have h6 := h.n6
  have h3 : (s * 2 ^ 59) ^ k < 4294967296 ^ 24 := by
    have e1 : (s * 2 ^ 59) ^ k ≤ (2 ^ 62) ^ k := Nat.pow_le_pow_left (by omega) k
    have e2 : (2 ^ 62) ^ k ≤ (2 ^ 62) ^ 12 := Nat.pow_le_pow_right (by omega) hk
    have e3 : (2 ^ 62) ^ 12 < 4294967296 ^ 24 := by decide
    omega
  have h4 : D ^ k ≤ 4294967296 ^ 24 := by
    have e1 : D ^ k ≤ (2 ^ 59) ^ k := Nat.pow_le_pow_left (by have := hd.d1; omega) k
    have e2 : (2 ^ 59) ^ k ≤ (2 ^ 59) ^ 12 := Nat.pow_le_pow_right (by omega) hk
    have e3 : (2 ^ 59) ^ 12 < 4294967296 ^ 24 := by decide
    omega
  rw [pwQ_cast, ← Int.natCast_pow] at h1
  have h5 : 0 < D ^ k := Nat.pow_pos hd.d0
  exact fit_frac (a := (gZ z s k : Int)) (b := ((D ^ k : Nat) : Int)) (by omega) h1 (by omega) (by omega)
end TameS
/-- loads of which the constants are small -/
structure LdOK (s : Nat) (l : Nat → Rat) : Prop where
  s0 : 0 < s
  s8 : s ≤ 8
  pos : ∀ i, i < s → 0 < l i
  fitl : ∀ i, i < s → FitQ 2 (l i)
  fitg : ∀ t k, t ≤ s → k ≤ 12 → FitQ 24 (gN l t k)
theorem TameS.ldOK {n : Nat} {a b : Nat → Nat} {c : Nat → Nat → Nat} (h : TameS n a b c) : LdOK n (TameS.load n a b c) :=
  ⟨h.pos, by have := h.n6; omega, h.load_pos, h.load_fit, h.g_fit⟩
theorem gN_congr {l l' : Nat → Rat} : ∀ (s : Nat), (∀ i, i < s → l i = l' i) → ∀ k, gN l s k = gN l' s k
  | 0, _, 0 => by rw [gN_zero, gN_zero]
  | 0, _, k + 1 => by rw [gN_none, gN_none]
  | s + 1, _, 0 => by rw [gN_zero, gN_zero]
  | s + 1, h, k + 1 => by rw [gN_step, gN_step, gN_congr s (fun i hi => h i (by omega)) (k + 1), gN_congr (s + 1) h k, h s (by omega)]
theorem LdOK.congr {s : Nat} {l l' : Nat → Rat} (h : LdOK s l) (e : ∀ i, i < s → l' i = l i) : LdOK s l' :=
  ⟨h.s0, h.s8, fun i hi => by rw [e i hi]; exact h.pos i hi, fun i hi => by rw [e i hi]; exact h.fitl i hi, fun t k ht hk => by rw [gN_congr t (fun i hi => e i (by omega)) k]; exact h.fitg t k ht hk⟩
/-- the loads of an open tame shop -/
theorem TameS.loads_get {n : Nat} {a b : Nat → Nat} {c : Nat → Nat → Nat} (h : TameS n a b c) (i : Nat) (hi : i < n) : (loadsV (tR n a b) (visV n (ent (tW n c)))).getD i 0 = TameS.load n a b c i := by
  rw [loadsV_get _ _ _ (by rw [h.visE, visV_length n _ h.pos]; exact hi), h.visE, tR_get n a b i hi]; rfl
theorem TameS.loads_len {n : Nat} {a b : Nat → Nat} {c : Nat → Nat → Nat} (h : TameS n a b c) : (loadsV (tR n a b) (visV n (ent (tW n c)))).length = n := by
  rw [loadsV_length, visV_length n _ h.pos]
namespace LdOK
variable {s : Nat} {l : Nat → Rat}
theorem g_pos (h : LdOK s l) (k : Nat) : 0 < gN l s k := gN_pos s h.s0 h.pos k
theorem g_ne (h : LdOK s l) (k : Nat) : gN l s k ≠ 0 := by have := h.g_pos k; grind
theorem p_fit (h : LdOK s l) (i k : Nat) (hi : i < s) (hk : k ≤ 12) : FitQ 25 (powN (l i) k) := (fit_pow (h.fitl i hi) k).more (by omega)
theorem lg_fit (h : LdOK s l) (i t k : Nat) (hi : i < s) (ht : t ≤ s) (hk : k ≤ 12) : FitQ 26 (l i * gN l t k) := ((h.fitl i hi).mulA (h.fitg t k ht hk)).more (by omega)
theorem pg_fit (h : LdOK s l) (i k m : Nat) (hi : i < s) (hk : k ≤ 12) (hm : m ≤ 12) : FitQ 49 (powN (l i) k * gN l s m) := ((h.p_fit i k hi hk).mulA (h.fitg s m (Nat.le_refl _) hm)).more (by omega)
end LdOK
/-- the chance that a station has at least k jobs -/
def atQ (l : Nat → Rat) (s i : Nat) (k n : Int) : Rat := if k < 1 then 1 else if n < k then 0 else powN (l i) k.toNat * gN l s (n - k).toNat / gN l s n.toNat
theorem LdOK.at_fit {s : Nat} {l : Nat → Rat} (h : LdOK s l) (i : Nat) (k n : Int) (hi : i < s) (hn : n ≤ 12) : FitQ 74 (atQ l s i k n) := by
  unfold atQ
  split
  · exact fit_one1 (by omega)
  · split
    · exact fit_zero _
    · exact ((h.pg_fit i k.toNat (n - k).toNat hi (by omega) (by omega)).divA (h.fitg s n.toNat (Nat.le_refl _) (by omega)) (h.g_ne _)).more (by omega)
end Go.Proofs.YtpoahodnakhmiaaGreat
namespace Go.Proofs.YtpoahodnakhmiaaGreat
set_option linter.unusedVariables false
set_option linter.unusedSimpArgs false
open Go.RowKit
/-- ints, and lists of these -/
def IntE (w : World) (u : Value) (x : Int) : Prop := u = .int .i64 x ∧ -9223372036854775808 ≤ x ∧ x ≤ 9223372036854775807
def IntsE (w : World) (v : Value) (xs : List Int) : Prop := ∃ T, LstV T 1 IntE w v xs
theorem stB_int : StB IntE := fun w w' u x hb h => h
theorem stB_ints : StB IntsE := fun w w' u x hb h => by obtain ⟨T, h⟩ := h; exact ⟨T, h.below stB_int hb⟩
theorem IntsE.below {w w' : World} {v : Value} {xs : List Int} (h : IntsE w v xs) (hb : Below w.heap.size w w') : IntsE w' v xs := stB_ints _ _ _ _ hb h
theorem IntsE.at_ {w : World} {v : Value} {xs : List Int} (h : IntsE w v xs) : ∃ A c, v = .slice A xs.length c ∧ xs.length ≤ c ∧ c ≤ maxLen ∧ (0 < xs.length → ∃ b o, A = some ⟨b, o, none⟩ ∧ ∀ i, i < xs.length → w.cell? ⟨b, o + i, none⟩ = some (.int .i64 (xs.getD i 0))) := by
  obtain ⟨T, A, c, rfl, h1, h2, h3⟩ := h
  refine ⟨A, c, rfl, h1, h2, fun h0 => ?_⟩
  obtain ⟨b, o, rfl, -, hc⟩ := h3 h0
  refine ⟨b, o, rfl, fun i hi => ?_⟩
  obtain ⟨u, hs, hcu, rfl, -⟩ := hc i (xs.getD i 0) (by simp [List.getD, hi])
  have := hcu 0 (by rw [hs]; decide)
  rw [Nat.mul_one, Nat.add_zero] at this
  exact this
theorem IntsE.range {w : World} {v : Value} {xs : List Int} (h : IntsE w v xs) (i : Nat) : -9223372036854775808 ≤ xs.getD i 0 ∧ xs.getD i 0 ≤ 9223372036854775807 := by
  obtain ⟨T, A, c, rfl, h1, h2, h3⟩ := h
  by_cases hi : i < xs.length
  · obtain ⟨b, o, rfl, -, hc⟩ := h3 (by omega)
    obtain ⟨u, hs, hcu, rfl, h⟩ := hc i (xs.getD i 0) (by simp [List.getD, hi])
    exact h
  · simp [List.getD, show xs[i]? = none from List.getElem?_eq_none (by omega)]
/-- what the law makes of ints -/
def uQ (r : Int) : Int := IntKind.u64.wrap r
theorem uQ_range (r : Int) : 0 ≤ uQ r ∧ uQ r < 18446744073709551616 := by unfold uQ; rw [IntKind.wrap_u64]; omega
def rvI (rs : List Int) (i : Nat) : Int := if i < rs.length then rs.getD i 0 else 1
def aT (rs : List Int) (i : Nat) : Nat := 1 + (uQ (rvI rs i) % 9).toNat
def bT (rs : List Int) (i : Nat) : Nat := 1 + (uQ (rvI rs i) / 9 % 3).toNat
def wT (ws : List (List Int)) (i j : Nat) : Nat := if j < (ws.getD i []).length then (uQ ((ws.getD i []).getD j 0) % 4).toNat else 0
def cT (n : Nat) (ws : List (List Int)) (i j : Nat) : Nat := (if (i + 1) % n = j then 1 else 0) + wT ws i j
theorem wT_le (ws : List (List Int)) (i j : Nat) : wT ws i j ≤ 3 := by unfold wT; split <;> omega
theorem tameT (n : Nat) (rs : List Int) (ws : List (List Int)) (h0 : 0 < n) (h6 : n ≤ 6) : TameS n (aT rs) (bT rs) (cT n ws) where
  pos := h0
  n6 := h6
  ra i := by unfold aT; omega
  rb i := by unfold bT; omega
  cw i j _ _ := by have := wT_le ws i j; unfold cT; split <;> omega
  next i _ := by unfold cT; rw [if_pos rfl]; omega
/-- the weights, and their sum, when k of them have been added -/
def wtsT (n : Nat) (ws : List (List Int)) (i k : Nat) : List Int := (List.range n).map fun j => (((if (i + 1) % n = j then 1 else 0) + (if j < k then wT ws i j else 0) : Nat) : Int)
def smT (ws : List (List Int)) (i k : Nat) : Nat := 1 + sumM (wT ws i) k
theorem wtsT_length (n : Nat) (ws : List (List Int)) (i k : Nat) : (wtsT n ws i k).length = n := by simp [wtsT]
theorem wtsT_get (n : Nat) (ws : List (List Int)) (i k j : Nat) (hj : j < n) : (wtsT n ws i k).getD j 0 = (((if (i + 1) % n = j then 1 else 0) + (if j < k then wT ws i j else 0) : Nat) : Int) := by unfold wtsT; simp [List.getD, hj]
theorem getD_setZ (l : List Int) (i j : Nat) (v : Int) (hi : i < l.length) : (l.set i v).getD j 0 = if i = j then v else l.getD j 0 := by
  simp only [List.getD, List.getElem?_set]
  by_cases e : i = j
  · subst e; simp [hi]
  · simp [e]
theorem int_extZ {a b : List Int} (hl : a.length = b.length) (h : ∀ i, i < a.length → a.getD i 0 = b.getD i 0) : a = b := by
  refine List.ext_getElem hl fun i h1 h2 => ?_
  have := h i h1
  simpa [List.getD, h1, h2] using this
theorem wtsT_zero (n : Nat) (ws : List (List Int)) (i : Nat) (h0 : 0 < n) : (List.replicate n (0 : Int)).set ((i + 1) % n) (0 + 1) = wtsT n ws i 0 := by
  have hm := Nat.mod_lt (i + 1) h0
  refine int_extZ (by simp [wtsT]) fun j hj => ?_
  rw [List.length_set, List.length_replicate] at hj
  rw [getD_setZ _ _ _ _ (by rw [List.length_replicate]; exact hm), wtsT_get n ws i 0 j hj]
  by_cases e : (i + 1) % n = j
  · rw [if_pos e, if_pos e, if_neg (by omega)]; rfl
  · rw [if_neg e, if_neg e, if_neg (by omega)]; simp [List.getD, hj]
theorem wtsT_step (n : Nat) (ws : List (List Int)) (i k : Nat) (hk : k < n) : (wtsT n ws i k).set k ((wtsT n ws i k).getD k 0 + (wT ws i k : Int)) = wtsT n ws i (k + 1) := by
  refine int_extZ (by simp [wtsT]) fun j hj => ?_
  rw [List.length_set, wtsT_length] at hj
  rw [getD_setZ _ _ _ _ (by rw [wtsT_length]; exact hk), wtsT_get n ws i k k hk, wtsT_get n ws i k j hj, wtsT_get n ws i (k + 1) j hj]
  by_cases e : k = j
  · subst e; rw [if_pos rfl, if_neg (Nat.lt_irrefl k), if_pos (show k < k + 1 by omega)]; omega
  · rw [if_neg e]
    by_cases h : j < k
    · rw [if_pos h, if_pos (show j < k + 1 by omega)]
    · rw [if_neg h, if_neg (show ¬ j < k + 1 by omega)]
theorem smT_step (ws : List (List Int)) (i k : Nat) : smT ws i (k + 1) = smT ws i k + wT ws i k := by unfold smT; rw [sumM]; omega
/-- behind the row's end there is nothing to add -/
theorem wtsT_done (n : Nat) (ws : List (List Int)) (i k : Nat) (h : n ≤ k ∨ (ws.getD i []).length ≤ k) (j : Nat) (hj : j < n) : (wtsT n ws i k).getD j 0 = (cT n ws i j : Int) := by
  rw [wtsT_get n ws i k j hj]
  unfold cT
  by_cases hjk : j < k
  · rw [if_pos hjk]
  · rw [if_neg hjk, show wT ws i j = 0 by unfold wT; rw [if_neg (by omega)]]
theorem sumM_add (f g : Nat → Nat) : ∀ k, sumM (fun j => f j + g j) k = sumM f k + sumM g k
  | 0 => rfl
  | k + 1 => by rw [sumM, sumM, sumM, sumM_add f g k]; omega
theorem sumM_one (c : Nat) : ∀ k, sumM (fun j => if c = j then 1 else 0) k = if c < k then 1 else 0
  | 0 => by rw [if_neg (by omega)]; rfl
  | k + 1 => by
    rw [sumM, sumM_one c k]
    show (if c < k then 1 else 0) + (if c = k then 1 else 0) = _
    by_cases h : c < k
    · rw [if_pos h, if_neg (by omega), if_pos (by omega)]
    · by_cases e : c = k
      · rw [if_neg h, if_pos e, if_pos (by omega)]
      · rw [if_neg h, if_neg e, if_neg (by omega)]
theorem sumM_end (f : Nat → Nat) (k : Nat) : ∀ d, (∀ j, k ≤ j → f j = 0) → sumM f (k + d) = sumM f k
  | 0, _ => rfl
  | d + 1, h => by rw [← Nat.add_assoc, sumM, h (k + d) (by omega), sumM_end f k d h]; rfl
theorem smT_done (n : Nat) (ws : List (List Int)) (i k : Nat) (h0 : 0 < n) (hk : k ≤ n) (h : n ≤ k ∨ (ws.getD i []).length ≤ k) : smT ws i k = sumC n (cT n ws) i := by
  unfold sumC
  have e : sumM (cT n ws i) n = sumM (fun j => if (i + 1) % n = j then 1 else 0) n + sumM (wT ws i) n := sumM_add _ _ n
  rw [e, sumM_one, if_pos (Nat.mod_lt _ h0)]
  unfold smT
  rcases h with h | h
  · rw [show k = n by omega]
  · obtain ⟨d, rfl⟩ : ∃ d, n = k + d := ⟨n - k, by omega⟩
    rw [sumM_end (wT ws i) k d (fun j hj => by unfold wT; rw [if_neg (by omega)])]
theorem tR_step (i : Nat) (a b : Nat → Nat) : tR (i + 1) a b = tR i a b ++ [rateT a b i] := by unfold tR; rw [List.range_succ, List.map_append]; rfl
/-- the first rows of a tame shop -/
def tWk (n : Nat) (c : Nat → Nat → Nat) (i : Nat) : List (List Rat) := (List.range i).map fun r => (List.range n).map (wayT n c r)
def tRow (n : Nat) (c : Nat → Nat → Nat) (i k : Nat) : List Rat := (List.range k).map (wayT n c i)
theorem tWk_step (n : Nat) (c : Nat → Nat → Nat) (i : Nat) : tWk n c (i + 1) = tWk n c i ++ [tRow n c i n] := by unfold tWk; rw [List.range_succ, List.map_append]; rfl
theorem tRow_step (n : Nat) (c : Nat → Nat → Nat) (i k : Nat) : tRow n c i (k + 1) = tRow n c i k ++ [wayT n c i k] := by unfold tRow; rw [List.range_succ, List.map_append]; rfl
theorem tRow_length (n : Nat) (c : Nat → Nat → Nat) (i k : Nat) : (tRow n c i k).length = k := by simp [tRow]
theorem tWk_length (n : Nat) (c : Nat → Nat → Nat) (i : Nat) : (tWk n c i).length = i := by simp [tWk]
/-- a row that does not lie in one block -/
def QRowA (gv : Option Nat) (w : World) (u : Value) (qs : List Rat) : Prop := QRowE 3 w u qs ∧ ∀ g, u.ownBlock = some g → Typed w g 55 ∧ gv ≠ some g
theorem stB_qrowA (gv : Option Nat) : StB (QRowA gv) := fun w w' u x hb h => ⟨stB_qrow 3 _ _ _ _ hb h.1, fun g hg => ⟨(h.2 g hg).1.same (hb.block g (h.2 g hg).1.lt), (h.2 g hg).2⟩⟩
theorem stK_qrowA {T : TypeId} (gv : Option Nat) (hT : 3 ≠ T) (hT2 : 55 ≠ T) : StK T (QRowA gv) := fun w w' u x hk h => ⟨stK_qrow 3 hT hT2 _ _ _ _ hk h.1, fun g hg => ⟨(h.2 g hg).1.same (hk.typed (h.2 g hg).1 hT2), (h.2 g hg).2⟩⟩
theorem qrowA_turn {W w8 : World} {v : Value} {g8 : Nat} (hg : Grew W w8 55 v g8) (u : Value) (x : List Rat) (h : QRowA v.ownBlock W u x) : QRowA (some g8) w8 u x := by
  have key : ∀ g, u.ownBlock = some g → w8.heap[g]? = W.heap[g]? := fun g hu => hg.by_.block g (h.2 g hu).1.lt (fun e => (h.2 g hu).2 e.symm)
  refine ⟨h.1.same (fun u x h => stK_q 3 (by decide) _ _ _ _ hg.kp h) (fun b o n c e _ => key b (by rw [e]; rfl)), fun g hu => ⟨(h.2 g hu).1.same (key g hu), fun e => ?_⟩⟩
  injection e with e
  rcases hg.new with h1 | h1
  · exact (h.2 g hu).2 (by rw [h1, e])
  · have := (h.2 g hu).1.lt; omega
end Go.Proofs.YtpoahodnakhmiaaGreat
namespace Go.Proofs.YtpoahodnakhmiaaGreat
set_option linter.unusedVariables false
set_option linter.unusedSimpArgs false
open Go.RowKit Go.ChangeShapes Go.WideShapes
/-- where a cell can be read there is a block, and the address is plain -/
theorem cell_typedI {w : World} {a : Addr} {v : Value} (h : w.cell? a = some v) : a.spot = none ∧ ∃ T, Typed w a.block T := by
  unfold World.cell? at h
  split at h
  · rename_i c e f hb
    split at h
    · cases h
    · rename_i hs
      exact ⟨by simpa using hs, e, c, f, hb⟩
  · cases h
theorem add_plainI {a : Addr} (h : a.spot = none) (i : Nat) : a.add i = ⟨a.block, a.off + i, none⟩ := by
  obtain ⟨b, o, s⟩ := a
  simp only at h
  subst h
  unfold Addr.add
  split <;> simp_all
section
variable {H : Type} {enc : TypeId × Value → H} {P : Program} {w : World} {base : Nat} {spare : Nat → Bool} {held : Bool}
/-- a list whose elements are one cell -/
theorem open_list1 {α : Type} [Inhabited α] {R : World → Value → α → Prop} {t e : TypeId} {fuel : Nat} {cs : List Value} {x : DataW H × List MemPlace} (ht : P.underlying t = some (.slice e)) (hc : P.cellsOf e = 1)
    (hR : ∀ (v : Value) n y, DataW.trod enc P w base spare held n e [v] = some y → v.cells = #[v] ∧ ∃ z, R w v z)
    (h : DataW.trod enc P w base spare held fuel t cs = some x) : ∃ v T ls, cs = [v] ∧ LstV T 1 R w v ls := by
  rcases Deep.open_slice1 ht hc h with ⟨hcs, hx⟩ | ⟨a, len, cap, m, n, V, D, Pl, hcs, hb, hl, hm, hz, rfl, hrow⟩
  · exact ⟨_, 0, [], hcs, LstV.nil _ _ _ _⟩
  · have hlen : len ≤ m := by rw [hz]; split <;> omega
    have each : ∀ i, i < len → ∃ z, R w (V i) z := fun i hi => (hR _ _ _ (hrow i (by omega)).2).2
    obtain ⟨S, hS⟩ := Deep.choose_lt each
    by_cases h0 : len = 0
    · refine ⟨_, 0, [], hcs, _, _, by rw [h0]; rfl, Nat.zero_le _, hm, fun hx => by simp at hx⟩
    · have hc0 := (hrow 0 (by omega)).1
      obtain ⟨hsp, T, ht0⟩ := cell_typedI hc0
      have hsp' : a.spot = none := by
        obtain ⟨b, o, s⟩ := a
        unfold Addr.add at hsp
        split at hsp <;> simp_all
      have hblk : (a.add 0).block = a.block := by rw [add_plainI hsp']
      rw [hblk] at ht0
      have hll : ((List.range len).map S).length = len := by simp
      refine ⟨_, T, (List.range len).map S, hcs, some a, cap, by rw [hll], by rw [hll]; exact hl, hm, fun _ => ⟨a.block, a.off, by obtain ⟨b, o, s⟩ := a; simp only at hsp'; rw [hsp'], ht0, fun i s hi => ?_⟩⟩
      have hil : i < len := by have := (List.getElem?_eq_some_iff.1 hi).1; simpa using this
      have hc1 := (hrow i (by omega)).1
      rw [add_plainI hsp'] at hc1
      have hs : S i = s := by
        simp [hil] at hi
        exact hi
      have hSi := hS i hil
      rw [hs] at hSi
      have hv := (hR _ _ _ (hrow i (by omega)).2).1
      refine ⟨V i, by rw [hv]; rfl, fun j hj => ?_, hSi⟩
      have : j = 0 := by rw [hv] at hj; simpa using hj
      subst this
      rw [Nat.mul_one, Nat.add_zero, hc1, hv]
      rfl
/-- a list of ints -/
theorem open_intsE {t e : TypeId} {fuel : Nat} {cs : List Value} {x : DataW H × List MemPlace} (ht : P.underlying t = some (.slice e)) (he : P.underlying e = some (.int .i64)) (hc : P.cellsOf e = 1)
    (h : DataW.trod enc P w base spare held fuel t cs = some x) : ∃ v xs, cs = [v] ∧ IntsE w v xs := by
  obtain ⟨v, T, ls, h1, h2⟩ := open_list1 (R := IntE) ht hc (fun v n y hy => by
    obtain ⟨a, ea, -, wa⟩ := DataW.trod_int he hy
    injection ea with ea
    subst ea
    obtain ⟨l, u⟩ := bounds_i64 wa
    exact ⟨rfl, a, rfl, l, u⟩) h
  exact ⟨v, ls, h1, T, h2⟩
/-- a list of lists of ints -/
theorem open_intssE {t u e : TypeId} {fuel : Nat} {cs : List Value} {x : DataW H × List MemPlace} (ht : P.underlying t = some (.slice u)) (hu : P.underlying u = some (.slice e)) (he : P.underlying e = some (.int .i64)) (hcu : P.cellsOf u = 1) (hc : P.cellsOf e = 1)
    (h : DataW.trod enc P w base spare held fuel t cs = some x) : ∃ v T ls, cs = [v] ∧ LstV T 1 IntsE w v ls :=
  open_list1 (R := IntsE) ht hcu (fun v n y hy => by
    obtain ⟨v', xs, hv, hx⟩ := open_intsE hu he hc hy
    injection hv with hv
    subst hv
    refine ⟨?_, xs, hx⟩
    obtain ⟨T, A, c, rfl, -⟩ := hx
    rfl) h
end
end Go.Proofs.YtpoahodnakhmiaaGreat
namespace Go.Proofs.YtpoahodnakhmiaaGreat
set_option linter.unusedVariables false
set_option linter.unusedSimpArgs false
open Go.RowKit Go.ChangeShapes Go.WideShapes
section
variable {H : Type} {enc : TypeId × Value → H} {P : Program} {w : World} {base : Nat} {spare : Nat → Bool} {held : Bool}
/-- two ints -/
theorem open_arr2 {t e : TypeId} {r : Reach} {b0 : Nat} {v : Value} {d : DataW H} {ps : List MemPlace} (hu : P.underlying t = some (.array 2 e)) (he : P.underlying e = some (.int .i64)) (hc : P.cellsOf e = 1) (hct : P.cellsOf t = 2)
    (hval : Value.okWide P w r b0 t v) (hd : DataW.Trod enc P w base spare held t v d ps) : ∃ a0 a1, v = .agg #[.int .i64 a0, .int .i64 a1] := by
  simp only [Value.okWide, hu] at hval
  obtain ⟨cs, rfl, hsz, -⟩ := hval
  rw [hct] at hsz
  obtain ⟨fuel, hf⟩ := hd
  obtain ⟨c0, c1, rfl⟩ : ∃ c0 c1, cs = #[c0, c1] := by
    obtain ⟨l⟩ := cs
    match l, hsz with
    | [a, b], _ => exact ⟨a, b, rfl⟩
  cases fuel with
  | zero => simp [DataW.trod] at hf
  | succ m =>
    rw [DataW.trod_step] at hf
    unfold DataW.trodStep at hf
    simp only [hu, Value.cells] at hf
    rw [if_pos (by rw [hct]; rfl)] at hf
    simp only [Option.map_eq_some_iff] at hf
    obtain ⟨ys, hy, -⟩ := hf
    rw [show List.range 2 = [0, 1] from rfl, hc] at hy
    simp only [List.mapM_cons, List.mapM_nil, bind, Option.bind_eq_some_iff, pure, Option.some.injEq, Nat.mul_one, List.drop_zero, List.drop_succ_cons, List.take_succ_cons, List.take_zero] at hy
    obtain ⟨y0, h0, _, ⟨y1, h1, -⟩, -⟩ := hy
    obtain ⟨a0, e0, -, -⟩ := DataW.trod_int he h0
    obtain ⟨a1, e1, -, -⟩ := DataW.trod_int he h1
    injection e0 with e0
    injection e1 with e1
    exact ⟨a0, a1, by rw [e0, e1]⟩
end
end Go.Proofs.YtpoahodnakhmiaaGreat
