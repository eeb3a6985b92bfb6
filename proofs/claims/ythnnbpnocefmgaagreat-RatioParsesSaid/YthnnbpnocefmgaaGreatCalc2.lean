/- Walks: differences and quotients, or the errors; the order; floors. Walks of the law: a text as a fraction with both. Plain laws: how large sums, products and quotients of fractions are; boxes of fractions in memory. -/
import Derived.Test.YthnnbpnocefmgaaGreatApp
import Derived.Test.YthnnbpnocefmgaaGreatRat6
import Derived.Test.YthnnbpnocefmgaaGreatParse
import Derived.Test.YthnnbpnocefmgaaGreatRead9
import Derived.Deep.RegionHeld3
namespace Go.Proofs.YthnnbpnocefmgaaGreat
open Go.RowKit
set_option linter.unusedVariables false
set_option linter.unusedSimpArgs false
end Go.Proofs.YthnnbpnocefmgaaGreat
namespace Go.Proofs.YthnnbpnocefmgaaGreat
open Go.RowKit
set_option linter.unusedVariables false
set_option linter.unusedSimpArgs false
/-- a fraction of so many digits -/
def FracQ (most : Nat) (q : Rat) : Prop := (q.num.natAbs : Int) < 10 ^ most ∧ (q.den : Int) < 10 ^ most
theorem dec_lt (x : Int) (n : Nat) (h0 : 0 ≤ x) (h : (decText x).length ≤ n) (hn : 1 ≤ n) : x < 10 ^ n := by
  unfold decText at h
  have hp : (1 : Int) ≤ 10 ^ n := Int.pow_pos (by omega)
  by_cases hx : x = 0
  · omega
  · rw [if_neg hx, List.length_reverse, asc_length] at h
    have h1 := val_lt (B := 10) (by omega) (decOf_dig x.toNat)
    rw [decOf_val] at h1
    have h2 := pow_le_pow' (B := 10) (by omega) h
    omega
theorem FracQ.of_text {q : Rat} {n : Nat} (h : (ratText q).length ≤ n) (hn : 1 ≤ n) : FracQ n q := by
  have h1 : (intText q.num).length ≤ n := by unfold ratText at h; rw [List.length_append] at h; omega
  have h2 : (decText (q.num.natAbs : Int)).length ≤ n := by have := intText_dec_len q.num; omega
  refine ⟨dec_lt _ n (by omega) h2 hn, ?_⟩
  have hp : (10 : Int) ^ 1 ≤ 10 ^ n := pow_le_pow' (by omega) hn
  by_cases hd : q.den = 1
  · rw [hd]; omega
  · refine dec_lt _ n (by omega) ?_ hn
    unfold ratText at h
    rw [if_neg hd, List.length_append, List.length_cons] at h
    omega
theorem ten_nine (n : Nat) : (10 : Int) ^ n ≤ 1000000000 ^ (n / 9 + 1) := by
  rw [lim_pow]
  exact pow_le_pow' (by omega) (by omega)
theorem nine_word (n : Nat) : (1000000000 : Int) ^ n ≤ 4294967296 ^ n := by
  induction n with
  | zero => simp
  | succ n ih =>
    rw [Int.pow_succ, Int.pow_succ]
    have h0 : (0 : Int) < 1000000000 ^ n := Int.pow_pos (by omega)
    omega
theorem FracQ.fit {n : Nat} {q : Rat} (h : FracQ n q) : FitQ (n / 9 + 1) q := by
  have h1 := ten_nine n
  have h2 := nine_word (n / 9 + 1)
  obtain ⟨a, b⟩ := h
  exact ⟨by omega, by omega⟩
theorem QV.fit {w : World} {v : Value} {q : Rat} {L n : Nat} (h : QV w v q L) (hq : FracQ n q) : QV w v q (n / 9 + 1) := by
  have h1 := ten_nine n
  obtain ⟨a, b, rfl, g1, g2⟩ := h
  exact ⟨a, b, rfl, g1.fit (by have := hq.1; omega), g2.fit (by have := hq.2; omega)⟩
theorem small_ten (n : Nat) (hn : n ≤ 20000) : (10 : Int) ^ n ≤ 2 ^ mostBits := by
  have h1 : (10 : Int) ^ n ≤ 16 ^ n := by
    induction n with
    | zero => simp
    | succ n ih =>
      have := ih (by omega)
      rw [Int.pow_succ, Int.pow_succ]
      have h0 : (0 : Int) < 10 ^ n := Int.pow_pos (by omega)
      omega
  have h2 : (16 : Int) ^ n = 2 ^ (4 * n) := by rw [Int.pow_mul]; rfl
  have h3 : (2 : Int) ^ (4 * n) ≤ 2 ^ mostBits := pow_le_pow' (by omega) (by unfold mostBits; omega)
  omega
theorem FracQ.small {n : Nat} {q : Rat} (h : FracQ n q) (hn : n ≤ 20000) : SmallQ q := by
  have := small_ten n hn
  exact ⟨by have := h.1; unfold Small; omega, by have := h.2; unfold Small; omega⟩
theorem Arr.put {w : World} {A : Option Addr} {k : IntKind} {xs : List Int} {B i : Nat} {v : Value} (h : Arr w A k xs) (ht : ∀ b, Typed w b (tyOf k) → b ≠ B) : Arr (w.setCell ⟨B, i, none⟩ v) A k xs := by
  intro hx
  obtain ⟨b, o, rfl, hty, hc⟩ := h hx
  have hne := ht b hty
  refine ⟨b, o, rfl, hty.setCell _ _, fun j hj => ?_⟩
  rw [World.cell?_setCell_other _ _ _ _ (by intro e; injection e with e1; exact hne e1.symm)]
  exact hc j hj
theorem typed_back {w : World} {b B i : Nat} {e : TypeId} {v : Value} (h : Typed (w.setCell ⟨B, i, none⟩ v) b e) : Typed w b e := by
  obtain ⟨cs, m, h⟩ := h
  simp only [World.setCell, Array.getElem?_modify] at h
  split at h
  · cases hh : w.heap[b]? with
    | none => rw [hh] at h; simp at h
    | some o =>
      rw [hh] at h
      cases o <;> simp at h
      obtain ⟨_, rfl, rfl⟩ := h
      exact ⟨_, _, hh⟩
  · exact ⟨cs, m, h⟩
theorem NatV.putq {w : World} {v : Value} {x : Int} {L B i : Nat} {u : Value} (h : NatV w v x L) (ht : ∀ b, Typed w b (tyOf .u32) → b ≠ B) : NatV (w.setCell ⟨B, i, none⟩ u) v x L := by
  obtain ⟨A, c, xs, rfl, h1, h2, h3, h4⟩ := h
  exact ⟨A, c, xs, rfl, h1, h2, h3.put ht, h4⟩
theorem LimV.putq {w : World} {v : Value} {x : Int} {L B i : Nat} {u : Value} (h : LimV w v x L) (ht : ∀ b, Typed w b (tyOf .i64) → b ≠ B) : LimV (w.setCell ⟨B, i, none⟩ u) v x L := by
  obtain ⟨A, c, xs, rfl, h1, h2, h3, h4⟩ := h
  exact ⟨A, c, xs, rfl, h1, h2, h3.put ht, h4⟩
theorem typed_ne {w : World} {B : Nat} {cs : Array Value} {e f : TypeId} (hB : w.heap[B]? = some (.cells cs e (0, 0))) (he : e ≠ f) : ∀ b, Typed w b f → b ≠ B :=
  fun b hb => Typed.ne hb ⟨_, _, hB⟩ (fun e' => he e'.symm)
theorem RatV.put4 {w : World} {v : Value} {q : Rat} {L B : Nat} {a b c d : Value} (h : RatV w v q L) {cs : Array Value} {e : TypeId} (hB : w.heap[B]? = some (.cells cs e (0, 0))) (he : e ≠ 126) :
    RatV ((((w.setCell ⟨B, 0, none⟩ a).setCell ⟨B, 1, none⟩ b).setCell ⟨B, 2, none⟩ c).setCell ⟨B, 3, none⟩ d) v q L := by
  obtain ⟨n, l, rfl, h1, h2⟩ := h
  have ht : ∀ b, Typed w b (tyOf .u32) → b ≠ B := typed_ne hB he
  have k : ∀ {x : Int} {v : Value}, NatV w v x L → NatV ((((w.setCell ⟨B, 0, none⟩ a).setCell ⟨B, 1, none⟩ b).setCell ⟨B, 2, none⟩ c).setCell ⟨B, 3, none⟩ d) v x L := fun h =>
    (((h.putq ht).putq fun b hb => ht b (typed_back hb)).putq fun b hb => ht b (typed_back (typed_back hb))).putq fun b hb => ht b (typed_back (typed_back (typed_back hb)))
  exact ⟨n, l, rfl, k h1, k h2⟩
end Go.Proofs.YthnnbpnocefmgaaGreat
namespace Go.Proofs.YthnnbpnocefmgaaGreat
open Go.RowKit
set_option linter.unusedVariables false
set_option linter.unusedSimpArgs false
theorem divInt_le (n d : Int) (hd : 0 < d) : (Rat.divInt n d).num.natAbs ≤ n.natAbs ∧ ((Rat.divInt n d).den : Int) ≤ d := by
  have hg : 0 < Int.gcd d n := Int.gcd_pos_of_ne_zero_left n (by omega)
  constructor
  · rw [Rat.num_divInt, Int.sign_eq_one_of_pos hd, Int.one_mul, Int.natAbs_ediv_of_dvd (Int.gcd_dvd_right d n)]
    exact Nat.div_le_self _ _
  · rw [Rat.den_divInt, if_neg (by omega)]
    have := Nat.div_le_self d.natAbs (Int.gcd d n)
    omega
theorem fit_divInt {L : Nat} {n d : Int} (hd : 0 < d) (h1 : (n.natAbs : Int) < 4294967296 ^ L) (h2 : d ≤ 4294967296 ^ L) : FitQ L (Rat.divInt n d) := by
  obtain ⟨a, b⟩ := divInt_le n d hd
  exact ⟨by omega, by omega⟩
theorem FitQ.more {L L' : Nat} {q : Rat} (h : FitQ L q) (hL : L ≤ L') : FitQ L' q := by
  have := pow_le_pow' (B := 4294967296) (by omega) hL
  exact ⟨by have := h.1; omega, by have := h.2; omega⟩
theorem mul_lt' {a b B : Int} (ha : 0 ≤ a) (hb : 0 ≤ b) (h1 : a ≤ B) (h2 : b ≤ B) : a * b ≤ B * B :=
  Int.mul_le_mul h1 h2 hb (by omega)
theorem pow_dbl (B : Int) (L : Nat) : B ^ (2 * L) = B ^ L * B ^ L := by rw [← Int.pow_add]; congr 1; omega
theorem FitQ.add {L : Nat} {p q : Rat} (hp : FitQ L p) (hq : FitQ L q) : FitQ (2 * L + 1) (p + q) := by
  have hpd := den_pos p
  have hqd := den_pos q
  have e : p + q = Rat.divInt (p.num * q.den + q.num * p.den) (p.den * q.den) := by
    conv => lhs; rw [← Rat.num_divInt_den p, ← Rat.num_divInt_den q]
    exact Rat.divInt_add_divInt _ _ (by omega) (by omega)
  rw [e]
  have hB := pow_dbl 4294967296 L
  have hB1 : (4294967296 : Int) ^ (2 * L + 1) = 4294967296 ^ (2 * L) * 4294967296 := Int.pow_succ _ _
  have hB0 : (0 : Int) < 4294967296 ^ L := Int.pow_pos (by omega)
  have h1 := mul_lt' (a := (p.num.natAbs : Int)) (b := (q.den : Int)) (by omega) (by omega) (by have := hp.1; omega) hq.2
  have h2 := mul_lt' (a := (q.num.natAbs : Int)) (b := (p.den : Int)) (by omega) (by omega) (by have := hq.1; omega) hp.2
  have h3 := mul_lt' (a := (p.den : Int)) (b := (q.den : Int)) (by omega) (by omega) hp.2 hq.2
  have h0 : (0 : Int) < 4294967296 ^ L * 4294967296 ^ L := Int.mul_pos hB0 hB0
  refine fit_divInt (Int.mul_pos hpd hqd) ?_ (by omega)
  have t := Int.natAbs_add_le (p.num * q.den) (q.num * p.den)
  rw [Int.natAbs_mul, Int.natAbs_mul, Int.natAbs_natCast, Int.natAbs_natCast] at t
  have t2 : ((p.num * q.den + q.num * p.den).natAbs : Int) ≤ (p.num.natAbs : Int) * (q.den : Int) + (q.num.natAbs : Int) * (p.den : Int) := by exact_mod_cast t
  omega
theorem FitQ.mul {L : Nat} {p q : Rat} (hp : FitQ L p) (hq : FitQ L q) : FitQ (2 * L + 1) (p * q) := by
  have hpd := den_pos p
  have hqd := den_pos q
  have e : p * q = Rat.divInt (p.num * q.num) (p.den * q.den) := by
    conv => lhs; rw [← Rat.num_divInt_den p, ← Rat.num_divInt_den q]
    exact Rat.divInt_mul_divInt _ _
  rw [e]
  have hB := pow_dbl 4294967296 L
  have hB1 : (4294967296 : Int) ^ (2 * L + 1) = 4294967296 ^ (2 * L) * 4294967296 := Int.pow_succ _ _
  have hB0 : (0 : Int) < 4294967296 ^ L := Int.pow_pos (by omega)
  have h1 := mul_lt' (a := (p.num.natAbs : Int)) (b := (q.num.natAbs : Int)) (B := 4294967296 ^ L) (by omega) (by omega) (by have := hp.1; omega) (by have := hq.1; omega)
  have h3 := mul_lt' (a := (p.den : Int)) (b := (q.den : Int)) (by omega) (by omega) hp.2 hq.2
  have h0 : (0 : Int) < 4294967296 ^ L * 4294967296 ^ L := Int.mul_pos hB0 hB0
  refine fit_divInt (Int.mul_pos hpd hqd) ?_ (by omega)
  rw [Int.natAbs_mul, Int.natCast_mul]
  omega
theorem FitQ.inv {L : Nat} {q : Rat} (hq : FitQ L q) (h0 : q ≠ 0) : FitQ (L + 1) q⁻¹ := by
  have hqd := den_pos q
  have hn : q.num ≠ 0 := fun e => h0 (Rat.num_eq_zero.1 e)
  have hB1 : (4294967296 : Int) ^ (L + 1) = 4294967296 ^ L * 4294967296 := Int.pow_succ _ _
  have hB0 : (0 : Int) < 4294967296 ^ L := Int.pow_pos (by omega)
  obtain ⟨a, b⟩ := hq
  rw [Rat.inv_def]
  by_cases hneg : q.num < 0
  · rw [← Rat.neg_divInt_neg]
    refine fit_divInt (by omega) ?_ (by omega)
    rw [Int.natAbs_neg, Int.natAbs_natCast]
    omega
  · exact fit_divInt (by omega) (by rw [Int.natAbs_natCast]; omega) (by omega)
theorem FitQ.div {L : Nat} {p q : Rat} (hp : FitQ L p) (hq : FitQ L q) (h0 : q ≠ 0) : FitQ (2 * L + 3) (p / q) := by
  rw [Rat.div_def]
  have := (hp.more (show L ≤ L + 1 by omega)).mul (hq.inv h0)
  exact this.more (by omega)
theorem BoxR.below {w w' : World} {g : Nat} {q : Rat} {L : Nat} (h : BoxR w g q L) (hb : Below w.heap.size w w') : BoxR w' g q L := by
  obtain ⟨s, A, n, c, B, m, d, h1, h2⟩ := h
  exact ⟨s, A, n, c, B, m, d, at_later h1 hb, h2.below hb⟩
/-- the box of the reference's fraction -/
def BoxQ (w : World) (g : Nat) (q : Rat) (L : Nat) : Prop := ∃ t A n c B m d, w.heap[g]? = some (.cells #[.bool t, .slice A n c, .bool false, .slice B m d] 41 (0, 0)) ∧ QV w (.agg #[.bool t, .slice A n c, .bool false, .slice B m d]) q L
theorem BoxQ.below {w w' : World} {g : Nat} {q : Rat} {L : Nat} (h : BoxQ w g q L) (hb : Below w.heap.size w w') : BoxQ w' g q L := by
  obtain ⟨s, A, n, c, B, m, d, h1, h2⟩ := h
  exact ⟨s, A, n, c, B, m, d, at_later h1 hb, h2.below hb⟩
theorem neg_num (q : Rat) : q < 0 ↔ q.num < 0 := by
  rw [Rat.lt_iff]
  show q.num * ((1 : Nat) : Int) < (0 : Int) * q.den ↔ _
  simp
end Go.Proofs.YthnnbpnocefmgaaGreat
