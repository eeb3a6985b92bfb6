/- The sizes of powers. -/
import Derived.Test.YthnnbpnocefmgaaGreatPow
namespace Go.Proofs.YthnnbpnocefmgaaGreat
set_option linter.unusedVariables false
set_option linter.unusedSimpArgs false
open Go.RowKit

theorem mul_lt2 {x y A B : Int} (hx : 0 ≤ x) (hy : 0 ≤ y) (h1 : x < A) (h2 : y < B) : x * y < A * B := by
  have h : x * y ≤ (A - 1) * (B - 1) := Int.mul_le_mul (by omega) (by omega) hy (by omega)
  rw [Int.sub_mul, Int.mul_sub] at h
  omega

theorem FracQ.of_divInt {a : Nat} {n d : Int} (hd : 0 < d) (h1 : (n.natAbs : Int) < 10 ^ a) (h2 : d < 10 ^ a) : FracQ a (Rat.divInt n d) := by
  obtain ⟨x, y⟩ := divInt_le n d hd
  exact ⟨by omega, by omega⟩

theorem FracQ.mul {a b : Nat} {p q : Rat} (hp : FracQ a p) (hq : FracQ b q) : FracQ (a + b) (p * q) := by
  have hpd := den_pos p
  have hqd := den_pos q
  have e : p * q = Rat.divInt (p.num * q.num) (p.den * q.den) := by
    conv => lhs; rw [← Rat.num_divInt_den p, ← Rat.num_divInt_den q]
    exact Rat.divInt_mul_divInt _ _
  rw [e]
  refine FracQ.of_divInt (Int.mul_pos hpd hqd) ?_ ?_
  · rw [Int.natAbs_mul, Int.natCast_mul, Int.pow_add]
    exact mul_lt2 (by omega) (by omega) hp.1 hq.1
  · rw [Int.pow_add]
    exact mul_lt2 (by omega) (by omega) hp.2 hq.2

theorem FracQ.inv {a : Nat} {q : Rat} (hq : FracQ a q) (h0 : q ≠ 0) : FracQ a (1 / q) := by
  have hqd := den_pos q
  have hn : q.num ≠ 0 := fun e => h0 (Rat.num_eq_zero.1 e)
  obtain ⟨x, y⟩ := hq
  rw [Rat.div_def, Rat.one_mul, Rat.inv_def]
  by_cases hneg : q.num < 0
  · rw [← Rat.neg_divInt_neg]
    refine FracQ.of_divInt (by omega) ?_ (by omega)
    rw [Int.natAbs_neg, Int.natAbs_natCast]
    omega
  · exact FracQ.of_divInt (by omega) (by rw [Int.natAbs_natCast]; omega) (by omega)

theorem FracQ.pow {a : Nat} {q : Rat} (hq : FracQ a q) (k : Nat) : FracQ (a * (k + 1)) (powN q (k + 1)) := by
  induction k with
  | zero => simpa [powN] using hq
  | succ k ih =>
    rw [powN, Nat.mul_succ]
    exact ih.mul hq

theorem small_ten3 (n : Nat) (hn : n ≤ 30000) : (10 : Int) ^ n ≤ 2 ^ mostBits := by
  have h0 : (10 : Int) ^ n ≤ 10 ^ (3 * 10000) := pow_le_pow' (by omega) (by omega)
  have h1 : ∀ j : Nat, (1000 : Int) ^ j ≤ 1024 ^ j := by
    intro j
    induction j with
    | zero => simp
    | succ j ih =>
      rw [Int.pow_succ, Int.pow_succ]
      have h0 : (0 : Int) < 1000 ^ j := Int.pow_pos (by omega)
      omega
  have h2 : (10 : Int) ^ (3 * 10000) = 1000 ^ 10000 := by rw [Int.pow_mul]; rfl
  have h3 : (2 : Int) ^ mostBits = 1024 ^ 10000 := by
    rw [show mostBits = 10 * 10000 from rfl, Int.pow_mul]; rfl
  rw [h3]
  rw [h2] at h0
  exact Int.le_trans h0 (h1 10000)

theorem fitQ_one (L : Nat) (hL : 1 ≤ L) : FitQ L 1 ∧ SmallQ 1 := by
  have h := pow_le_pow' (B := 4294967296) (by omega) hL
  have h2 := pow_le_pow' (B := 2) (by omega) (show 1 ≤ mostBits by unfold mostBits; omega)
  refine ⟨⟨?_, ?_⟩, ?_, ?_⟩
  · show ((1 : Nat) : Int) < _; omega
  · show ((1 : Nat) : Int) ≤ _; omega
  · show ((1 : Nat) : Int) < _; omega
  · show ((1 : Nat) : Int) < _; omega

/-- the powers of a fraction of 30 digits are kept -/
theorem pow_fit {q : Rat} (h : FracQ 30 q) (k : Nat) (hk : k ≤ 1000) : FitQ 3334 (powN q k) ∧ SmallQ (powN q k) := by
  cases k with
  | zero => exact fitQ_one _ (by omega)
  | succ k =>
    have hp := h.pow k
    have hs := small_ten3 (30 * (k + 1)) (by omega)
    refine ⟨hp.fit.more (by omega), ?_, ?_⟩
    · have := hp.1; unfold Small; omega
    · have := hp.2; unfold Small; omega


theorem powN_inv (q : Rat) (k : Nat) : powN (1 / q) k = 1 / powN q k := by
  induction k with
  | zero => rw [powN, powN, Rat.div_def, Rat.one_mul]; exact (Rat.inv_eq_of_mul_eq_one (Rat.one_mul 1)).symm
  | succ k ih =>
    rw [powN, ih, powN, Rat.div_def, Rat.div_def, Rat.div_def, Rat.one_mul, Rat.one_mul, Rat.one_mul, Rat.inv_mul_rev, Rat.mul_comm]
theorem powN_ne {q : Rat} (h : q ≠ 0) (k : Nat) : powN q k ≠ 0 := by
  induction k with
  | zero => simp [powN]
  | succ k ih =>
    rw [powN, Ne, Rat.mul_eq_zero]
    exact fun e => e.elim ih h

/-- the m-th power, m of any sign -/
def powZ (q : Rat) (m : Int) : Rat := if m < 0 then powN (1 / q) m.natAbs else powN q m.natAbs

theorem pow_ok (w : World) (a : Value) (q : Rat) (m : Int) (ha : RatV w a q 4) (hf : FracQ 30 q) (h0 : -1000 ≤ m) (h1 : m ≤ 1000) (hz : ¬ (m < 0 ∧ q = 0)) :
    Calls Tryz.prog 47 #[a, .int .i64 m] w (Ret (doneR w (powZ q m) 3334)) := by
  unfold powZ
  have ha' := ha.more (L' := 3334) (by omega)
  by_cases hm : m < 0
  · rw [if_pos hm]
    have hq : q ≠ 0 := fun e => hz ⟨hm, e⟩
    exact pow_down w a q m m.natAbs 3334 ha' hq hm (by omega) (by omega) (by omega) (by omega) (pow_fit (hf.inv hq))
  · rw [if_neg hm]
    have e : m = (m.natAbs : Int) := by omega
    rw [e]
    have := pow_up w a q m.natAbs 3334 ha' (by omega) (by omega) (by omega) (pow_fit hf)
    simpa using this

theorem powZ_small {q : Rat} {m : Int} (hf : FracQ 30 q) (h0 : -1000 ≤ m) (h1 : m ≤ 1000) (hz : ¬ (m < 0 ∧ q = 0)) : SmallQ (powZ q m) := by
  unfold powZ
  by_cases hm : m < 0
  · rw [if_pos hm]; exact (pow_fit (hf.inv (fun e => hz ⟨hm, e⟩)) _ (by omega)).2
  · rw [if_neg hm]; exact (pow_fit hf _ (by omega)).2

end Go.Proofs.YthnnbpnocefmgaaGreat
