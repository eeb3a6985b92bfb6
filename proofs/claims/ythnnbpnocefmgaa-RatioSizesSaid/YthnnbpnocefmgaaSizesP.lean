/- Powers of two as fractions: when they are kept; a text of ones; a text that is too long. -/
import Derived.Test.YthnnbpnocefmgaaCalc2
import Derived.Test.YthnnbpnocefmgaaPow
namespace Go.Proofs.Ythnnbpnocefmgaa
set_option linter.unusedVariables false
set_option linter.unusedSimpArgs false
open Go.RowKit
theorem divInt_prime2 (n d : Int) (h0 : 0 < d) (hg : Int.gcd n d = 1) : (Rat.divInt n d).num = n ∧ ((Rat.divInt n d).den : Int) = d := by
  have hg2 : Int.gcd d n = 1 := by rw [Int.gcd_comm]; exact hg
  constructor
  · rw [Rat.num_divInt, hg2, Int.sign_eq_one_of_pos h0]; simp
  · rw [Rat.den_divInt, if_neg (by omega), hg2]
    simp
    omega
theorem below_al {w w' : World} (h : Below w.heap.size w w') (o : Obj) : Below w.heap.size w (w'.alloc o) := h.alloc h.size o
/-- two to the e -/
def twoQ (e : Nat) : Rat := (((2 : Int) ^ e : Int) : Rat)
/-- one by two to the e -/
def halfQ (e : Nat) : Rat := Rat.divInt 1 ((2 : Int) ^ e)
theorem two_pos (e : Nat) : (0 : Int) < 2 ^ e := Int.pow_pos (by omega)
theorem twoQ_num (e : Nat) : (twoQ e).num = 2 ^ e := Rat.num_intCast _
theorem twoQ_den (e : Nat) : (twoQ e).den = 1 := Rat.den_intCast _
theorem halfQ_parts (e : Nat) : (halfQ e).num = 1 ∧ ((halfQ e).den : Int) = 2 ^ e := divInt_prime2 1 _ (two_pos e) (by simp)
theorem twoQ_ne (e : Nat) : twoQ e ≠ 0 := by
  intro h
  have := twoQ_num e
  rw [h] at this
  have h2 := two_pos e
  rw [← this] at h2
  exact absurd h2 (by decide)
theorem two_lt {a b : Nat} : (2 : Int) ^ a < 2 ^ b ↔ a < b := by
  constructor
  · intro h
    refine Classical.byContradiction fun hn => ?_
    have := pow_le_pow' (B := 2) (by omega) (show b ≤ a by omega)
    omega
  · intro h
    have h1 := pow_le_pow' (B := 2) (by omega) (show a + 1 ≤ b by omega)
    have h2 : (2 : Int) ^ (a + 1) = 2 ^ a * 2 := Int.pow_succ _ _
    have h3 := two_pos a
    omega
theorem word_two (L : Nat) : (4294967296 : Int) ^ L = 2 ^ (32 * L) := by rw [Int.pow_mul]; rfl
theorem twoQ_mul (a b : Nat) : twoQ a * twoQ b = twoQ (a + b) := by
  unfold twoQ; rw [← Rat.intCast_mul, ← Int.pow_add]
theorem powN_two (k : Nat) : powN (((4611686018427387904 : Int) : Rat)) k = twoQ (62 * k) := by
  induction k with
  | zero => unfold twoQ; simp [powN]
  | succ k ih =>
    have e : (((4611686018427387904 : Int) : Rat)) = twoQ 62 := by unfold twoQ; rw [show (4611686018427387904 : Int) = 2 ^ 62 by decide]
    rw [powN, ih, e, twoQ_mul]; rfl
theorem twoQ_self (e : Nat) : twoQ e / twoQ e = 1 := by
  rw [Rat.div_def]; exact Rat.mul_inv_cancel _ (twoQ_ne e)
theorem one_twoQ (e : Nat) : 1 / twoQ e = halfQ e := by
  unfold twoQ halfQ; rw [Rat.divInt_eq_div]; rfl
theorem half_div (a b : Nat) : halfQ a / twoQ b = halfQ (a + b) := by
  rw [← one_twoQ, ← one_twoQ, ← twoQ_mul, Rat.div_def, Rat.div_def, Rat.div_def, Rat.one_mul, Rat.one_mul, Rat.inv_mul_rev, Rat.mul_comm]
theorem twoQ_fit {e L : Nat} (h : e < 32 * L) : FitQ L (twoQ e) := by
  have h1 := (two_lt (a := e) (b := 32 * L)).2 h
  have h2 := two_pos e
  have h3 := two_pos (32 * L)
  refine ⟨?_, ?_⟩
  · rw [twoQ_num, word_two]; omega
  · rw [twoQ_den, word_two]; omega
theorem halfQ_fit {e L : Nat} (h : e < 32 * L) (hL : 0 < L) : FitQ L (halfQ e) := by
  obtain ⟨h1, h2⟩ := halfQ_parts e
  have h3 := (two_lt (a := e) (b := 32 * L)).2 h
  have h4 := (two_lt (a := 0) (b := 32 * L)).2 (by omega)
  refine ⟨?_, ?_⟩
  · rw [h1, word_two]; omega
  · rw [h2, word_two]; omega
theorem twoQ_small (e : Nat) : SmallQ (twoQ e) ↔ e < 100000 := by
  have h1 := two_lt (a := e) (b := mostBits)
  have h2 := two_lt (a := 0) (b := mostBits)
  have h3 := two_pos e
  unfold SmallQ Small
  rw [twoQ_num, twoQ_den, show ((((2 : Int) ^ e).natAbs : Nat) : Int) = 2 ^ e by omega, h1, show (((1 : Nat) : Int)) = 2 ^ 0 by rfl, h2]
  show e < 100000 ∧ 0 < 100000 ↔ _
  omega
theorem halfQ_small (e : Nat) : SmallQ (halfQ e) ↔ e < 100000 := by
  obtain ⟨g1, g2⟩ := halfQ_parts e
  have h1 := two_lt (a := e) (b := mostBits)
  have h2 := two_lt (a := 0) (b := mostBits)
  unfold SmallQ Small
  rw [g1, g2, h1, show (((1 : Int).natAbs : Nat) : Int) = 2 ^ 0 by rfl, h2]
  show 0 < 100000 ∧ e < 100000 ↔ _
  omega
theorem sgnQ_pos {q : Rat} (h : 0 ≤ q.num) : 0 ≤ sgnQ q := by
  unfold sgnQ
  rw [if_neg (by omega)]
  split <;> omega
/-- greater powers are no less -/
theorem two_cmp (a b : Nat) : 0 ≤ sgnQ (twoQ (a + b) - twoQ a) := by
  refine sgnQ_pos ?_
  have e : twoQ (a + b) - twoQ a = (((2 : Int) ^ (a + b) - 2 ^ a : Int) : Rat) := by unfold twoQ; rw [Rat.intCast_sub]
  rw [e, Rat.num_intCast]
  have := pow_le_pow' (B := 2) (by omega) (show a ≤ a + b by omega)
  omega
theorem half_cmp (a b : Nat) : sgnQ (halfQ (a + b) - halfQ a) ≤ 0 := by
  have h : 0 ≤ sgnQ (halfQ a - halfQ (a + b)) := by
    refine sgnQ_pos ?_
    have e : halfQ a - halfQ (a + b) = (((2 : Int) ^ b - 1 : Int) : Rat) * halfQ (a + b) := by
      have e1 : halfQ a = twoQ b * halfQ (a + b) := by
        rw [← one_twoQ, ← one_twoQ, ← twoQ_mul]
        have h1 := twoQ_ne a
        have h2 := twoQ_ne b
        grind
      rw [Rat.intCast_sub]
      show _ = (twoQ b - 1) * _
      rw [e1]; grind
    rw [e]
    have h1 : (0 : Rat) ≤ (((2 : Int) ^ b - 1 : Int) : Rat) := by
      have := two_pos b
      exact Rat.num_nonneg.1 (by rw [Rat.num_intCast]; omega)
    have h2 : (0 : Rat) ≤ halfQ (a + b) := Rat.num_nonneg.1 (by rw [(halfQ_parts _).1]; omega)
    exact Rat.num_nonneg.2 (Rat.mul_nonneg h1 h2)
  have e : halfQ (a + b) - halfQ a = -(halfQ a - halfQ (a + b)) := by grind
  rw [e, sgnQ_neg]; omega
/-- a text of ones -/
theorem tv_ones (n : Nat) : (10 : Int) ^ n ≤ tv (List.replicate (n + 1) 49) := by
  induction n with
  | zero => decide
  | succ n ih =>
    rw [List.replicate_succ', tv_snoc]
    have : (10 : Int) ^ (n + 1) = 10 ^ n * 10 := Int.pow_succ _ _
    omega
theorem ones_text (n : Nat) : ratText ((tv (List.replicate (n + 1) 49) : Int) : Rat) = List.replicate (n + 1) 49 := by
  have hd : Digs (List.replicate (n + 1) 49) := fun b hb => by rw [List.eq_of_mem_replicate hb]; omega
  obtain ⟨h1, h2⟩ := decText_tv _ hd (by simp) (by rw [List.replicate_succ]; show (49 : Int) ≠ 48; decide)
  unfold ratText
  rw [Rat.num_intCast, Rat.den_intCast, if_pos rfl, List.append_nil, intText_nat _ (by omega), h1]
theorem ones_large (n : Nat) (h : 34000 ≤ n) : ¬ SmallQ ((tv (List.replicate (n + 1) 49) : Int) : Rat) := by
  intro hs
  have h1 := hs.1
  rw [Rat.num_intCast] at h1
  have h2 := tv_ones n
  have h3 : (10 : Int) ^ 34000 ≤ 10 ^ n := pow_le_pow' (by omega) h
  have h4 : (8 : Int) ^ 34000 ≤ 10 ^ 34000 := by
    have key : ∀ k : Nat, (8 : Int) ^ k ≤ 10 ^ k := by
      intro k
      induction k with
      | zero => simp
      | succ k ih =>
        have e1 : (8 : Int) ^ (k + 1) = 8 ^ k * 8 := Int.pow_succ _ _
        have e2 : (10 : Int) ^ (k + 1) = 10 ^ k * 10 := Int.pow_succ _ _
        have := Int.pow_pos (n := 8) (m := k) (by omega)
        omega
    exact key _
  have h5 : (8 : Int) ^ 34000 = 2 ^ (3 * 34000) := by rw [Int.pow_mul]; rfl
  have h6 : (2 : Int) ^ mostBits ≤ 2 ^ (3 * 34000) := pow_le_pow' (by omega) (by unfold mostBits; omega)
  unfold Small at h1
  generalize (10 : Int) ^ 34000 = A at *
  generalize (8 : Int) ^ 34000 = B at *
  generalize (2 : Int) ^ (3 * 34000) = C at *
  generalize (2 : Int) ^ mostBits = D at *
  generalize (10 : Int) ^ n = E at *
  omega
set_option maxRecDepth 100000 in
theorem parse_long (w : World) (s : ByteArray) (h : 70000 < s.size) (h2 : s.size ≤ 100000000) :
    Calls Try.prog 14 #[.string s] w (Ret (fun v w' => v = .tuple #[.agg #[.bool false, .slice none 0 0, .slice none 0 0], .int .i64 2] ∧ Below w.heap.size w w')) := by
  have hlong : decide ((70000 : Int) < (s.size : Int)) = true := by apply decide_eq_true; omega
  go_enter Try.func14, Try.ntmps14
  go_wp2
  have hz := lt_of_block (at_new w (.cells #[.bool false, .slice none 0 0, .slice none 0 0] 25))
  refine bodyPost_ret (v := .tuple #[.agg #[.bool false, .slice none 0 0, .slice none 0 0], .int .i64 2]) ?_ rfl ?_
  · simp [results, Try.results14, go_sem]
  · exact ⟨_, rfl, rfl, below_al (Below.refl _ _) _⟩
end Go.Proofs.Ythnnbpnocefmgaa
