import Derived.Test.YthnnbpnocefmgaaGreatRat3
import Derived.BigQuiet
import Derived.Deep.QuietTactic
namespace Go.Proofs.YthnnbpnocefmgaaGreat
set_option linter.unusedVariables false
set_option linter.unusedSimpArgs false
open Go.RowKit
theorem sgd_abs (x : Int) : sgd (decide (x < 0)) (x.natAbs : Int) = x := by
 unfold sgd
 by_cases h : x < 0 <;> simp [h] <;> omega
theorem sgd_neg (b : Bool) (x : Int) : sgd (!b) x = - sgd b x := by unfold sgd; cases b <;> simp
theorem sgd_mul (b : Bool) (x y : Int) : sgd b (x * y) = sgd b x * y := by unfold sgd; cases b <;> simp <;> grind
theorem sgd_prod (x y : Int) : sgd (!(decide (x < 0) == decide (y < 0))) ((x.natAbs : Int) * (y.natAbs : Int)) = x * y := by
 have hx := sgd_abs x
 have hy := sgd_abs y
 generalize (x.natAbs : Int) = a at *
 generalize (y.natAbs : Int) = b at *
 generalize decide (x < 0) = s at *
 generalize decide (y < 0) = t at *
 subst hx hy
 cases s <;> cases t <;> simp [sgd] <;> grind
theorem divInt_parts (p : Rat) : Rat.divInt p.num p.den = p := Rat.num_divInt_den p
theorem den_pos (p : Rat) : (0 : Int) < p.den := by have := p.den_pos; omega
theorem times_id (p q : Rat) : Rat.divInt (p.num * q.num) (p.den * q.den) = p * q := by
 conv => rhs; rw [← divInt_parts p, ← divInt_parts q]
 rw [Rat.divInt_mul_divInt]
theorem over_id (p q : Rat) (hq : q.num ≠ 0) : Rat.divInt (p.num * q.den) (p.den * q.num) = p / q := by
 conv => rhs; rw [← divInt_parts p, ← divInt_parts q]
 rw [Rat.div_def, Rat.inv_divInt, Rat.divInt_mul_divInt]
theorem plus_id (p q : Rat) : Rat.divInt (p.num * q.den + q.num * p.den) (p.den * q.den) = p + q := by
 conv => rhs; rw [← divInt_parts p, ← divInt_parts q]
 have := den_pos p
 have := den_pos q
 rw [Rat.divInt_add_divInt _ _ (by omega) (by omega)]
theorem num_ne_zero {q : Rat} (h : q ≠ 0) : q.num ≠ 0 := by
 intro e; exact h (Rat.num_eq_zero.1 e)
theorem times_q (w : World) (a b : Value) (p q : Rat) (L : Nat) (ha : RatV w a p L) (hb : RatV w b q L) (hL : L ≤ 268435456) :
  Calls Tryz.prog 65 #[a, b] w (Ret (ratR w (p * q) (2 * L + 4))) := by
 obtain ⟨n1, l1, rfl, h1, g1⟩ := ha
 obtain ⟨n2, l2, rfl, h2, g2⟩ := hb
 have := times_rat w (decide (p.num < 0)) (decide (q.num < 0)) _ _ _ _ _ _ _ _ L h1 g1 h2 g2 hL
 rw [sgd_prod, show (p.den : Int) - 1 + 1 = p.den from by omega, show (q.den : Int) - 1 + 1 = q.den from by omega, times_id] at this
 exact this
theorem over_q (w : World) (a b : Value) (p q : Rat) (L : Nat) (ha : RatV w a p L) (hb : RatV w b q L) (hL : L ≤ 268435456) (hq : q ≠ 0) :
  Calls Tryz.prog 71 #[a, b] w (Ret (ratR w (p / q) (2 * L + 4))) := by
 obtain ⟨n1, l1, rfl, h1, g1⟩ := ha
 obtain ⟨n2, l2, rfl, h2, g2⟩ := hb
 have hn := num_ne_zero hq
 have := over_rat w (decide (p.num < 0)) (decide (q.num < 0)) _ _ _ _ _ _ _ _ L h1 g1 h2 g2 hL (by omega)
 rw [show (p.den : Int) - 1 + 1 = p.den from by omega, show (q.den : Int) - 1 + 1 = q.den from by omega] at this
 have e : Rat.divInt (sgd (!(decide (p.num < 0) == decide (q.num < 0))) ((p.num.natAbs : Int) * (q.den : Int))) ((p.den : Int) * (q.num.natAbs : Int)) = p / q := by
  rw [← over_id p q hn]
  have hx := sgd_abs p.num
  generalize (p.num.natAbs : Int) = A at *
  by_cases hy : q.num < 0
  ·rw [show (q.num.natAbs : Int) = - q.num from by omega]
   rw [Int.mul_neg, Rat.divInt_neg']
   simp only [hy, decide_true, beq_true, sgd_neg, sgd_mul, hx]
   congr 1
   grind
  ·rw [show (q.num.natAbs : Int) = q.num from by omega]
   simp only [hy, decide_false, beq_false, Bool.not_not, sgd_mul, hx]
 rw [e] at this
 exact this
theorem plus_q (w : World) (a b : Value) (p q : Rat) (L : Nat) (ha : RatV w a p L) (hb : RatV w b q L) (hL : L ≤ 268435456) :
  Calls Tryz.prog 64 #[a, b] w (Ret (ratR w (p + q) (2 * L + 4))) := by
 obtain ⟨n1, l1, rfl, h1, g1⟩ := ha
 obtain ⟨n2, l2, rfl, h2, g2⟩ := hb
 have hx := sgd_abs p.num
 have hy := sgd_abs q.num
 have e1 : (p.den : Int) - 1 + 1 = p.den := by omega
 have e2 : (q.den : Int) - 1 + 1 = q.den := by omega
 have hid := plus_id p q
 rcases hB : (decide (p.num < 0) == decide (q.num < 0)) with _ | _
 ·have hB' : decide (q.num < 0) = !decide (p.num < 0) := by
   revert hB; cases decide (p.num < 0) <;> cases decide (q.num < 0) <;> simp
  rcases Int.lt_or_le ((p.num.natAbs : Int) * ((q.den : Int) - 1 + 1)) ((q.num.natAbs : Int) * ((p.den : Int) - 1 + 1)) with hC | hC
  ·have := plus_rat3 w (decide (p.num < 0)) (decide (q.num < 0)) _ _ _ _ _ _ _ _ L h1 g1 h2 g2 hL hB hC
   rw [e1, e2] at this
   rw [show Rat.divInt (sgd (decide (q.num < 0)) ((q.num.natAbs : Int) * p.den - (p.num.natAbs : Int) * q.den)) ((p.den : Int) * q.den) = p + q from ?_] at this
   ·exact this
   ·rw [← hid]
    congr 1
    rw [hB'] at hy ⊢
    generalize decide (p.num < 0) = s at *
    generalize (p.num.natAbs : Int) = A at *
    generalize (q.num.natAbs : Int) = B at *
    rw [← hx, ← hy]
    cases s <;> simp [sgd] <;> grind
  ·have := plus_rat2 w (decide (p.num < 0)) (decide (q.num < 0)) _ _ _ _ _ _ _ _ L h1 g1 h2 g2 hL hB hC
   rw [e1, e2] at this
   rw [show Rat.divInt (sgd (decide (p.num < 0)) ((p.num.natAbs : Int) * q.den - (q.num.natAbs : Int) * p.den)) ((p.den : Int) * q.den) = p + q from ?_] at this
   ·exact this
   ·rw [← hid]
    congr 1
    rw [hB'] at hy
    generalize decide (p.num < 0) = s at *
    generalize (p.num.natAbs : Int) = A at *
    generalize (q.num.natAbs : Int) = B at *
    rw [← hx, ← hy]
    cases s <;> simp [sgd] <;> grind
 ·have hB' : decide (q.num < 0) = decide (p.num < 0) := by
   revert hB; cases decide (p.num < 0) <;> cases decide (q.num < 0) <;> simp
  have := plus_rat1 w (decide (p.num < 0)) (decide (q.num < 0)) _ _ _ _ _ _ _ _ L h1 g1 h2 g2 hL hB
  rw [e1, e2] at this
  rw [show Rat.divInt (sgd (decide (p.num < 0)) ((p.num.natAbs : Int) * q.den + (q.num.natAbs : Int) * p.den)) ((p.den : Int) * q.den) = p + q from ?_] at this
  ·exact this
  ·rw [← hid]
   congr 1
   rw [hB'] at hy
   generalize decide (p.num < 0) = s at *
   generalize (p.num.natAbs : Int) = A at *
   generalize (q.num.natAbs : Int) = B at *
   rw [← hx, ← hy]
   cases s <;> simp [sgd] <;> grind
theorem num_zero_iff {w : World} {A : Option Addr} {c : Nat} {xs : List Int} {x : Int} {L : Nat} (h : NatV w (.slice A xs.length c) x L) : xs.length = 0 ↔ x = 0 := by
 obtain ⟨A', c', ys, e, h1, h2, h3, h4, h5, h6, h7⟩ := h
 injection e with e1 e2 e3
 have : xs.length = ys.length := e2
 rw [this, ← h6]
 constructor
 ·intro h; rw [List.eq_nil_of_length_eq_zero h]; rfl
 ·intro h
  rcases Nat.eq_zero_or_pos ys.length with h0 | h0
  ·exact h0
  ·have := val_pos (B := 4294967296) (by omega) h4 h5 (by intro e; rw [e] at h0; simp at h0); omega
theorem isZero_q (w : World) (a : Value) (p : Rat) (L : Nat) (ha : RatV w a p L) :
  Calls Tryz.prog 66 #[a] w (Ret (fun v w' => v = .bool (decide (p = 0)) ∧ Below w.heap.size w w')) := by
 obtain ⟨n1, l1, rfl, h1, g1⟩ := ha
 obtain ⟨A1, c1, xs1, rfl, _⟩ := h1.open_
 obtain ⟨A2, c2, xs2, rfl, _⟩ := g1.open_
 have hz := num_zero_iff h1
 have e : decide (p = 0) = ((xs1.length : Int) == 0) := by
  rw [Bool.eq_iff_iff]
  simp only [decide_eq_true_eq, beq_iff_eq]
  rw [← Rat.num_eq_zero]
  omega
 rw [e]; clear e hz
 have HA := hide (ai h1 g1); clear h1 g1
 go_enter Tryz.func66, Tryz.ntmps66
 go_wp2
 go_ret
 exact ⟨_, rfl, rfl, (Below.refl _ _).alloc (nr _) _⟩
theorem neg_q (w : World) (a : Value) (p : Rat) (L : Nat) (ha : RatV w a p L) :
  Calls Tryz.prog 35 #[a] w (Ret (ratR w (-p) L)) := by
 obtain ⟨n1, l1, rfl, h1, g1⟩ := ha
 obtain ⟨A1, c1, xs1, rfl, _⟩ := h1.open_
 obtain ⟨A2, c2, xs2, rfl, _⟩ := g1.open_
 have hz := num_zero_iff h1
 have HA := hide (ai h1 g1); clear h1 g1
 have hn : (-p).num = -p.num := Rat.neg_num p
 have hd : (-p).den = p.den := Rat.neg_den p
 have hN : decide ((-p).num < 0) = (!decide (p.num < 0) && decide (0 < xs1.length)) := by
  rw [hn, Bool.eq_iff_iff]
  simp only [Bool.and_eq_true, Bool.not_eq_true', decide_eq_true_eq, decide_eq_false_iff_not]
  omega
 have HN := hide (ai hN (ai hn hd)); clear hN hn hd hz
 obtain ⟨s, hs⟩ : ∃ s, s = decide (p.num < 0) := ⟨_, rfl⟩
 rw [← hs] at HN ⊢
 clear hs
 cases s
 ·go_enter Tryz.func35, Tryz.ntmps35
  go_wp2
  refine bodyPost_ret (v := .agg #[.bool (!false && decide (0 < xs1.length)), .slice A1 xs1.length c1, .slice A2 xs2.length c2]) ?_ rfl ?_
  ·simp [results, Tryz.results35, go_sem]
  ·obtain ⟨e1, e2, e3⟩ := HN.out
   refine ⟨_, rfl, ⟨.slice A1 xs1.length c1, .slice A2 xs2.length c2, by rw [e1], ?_, ?_⟩, ?_⟩
   ·rw [e2, Int.natAbs_neg]; exact HA.out.1.below (((Below.refl _ _).alloc (nr _) _).alloc (by simp) _)
   ·rw [e3]; exact HA.out.2.below (((Below.refl _ _).alloc (nr _) _).alloc (by simp) _)
   ·exact ((Below.refl _ _).alloc (nr _) _).alloc (by simp) _
 ·go_enter Tryz.func35, Tryz.ntmps35
  go_wp2
  refine bodyPost_ret (v := .agg #[.bool false, .slice A1 xs1.length c1, .slice A2 xs2.length c2]) ?_ rfl ?_
  ·simp [results, Tryz.results35, go_sem]
  ·obtain ⟨e1, e2, e3⟩ := HN.out
   refine ⟨_, rfl, ⟨.slice A1 xs1.length c1, .slice A2 xs2.length c2, by rw [e1]; rfl, ?_, ?_⟩, ?_⟩
   ·rw [e2, Int.natAbs_neg]; exact HA.out.1.below (((Below.refl _ _).alloc (nr _) _).alloc (by simp) _)
   ·rw [e3]; exact HA.out.2.below (((Below.refl _ _).alloc (nr _) _).alloc (by simp) _)
   ·exact ((Below.refl _ _).alloc (nr _) _).alloc (by simp) _
def sgnQ (p : Rat) : Int := if p.num < 0 then -1 else if 0 < p.num then 1 else 0
end Go.Proofs.YthnnbpnocefmgaaGreat
