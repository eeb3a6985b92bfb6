/- Walks of the reference: naturals in limbs of nine digits. Walks of the reference: a natural times a number, and divided by one; differences. Walks of the reference: the difference of two naturals. Long division in limbs, without memory; one more limb, in memory. Walks of the reference: long division. -/
import Derived.Test.YthnnbpnocefmgaaText
import Derived.Test.YthnnbpnocefmgaaCmp
import Derived.Test.YthnnbpnocefmgaaApp
import Derived.Deep.Upon
import Derived.Deep.LoopGhost
namespace Go.Proofs.Ythnnbpnocefmgaa
set_option linter.unusedVariables false
set_option linter.unusedSimpArgs false
open Go.RowKit
/-- v is the natural number x in limbs of nine digits, at most L of them, without zeros at the end -/
def LimV (w : World) (v : Value) (x : Int) (L : Nat) : Prop :=
  ∃ A c xs, v = .slice A xs.length c ∧ xs.length ≤ c ∧ c ≤ maxLen ∧ Arr w A .i64 xs ∧ Dig 1000000000 xs ∧ Norm xs ∧ val 1000000000 xs = x ∧ xs.length ≤ L
theorem LimV.below {w w' : World} {v : Value} {x : Int} {L : Nat} (h : LimV w v x L) (hb : Below w.heap.size w w') : LimV w' v x L := by
  obtain ⟨A, c, xs, rfl, h1, h2, h3, h4⟩ := h
  exact ⟨A, c, xs, rfl, h1, h2, h3.below hb, h4⟩
theorem LimV.more {w : World} {v : Value} {x : Int} {L L' : Nat} (h : LimV w v x L) (hL : L ≤ L') : LimV w v x L' := by
  obtain ⟨A, c, xs, rfl, h1, h2, h3, h4, h5, h6, h7⟩ := h
  exact ⟨A, c, xs, rfl, h1, h2, h3, h4, h5, h6, by omega⟩
theorem LimV.nonneg {w : World} {v : Value} {x : Int} {L : Nat} (h : LimV w v x L) : 0 ≤ x := by
  obtain ⟨A, c, xs, rfl, h1, h2, h3, h4, h5, h6, h7⟩ := h
  rw [← h6]; exact val_nonneg (by omega) h4
theorem LimV.open_ {w : World} {v : Value} {x : Int} {L : Nat} (h : LimV w v x L) :
  ∃ A c xs, v = .slice A xs.length c ∧ xs.length ≤ c ∧ c ≤ maxLen ∧ Arr w A .i64 xs ∧ Dig 1000000000 xs ∧ Norm xs ∧ val 1000000000 xs = x ∧ xs.length ≤ L := h
theorem LimV.nil (w : World) (L : Nat) : LimV w (.slice none 0 0) 0 L := ⟨none, 0, [], rfl, Nat.le_refl _, by simp, Arr.nil, Dig.nil _, Norm.nil, rfl, Nat.zero_le _⟩
theorem LimV.lt {w : World} {v : Value} {x : Int} {L : Nat} (h : LimV w v x L) : x < 1000000000 ^ L := by
  obtain ⟨A, c, xs, rfl, h1, h2, h3, h4, h5, rfl, h7⟩ := h
  exact Int.lt_of_lt_of_le (val_lt (by omega) h4) (pow_le_pow' (by omega) h7)
/-- how many limbs a number has, by its value -/
theorem LimV.fit {w : World} {v : Value} {x : Int} {L L' : Nat} (h : LimV w v x L) (hx : x < 1000000000 ^ L') : LimV w v x L' := by
  obtain ⟨A, c, xs, rfl, h1, h2, h3, h4, h5, rfl, h7⟩ := h
  refine ⟨A, c, xs, rfl, h1, h2, h3, h4, h5, rfl, ?_⟩
  rcases Nat.lt_or_ge L' xs.length with hlt | hge
  · have a := le_val_of_norm (B := 1000000000) (by omega) h4 h5 (by intro e; subst e; simp at hlt)
    have b := pow_le_pow' (B := 1000000000) (by omega) (show L' ≤ xs.length - 1 by omega)
    omega
  · exact hge
theorem LimV.of_trim {w : World} {A : Option Addr} {xs : List Int} {n c : Nat} (h : Arr w A .i64 xs) (hd : Dig 1000000000 xs) (hc : xs.length ≤ c) (hm : c ≤ maxLen) (ht : TrimAt xs n) :
    LimV w (.slice A n c) (val 1000000000 xs) xs.length := by
  obtain ⟨h1, h2, h3⟩ := ht
  have hl : (xs.take n).length = n := by rw [List.length_take]; omega
  refine ⟨A, c, xs.take n, by rw [hl], by omega, by omega, h.take n, hd.take n, Norm.of_last fun h0 => ?_, val_take_zeros _ _ _ h3, by omega⟩
  rw [hl] at h0 ⊢
  have := h2 h0
  simpa [List.getD, List.getElem?_take, show n - 1 < n by omega] using this
end Go.Proofs.Ythnnbpnocefmgaa
namespace Go.Proofs.Ythnnbpnocefmgaa
set_option linter.unusedVariables false
set_option linter.unusedSimpArgs false
open Go.RowKit
end Go.Proofs.Ythnnbpnocefmgaa
namespace Go.Proofs.Ythnnbpnocefmgaa
set_option linter.unusedVariables false
set_option linter.unusedSimpArgs false
open Go.RowKit
/-- not in the blocks below n -/
def Fresh (n : Nat) (v : Value) : Prop := ∀ a l c, v = .slice (some a) l c → n ≤ a.block
theorem Fresh.len {n : Nat} {A : Option Addr} {l c l' c' : Nat} (h : Fresh n (.slice A l c)) : Fresh n (.slice A l' c') := by
  intro a m d e
  injection e with e1 e2 e3
  exact h a l c (by rw [e1])
theorem Fresh.mono {n m : Nat} {v : Value} (h : Fresh n v) (hm : m ≤ n) : Fresh m v := fun a l c e => Nat.le_trans hm (h a l c e)
end Go.Proofs.Ythnnbpnocefmgaa
namespace Go.Proofs.Ythnnbpnocefmgaa
set_option linter.unusedVariables false
set_option linter.unusedSimpArgs false
open Go.RowKit
theorem LimV.put {w : World} {v : Value} {x : Int} {L n Q i : Nat} {u : Value} (h : LimV w v x L) (hf : Fresh n v) (hQ : Q < n) : LimV (w.setCell ⟨Q, i, none⟩ u) v x L := by
  obtain ⟨A, c, xs, rfl, h1, h2, h3, h4⟩ := h
  refine ⟨A, c, xs, rfl, h1, h2, ?_, h4⟩
  intro hx
  obtain ⟨b, o, rfl, ht, hc⟩ := h3 hx
  have hb : n ≤ b := hf _ _ _ rfl
  refine ⟨b, o, rfl, ht.setCell _ _, fun j hj => ?_⟩
  rw [World.cell?_setCell_other _ _ _ _ (by intro e; injection e with e1; omega)]
  exact hc j hj
end Go.Proofs.Ythnnbpnocefmgaa
namespace Go.Proofs.Ythnnbpnocefmgaa
set_option linter.unusedVariables false
set_option linter.unusedSimpArgs false
open Go.RowKit
end Go.Proofs.Ythnnbpnocefmgaa
