/- Decimal digits and texts. -/
import Derived.Test.YthnnbpnocefmgaaGreatDig
namespace Go.Proofs.YthnnbpnocefmgaaGreat
set_option linter.unusedVariables false
set_option linter.unusedSimpArgs false
/-- at most n low digits of d: all n where there is more to come, else as far as the last one that is not 0 -/
def chunk : Nat → Bool → Int → List Int
  | 0, _, _ => []
  | n + 1, more, d => if more = true ∨ 0 < d then d % 10 :: chunk n more (d / 10) else []
theorem chunk_dig : ∀ (n : Nat) (more : Bool) (d : Int), Dig 10 (chunk n more d) := by
  intro n
  induction n with
  | zero => intro more d; exact Dig.nil _
  | succ n ih =>
    intro more d
    unfold chunk
    split
    · exact Dig.cons.2 ⟨by omega, ih _ _⟩
    · exact Dig.nil _
theorem chunk_val : ∀ (n : Nat) (more : Bool) (d : Int), 0 ≤ d → d < 10 ^ n → val 10 (chunk n more d) = d := by
  intro n
  induction n with
  | zero => intro more d h0 h1; simp at h1; simp [chunk, val]; omega
  | succ n ih =>
    intro more d h0 h1
    unfold chunk
    split
    · simp only [val]
      rw [ih more (d / 10) (by omega) (by rw [Int.pow_succ] at h1; omega)]
      omega
    · rename_i h
      simp only [val]
      have : ¬ 0 < d := fun hd => h (Or.inr hd)
      omega
theorem chunk_length : ∀ (n : Nat) (d : Int), (chunk n true d).length = n := by
  intro n
  induction n with
  | zero => intro d; rfl
  | succ n ih => intro d; unfold chunk; simp [ih]
theorem chunk_norm : ∀ (n : Nat) (d : Int), 0 ≤ d → d < 10 ^ n → Norm (chunk n false d) := by
  intro n
  induction n with
  | zero => intro d _ _; exact Norm.nil
  | succ n ih =>
    intro d h0 h1
    unfold chunk
    split
    · rename_i h
      have hd : 0 < d := by simpa using h
      have h2 : d / 10 < 10 ^ n := by rw [Int.pow_succ] at h1; omega
      refine Norm.cons.2 ⟨fun he => ?_, ih _ (by omega) h2⟩
      have := chunk_val n false (d / 10) (by omega) h2
      rw [he] at this
      simp [val] at this
      omega
    · exact Norm.nil
/-- the decimal digits of a number, the lowest one first, none of 0 -/
def decOf (x : Nat) : List Int := if x = 0 then [] else ((x % 10 : Nat) : Int) :: decOf (x / 10)
termination_by x
decreasing_by omega
theorem decOf_dig (x : Nat) : Dig 10 (decOf x) := by
  induction x using Nat.strongRecOn with
  | _ x ih =>
    rw [decOf]
    split
    · exact Dig.nil _
    · exact Dig.cons.2 ⟨by omega, ih _ (by omega)⟩
theorem decOf_val (x : Nat) : val 10 (decOf x) = x := by
  induction x using Nat.strongRecOn with
  | _ x ih =>
    rw [decOf]
    split
    · rename_i h; simp [val, h]
    · simp only [val]; rw [ih _ (by omega)]; omega
theorem decOf_norm (x : Nat) : Norm (decOf x) := by
  induction x using Nat.strongRecOn with
  | _ x ih =>
    rw [decOf]
    split
    · exact Norm.nil
    · rename_i h
      refine Norm.cons.2 ⟨fun he => ?_, ih _ (by omega)⟩
      have := decOf_val (x / 10)
      rw [he] at this
      simp [val] at this
      omega
theorem decOf_unique {ds : List Int} (h : Dig 10 ds) (hn : Norm ds) : ds = decOf (val 10 ds).toNat := by
  refine digits_unique (by omega) h (decOf_dig _) hn (decOf_norm _) ?_
  rw [decOf_val]
  have := val_nonneg (B := 10) (by omega) h
  omega
/-- digits as bytes -/
def asc (ds : List Int) : List Int := ds.map fun d => 48 + d
theorem asc_length (a : List Int) : (asc a).length = a.length := by simp [asc]
/-- the decimal text of a natural number -/
def decText (x : Int) : List Int := if x = 0 then [48] else (asc (decOf x.toNat)).reverse
theorem decText_of {ds : List Int} {x : Int} (h : Dig 10 ds) (hn : Norm ds) (hv : val 10 ds = x) (hx : x ≠ 0) : (asc ds).reverse = decText x := by
  unfold decText
  rw [if_neg hx, ← hv, ← decOf_unique h hn]
theorem decOf_length (x : Nat) (n : Nat) (h : (x : Int) < 10 ^ n) : (decOf x).length ≤ n := by
  rcases Nat.lt_or_ge n (decOf x).length with hlt | hge
  · have h1 := le_val_of_norm (B := 10) (by omega) (decOf_dig x) (decOf_norm x) (by intro e; rw [e] at hlt; simp at hlt)
    rw [decOf_val] at h1
    have h2 := pow_le_pow' (B := 10) (by omega) (show n ≤ (decOf x).length - 1 by omega)
    omega
  · exact hge
theorem ten_pow (L : Nat) : (4294967296 : Int) ^ L ≤ 10 ^ (11 * L) := by
  induction L with
  | zero => simp
  | succ L ih =>
    have h0 : (0 : Int) < 10 ^ (11 * L) := Int.pow_pos (by omega)
    have e : (10 : Int) ^ (11 * (L + 1)) = 10 ^ (11 * L) * 100000000000 := by
      rw [show 11 * (L + 1) = 11 * L + 11 by omega, Int.pow_add]; rfl
    have e2 : (4294967296 : Int) ^ (L + 1) = 4294967296 ^ L * 4294967296 := Int.pow_succ _ _
    rw [e, e2]
    omega
theorem decText_length (x : Int) (L : Nat) (h0 : 0 ≤ x) (h : x < 4294967296 ^ L) : (decText x).length ≤ 11 * L + 1 := by
  unfold decText
  split
  · simp
  · rw [List.length_reverse, asc_length]
    have := decOf_length x.toNat (11 * L) (by have := ten_pow L; omega)
    omega
theorem decText_zero : decText 0 = [48] := rfl
/-- bytes as a string -/
def str (ns : List Int) : ByteArray := ⟨(ns.map fun n => UInt8.ofNat n.toNat).toArray⟩
theorem str_foldl (ns : List Int) : ns.foldl (fun r n => r.push (UInt8.ofNat n.toNat)) ByteArray.empty = str ns := by
  have : ∀ (ns : List Int) (b : ByteArray), ns.foldl (fun r n => r.push (UInt8.ofNat n.toNat)) b = ⟨b.data ++ (ns.map fun n => UInt8.ofNat n.toNat).toArray⟩ := by
    intro ns
    induction ns with
    | nil => intro b; cases b; simp
    | cons n ns ih => intro b; rw [List.foldl_cons, ih]; simp [ByteArray.push]
  rw [this, show ByteArray.empty.data = #[] from rfl]
  simp [str]
theorem str_size (a : List Int) : (str a).size = a.length := by simp [str, ByteArray.size]
theorem str_append (a b : List Int) : str a ++ str b = str (a ++ b) := by
  apply ByteArray.ext
  simp [str]
/-- the text of a whole number -/
def intText (x : Int) : List Int := (if x < 0 then [45] else []) ++ decText (x.natAbs : Int)
/-- the text of a fraction -/
def ratText (q : Rat) : List Int := intText q.num ++ (if q.den = 1 then [] else 47 :: decText (q.den : Int))
theorem decText_inj {x y : Int} (hx : 0 ≤ x) (hy : 0 ≤ y) (h : decText x = decText y) : x = y := by
  have key : ∀ z : Int, 0 ≤ z → z ≠ 0 → ∀ u, decText z = u → val 10 (u.reverse.map fun d => d - 48) = z := by
    intro z hz0 hz u hu
    rw [← hu]
    unfold decText
    rw [if_neg hz, List.reverse_reverse]
    simp only [asc, List.map_map]
    have : ((fun d => d - 48) ∘ fun d : Int => 48 + d) = id := by funext d; simp; omega
    rw [this, List.map_id, decOf_val]; omega
  by_cases h1 : x = 0
  · by_cases h2 : y = 0
    · omega
    · have := key y hy h2 _ h.symm
      rw [h1] at this; simp [decText_zero, val] at this; omega
  · by_cases h2 : y = 0
    · have := key x hx h1 _ h
      rw [h2] at this; simp [decText_zero, val] at this; omega
    · have a := key x hx h1 _ h
      have b := key y hy h2 _ rfl
      exact a.symm.trans b
end Go.Proofs.YthnnbpnocefmgaaGreat
