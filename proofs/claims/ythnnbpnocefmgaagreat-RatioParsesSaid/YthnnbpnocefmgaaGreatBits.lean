/- Walks: how many bits a word, and a natural, has. -/
import Derived.Test.YthnnbpnocefmgaaGreatPlus
import Derived.Lib.BitFns
namespace Go.Proofs.YthnnbpnocefmgaaGreat
set_option linter.unusedVariables false
set_option linter.unusedSimpArgs false
open Go.RowKit
theorem bitLen_spec : ∀ (f x : Nat), x < 2 ^ f → 0 < x → 0 < Lib.bitLenAux f x ∧ 2 ^ (Lib.bitLenAux f x - 1) ≤ x ∧ x < 2 ^ Lib.bitLenAux f x := by
  intro f
  induction f with
  | zero => intro x h h0; simp at h; omega
  | succ f ih =>
    intro x h h0
    rw [Lib.bitLenAux, if_neg (by omega)]
    by_cases h1 : x / 2 = 0
    · have hx : x = 1 := by omega
      subst hx
      have : Lib.bitLenAux f 0 = 0 := by cases f <;> simp [Lib.bitLenAux]
      simp [this]
    · obtain ⟨a, b, c⟩ := ih (x / 2) (by rw [Nat.pow_succ] at h; omega) (by omega)
      refine ⟨by omega, ?_, ?_⟩
      · rw [show 1 + Lib.bitLenAux f (x / 2) - 1 = (Lib.bitLenAux f (x / 2) - 1) + 1 by omega, Nat.pow_succ]; omega
      · rw [Nat.add_comm, Nat.pow_succ]; omega
theorem tab_size : Lib.len8tab.size = 256 := by decide +kernel
theorem tab_all : ∀ n : Fin 256, (Lib.len8tab[n.val]'(by rw [tab_size]; exact n.isLt)).toNat = Lib.bitLen n.val := by decide +kernel
theorem tab_at (n : Nat) (h : n < Lib.len8tab.size) : (Lib.len8tab[n]'h).toNat = Lib.bitLen n := tab_all ⟨n, by rw [tab_size] at h; exact h⟩
set_option maxRecDepth 100000 in
theorem len32_c (x : Int) (w : World) (h0 : 0 ≤ x) (h1 : x ≤ 4294967295) :
    Calls Tryz.prog 140 #[.int .u32 x] w fun e w' => e = .returned (.int .i64 (Lib.bitLen x.toNat)) ∧ w = w' := by
  have hsz := tab_size
  have fin : ∀ (y k : Int) (h : y.toNat < Lib.len8tab.size), 0 ≤ k → k ≤ 24 → (Lib.bitLen x.toNat : Int) = k + Lib.bitLen y.toNat → Lib.bitLen y.toNat ≤ 8 → wrap64 (k + wrap64 ((Lib.len8tab[y.toNat]'h).toNat : Int)) = (Lib.bitLen x.toNat : Int) := by
    intro y k h hk hk' he hl
    rw [tab_at, IntWalk.wrap64_in (Lib.bitLen y.toNat : Int) ⟨by omega, by omega⟩, IntWalk.wrap64_in _ ⟨by omega, by omega⟩, he]
  have HF := hide fin; clear fin
  have b8 : ∀ y : Int, 0 ≤ y → y ≤ 255 → Lib.bitLen y.toNat ≤ 8 := Lib.bitLen_le8'
  have HB := hide b8; clear b8
  by_cases c1 : 65536 ≤ x
  · by_cases c2 : 256 ≤ x / 65536
    · skip
      have s := Lib.bitLen_shift24 x.toNat (by omega) (by omega)
      have H := hide s; clear s
      go_enter Tryz.func140, Tryz.ntmps140
      go_wp2
      go_ret
      exact ⟨congrArg Ending.returned (congrArg (Value.int IntKind.i64) (HF.out (x / 65536 / 256) 24 _ (by omega) (by omega) (by rw [show (x / 65536 / 256).toNat = x.toNat / 16777216 by omega]; have := H.out; omega) (HB.out _ (by omega) (by omega)))), rfl⟩
    · have c3 : x / 65536 < 256 := by omega
      have s := Lib.bitLen_shift16 x.toNat (by omega) (by omega)
      have H := hide s; clear s
      go_enter Tryz.func140, Tryz.ntmps140
      go_wp2
      go_ret
      exact ⟨congrArg Ending.returned (congrArg (Value.int IntKind.i64) (HF.out (x / 65536) 16 _ (by omega) (by omega) (by rw [show (x / 65536).toNat = x.toNat / 65536 by omega]; have := H.out; omega) (HB.out _ (by omega) (by omega)))), rfl⟩
  · have c3 : x < 65536 := by omega
    by_cases c2 : 256 ≤ x
    · skip
      have s := Lib.bitLen_shift8 x.toNat (by omega) (by omega)
      have H := hide s; clear s
      go_enter Tryz.func140, Tryz.ntmps140
      go_wp2
      go_ret
      exact ⟨congrArg Ending.returned (congrArg (Value.int IntKind.i64) (HF.out (x / 256) 8 _ (by omega) (by omega) (by rw [show (x / 256).toNat = x.toNat / 256 by omega]; have := H.out; omega) (HB.out _ (by omega) (by omega)))), rfl⟩
    · have c4 : x < 256 := by omega
      go_enter Tryz.func140, Tryz.ntmps140
      go_wp2
      go_ret
      have hh := HF.out (x) 0 (by rw [hsz]; omega) (by omega) (by omega) (by rw [show (x).toNat = x.toNat by omega]; omega) (HB.out _ (by omega) (by omega))
      rw [Int.zero_add] at hh
      exact ⟨congrArg Ending.returned (congrArg (Value.int IntKind.i64) hh), rfl⟩
/-- as many zeros lead x that it begins its word when shifted by them -/
def ClzR (w : World) (x : Int) (v : Value) (w' : World) : Prop := ∃ n : Nat, v = .int .i64 (32 - (n : Int)) ∧ 0 < n ∧ n ≤ 32 ∧ 2 ^ (n - 1) ≤ x ∧ x < 2 ^ n ∧ w = w'
theorem clz_c (x : Int) (w : World) (h0 : 0 < x) (h1 : x < 4294967296) : Calls Tryz.prog 120 #[.int .u32 x] w (Ret (ClzR w x)) := by
  obtain ⟨a, b, c⟩ := bitLen_spec 64 x.toNat (by omega) (by omega)
  have hle := Lib.bitLen_le x.toNat 32 (by omega) (by omega)
  have HB : Hid (0 < Lib.bitLen x.toNat ∧ 2 ^ (Lib.bitLen x.toNat - 1) ≤ x ∧ x < 2 ^ Lib.bitLen x.toNat) := by
    refine ⟨a, ?_, ?_⟩
    · have : ((2 ^ (Lib.bitLen x.toNat - 1) : Nat) : Int) ≤ (x.toNat : Int) := Int.ofNat_le.2 b
      rw [Int.toNat_of_nonneg (by omega)] at this
      simpa using this
    · have : (x.toNat : Int) < ((2 ^ Lib.bitLen x.toNat : Nat) : Int) := Int.ofNat_lt.2 c
      rw [Int.toNat_of_nonneg (by omega)] at this
      simpa using this
  clear a b c
  go_enter Tryz.func120, Tryz.ntmps120
  go_wp2_with (go_at_call 140; refine (len32_c x _ (by omega) (by omega)).mono ?_; rintro e w' ⟨rfl, rfl⟩)
  go_ret
  exact ⟨_, rfl, Lib.bitLen x.toNat, rfl, HB.out.1, hle, HB.out.2.1, HB.out.2.2, rfl⟩
def ClzR2 (w : World) (x : Int) (v : Value) (w' : World) : Prop := ∃ s : Nat, v = .int .i64 s ∧ s < 32 ∧ 2 ^ (31 - s) ≤ x ∧ x < 2 ^ (32 - s) ∧ w = w'
theorem clz_c2 (x : Int) (w : World) (h0 : 0 < x) (h1 : x < 4294967296) : Calls Tryz.prog 120 #[.int .u32 x] w (Ret (ClzR2 w x)) := by
  refine (clz_c x w h0 h1).mono ?_
  rintro e w' ⟨v, rfl, n, rfl, a, b, c, d, rfl⟩
  refine ⟨_, rfl, 32 - n, ?_, by omega, ?_, ?_, rfl⟩
  · congr 1; omega
  · rw [show 31 - (32 - n) = n - 1 by omega]; exact c
  · rw [show 32 - (32 - n) = n by omega]; exact d
/-- how many bits x has -/
def SizeR (w : World) (x : Int) (v : Value) (w' : World) : Prop := ∃ n : Nat, v = .int .i64 n ∧ (x = 0 → n = 0) ∧ (0 < x → 0 < n ∧ 2 ^ (n - 1) ≤ x ∧ x < 2 ^ n) ∧ w = w'
theorem size_c (w : World) (v : Value) (x : Int) (L : Nat) (hx : NatV w v x L) (hL : L ≤ 1073741824) : Calls Tryz.prog 139 #[v] w (Ret (SizeR w x)) := by
  obtain ⟨A, c, xs, rfl, hc, hm, h, hd, hn, rfl, hlL⟩ := hx
  unfold maxLen at hm
  by_cases hx0 : 0 < xs.length
  · have hb0 : ((xs.length : Int) == 0) = false := by simp; intro e; subst e; simp at hx0
    obtain ⟨b, o, rfl, hbl, hcell⟩ := h.at_ hx0
    obtain ⟨d, hd0⟩ : ∃ d, d = xs.getD (xs.length - 1) 0 := ⟨_, rfl⟩
    have hxc := hcell (xs.length - 1) (by omega)
    have hxb := hd.at_ (k := xs.length - 1) (by omega)
    have hxn := hn.last hx0
    rw [← hd0] at hxc hxb hxn
    obtain ⟨hx1, hx2⟩ := hxb
    have hx3 : 0 < d := by omega
    have htx := val_take_succ 4294967296 xs (xs.length - 1) (by omega)
    rw [show xs.length - 1 + 1 = xs.length by omega, List.take_of_length_le (Nat.le_refl _), ← hd0] at htx
    have hv0 := val_nonneg (B := 4294967296) (by omega) (hd.take (xs.length - 1))
    have hv1 := val_lt (B := 4294967296) (by omega) (hd.take (xs.length - 1))
    rw [List.length_take, Nat.min_eq_left (by omega)] at hv1
    have HV := hide (And.intro htx (And.intro hv0 hv1))
    clear htx hv0 hv1 hxn
    have HX := hide hd0; clear hd0
    clear h hd hn hcell
    go_enter Tryz.func139, Tryz.ntmps139
    go_wp2_with (go_at_call 120; refine (clz_c d _ hx3 hx2).mono ?_; rintro e w' ⟨v, rfl, n, rfl, hn0, hn1, hn2, hn3, rfl⟩; have HN := hide (And.intro hn2 hn3); clear hn2 hn3)
    go_ret
    obtain ⟨e1, e2, e3⟩ := HV.out
    obtain ⟨f1, f2⟩ := HN.out
    have ep : (4294967296 : Int) ^ (xs.length - 1) = 2 ^ (32 * (xs.length - 1)) := by
      rw [Int.pow_mul]; rfl
    have hpos : (0 : Int) < 4294967296 ^ (xs.length - 1) := Int.pow_pos (by omega)
    have g1 := Int.mul_le_mul_of_nonneg_left f1 (Int.le_of_lt hpos)
    have g2 := Int.mul_le_mul_of_nonneg_left (show d + 1 ≤ 2 ^ n by omega) (Int.le_of_lt hpos)
    refine ⟨_, rfl, 32 * (xs.length - 1) + n, ?_, ?_, fun _ => ⟨by omega, ?_, ?_⟩, rfl⟩
    · show Value.int .i64 _ = _
      congr 1
      omega
    · intro hz
      have := Int.mul_pos hpos hx3
      omega
    · rw [show 32 * (xs.length - 1) + n - 1 = 32 * (xs.length - 1) + (n - 1) by omega, Int.pow_add, ← ep]
      omega
    · rw [Int.pow_add, ← ep]
      rw [Int.mul_add] at g2
      omega
  · obtain rfl : xs = [] := List.eq_nil_of_length_eq_zero (by omega)
    go_enter Tryz.func139, Tryz.ntmps139
    go_wp2
    go_ret
    exact ⟨_, rfl, 0, rfl, fun _ => rfl, fun h => by simp [val] at h, rfl⟩
end Go.Proofs.YthnnbpnocefmgaaGreat
