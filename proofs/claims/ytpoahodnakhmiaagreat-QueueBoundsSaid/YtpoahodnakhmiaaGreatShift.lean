/- Walks: a natural times a power of 2, and back. -/
import Derived.Test.YtpoahodnakhmiaaGreatBits
import Derived.Deep.QuietTactic
import Derived.BigQuiet
namespace Go.Proofs.YtpoahodnakhmiaaGreat
set_option linter.unusedVariables false
set_option linter.unusedSimpArgs false
open Go.RowKit
theorem shifted_digs (w : World) (A : Option Addr) (c : Nat) (xs : List Int) (n : Nat) (h : Arr w A .u32 xs) (hc : xs.length ≤ c) (hm : c ≤ maxLen) (hl : xs.length ≤ 1073741824) (hd : Dig 4294967296 xs) (hn : n < 32) :
    Calls Tryz.prog 197 #[.slice A xs.length c, .int .i64 n] w (Ret (natR w (val 4294967296 xs * 2 ^ n) (xs.length + 1))) := by
  unfold maxLen at hm
  obtain ⟨hp0, hp1⟩ := pow2_bd n (by omega)
  obtain ⟨hq0, hq1⟩ := pow2_bd (32 - n) (by omega)
  go_enter Tryz.func197, Tryz.ntmps197
  go_wp2
  go_loopw [5, 6, 11] (fun s5 s6 s11 wr => ∃ (k : Nat) (os : List Int) (cy : Int), k ≤ xs.length ∧ s11 = .int .i64 k ∧ s6 = .int .u32 cy ∧ 0 ≤ cy ∧ cy < 2 ^ n ∧ os.length = k ∧ Dig 4294967296 os ∧
      val 4294967296 os + 4294967296 ^ k * cy = val 4294967296 (xs.take k) * 2 ^ n ∧ OwnI wr w.heap.size 190 .u32 s5 os ∧ Below w.heap.size w wr)
    (fun _ _ s11 _ => xs.length - (intOf s11).toNat)
  case atStart => exact ⟨0, [], 0, Nat.zero_le _, rfl, rfl, by omega, by omega, rfl, Dig.nil _, by simp [val], OwnI.nil _ _ _ _, Below.refl _ _⟩
  case round =>
    obtain ⟨k, os, cy, hk, rfl, rfl, hy0, hy1, hos, hdos, hval, hown, hbel⟩ := hrel
    have hosl : os.length ≤ 17592186044000 := by omega
    by_cases hkx : k < xs.length
    · obtain ⟨b, o, rfl, hbl, hcell⟩ := h.at_ (by omega)
      obtain ⟨x, hx⟩ : ∃ x, x = xs.getD k 0 := ⟨_, rfl⟩
      have hxc := (hbel.cell (p := ⟨b, o + k, none⟩) hbl).trans (hcell k hkx)
      have hxb := hd.at_ hkx
      have htx := val_take_succ 4294967296 xs k hkx
      rw [← hx] at hxc hxb htx
      obtain ⟨hx0, hx1⟩ := hxb
      have hor := or32 n x cy (by omega) hx0 hy0 hy1
      have hsp := shift_split n x (by omega)
      have hdv0 : 0 ≤ x / 2 ^ (32 - n) := Int.ediv_nonneg hx0 (by omega)
      have hdv1 : x / 2 ^ (32 - n) < 2 ^ n := by
        apply Int.ediv_lt_of_lt_mul (by omega)
        rw [← Int.pow_add, show n + (32 - n) = 32 by omega]; exact hx1
      have hmd0 : 0 ≤ x * 2 ^ n % 4294967296 := Int.emod_nonneg _ (by omega)
      have hmd1 : x * 2 ^ n % 4294967296 + 2 ^ n ≤ 4294967296 := by
        have e : (4294967296 : Int) = 2 ^ n * 2 ^ (32 - n) := by
          rw [← Int.pow_add, show n + (32 - n) = 32 by omega]; rfl
        have e2 : x * 2 ^ n % 4294967296 = 2 ^ n * (x % 2 ^ (32 - n)) := by
          rw [e, Int.mul_comm x, Int.mul_emod_mul_of_pos _ _ (by omega)]
        have h3 : x % 2 ^ (32 - n) + 1 ≤ 2 ^ (32 - n) := Int.emod_lt_of_pos _ (by omega)
        have h4 := Int.mul_le_mul_of_nonneg_left h3 (show (0 : Int) ≤ 2 ^ n by omega)
        rw [← e, Int.mul_add] at h4
        rw [e2]; omega
      have HT := hide htx; clear htx
      have HV := hide hval; clear hval
      have HX := hide hx; clear hx
      have HL := hide hos; clear hos
      have HS := hide hsp; clear hsp
      clear hcell h hd
      go_wp2_with (at_builtin; refine app1 Tryz.u32T _ rfl _ _ rfl w.heap.size _ os (x * 2 ^ n % 4294967296 + cy) rfl (hown.keep ((Below.refl _ _).alloc (Nat.le_refl _) _)) ⟨wr.heap.size, 0, none⟩ _ rfl (by simp [World.cell?_alloc_new]) hosl (by have := hbel.size; simp; omega) ?_; intro g c1 w1 hown1 _ _ hb1)
      go_roundw
      case rel =>
        refine ⟨k + 1, os ++ [x * 2 ^ n % 4294967296 + cy], x / 2 ^ (32 - n), by omega, by go_num, ?_, hdv0, hdv1, by simp [HL.out], hdos.snoc (by omega) (by omega), ?_, hown1, (hbel.alloc hbel.size _).trans hb1⟩
        · go_num
        rw [val_snoc, HL.out, HT.out]
        have := HV.out
        have e := HS.out
        grind
      case measure => simp [intOf]; omega
    · obtain rfl : k = xs.length := by omega
      rw [List.take_of_length_le (Nat.le_refl _)] at hval
      have HV := hide hval; clear hval
      have HL := hide hos; clear hos
      have hD := hide hd
      clear h hd
      go_wp2_with (first
        | (at_builtin; refine app1 Tryz.u32T _ rfl _ _ rfl w.heap.size _ os cy rfl (hown.keep ((Below.refl _ _).alloc (Nat.le_refl _) _)) ⟨wr.heap.size, 0, none⟩ _ rfl (by simp [World.cell?_alloc_new]) hosl (by have := hbel.size; simp; omega) ?_; intro g c1 w1 hown1 hc1 hm1 hb1)
        | (go_at_call 170; refine (trim_c _ _ _ _ (os ++ [cy]) (by simp) (Arr.of_own (n := os.length + 1) (c := c1) (by simpa [OwnI] using hown1)).2 hc1 hm1).mono ?_; rintro e w' ⟨v, rfl, n, hn, rfl, rfl⟩; have HN := hide hn; clear hn))
      go_ret
      have hv := NatV.of_trim (Arr.of_own (n := os.length + 1) (c := c1) (by simpa [OwnI] using hown1)).2 (hdos.snoc hy0 (by omega)) (by simp [HL.out, maxLen]; omega) HN.out
      refine ⟨_, rfl, ?_, (hbel.alloc hbel.size _).trans hb1⟩
      rw [val_snoc, HL.out, HV.out] at hv
      refine hv.more (by simp [HL.out])
theorem shifted_c (w : World) (v : Value) (x : Int) (L n : Nat) (hx : NatV w v x L) (hL : L ≤ 1073741824) (hn : n < 32) :
    Calls Tryz.prog 197 #[v, .int .i64 n] w (Ret (natR w (x * 2 ^ n) (L + 1))) := by
  obtain ⟨A, c, xs, rfl, hc, hm, ha, hd, hnn, rfl, hl⟩ := hx
  refine (shifted_digs w A c xs n ha hc hm (by omega) hd hn).mono ?_
  rintro e w' ⟨v, rfl, h1, h2⟩
  exact ⟨v, rfl, h1.more (by omega), h2⟩
theorem or32' (n : Nat) (y cy : Int) (hn : n ≤ 32) (h0 : 0 ≤ y) (h2 : 0 ≤ cy) (h3 : cy < 2 ^ n) : bits .or .u32 cy (y * 2 ^ n % 4294967296) = cy + y * 2 ^ n % 4294967296 := by
  obtain ⟨y, rfl⟩ := Int.eq_ofNat_of_zero_le h0
  obtain ⟨c, rfl⟩ := Int.eq_ofNat_of_zero_le h2
  have hc : c < 2 ^ n := by
    have : ((2 ^ n : Nat) : Int) = (2 : Int) ^ n := by simp
    omega
  have hp : 2 ^ n ≤ 4294967296 := by
    have := Nat.pow_le_pow_right (show 0 < 2 by omega) hn
    simpa using this
  have e : (y : Int) * 2 ^ n % 4294967296 = ((y * 2 ^ n % 4294967296 : Nat) : Int) := by simp
  have hm : y * 2 ^ n % 4294967296 % 2 ^ n = 0 := by
    have hd : 2 ^ n ∣ 4294967296 := by
      have := Nat.pow_dvd_pow 2 hn
      simpa using this
    rw [Nat.mod_mod_of_dvd _ hd, Nat.mul_mod_left]
  rw [e, u32_or_nat _ _ (by omega) (by omega), Nat.or_comm, nat_join n _ c hm hc]
  omega
theorem back_step (V P bk r0 x z p m : Int) (hv : V * p + r0 = P + bk * (x % p)) (e : 4294967296 = p * m) :
    (V + bk * (x / p + m * z)) * p + r0 = P + bk * x + bk * 4294967296 * z := by
  have hx := Int.emod_add_mul_ediv x p
  grind
theorem take_set_succ (xs : List Int) (i : Nat) (d : Int) (h : i < xs.length) : (xs.set i d).take (i + 1) = xs.take i ++ [d] := by
  rw [take_snoc _ _ (by simpa using h), getD_set_eq h]
  congr 1
  simp [List.take_set_of_le]
set_option maxHeartbeats 400000 in
theorem back_digs (w : World) (A : Option Addr) (c : Nat) (xs : List Int) (n : Nat) (h : Arr w A .u32 xs) (hc : xs.length ≤ c) (hm : c ≤ maxLen) (hl : xs.length ≤ 1073741824) (hd : Dig 4294967296 xs) (hn : n < 32) :
    Calls Tryz.prog 199 #[.slice A xs.length c, .int .i64 n] w (Ret fun v w' => ∃ y, NatV w' v y xs.length ∧ y * 2 ^ n + xs.getD 0 0 % 2 ^ n = val 4294967296 xs ∧ Below w.heap.size w w') := by
  unfold maxLen at hm
  obtain ⟨hp0, hp1⟩ := pow2_bd n (by omega)
  obtain ⟨hq0, hq1⟩ := pow2_bd (32 - n) (by omega)
  have hmk := mk_run Tryz.u32T xs.length (by omega)
  go_enter Tryz.func199, Tryz.ntmps199
  go_wp2
  go_loopw [13] (fun s13 wr => ∃ (k : Nat) (os : List Int), k ≤ xs.length ∧ s13 = .int .i64 k ∧ os.length = xs.length ∧ Dig 4294967296 os ∧
      val 4294967296 (os.take k) * 2 ^ n + xs.getD 0 0 % 2 ^ n = val 4294967296 (xs.take k) + 4294967296 ^ k * (xs.getD k 0 % 2 ^ n) ∧ Blk wr w.heap.size 190 .u32 os ∧ Below w.heap.size w wr)
    (fun s13 _ => xs.length - (intOf s13).toNat)
  case atStart => exact ⟨0, List.replicate xs.length 0, Nat.zero_le _, rfl, by simp, Dig.replicate _ (by omega) _, by simp [val], Blk.new _ _ _ _, (Below.refl _ _).alloc (Nat.le_refl _) _⟩
  case round =>
    obtain ⟨k, os, hk, rfl, hos, hdos, hval, hblk, hbel⟩ := hrel
    by_cases hkx : k < xs.length
    · obtain ⟨b, o, rfl, hbl, hcell⟩ := h.at_ (by omega)
      obtain ⟨x, hx⟩ : ∃ x, x = xs.getD k 0 := ⟨_, rfl⟩
      have hxc := (hbel.cell (p := ⟨b, o + k, none⟩) hbl).trans (hcell k hkx)
      have hxb := hd.at_ hkx
      have htx := val_take_succ 4294967296 xs k hkx
      rw [← hx] at hxc hxb htx
      obtain ⟨hx0, hx1⟩ := hxb
      obtain ⟨q, hq⟩ : ∃ q, q = os.getD k 0 := ⟨_, rfl⟩
      have hqc := hblk.cell (j := k) (by omega)
      rw [← hq] at hqc
      have hqf := hblk.frozen k
      have hdv0 : 0 ≤ x / 2 ^ n := Int.ediv_nonneg hx0 (by omega)
      have e : (4294967296 : Int) = 2 ^ n * 2 ^ (32 - n) := by
        rw [← Int.pow_add, show n + (32 - n) = 32 by omega]; rfl
      have hdv1 : x / 2 ^ n < 2 ^ (32 - n) := by
        apply Int.ediv_lt_of_lt_mul (by omega)
        rw [Int.mul_comm, ← e]; exact hx1
      by_cases hkx1 : k + 1 < xs.length
      · obtain ⟨y, hy⟩ : ∃ y, y = xs.getD (k + 1) 0 := ⟨_, rfl⟩
        have hyc := (hbel.cell (p := ⟨b, o + (k + 1), none⟩) hbl).trans (hcell (k + 1) hkx1)
        have hyb := hd.at_ hkx1
        rw [← hy] at hyc hyb
        obtain ⟨hy0, hy1⟩ := hyb
        have hor := or32' (32 - n) y (x / 2 ^ n) (by omega) hy0 hdv0 hdv1
        have hb2 := hblk.set_ k (x / 2 ^ n)
        have hqc2 := hb2.cell (j := k) (by simp; omega)
        rw [getD_set_eq (by omega)] at hqc2
        have hqf2 := hb2.frozen k
        have hmul : 0 ≤ y * 2 ^ (32 - n) := Int.mul_nonneg hy0 (by omega)
        have hmul2 : y * 2 ^ (32 - n) < 18446744073709551616 := by
          have h1 := Int.mul_le_mul (show y ≤ 4294967295 by omega) hq1 (by omega) (by omega)
          omega
        have HE := hide e; clear e
        have HT := hide htx; clear htx
        have HV := hide hval; clear hval
        have HX := hide (And.intro hx hy); clear hx hy hq
        have HL := hide hos; clear hos
        clear hcell h hd hmk
        go_wp2
        go_region
        go_wp2
        go_roundw
        case rel =>
          have e := HE.out
          have hm0 : 0 ≤ y * 2 ^ (32 - n) % 4294967296 := Int.emod_nonneg _ (by omega)
          have e2 : y * 2 ^ (32 - n) % 4294967296 = 2 ^ (32 - n) * (y % 2 ^ n) := by
            rw [e, Int.mul_comm y, Int.mul_comm (2 ^ n), Int.mul_emod_mul_of_pos _ _ (by omega)]
          have hm1 : y * 2 ^ (32 - n) % 4294967296 + 2 ^ (32 - n) ≤ 4294967296 := by
            have h3 : y % 2 ^ n + 1 ≤ 2 ^ n := Int.emod_lt_of_pos _ (by omega)
            have h4 := Int.mul_le_mul_of_nonneg_left h3 (show (0 : Int) ≤ 2 ^ (32 - n) by omega)
            rw [Int.mul_add, Int.mul_comm (2 ^ (32 - n)) (2 ^ n), ← e] at h4
            rw [e2]; omega
          refine ⟨k + 1, (os.set k (x / 2 ^ n)).set k (x / 2 ^ n + y * 2 ^ (32 - n) % 4294967296), by omega, by go_num, by simp [HL.out], (hdos.set_ _ hdv0 (by omega)).set_ _ (by omega) (by omega), ?_, hb2.set_ k _, (hbel.setCell (by simp) _).trans (((Below.refl _ _).setCell (by simp) _).drew)⟩
          rw [List.set_set, take_set_succ _ _ _ (by have := HL.out; omega), val_snoc, HT.out, List.length_take, Nat.min_eq_left (by have := HL.out; omega), ← HX.out.2, e2]
          have hv := HV.out
          rw [← HX.out.1] at hv
          rw [Int.pow_succ]
          exact back_step _ _ _ _ _ _ _ _ hv e
        case measure => simp [intOf]; omega
      · have hyz : xs.getD (k + 1) 0 = 0 := by simp [List.getD, List.getElem?_eq_none (show xs.length ≤ k + 1 by omega)]
        have HE := hide e; clear e
        have HT := hide htx; clear htx
        have HV := hide hval; clear hval
        have HX := hide (And.intro hx hyz); clear hx hq hyz
        have HL := hide hos; clear hos
        clear hcell h hd hmk
        go_wp2
        go_roundw
        case rel =>
          have e := HE.out
          have hm4 : (2 : Int) ^ (32 - n) ≤ 4294967296 := hq1
          refine ⟨k + 1, os.set k (x / 2 ^ n), by omega, by go_num, by simp [HL.out], hdos.set_ _ hdv0 (by omega), ?_, hblk.set_ k _, hbel.setCell (by simp) _⟩
          rw [take_set_succ _ _ _ (by have := HL.out; omega), val_snoc, HT.out, List.length_take, Nat.min_eq_left (by have := HL.out; omega), HX.out.2]
          have hv := HV.out
          rw [← HX.out.1] at hv
          have := back_step _ _ _ _ _ 0 _ _ hv e
          simpa using this
        case measure => simp [intOf]; omega
    · obtain rfl : k = xs.length := by omega
      have hz : xs.getD xs.length 0 = 0 := by simp [List.getD]
      rw [List.take_of_length_le (Nat.le_refl _), List.take_of_length_le (by omega), hz] at hval
      have hml : xs.length ≤ maxLen := by unfold maxLen; omega
      have HV := hide hval; clear hval
      have HL := hide hos; clear hos
      clear h hd hmk hz
      go_wp2_with (go_at_call 170; refine (trim_c _ _ _ _ os HL.out hblk.arr (Nat.le_refl _) hml).mono ?_; rintro e w' ⟨v, rfl, n, hn, rfl, rfl⟩; have HN := hide hn; clear hn)
      go_ret
      have hv := NatV.of_trim hblk.arr hdos (by rw [HL.out]; exact hml) HN.out
      have hv2 := HV.out
      exact ⟨_, rfl, _, hv.more (by rw [HL.out]; exact Nat.le_refl _), by simpa using hv2, hbel⟩
theorem back_c (w : World) (v : Value) (y : Int) (L n : Nat) (hx : NatV w v (y * 2 ^ n) L) (hL : L ≤ 1073741824) (hn : n < 32) :
    Calls Tryz.prog 199 #[v, .int .i64 n] w (Ret (natR w y L)) := by
  obtain ⟨A, c, xs, rfl, hc, hm, ha, hd, hnn, hv, hl⟩ := hx
  obtain ⟨hp0, hp1⟩ := pow2_bd n (by omega)
  have e : (4294967296 : Int) = 2 ^ n * 2 ^ (32 - n) := by
    rw [← Int.pow_add, show n + (32 - n) = 32 by omega]; rfl
  refine (back_digs w A c xs n ha hc hm (by omega) hd hn).mono ?_
  rintro e' w' ⟨v, rfl, z, h1, h2, h3⟩
  refine ⟨v, rfl, ?_, h3⟩
  have h0 : xs.getD 0 0 % 2 ^ n = 0 := by
    have h4 : val 4294967296 xs % 2 ^ n = 0 := by rw [hv, Int.mul_emod_left]
    cases xs with
    | nil => simp
    | cons d ds =>
      simp only [val] at h4
      rw [e, Int.mul_assoc, Int.add_mul_emod_self_left] at h4
      simpa using h4
  rw [h0, hv, Int.add_zero] at h2
  have := Int.eq_of_mul_eq_mul_right (by omega) h2
  subst this
  exact h1.more hl
end Go.Proofs.YtpoahodnakhmiaaGreat
