/- Walks: the product of two naturals. -/
import Derived.Test.YthnnbpnocefmgaaGreatPlus
namespace Go.Proofs.YthnnbpnocefmgaaGreat
set_option linter.unusedVariables false
set_option linter.unusedSimpArgs false
open Go.RowKit
theorem times_step (V P c T x y q : Int) (h : V + P * c = T) : V + P * ((c + (x * y + q)) % 4294967296 - q) + P * 4294967296 * ((c + (x * y + q)) / 4294967296) = T + P * (x * y) := by
  have e := Int.emod_add_mul_ediv (c + (x * y + q)) 4294967296
  grind
set_option maxHeartbeats 1000000 in
theorem times_digs (w : World) (A A' : Option Addr) (c c' : Nat) (xs ys : List Int) (h : Arr w A .u32 xs) (hc : xs.length ≤ c) (hm : c ≤ maxLen) (h' : Arr w A' .u32 ys) (hc' : ys.length ≤ c') (hm' : c' ≤ maxLen)
    (hd : Dig 4294967296 xs) (hd' : Dig 4294967296 ys) (hl : xs.length ≤ 1073741824) (hl' : ys.length ≤ 1073741824) :
    Calls Tryz.prog 107 #[.slice A xs.length c, .slice A' ys.length c'] w (Ret (natR w (val 4294967296 xs * val 4294967296 ys) (xs.length + ys.length))) := by
  unfold maxLen at hm hm'
  have hmk := mk_run Tryz.u32T (xs.length + ys.length) (by omega)
  rw [Int.natCast_add] at hmk
  go_enter Tryz.func107, Tryz.ntmps107
  go_wp2
  go_loopw [19] (fun s19 wr => ∃ (i : Nat) (os : List Int), i ≤ xs.length ∧ s19 = .int .i64 i ∧ os.length = xs.length + ys.length ∧ Dig 4294967296 os ∧
      val 4294967296 os = val 4294967296 (xs.take i) * val 4294967296 ys ∧ (∀ j, i + ys.length ≤ j → os.getD j 0 = 0) ∧ Blk wr w.heap.size 126 .u32 os ∧ Below w.heap.size w wr)
    (fun s19 _ => xs.length - (intOf s19).toNat)
  case atStart => exact ⟨0, List.replicate (xs.length + ys.length) 0, Nat.zero_le _, rfl, by simp, Dig.replicate _ (by omega) _, by rw [val_replicate]; simp [val], fun j _ => by simp [List.getD, List.getElem?_replicate]; split <;> rfl, Blk.new _ _ _ _, (Below.refl _ _).alloc (Nat.le_refl _) _⟩
  case round =>
    obtain ⟨i, os, hi, rfl, hos, hdos, hval, hz, hblk, hbel⟩ := hrel
    by_cases hix : i < xs.length
    · obtain ⟨b, o, rfl, hbl, hcell⟩ := h.at_ (by omega)
      obtain ⟨x, hx⟩ : ∃ x, x = xs.getD i 0 := ⟨_, rfl⟩
      have hxc := (hbel.cell (p := ⟨b, o + i, none⟩) hbl).trans (hcell i hix)
      have hxb := hd.at_ hix
      have htx := val_take_succ 4294967296 xs i hix
      rw [← hx] at hxc hxb htx
      obtain ⟨hx0, hx1⟩ := hxb
      have HT := hide htx; clear htx
      have HX := hide hx; clear hx
      have HL := hide hos; clear hos
      have HV := hide hval; clear hval
      have HZ := hide hz; clear hz
      have HC := hide hcell; clear hcell
      have HMK := hide hmk; clear hmk
      have HD := hide (And.intro hd hd'); clear hd hd'
      have HB := hide (And.intro hblk hdos); clear hblk hdos
      obtain ⟨wo, rfl⟩ : ∃ wo : World, wo = wr := ⟨_, rfl⟩
      go_wp2
      go_loopw [8, 26] (fun s8 s26 wr => ∃ (j : Nat) (ps : List Int) (cy : Int), j ≤ ys.length ∧ s26 = .int .i64 j ∧ s8 = .int .u64 cy ∧ 0 ≤ cy ∧ cy < 4294967296 ∧ ps.length = xs.length + ys.length ∧ Dig 4294967296 ps ∧
          val 4294967296 ps + 4294967296 ^ (i + j) * cy = val 4294967296 (xs.take i) * val 4294967296 ys + 4294967296 ^ i * x * val 4294967296 (ys.take j) ∧ (∀ j, i + ys.length ≤ j → ps.getD j 0 = 0) ∧ Blk wr w.heap.size 126 .u32 ps ∧ Below w.heap.size w wr)
        (fun _ s26 _ => ys.length - (intOf s26).toNat)
      case atStart => exact ⟨0, os, 0, Nat.zero_le _, rfl, rfl, by omega, by omega, HL.out, HB.out.2, by rw [HV.out]; simp [val], HZ.out, HB.out.1, hbel⟩
      case round =>
        obtain ⟨j, ps, cy, hj, rfl, rfl, hy0, hy1, hps, hdps, hvalp, hzp, hblkp, hbelp⟩ := hrel
        by_cases hjy : j < ys.length
        · obtain ⟨b', o', rfl, hbl', hcell'⟩ := h'.at_ (by omega)
          obtain ⟨y, hy⟩ : ∃ y, y = ys.getD j 0 := ⟨_, rfl⟩
          have hyc := (hbelp.cell (p := ⟨b', o' + j, none⟩) hbl').trans (hcell' j hjy)
          have hyb := HD.out.2.at_ hjy
          have hty := val_take_succ 4294967296 ys j hjy
          rw [← hy] at hyc hyb hty
          obtain ⟨hyl, hyu⟩ := hyb
          obtain ⟨q, hq⟩ : ∃ q, q = ps.getD (i + j) 0 := ⟨_, rfl⟩
          have hqc := hblkp.cell (j := i + j) (by omega)
          have hqb := hdps.at_ (k := i + j) (by omega)
          rw [← hq] at hqc hqb
          obtain ⟨hq0, hq1⟩ := hqb
          have hqf := hblkp.frozen (i + j)
          have hxy0 : 0 ≤ x * y := Int.mul_nonneg hx0 hyl
          have hxy1 : x * y ≤ 18446744065119617025 := Int.mul_le_mul (show x ≤ 4294967295 by omega) (show y ≤ 4294967295 by omega) hyl (by omega)
          have HT2 := hide hty; clear hty
          have HV2 := hide hvalp; clear hvalp
          have HY := hide (And.intro hy hq); clear hy hq
          have HP := hide hps; clear hps
          have HZ2 := hide hzp; clear hzp
          clear hcell' h h'
          go_wp2
          go_roundw
          case rel =>
            refine ⟨j + 1, ps.set (i + j) ((cy + (x * y + q)) % 4294967296), (cy + (x * y + q)) / 4294967296, by omega, by go_num, rfl, by omega, by omega, by simp [HP.out], hdps.set_ _ (by omega) (by omega), ?_, ?_, hblkp.set_ _ _, hbelp.setCell (by simp) _⟩
            · rw [val_set _ _ _ _ (by have := HP.out; omega), HT2.out, ← HY.out.2, show i + (j + 1) = i + j + 1 by omega, Int.pow_succ]
              have := times_step _ _ _ _ x y q HV2.out
              rw [this, Int.pow_add]
              grind
            · intro m hm
              rw [getD_set_ne (by omega)]; exact HZ2.out m hm
          case measure => simp [intOf]; omega
        · obtain rfl : j = ys.length := by omega
          rw [List.take_of_length_le (Nat.le_refl _)] at hvalp
          obtain ⟨q, hq⟩ : ∃ q, q = ps.getD (i + ys.length) 0 := ⟨_, rfl⟩
          have hqc := hblkp.cell (j := i + ys.length) (by omega)
          rw [← hq] at hqc
          have hq0 : q = 0 := by rw [hq]; exact hzp _ (Nat.le_refl _)
          have hqf := hblkp.frozen (i + ys.length)
          have HV2 := hide hvalp; clear hvalp
          have HY := hide (And.intro hq hq0); clear hq hq0
          have HP := hide hps; clear hps
          have HZ2 := hide hzp; clear hzp
          clear h h'
          go_wp2
          go_roundw
          case rel =>
            refine ⟨i + 1, ps.set (i + ys.length) cy, by omega, by go_num, by simp [HP.out], hdps.set_ _ hy0 hy1, ?_, ?_, hblkp.set_ _ _, hbelp.setCell (by simp) _⟩
            · rw [val_set _ _ _ _ (by have := HP.out; omega), ← HY.out.1, HY.out.2, HT.out]
              have := HV2.out
              grind
            · intro m hm
              rw [getD_set_ne (by omega)]; exact HZ2.out m (by omega)
          case measure => simp [intOf]; omega
    · obtain rfl : i = xs.length := by omega
      rw [List.take_of_length_le (Nat.le_refl _)] at hval
      have hml : xs.length + ys.length ≤ maxLen := by unfold maxLen; omega
      have HV := hide hval; clear hval
      have HL := hide hos; clear hos
      have HZ := hide hz; clear hz
      clear h h' hd hd' hmk
      go_wp2_with (go_at_call 123; refine (trim_c _ _ _ _ os HL.out hblk.arr (Nat.le_refl _) hml).mono ?_; rintro e w' ⟨v, rfl, n, hn, rfl, rfl⟩; have HN := hide hn; clear hn)
      go_ret
      have hv := NatV.of_trim hblk.arr hdos (by rw [HL.out]; exact hml) HN.out
      rw [HV.out] at hv
      exact ⟨_, rfl, hv.more (by rw [HL.out]; exact Nat.le_refl _), hbel⟩
theorem times_c (w : World) (v v' : Value) (x y : Int) (L L' : Nat) (hx : NatV w v x L) (hy : NatV w v' y L') (hL : L ≤ 1073741824) (hL' : L' ≤ 1073741824) :
    Calls Tryz.prog 107 #[v, v'] w (Ret (natR w (x * y) (L + L'))) := by
  obtain ⟨A, c, xs, rfl, hc, hm, ha, hd, hn, rfl, hl⟩ := hx
  obtain ⟨A', c', ys, rfl, hc', hm', ha', hd', hn', rfl, hl'⟩ := hy
  refine (times_digs w A A' c c' xs ys ha hc hm ha' hc' hm' hd hd' (by omega) (by omega)).mono ?_
  rintro e w' ⟨v, rfl, h1, h2⟩
  exact ⟨v, rfl, h1.more (by omega), h2⟩
end Go.Proofs.YthnnbpnocefmgaaGreat
