/- Walks: the sum of two naturals. -/
import Derived.Test.YthnnbpnocefmgaaGreatDig
namespace Go.Proofs.YthnnbpnocefmgaaGreat
set_option linter.unusedVariables false
set_option linter.unusedSimpArgs false
open Go.RowKit
theorem Tryz.u32T : IntT Tryz.prog 32 126 .u32 4 := ⟨Tryz.underlying32, by kernel_rfl, by omega⟩
theorem plus_ge (w : World) (A A' : Option Addr) (c c' : Nat) (xs ys : List Int) (h : Arr w A .u32 xs) (hc : xs.length ≤ c) (hm : c ≤ maxLen) (h' : Arr w A' .u32 ys) (hc' : ys.length ≤ c') (hm' : c' ≤ maxLen)
    (hd : Dig 4294967296 xs) (hd' : Dig 4294967296 ys) (hl : xs.length ≤ 1073741824) (hyx : ys.length ≤ xs.length) :
    Calls Tryz.prog 78 #[.slice A xs.length c, .slice A' ys.length c'] w (Ret (natR w (val 4294967296 xs + val 4294967296 ys) (xs.length + 1))) := by
  unfold maxLen at hm hm'
  have hdec : decide (xs.length < ys.length) = false := by simp; omega
  go_enter Tryz.func78, Tryz.ntmps78
  go_wp2
  go_loopw [5, 6, 18] (fun s5 s6 s18 wr => ∃ (k : Nat) (os : List Int) (cy : Int), k ≤ xs.length ∧ s18 = .int .i64 k ∧ s6 = .int .u64 cy ∧ 0 ≤ cy ∧ cy ≤ 1 ∧ os.length = k ∧ Dig 4294967296 os ∧
      val 4294967296 os + 4294967296 ^ k * cy = val 4294967296 (xs.take k) + val 4294967296 (ys.take k) ∧ OwnI wr w.heap.size 126 .u32 s5 os ∧ Below w.heap.size w wr)
    (fun _ _ s18 _ => xs.length - (intOf s18).toNat)
  case atStart => exact ⟨0, [], 0, Nat.zero_le _, rfl, rfl, by omega, by omega, rfl, Dig.nil _, by simp [val], OwnI.nil _ _ _ _, Below.refl _ _⟩
  case round =>
    obtain ⟨k, os, cy, hk, rfl, rfl, hy0, hy1, hos, hdos, hval, hown, hbel⟩ := hrel
    have hosl : os.length ≤ 17592186044000 := by omega
    by_cases hkx : k < xs.length
    · obtain ⟨b, o, rfl, hbl, hcell⟩ := h.at_ (by omega)
      obtain ⟨x, hx⟩ : ∃ x, x = xs.getD k 0 := ⟨_, rfl⟩
      have hxc := (hbel.cell (p := ⟨b, o + k, none⟩) hbl).trans (hcell k hkx)
      have hxb := hd.at_ hkx
      have htx := val_take_succ 4294967296 xs k hkx
      rw [← hx] at hxc hxb htx
      obtain ⟨hx0, hx1⟩ := hxb
      by_cases hky : k < ys.length
      · obtain ⟨b', o', rfl, hbl', hcell'⟩ := h'.at_ (by omega)
        obtain ⟨y, hy⟩ : ∃ y, y = ys.getD k 0 := ⟨_, rfl⟩
        have hyc := (hbel.cell (p := ⟨b', o' + k, none⟩) hbl').trans (hcell' k hky)
        have hyb := hd'.at_ hky
        have hty := val_take_succ 4294967296 ys k hky
        rw [← hy] at hyc hyb hty
        obtain ⟨hyl, hyu⟩ := hyb
        have HT := hide (And.intro htx hty); clear htx hty
        have HV := hide hval; clear hval
        have HX := hide (And.intro hx hy); clear hx hy
        have HL := hide hos; clear hos
        clear hcell hcell' h h' hd hd'
        go_wp2_with (at_builtin; refine app1 Tryz.u32T _ rfl _ _ rfl w.heap.size _ os ((cy + x + y) % 4294967296) rfl (hown.keep ((Below.refl _ _).alloc (Nat.le_refl _) _)) ⟨wr.heap.size, 0, none⟩ _ rfl (by simp [World.cell?_alloc_new]) hosl (by have := hbel.size; simp; omega) ?_; intro g c1 w1 hown1 _ _ hb1)
        go_roundw
        case rel =>
          refine ⟨k + 1, os ++ [(cy + x + y) % 4294967296], (cy + x + y) / 4294967296, by omega, by go_num, rfl, by omega, by omega, by simp [HL.out], hdos.snoc (by omega) (by omega), ?_, hown1, (hbel.alloc hbel.size _).trans hb1⟩
          rw [val_snoc, HL.out, HT.out.1, HT.out.2]
          have := HV.out
          have e : (cy + x + y) % 4294967296 + 4294967296 * ((cy + x + y) / 4294967296) = cy + x + y := Int.emod_add_mul_ediv _ _
          grind
        case measure => simp [intOf]; omega
      · have hty1 := val_take_more 4294967296 ys k (by omega)
        have hty2 := val_take_more 4294967296 ys (k + 1) (by omega)
        have HT := hide (And.intro htx (And.intro hty1 hty2)); clear htx hty1 hty2
        have HV := hide hval; clear hval
        have HX := hide hx; clear hx
        have HL := hide hos; clear hos
        clear hcell h h' hd hd'
        go_wp2_with (at_builtin; refine app1 Tryz.u32T _ rfl _ _ rfl w.heap.size _ os ((cy + x) % 4294967296) rfl (hown.keep ((Below.refl _ _).alloc (Nat.le_refl _) _)) ⟨wr.heap.size, 0, none⟩ _ rfl (by simp [World.cell?_alloc_new]) hosl (by have := hbel.size; simp; omega) ?_; intro g c1 w1 hown1 _ _ hb1)
        go_roundw
        case rel =>
          refine ⟨k + 1, os ++ [(cy + x) % 4294967296], (cy + x) / 4294967296, by omega, by go_num, rfl, by omega, by omega, by simp [HL.out], hdos.snoc (by omega) (by omega), ?_, hown1, (hbel.alloc hbel.size _).trans hb1⟩
          rw [val_snoc, HL.out, HT.out.1, HT.out.2.2]
          have := HV.out
          rw [HT.out.2.1] at this
          have e : (cy + x) % 4294967296 + 4294967296 * ((cy + x) / 4294967296) = cy + x := Int.emod_add_mul_ediv _ _
          grind
        case measure => simp [intOf]; omega
    · obtain rfl : k = xs.length := by omega
      rw [List.take_of_length_le (Nat.le_refl _), val_take_more _ ys _ (by omega)] at hval
      have HV := hide hval; clear hval
      have HL := hide hos; clear hos
      have hD := hide (And.intro hd hd')
      clear h h' hd hd'
      go_wp2_with (first
        | (at_builtin; refine app1 Tryz.u32T _ rfl _ _ rfl w.heap.size _ os cy rfl (hown.keep ((Below.refl _ _).alloc (Nat.le_refl _) _)) ⟨wr.heap.size, 0, none⟩ _ rfl (by simp [World.cell?_alloc_new]) hosl (by have := hbel.size; simp; omega) ?_; intro g c1 w1 hown1 hc1 hm1 hb1)
        | (go_at_call 123; refine (trim_c _ _ _ _ (os ++ [cy]) (by simp) (Arr.of_own (n := os.length + 1) (c := c1) (by simpa [OwnI] using hown1)).2 hc1 hm1).mono ?_; rintro e w' ⟨v, rfl, n, hn, rfl, rfl⟩; have HN := hide hn; clear hn))
      go_ret
      have hv := NatV.of_trim (Arr.of_own (n := os.length + 1) (c := c1) (by simpa [OwnI] using hown1)).2 (hdos.snoc hy0 (by omega)) (by simp [HL.out, maxLen]; omega) HN.out
      refine ⟨_, rfl, ?_, (hbel.alloc hbel.size _).trans hb1⟩
      rw [val_snoc, HL.out, HV.out] at hv
      refine hv.more (by simp [HL.out])
theorem plus_lt (w : World) (A A' : Option Addr) (c c' : Nat) (xs ys : List Int) (h : Arr w A .u32 xs) (hc : xs.length ≤ c) (hm : c ≤ maxLen) (h' : Arr w A' .u32 ys) (hc' : ys.length ≤ c') (hm' : c' ≤ maxLen)
    (hd : Dig 4294967296 xs) (hd' : Dig 4294967296 ys) (hl : xs.length ≤ 1073741824) (hyx : ys.length < xs.length) :
    Calls Tryz.prog 78 #[.slice A' ys.length c', .slice A xs.length c] w (Ret (natR w (val 4294967296 xs + val 4294967296 ys) (xs.length + 1))) := by
  unfold maxLen at hm hm'
  have hdec : decide (ys.length < xs.length) = true := by simp; omega
  go_enter Tryz.func78, Tryz.ntmps78
  go_wp2
  go_loopw [5, 6, 18] (fun s5 s6 s18 wr => ∃ (k : Nat) (os : List Int) (cy : Int), k ≤ xs.length ∧ s18 = .int .i64 k ∧ s6 = .int .u64 cy ∧ 0 ≤ cy ∧ cy ≤ 1 ∧ os.length = k ∧ Dig 4294967296 os ∧
      val 4294967296 os + 4294967296 ^ k * cy = val 4294967296 (xs.take k) + val 4294967296 (ys.take k) ∧ OwnI wr w.heap.size 126 .u32 s5 os ∧ Below w.heap.size w wr)
    (fun _ _ s18 _ => xs.length - (intOf s18).toNat)
  case atStart => exact ⟨0, [], 0, Nat.zero_le _, rfl, rfl, by omega, by omega, rfl, Dig.nil _, by simp [val], OwnI.nil _ _ _ _, Below.refl _ _⟩
  case round =>
    obtain ⟨k, os, cy, hk, rfl, rfl, hy0, hy1, hos, hdos, hval, hown, hbel⟩ := hrel
    have hosl : os.length ≤ 17592186044000 := by omega
    by_cases hkx : k < xs.length
    · obtain ⟨b, o, rfl, hbl, hcell⟩ := h.at_ (by omega)
      obtain ⟨x, hx⟩ : ∃ x, x = xs.getD k 0 := ⟨_, rfl⟩
      have hxc := (hbel.cell (p := ⟨b, o + k, none⟩) hbl).trans (hcell k hkx)
      have hxb := hd.at_ hkx
      have htx := val_take_succ 4294967296 xs k hkx
      rw [← hx] at hxc hxb htx
      obtain ⟨hx0, hx1⟩ := hxb
      by_cases hky : k < ys.length
      · obtain ⟨b', o', rfl, hbl', hcell'⟩ := h'.at_ (by omega)
        obtain ⟨y, hy⟩ : ∃ y, y = ys.getD k 0 := ⟨_, rfl⟩
        have hyc := (hbel.cell (p := ⟨b', o' + k, none⟩) hbl').trans (hcell' k hky)
        have hyb := hd'.at_ hky
        have hty := val_take_succ 4294967296 ys k hky
        rw [← hy] at hyc hyb hty
        obtain ⟨hyl, hyu⟩ := hyb
        have HT := hide (And.intro htx hty); clear htx hty
        have HV := hide hval; clear hval
        have HX := hide (And.intro hx hy); clear hx hy
        have HL := hide hos; clear hos
        clear hcell hcell' h h' hd hd'
        go_wp2_with (at_builtin; refine app1 Tryz.u32T _ rfl _ _ rfl w.heap.size _ os ((cy + x + y) % 4294967296) rfl (hown.keep ((Below.refl _ _).alloc (Nat.le_refl _) _)) ⟨wr.heap.size, 0, none⟩ _ rfl (by simp [World.cell?_alloc_new]) hosl (by have := hbel.size; simp; omega) ?_; intro g c1 w1 hown1 _ _ hb1)
        go_roundw
        case rel =>
          refine ⟨k + 1, os ++ [(cy + x + y) % 4294967296], (cy + x + y) / 4294967296, by omega, by go_num, rfl, by omega, by omega, by simp [HL.out], hdos.snoc (by omega) (by omega), ?_, hown1, (hbel.alloc hbel.size _).trans hb1⟩
          rw [val_snoc, HL.out, HT.out.1, HT.out.2]
          have := HV.out
          have e : (cy + x + y) % 4294967296 + 4294967296 * ((cy + x + y) / 4294967296) = cy + x + y := Int.emod_add_mul_ediv _ _
          grind
        case measure => simp [intOf]; omega
      · have hty1 := val_take_more 4294967296 ys k (by omega)
        have hty2 := val_take_more 4294967296 ys (k + 1) (by omega)
        have HT := hide (And.intro htx (And.intro hty1 hty2)); clear htx hty1 hty2
        have HV := hide hval; clear hval
        have HX := hide hx; clear hx
        have HL := hide hos; clear hos
        clear hcell h h' hd hd'
        go_wp2_with (at_builtin; refine app1 Tryz.u32T _ rfl _ _ rfl w.heap.size _ os ((cy + x) % 4294967296) rfl (hown.keep ((Below.refl _ _).alloc (Nat.le_refl _) _)) ⟨wr.heap.size, 0, none⟩ _ rfl (by simp [World.cell?_alloc_new]) hosl (by have := hbel.size; simp; omega) ?_; intro g c1 w1 hown1 _ _ hb1)
        go_roundw
        case rel =>
          refine ⟨k + 1, os ++ [(cy + x) % 4294967296], (cy + x) / 4294967296, by omega, by go_num, rfl, by omega, by omega, by simp [HL.out], hdos.snoc (by omega) (by omega), ?_, hown1, (hbel.alloc hbel.size _).trans hb1⟩
          rw [val_snoc, HL.out, HT.out.1, HT.out.2.2]
          have := HV.out
          rw [HT.out.2.1] at this
          have e : (cy + x) % 4294967296 + 4294967296 * ((cy + x) / 4294967296) = cy + x := Int.emod_add_mul_ediv _ _
          grind
        case measure => simp [intOf]; omega
    · obtain rfl : k = xs.length := by omega
      rw [List.take_of_length_le (Nat.le_refl _), val_take_more _ ys _ (by omega)] at hval
      have HV := hide hval; clear hval
      have HL := hide hos; clear hos
      have hD := hide (And.intro hd hd')
      clear h h' hd hd'
      go_wp2_with (first
        | (at_builtin; refine app1 Tryz.u32T _ rfl _ _ rfl w.heap.size _ os cy rfl (hown.keep ((Below.refl _ _).alloc (Nat.le_refl _) _)) ⟨wr.heap.size, 0, none⟩ _ rfl (by simp [World.cell?_alloc_new]) hosl (by have := hbel.size; simp; omega) ?_; intro g c1 w1 hown1 hc1 hm1 hb1)
        | (go_at_call 123; refine (trim_c _ _ _ _ (os ++ [cy]) (by simp) (Arr.of_own (n := os.length + 1) (c := c1) (by simpa [OwnI] using hown1)).2 hc1 hm1).mono ?_; rintro e w' ⟨v, rfl, n, hn, rfl, rfl⟩; have HN := hide hn; clear hn))
      go_ret
      have hv := NatV.of_trim (Arr.of_own (n := os.length + 1) (c := c1) (by simpa [OwnI] using hown1)).2 (hdos.snoc hy0 (by omega)) (by simp [HL.out, maxLen]; omega) HN.out
      refine ⟨_, rfl, ?_, (hbel.alloc hbel.size _).trans hb1⟩
      rw [val_snoc, HL.out, HV.out] at hv
      refine hv.more (by simp [HL.out])
theorem plus_c (w : World) (v v' : Value) (x y : Int) (L L' : Nat) (hx : NatV w v x L) (hy : NatV w v' y L') (hL : L ≤ 1073741824) (hL' : L' ≤ 1073741824) :
    Calls Tryz.prog 78 #[v, v'] w (Ret (natR w (x + y) (max L L' + 1))) := by
  obtain ⟨A, c, xs, rfl, hc, hm, ha, hd, hn, rfl, hl⟩ := hx
  obtain ⟨A', c', ys, rfl, hc', hm', ha', hd', hn', rfl, hl'⟩ := hy
  rcases Nat.lt_or_ge xs.length ys.length with h | h
  · refine (plus_lt w A' A c' c ys xs ha' hc' hm' ha hc hm hd' hd (by omega) h).mono ?_
    rintro e w' ⟨v, rfl, h1, h2⟩
    rw [Int.add_comm] at h1
    exact ⟨v, rfl, h1.more (by omega), h2⟩
  · refine (plus_ge w A A' c c' xs ys ha hc hm ha' hc' hm' hd hd' (by omega) h).mono ?_
    rintro e w' ⟨v, rfl, h1, h2⟩
    exact ⟨v, rfl, h1.more (by omega), h2⟩
end Go.Proofs.YthnnbpnocefmgaaGreat
