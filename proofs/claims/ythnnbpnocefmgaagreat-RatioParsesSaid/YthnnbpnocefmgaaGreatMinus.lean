/- Walks: the difference of two naturals. -/
import Derived.Test.YthnnbpnocefmgaaGreatPlus
namespace Go.Proofs.YthnnbpnocefmgaaGreat
set_option linter.unusedVariables false
set_option linter.unusedSimpArgs false
open Go.RowKit
theorem minus_digs (w : World) (A A' : Option Addr) (c c' : Nat) (xs ys : List Int) (h : Arr w A .u32 xs) (hc : xs.length ≤ c) (hm : c ≤ maxLen) (h' : Arr w A' .u32 ys) (hc' : ys.length ≤ c') (hm' : c' ≤ maxLen)
    (hd : Dig 4294967296 xs) (hd' : Dig 4294967296 ys) (hl : xs.length ≤ 1073741824) (hyx : ys.length ≤ xs.length) (hle : val 4294967296 ys ≤ val 4294967296 xs) :
    Calls Tryz.prog 109 #[.slice A xs.length c, .slice A' ys.length c'] w (Ret (natR w (val 4294967296 xs - val 4294967296 ys) xs.length)) := by
  unfold maxLen at hm hm'
  go_enter Tryz.func109, Tryz.ntmps109
  go_wp2
  go_loopw [5, 6, 11] (fun s5 s6 s11 wr => ∃ (k : Nat) (os : List Int) (cy : Int), k ≤ xs.length ∧ s11 = .int .i64 k ∧ s6 = .int .i64 cy ∧ -1 ≤ cy ∧ cy ≤ 0 ∧ os.length = k ∧ Dig 4294967296 os ∧
      val 4294967296 os + 4294967296 ^ k * cy = val 4294967296 (xs.take k) - val 4294967296 (ys.take k) ∧ OwnI wr w.heap.size 126 .u32 s5 os ∧ Below w.heap.size w wr)
    (fun _ _ s11 _ => xs.length - (intOf s11).toNat)
  case atStart => exact ⟨0, [], 0, Nat.zero_le _, rfl, rfl, by omega, by omega, rfl, Dig.nil _, by simp [val], OwnI.nil _ _ _ _, Below.refl _ _⟩
  case round =>
    obtain ⟨k, os, cy, hk, rfl, rfl, hy0, hy1, hos, hdos, hval, hown, hbel⟩ := hrel
    have hosl : os.length ≤ 17592186044000 := by omega
    by_cases hkx : k < xs.length
    · obtain ⟨b, o, rfl, hbl, hcell⟩ := h.at_ (by omega)
      obtain ⟨x, hx⟩ : ∃ x, x = xs.getD k 0 := ⟨_, rfl⟩
      have hxc := (hbel.cell (p := ⟨b, o + k, none⟩) hbl).trans (hcell k hkx)
      have hxb := hd.at_ hkx
      have htx := val_take_succ 4294967296 xs k hkx
      rw [← hx] at hxc hxb htx
      obtain ⟨hx0, hx1⟩ := hxb
      by_cases hky : k < ys.length
      · obtain ⟨b', o', rfl, hbl', hcell'⟩ := h'.at_ (by omega)
        obtain ⟨y, hy⟩ : ∃ y, y = ys.getD k 0 := ⟨_, rfl⟩
        have hyc := (hbel.cell (p := ⟨b', o' + k, none⟩) hbl').trans (hcell' k hky)
        have hyb := hd'.at_ hky
        have hty := val_take_succ 4294967296 ys k hky
        rw [← hy] at hyc hyb hty
        obtain ⟨hyl, hyu⟩ := hyb
        have HT := hide (And.intro htx hty); clear htx hty
        have HV := hide hval; clear hval
        have HX := hide (And.intro hx hy); clear hx hy
        have HL := hide hos; clear hos
        have HLE := hide hle; clear hle
        clear hcell hcell' h h' hd hd'
        go_wp2_with (at_builtin; refine app1 Tryz.u32T _ rfl _ _ rfl w.heap.size _ os ((cy + x - y) % 4294967296) rfl (hown.keep ((Below.refl _ _).alloc (Nat.le_refl _) _)) ⟨wr.heap.size, 0, none⟩ _ rfl (by simp [World.cell?_alloc_new]) hosl (by have := hbel.size; simp; omega) ?_; intro g c1 w1 hown1 _ _ hb1)
        go_roundw
        case rel =>
          refine ⟨k + 1, os ++ [(cy + x - y) % 4294967296], (cy + x - y) / 4294967296, by omega, by go_num, rfl, by omega, by omega, by simp [HL.out], hdos.snoc (by omega) (by omega), ?_, hown1, (hbel.alloc hbel.size _).trans hb1⟩
          rw [val_snoc, HL.out, HT.out.1, HT.out.2]
          have := HV.out
          have e : (cy + x - y) % 4294967296 + 4294967296 * ((cy + x - y) / 4294967296) = cy + x - y := Int.emod_add_mul_ediv _ _
          grind
        case measure => simp [intOf]; omega
      · have hty1 := val_take_more 4294967296 ys k (by omega)
        have hty2 := val_take_more 4294967296 ys (k + 1) (by omega)
        have HT := hide (And.intro htx (And.intro hty1 hty2)); clear htx hty1 hty2
        have HV := hide hval; clear hval
        have HX := hide hx; clear hx
        have HL := hide hos; clear hos
        have HLE := hide hle; clear hle
        clear hcell h h' hd hd'
        go_wp2_with (at_builtin; refine app1 Tryz.u32T _ rfl _ _ rfl w.heap.size _ os ((cy + x) % 4294967296) rfl (hown.keep ((Below.refl _ _).alloc (Nat.le_refl _) _)) ⟨wr.heap.size, 0, none⟩ _ rfl (by simp [World.cell?_alloc_new]) hosl (by have := hbel.size; simp; omega) ?_; intro g c1 w1 hown1 _ _ hb1)
        go_roundw
        case rel =>
          refine ⟨k + 1, os ++ [(cy + x) % 4294967296], (cy + x) / 4294967296, by omega, by go_num, rfl, by omega, by omega, by simp [HL.out], hdos.snoc (by omega) (by omega), ?_, hown1, (hbel.alloc hbel.size _).trans hb1⟩
          rw [val_snoc, HL.out, HT.out.1, HT.out.2.2]
          have := HV.out
          rw [HT.out.2.1] at this
          have e : (cy + x) % 4294967296 + 4294967296 * ((cy + x) / 4294967296) = cy + x := Int.emod_add_mul_ediv _ _
          grind
        case measure => simp [intOf]; omega
    · obtain rfl : k = xs.length := by omega
      rw [List.take_of_length_le (Nat.le_refl _), val_take_more _ ys _ (by omega)] at hval
      have hv := val_lt (by omega) hdos
      rw [hos] at hv
      obtain rfl : cy = 0 := by
        have h1 : cy = 0 ∨ cy = -1 := by omega
        rcases h1 with h1 | h1
        · exact h1
        · subst h1; omega
      have HV := hide hval; clear hval
      have HL := hide hos; clear hos
      have HX := hide hv; clear hv
      have HLE := hide hle; clear hle
      obtain ⟨Ao, co, rfl, hco, hmo, hao⟩ := hown.form
      clear h h' hd hd'
      go_wp2_with (go_at_call 123; refine (trim_c _ _ _ _ os rfl hao hco hmo).mono ?_; rintro e w' ⟨v, rfl, n, hn, rfl, rfl⟩; have HN := hide hn; clear hn)
      go_ret
      have hv := NatV.of_trim hao hdos (by omega) HN.out
      refine ⟨_, rfl, ?_, hbel⟩
      have e := HV.out
      rw [show val 4294967296 xs - val 4294967296 ys = val 4294967296 os by simpa using e.symm]
      exact hv.more (by simp [HL.out])
theorem minus_c (w : World) (v v' : Value) (x y : Int) (L L' : Nat) (hx : NatV w v x L) (hy : NatV w v' y L') (hL : L ≤ 1073741824) (hle : y ≤ x) :
    Calls Tryz.prog 109 #[v, v'] w (Ret (natR w (x - y) L)) := by
  obtain ⟨A, c, xs, rfl, hc, hm, ha, hd, hn, rfl, hl⟩ := hx
  obtain ⟨A', c', ys, rfl, hc', hm', ha', hd', hn', rfl, hl'⟩ := hy
  have hyx : ys.length ≤ xs.length := by
    rcases Nat.lt_or_ge xs.length ys.length with h | h
    · have := val_lt_of_length (by omega) hd hd' hn' h; omega
    · exact h
  refine (minus_digs w A A' c c' xs ys ha hc hm ha' hc' hm' hd hd' (by omega) hyx hle).mono ?_
  rintro e w' ⟨v, rfl, h1, h2⟩
  exact ⟨v, rfl, h1.more hl, h2⟩
end Go.Proofs.YthnnbpnocefmgaaGreat
