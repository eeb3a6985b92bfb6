/- Walks of the reference: a natural times a number, and divided by one; differences. -/
import Derived.Test.YthnnbpnocefmgaaLim
namespace Go.Proofs.Ythnnbpnocefmgaa
set_option linter.unusedVariables false
set_option linter.unusedSimpArgs false
open Go.RowKit

theorem tim9_step (V P cy T x m : Int) (h : V + P * cy = T * m) : V + P * ((cy + x * m) % 1000000000) + P * 1000000000 * ((cy + x * m) / 1000000000) = (T + P * x) * m := by
  have e : (cy + x * m) % 1000000000 + 1000000000 * ((cy + x * m) / 1000000000) = cy + x * m := Int.emod_add_mul_ediv _ _
  grind

theorem tim9_digs (w : World) (A : Option Addr) (c : Nat) (xs : List Int) (m : Int) (h : Arr w A .i64 xs) (hc : xs.length ≤ c) (hm : c ≤ maxLen) (hd : Dig 1000000000 xs) (hl : xs.length ≤ 1073741824) (hm0 : 0 ≤ m) (hm1 : m ≤ 1000000000) :
    Calls Try.prog 79 #[.slice A xs.length c, .int .i64 m] w (Ret (limR w (val 1000000000 xs * m) (xs.length + 1))) := by
  unfold maxLen at hm
  go_enter Try.func79, Try.ntmps79
  go_wp2
  go_loopw [5, 6, 7] (fun s5 s6 s7 wr => ∃ (k : Nat) (os : List Int) (cy : Int), k ≤ xs.length + 1 ∧ (k ≤ xs.length ∨ cy = 0) ∧ s7 = .int .i64 k ∧ s6 = .int .i64 cy ∧ 0 ≤ cy ∧ (cy = 0 ∨ cy < m) ∧ os.length = k ∧ Dig 1000000000 os ∧
      val 1000000000 os + 1000000000 ^ k * cy = val 1000000000 (xs.take k) * m ∧ OwnI wr w.heap.size 3 .i64 s5 os ∧ Below w.heap.size w wr)
    (fun _ _ s7 _ => xs.length + 1 - (intOf s7).toNat)
  case atStart => exact ⟨0, [], 0, Nat.zero_le _, .inl (Nat.zero_le _), rfl, rfl, by omega, .inl rfl, rfl, Dig.nil _, by simp [val], OwnI.nil _ _ _ _, Below.refl _ _⟩
  case round =>
    obtain ⟨k, os, cy, hk, hkc, rfl, rfl, hy0, hy1, hos, hdos, hval, hown, hbel⟩ := hrel
    have hosl : os.length ≤ 4398046511104 := by omega
    have hy2 : cy < 1000000000 := by omega
    by_cases hkx : k < xs.length
    · obtain ⟨b, o, rfl, hbl, hcell⟩ := h.at_ (by omega)
      obtain ⟨x, hx⟩ : ∃ x, x = xs.getD k 0 := ⟨_, rfl⟩
      have hxc := (hbel.cell (p := ⟨b, o + k, none⟩) hbl).trans (hcell k hkx)
      have hxb := hd.at_ hkx
      have htx := val_take_succ 1000000000 xs k hkx
      rw [← hx] at hxc hxb htx
      obtain ⟨hx0, hx1⟩ := hxb
      have hxm0 : 0 ≤ x * m := Int.mul_nonneg hx0 hm0
      have hxm1 : x * m ≤ 999999999 * m := Int.mul_le_mul_of_nonneg_right (by omega) hm0
      have HT := hide htx; clear htx
      have HV := hide hval; clear hval
      have HX := hide hx; clear hx
      have HL := hide hos; clear hos
      have HK := hide hkc; clear hkc
      have HY := hide hy1; clear hy1
      clear hcell h hd
      go_wp2_with (at_builtin; refine app1 Try.limT _ rfl _ _ rfl w.heap.size _ os ((cy + x * m) % 1000000000) rfl (hown.keep ((Below.refl _ _).alloc (Nat.le_refl _) _)) ⟨wr.heap.size, 0, none⟩ _ rfl (by simp [World.cell?_alloc_new]) hosl (by have := hbel.size; simp; omega) ?_; intro g c1 w1 hown1 _ _ hb1)
      go_roundw
      case rel =>
        refine ⟨k + 1, os ++ [(cy + x * m) % 1000000000], (cy + x * m) / 1000000000, by omega, .inl (by omega), by go_num, rfl, by omega, ?_, by simp [HL.out], hdos.snoc (by omega) (by omega), ?_, hown1, (hbel.alloc hbel.size _).trans hb1⟩
        · rcases HY.out with h | h <;> omega
        · rw [val_snoc, HL.out, HT.out]
          have := tim9_step _ _ _ _ x _ HV.out
          rw [← this]; grind
      case measure => simp [intOf]; omega
    · by_cases hcy : 0 < cy
      · have hkl : k = xs.length := by omega
        have hcd : decide (0 < cy) = true := by simp [hcy]
        rw [val_take_more _ xs _ (by omega)] at hval
        have HV := hide hval; clear hval
        have HL := hide hos; clear hos
        have HK := hide (And.intro hkc hkl); clear hkc hkl
        have HY := hide hy1; clear hy1
        clear h hd
        go_wp2_with (at_builtin; refine app1 Try.limT _ rfl _ _ rfl w.heap.size _ os (cy % 1000000000) rfl (hown.keep ((Below.refl _ _).alloc (Nat.le_refl _) _)) ⟨wr.heap.size, 0, none⟩ _ rfl (by simp [World.cell?_alloc_new]) hosl (by have := hbel.size; simp; omega) ?_; intro g c1 w1 hown1 _ _ hb1)
        go_roundw
        case rel =>
          have e1 : cy / 1000000000 = 0 := by omega
          have e2 : cy % 1000000000 = cy := by omega
          refine ⟨k + 1, os ++ [cy % 1000000000], cy / 1000000000, by have := HK.out.2; omega, .inr e1, by go_num, rfl, by omega, .inl e1, by simp [HL.out], hdos.snoc (by omega) (by omega), ?_, hown1, (hbel.alloc hbel.size _).trans hb1⟩
          rw [val_snoc, HL.out, val_take_more _ xs _ (by have := HK.out.2; omega), e1, e2, ← HV.out]
          simp
        case measure => have := HK.out.2; simp [intOf]; omega
      · have hc0 : cy = 0 := by omega
        subst hc0
        rw [val_take_more _ xs _ (by omega)] at hval
        have HV := hide hval; clear hval
        have HL := hide hos
        have hos1 : os.length ≤ xs.length + 1 := by omega
        clear hos
        obtain ⟨Ao, co, rfl, hco, hmo, harr⟩ := hown.form
        have HW := hide (And.intro hown (And.intro harr (And.intro hco hmo))); clear hown harr hco hmo
        clear h hd
        go_wp2_with fail
        refine (trim9_c _ _ _ _ os rfl HW.out.2.1 HW.out.2.2.1 HW.out.2.2.2).mono ?_
        rintro e w' ⟨v, rfl, n, hn, rfl, rfl⟩
        have HN := hide hn; clear hn
        go_wp2_with fail
        go_ret
        have hv := LimV.of_trim HW.out.2.1 hdos HW.out.2.2.1 HW.out.2.2.2 HN.out
        have := HV.out
        rw [Int.mul_zero, Int.add_zero] at this
        rw [this] at hv
        exact ⟨_, rfl, hv.more hos1, hbel⟩

theorem tim9_c (w : World) (v : Value) (x m : Int) (L : Nat) (hx : LimV w v x L) (hL : L ≤ 1073741824) (hm0 : 0 ≤ m) (hm1 : m ≤ 1000000000) :
    Calls Try.prog 79 #[v, .int .i64 m] w (Ret (limR w (x * m) (L + 1))) := by
  obtain ⟨A, c, xs, rfl, hc, hm, h, hd, hn, rfl, hlL⟩ := hx
  refine (tim9_digs w A c xs m h hc hm hd (by omega) hm0 hm1).mono ?_
  rintro e w' ⟨v, rfl, h1, h2⟩
  exact ⟨v, rfl, h1.more (by omega), h2⟩

def smallR (w : World) (x d : Int) (L : Nat) (v : Value) (w' : World) : Prop := ∃ q, v = .tuple #[q, .int .i64 (x % d)] ∧ LimV w' q (x / d) L ∧ Below w.heap.size w w'

theorem small9_c (w : World) (v : Value) (x dv : Int) (L : Nat) (hx : LimV w v x L) (hL : L ≤ 1073741824) (h0 : 0 < dv) (h1 : dv ≤ 1000000000) :
    Calls Try.prog 83 #[v, .int .i64 dv] w (Ret (smallR w x dv L)) := by
  obtain ⟨A, c, xs, rfl, hc, hm, h, hd, hn, rfl, hlL⟩ := hx
  unfold maxLen at hm
  have hl : xs.length ≤ 1073741824 := by omega
  have hmk := mk_run Try.limT xs.length (by omega)
  go_enter Try.func83, Try.ntmps83
  go_wp2
  go_loopw [7, 8] (fun s7 s8 wr => ∃ (k : Nat) (os : List Int) (r : Int), k ≤ xs.length ∧ s8 = .int .i64 ((k : Int) - 1) ∧ s7 = .int .i64 r ∧ 0 ≤ r ∧ r < dv ∧ os.length = xs.length ∧ Dig 1000000000 os ∧
     val 1000000000 (xs.drop k) = val 1000000000 (os.drop k) * dv + r ∧ Blk wr w.heap.size 3 .i64 os ∧ Below w.heap.size w wr) (fun _ s8 _ => (intOf s8 + 1).toNat)
  case atStart => exact ⟨xs.length, List.replicate xs.length 0, 0, Nat.le_refl _, rfl, rfl, by omega, h0, by simp, Dig.replicate _ (by omega) _, by simp [val], Blk.new _ _ _ _, (Below.refl _ _).alloc (Nat.le_refl _) _⟩
  case round =>
    obtain ⟨k, os, r, hk, rfl, rfl, hr0, hr1, hos, hdos, hval, hblk, hbel⟩ := hrel
    by_cases hk0 : 0 < k
    · obtain ⟨b, o, rfl, hbl, hcell⟩ := h.at_ (by omega)
      obtain ⟨x, hx⟩ : ∃ x, x = xs.getD (k - 1) 0 := ⟨_, rfl⟩
      have hxc := (hbel.cell (p := ⟨b, o + (k - 1), none⟩) hbl).trans (hcell (k - 1) (by omega))
      have hxd := drop_cons xs (k - 1) (by omega)
      have hxb := hd.at_ (k := k - 1) (by omega)
      rw [← hx] at hxb hxc hxd
      obtain ⟨hx0, hx1⟩ := hxb
      obtain ⟨q, hq⟩ : ∃ q, q = os.getD (k - 1) 0 := ⟨_, rfl⟩
      have hqc := hblk.cell (j := k - 1) (by omega)
      rw [← hq] at hqc
      have hqf := hblk.frozen (k - 1)
      have HQ := hide (And.intro hx hq); clear hx hq
      have HL := hide hos; clear hos
      have HV := hide hval; clear hval
      have HXD := hide hxd; clear hxd
      have hb1 : r * 1000000000 + x < dv * 1000000000 := by omega
      have hq1 : (r * 1000000000 + x) / dv < 1000000000 := Int.ediv_lt_of_lt_mul h0 (by omega)
      have hq0 : 0 ≤ (r * 1000000000 + x) / dv := Int.ediv_nonneg (by omega) (by omega)
      have hr2 : 0 ≤ (r * 1000000000 + x) % dv := Int.emod_nonneg _ (by omega)
      have hr3 : (r * 1000000000 + x) % dv < dv := Int.emod_lt_of_pos _ h0
      clear h hd hcell hmk
      go_wp2
      go_roundw
      case rel =>
        refine ⟨k - 1, os.set (k - 1) ((r * 1000000000 + x) / dv), (r * 1000000000 + x) % dv, by omega, by go_num, by go_num, hr2, hr3, by simp [HL.out], hdos.set_ _ hq0 hq1, ?_, ?_, hbel.setCell (by simp) _⟩
        · rw [HXD.out, drop_set_cons _ _ _ (by have := HL.out; omega), show k - 1 + 1 = k by omega]
          simp only [val]
          rw [HV.out]
          have e := Int.emod_add_mul_ediv (r * 1000000000 + x) dv
          grind
        · exact hblk.set_ _ _
      case measure => simp [intOf]; omega
    · obtain rfl : k = 0 := by omega
      simp only [List.drop_zero] at hval
      have HV := hide hval; clear hval
      have HL := hide hos; clear hos
      have hml : xs.length ≤ maxLen := by unfold maxLen; omega
      clear h hd hmk
      go_wp2_with fail
      refine (trim9_c _ _ _ _ os HL.out hblk.arr (Nat.le_refl _) hml).mono ?_
      rintro e w' ⟨v, rfl, n, hn, rfl, rfl⟩
      have HN := hide hn; clear hn
      go_wp2_with fail
      go_ret2
      have hv := LimV.of_trim hblk.arr hdos (by rw [HL.out]; exact Nat.le_refl _) hml HN.out
      have e1 : val 1000000000 os = val 1000000000 xs / dv ∧ r = val 1000000000 xs % dv := by
        have e := HV.out
        have := (Int.ediv_emod_unique (a := val 1000000000 xs) (b := dv) (r := r) (q := val 1000000000 os) h0).2 ⟨by rw [e, Int.mul_comm]; exact Int.add_comm _ _, hr0, hr1⟩
        exact ⟨this.1.symm, this.2.symm⟩
      refine ⟨_, rfl, .slice (some ⟨w.heap.size, 0, none⟩) n xs.length, ?_, ?_, hbel⟩
      · rw [← e1.2]; rfl
      · rw [← e1.1]; exact hv.more (by rw [HL.out]; exact hlL)

end Go.Proofs.Ythnnbpnocefmgaa
