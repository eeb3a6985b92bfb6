/- Walks: a natural by one word. -/
import Derived.Test.YthnnbpnocefmgaaGreatPlus
namespace Go.Proofs.YthnnbpnocefmgaaGreat
set_option linter.unusedVariables false
set_option linter.unusedSimpArgs false
open Go.RowKit
def overWordR (w : World) (x d : Int) (L : Nat) (v : Value) (w' : World) : Prop := ∃ q, v = .tuple #[q, .int .u32 (x % d)] ∧ NatV w' q (x / d) L ∧ Below w.heap.size w w'
/-- the same, and the quotient lies in a new block -/
def overWordF (w : World) (x d : Int) (L : Nat) (v : Value) (w' : World) : Prop := ∃ b n c, v = .tuple #[.slice (some ⟨b, 0, none⟩) n c, .int .u32 (x % d)] ∧ w.heap.size ≤ b ∧ b < w'.heap.size ∧ NatV w' (.slice (some ⟨b, 0, none⟩) n c) (x / d) L ∧ Below w.heap.size w w'
theorem overWord_f (w : World) (v : Value) (x dv : Int) (L : Nat) (hx : NatV w v x L) (hL : L ≤ 1073741824) (h0 : 0 < dv) (h1 : dv < 4294967296) :
    Calls Tryz.prog 118 #[v, .int .u32 dv] w (Ret (overWordF w x dv L)) := by
  obtain ⟨A, c, xs, rfl, hc, hm, h, hd, hn, rfl, hlL⟩ := hx
  unfold maxLen at hm
  have hl : xs.length ≤ 1073741824 := by omega
  have hmk := mk_run Tryz.u32T xs.length (by omega)
  go_enter Tryz.func118, Tryz.ntmps118
  go_wp2
  go_loopw [7, 8] (fun s7 s8 wr => ∃ (k : Nat) (os : List Int) (r : Int), k ≤ xs.length ∧ s8 = .int .i64 ((k : Int) - 1) ∧ s7 = .int .u64 r ∧ 0 ≤ r ∧ r < dv ∧ os.length = xs.length ∧ Dig 4294967296 os ∧
     val 4294967296 (xs.drop k) = val 4294967296 (os.drop k) * dv + r ∧ Blk wr w.heap.size 126 .u32 os ∧ Below w.heap.size w wr) (fun _ s8 _ => (intOf s8 + 1).toNat)
  case atStart => exact ⟨xs.length, List.replicate xs.length 0, 0, Nat.le_refl _, rfl, rfl, by omega, h0, by simp, Dig.replicate _ (by omega) _, by simp [val], Blk.new _ _ _ _, (Below.refl _ _).alloc (Nat.le_refl _) _⟩
  case round =>
    obtain ⟨k, os, r, hk, rfl, rfl, hr0, hr1, hos, hdos, hval, hblk, hbel⟩ := hrel
    by_cases hk0 : 0 < k
    · obtain ⟨b, o, rfl, hbl, hcell⟩ := h.at_ (by omega)
      obtain ⟨x, hx⟩ : ∃ x, x = xs.getD (k - 1) 0 := ⟨_, rfl⟩
      have hxc := (hbel.cell (p := ⟨b, o + (k - 1), none⟩) hbl).trans (hcell (k - 1) (by omega))
      have hxd := drop_cons xs (k - 1) (by omega)
      have hxb := hd.at_ (k := k - 1) (by omega)
      rw [← hx] at hxb hxc hxd
      obtain ⟨hx0, hx1⟩ := hxb
      obtain ⟨q, hq⟩ : ∃ q, q = os.getD (k - 1) 0 := ⟨_, rfl⟩
      have hqc := hblk.cell (j := k - 1) (by omega)
      rw [← hq] at hqc
      have hqf := hblk.frozen (k - 1)
      have hor := or64 r x hr0 (by omega) hx0 hx1
      have HQ := hide (And.intro hx hq); clear hx hq
      have HL := hide hos; clear hos
      have HV := hide hval; clear hval
      have HXD := hide hxd; clear hxd
      have hb1 : r * 4294967296 + x < dv * 4294967296 := by omega
      have hq1 : (r * 4294967296 + x) / dv < 4294967296 := Int.ediv_lt_of_lt_mul h0 (by omega)
      have hq0 : 0 ≤ (r * 4294967296 + x) / dv := Int.ediv_nonneg (by omega) (by omega)
      have hr2 : 0 ≤ (r * 4294967296 + x) % dv := Int.emod_nonneg _ (by omega)
      have hr3 : (r * 4294967296 + x) % dv < dv := Int.emod_lt_of_pos _ h0
      clear h hd hcell hmk
      go_wp2
      go_roundw
      case rel =>
        refine ⟨k - 1, os.set (k - 1) ((r * 4294967296 + x) / dv), (r * 4294967296 + x) % dv, by omega, by go_num, by go_num, hr2, hr3, by simp [HL.out], hdos.set_ _ hq0 hq1, ?_, ?_, hbel.setCell (by simp) _⟩
        · rw [HXD.out, drop_set_cons _ _ _ (by have := HL.out; omega), show k - 1 + 1 = k by omega]
          simp only [val]
          rw [HV.out]
          have e := Int.emod_add_mul_ediv (r * 4294967296 + x) dv
          grind
        · exact hblk.set_ _ _
      case measure => simp [intOf]; omega
    · obtain rfl : k = 0 := by omega
      simp only [List.drop_zero] at hval
      have HV := hide hval; clear hval
      have HL := hide hos; clear hos
      have hml : xs.length ≤ maxLen := by unfold maxLen; omega
      clear h hd hmk
      go_wp2_with fail
      refine (trim_c _ _ _ _ os HL.out hblk.arr (Nat.le_refl _) hml).mono ?_
      rintro e w' ⟨v, rfl, n, hn, rfl, rfl⟩
      have HN := hide hn; clear hn
      go_wp2_with fail
      go_ret2
      have hv := NatV.of_trim hblk.arr hdos (by rw [HL.out]; exact hml) HN.out
      have e1 : val 4294967296 os = val 4294967296 xs / dv ∧ r = val 4294967296 xs % dv := by
        have e := HV.out
        have := (Int.ediv_emod_unique (a := val 4294967296 xs) (b := dv) (r := r) (q := val 4294967296 os) h0).2 ⟨by rw [e, Int.mul_comm]; exact Int.add_comm _ _, hr0, hr1⟩
        exact ⟨this.1.symm, this.2.symm⟩
      refine ⟨_, rfl, w.heap.size, n, n, ?_, Nat.le_refl _, hblk.lt, ?_, hbel⟩
      · rw [← e1.2]; rfl
      · rw [← e1.1]; exact hv.more (by rw [HL.out]; exact hlL)
theorem overWord_c (w : World) (v : Value) (x dv : Int) (L : Nat) (hx : NatV w v x L) (hL : L ≤ 1073741824) (h0 : 0 < dv) (h1 : dv < 4294967296) :
    Calls Tryz.prog 118 #[v, .int .u32 dv] w (Ret (overWordR w x dv L)) := by
  refine (overWord_f w v x dv L hx hL h0 h1).mono ?_
  rintro e w' ⟨v, rfl, b, n, c, rfl, _, _, h1, h2⟩
  exact ⟨_, rfl, _, rfl, h1, h2⟩
end Go.Proofs.YthnnbpnocefmgaaGreat
