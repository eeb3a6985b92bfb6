/- Walks: the product of two naturals. Walks: the difference of two naturals. Walks: fractions. -/
import Derived.Test.YtpoahodnakhmiaaGreatBits
import Derived.Test.YtpoahodnakhmiaaGreatOver
import Derived.Deep.RegionHeld3
namespace Go.Proofs.YtpoahodnakhmiaaGreat
set_option linter.unusedVariables false
set_option linter.unusedSimpArgs false
open Go.RowKit
theorem times_step (V P c T x y q : Int) (h : V + P * c = T) : V + P * ((c + (x * y + q)) % 4294967296 - q) + P * 4294967296 * ((c + (x * y + q)) / 4294967296) = T + P * (x * y) := by
  have e := Int.emod_add_mul_ediv (c + (x * y + q)) 4294967296
  grind
set_option maxHeartbeats 1000000 in
theorem times_digs (w : World) (A A' : Option Addr) (c c' : Nat) (xs ys : List Int) (h : Arr w A .u32 xs) (hc : xs.length ≤ c) (hm : c ≤ maxLen) (h' : Arr w A' .u32 ys) (hc' : ys.length ≤ c') (hm' : c' ≤ maxLen)
    (hd : Dig 4294967296 xs) (hd' : Dig 4294967296 ys) (hl : xs.length ≤ 1073741824) (hl' : ys.length ≤ 1073741824) :
    Calls Tryz.prog 128 #[.slice A xs.length c, .slice A' ys.length c'] w (Ret (natR w (val 4294967296 xs * val 4294967296 ys) (xs.length + ys.length))) := by
  unfold maxLen at hm hm'
  have hmk := mk_run Tryz.u32T (xs.length + ys.length) (by omega)
  rw [Int.natCast_add] at hmk
  go_enter Tryz.func128, Tryz.ntmps128
  go_wp2
  go_loopw [19] (fun s19 wr => ∃ (i : Nat) (os : List Int), i ≤ xs.length ∧ s19 = .int .i64 i ∧ os.length = xs.length + ys.length ∧ Dig 4294967296 os ∧
      val 4294967296 os = val 4294967296 (xs.take i) * val 4294967296 ys ∧ (∀ j, i + ys.length ≤ j → os.getD j 0 = 0) ∧ Blk wr w.heap.size 190 .u32 os ∧ Below w.heap.size w wr)
    (fun s19 _ => xs.length - (intOf s19).toNat)
  case atStart => exact ⟨0, List.replicate (xs.length + ys.length) 0, Nat.zero_le _, rfl, by simp, Dig.replicate _ (by omega) _, by rw [val_replicate]; simp [val], fun j _ => by simp [List.getD, List.getElem?_replicate]; split <;> rfl, Blk.new _ _ _ _, (Below.refl _ _).alloc (Nat.le_refl _) _⟩
  case round =>
    obtain ⟨i, os, hi, rfl, hos, hdos, hval, hz, hblk, hbel⟩ := hrel
    by_cases hix : i < xs.length
    · obtain ⟨b, o, rfl, hbl, hcell⟩ := h.at_ (by omega)
      obtain ⟨x, hx⟩ : ∃ x, x = xs.getD i 0 := ⟨_, rfl⟩
      have hxc := (hbel.cell (p := ⟨b, o + i, none⟩) hbl).trans (hcell i hix)
      have hxb := hd.at_ hix
      have htx := val_take_succ 4294967296 xs i hix
      rw [← hx] at hxc hxb htx
      obtain ⟨hx0, hx1⟩ := hxb
      have HT := hide htx; clear htx
      have HX := hide hx; clear hx
      have HL := hide hos; clear hos
      have HV := hide hval; clear hval
      have HZ := hide hz; clear hz
      have HC := hide hcell; clear hcell
      have HMK := hide hmk; clear hmk
      have HD := hide (And.intro hd hd'); clear hd hd'
      have HB := hide (And.intro hblk hdos); clear hblk hdos
      obtain ⟨wo, rfl⟩ : ∃ wo : World, wo = wr := ⟨_, rfl⟩
      go_wp2
      go_loopw [8, 26] (fun s8 s26 wr => ∃ (j : Nat) (ps : List Int) (cy : Int), j ≤ ys.length ∧ s26 = .int .i64 j ∧ s8 = .int .u64 cy ∧ 0 ≤ cy ∧ cy < 4294967296 ∧ ps.length = xs.length + ys.length ∧ Dig 4294967296 ps ∧
          val 4294967296 ps + 4294967296 ^ (i + j) * cy = val 4294967296 (xs.take i) * val 4294967296 ys + 4294967296 ^ i * x * val 4294967296 (ys.take j) ∧ (∀ j, i + ys.length ≤ j → ps.getD j 0 = 0) ∧ Blk wr w.heap.size 190 .u32 ps ∧ Below w.heap.size w wr)
        (fun _ s26 _ => ys.length - (intOf s26).toNat)
      case atStart => exact ⟨0, os, 0, Nat.zero_le _, rfl, rfl, by omega, by omega, HL.out, HB.out.2, by rw [HV.out]; simp [val], HZ.out, HB.out.1, hbel⟩
      case round =>
        obtain ⟨j, ps, cy, hj, rfl, rfl, hy0, hy1, hps, hdps, hvalp, hzp, hblkp, hbelp⟩ := hrel
        by_cases hjy : j < ys.length
        · obtain ⟨b', o', rfl, hbl', hcell'⟩ := h'.at_ (by omega)
          obtain ⟨y, hy⟩ : ∃ y, y = ys.getD j 0 := ⟨_, rfl⟩
          have hyc := (hbelp.cell (p := ⟨b', o' + j, none⟩) hbl').trans (hcell' j hjy)
          have hyb := HD.out.2.at_ hjy
          have hty := val_take_succ 4294967296 ys j hjy
          rw [← hy] at hyc hyb hty
          obtain ⟨hyl, hyu⟩ := hyb
          obtain ⟨q, hq⟩ : ∃ q, q = ps.getD (i + j) 0 := ⟨_, rfl⟩
          have hqc := hblkp.cell (j := i + j) (by omega)
          have hqb := hdps.at_ (k := i + j) (by omega)
          rw [← hq] at hqc hqb
          obtain ⟨hq0, hq1⟩ := hqb
          have hqf := hblkp.frozen (i + j)
          have hxy0 : 0 ≤ x * y := Int.mul_nonneg hx0 hyl
          have hxy1 : x * y ≤ 18446744065119617025 := Int.mul_le_mul (show x ≤ 4294967295 by omega) (show y ≤ 4294967295 by omega) hyl (by omega)
          have HT2 := hide hty; clear hty
          have HV2 := hide hvalp; clear hvalp
          have HY := hide (And.intro hy hq); clear hy hq
          have HP := hide hps; clear hps
          have HZ2 := hide hzp; clear hzp
          clear hcell' h h'
          go_wp2
          go_roundw
          case rel =>
            refine ⟨j + 1, ps.set (i + j) ((cy + (x * y + q)) % 4294967296), (cy + (x * y + q)) / 4294967296, by omega, by go_num, rfl, by omega, by omega, by simp [HP.out], hdps.set_ _ (by omega) (by omega), ?_, ?_, hblkp.set_ _ _, hbelp.setCell (by simp) _⟩
            · rw [val_set _ _ _ _ (by have := HP.out; omega), HT2.out, ← HY.out.2, show i + (j + 1) = i + j + 1 by omega, Int.pow_succ]
              have := times_step _ _ _ _ x y q HV2.out
              rw [this, Int.pow_add]
              grind
            · intro m hm
              rw [getD_set_ne (by omega)]; exact HZ2.out m hm
          case measure => simp [intOf]; omega
        · obtain rfl : j = ys.length := by omega
          rw [List.take_of_length_le (Nat.le_refl _)] at hvalp
          obtain ⟨q, hq⟩ : ∃ q, q = ps.getD (i + ys.length) 0 := ⟨_, rfl⟩
          have hqc := hblkp.cell (j := i + ys.length) (by omega)
          rw [← hq] at hqc
          have hq0 : q = 0 := by rw [hq]; exact hzp _ (Nat.le_refl _)
          have hqf := hblkp.frozen (i + ys.length)
          have HV2 := hide hvalp; clear hvalp
          have HY := hide (And.intro hq hq0); clear hq hq0
          have HP := hide hps; clear hps
          have HZ2 := hide hzp; clear hzp
          clear h h'
          go_wp2
          go_roundw
          case rel =>
            refine ⟨i + 1, ps.set (i + ys.length) cy, by omega, by go_num, by simp [HP.out], hdps.set_ _ hy0 hy1, ?_, ?_, hblkp.set_ _ _, hbelp.setCell (by simp) _⟩
            · rw [val_set _ _ _ _ (by have := HP.out; omega), ← HY.out.1, HY.out.2, HT.out]
              have := HV2.out
              grind
            · intro m hm
              rw [getD_set_ne (by omega)]; exact HZ2.out m (by omega)
          case measure => simp [intOf]; omega
    · obtain rfl : i = xs.length := by omega
      rw [List.take_of_length_le (Nat.le_refl _)] at hval
      have hml : xs.length + ys.length ≤ maxLen := by unfold maxLen; omega
      have HV := hide hval; clear hval
      have HL := hide hos; clear hos
      have HZ := hide hz; clear hz
      clear h h' hd hd' hmk
      go_wp2_with (go_at_call 170; refine (trim_c _ _ _ _ os HL.out hblk.arr (Nat.le_refl _) hml).mono ?_; rintro e w' ⟨v, rfl, n, hn, rfl, rfl⟩; have HN := hide hn; clear hn)
      go_ret
      have hv := NatV.of_trim hblk.arr hdos (by rw [HL.out]; exact hml) HN.out
      rw [HV.out] at hv
      exact ⟨_, rfl, hv.more (by rw [HL.out]; exact Nat.le_refl _), hbel⟩
theorem times_c (w : World) (v v' : Value) (x y : Int) (L L' : Nat) (hx : NatV w v x L) (hy : NatV w v' y L') (hL : L ≤ 1073741824) (hL' : L' ≤ 1073741824) :
    Calls Tryz.prog 128 #[v, v'] w (Ret (natR w (x * y) (L + L'))) := by
  obtain ⟨A, c, xs, rfl, hc, hm, ha, hd, hn, rfl, hl⟩ := hx
  obtain ⟨A', c', ys, rfl, hc', hm', ha', hd', hn', rfl, hl'⟩ := hy
  refine (times_digs w A A' c c' xs ys ha hc hm ha' hc' hm' hd hd' (by omega) (by omega)).mono ?_
  rintro e w' ⟨v, rfl, h1, h2⟩
  exact ⟨v, rfl, h1.more (by omega), h2⟩
end Go.Proofs.YtpoahodnakhmiaaGreat
namespace Go.Proofs.YtpoahodnakhmiaaGreat
set_option linter.unusedVariables false
set_option linter.unusedSimpArgs false
open Go.RowKit
theorem minus_digs (w : World) (A A' : Option Addr) (c c' : Nat) (xs ys : List Int) (h : Arr w A .u32 xs) (hc : xs.length ≤ c) (hm : c ≤ maxLen) (h' : Arr w A' .u32 ys) (hc' : ys.length ≤ c') (hm' : c' ≤ maxLen)
    (hd : Dig 4294967296 xs) (hd' : Dig 4294967296 ys) (hl : xs.length ≤ 1073741824) (hyx : ys.length ≤ xs.length) (hle : val 4294967296 ys ≤ val 4294967296 xs) :
    Calls Tryz.prog 142 #[.slice A xs.length c, .slice A' ys.length c'] w (Ret (natR w (val 4294967296 xs - val 4294967296 ys) xs.length)) := by
  unfold maxLen at hm hm'
  go_enter Tryz.func142, Tryz.ntmps142
  go_wp2
  go_loopw [5, 6, 11] (fun s5 s6 s11 wr => ∃ (k : Nat) (os : List Int) (cy : Int), k ≤ xs.length ∧ s11 = .int .i64 k ∧ s6 = .int .i64 cy ∧ -1 ≤ cy ∧ cy ≤ 0 ∧ os.length = k ∧ Dig 4294967296 os ∧
      val 4294967296 os + 4294967296 ^ k * cy = val 4294967296 (xs.take k) - val 4294967296 (ys.take k) ∧ OwnI wr w.heap.size 190 .u32 s5 os ∧ Below w.heap.size w wr)
    (fun _ _ s11 _ => xs.length - (intOf s11).toNat)
  case atStart => exact ⟨0, [], 0, Nat.zero_le _, rfl, rfl, by omega, by omega, rfl, Dig.nil _, by simp [val], OwnI.nil _ _ _ _, Below.refl _ _⟩
  case round =>
    obtain ⟨k, os, cy, hk, rfl, rfl, hy0, hy1, hos, hdos, hval, hown, hbel⟩ := hrel
    have hosl : os.length ≤ 17592186044000 := by omega
    by_cases hkx : k < xs.length
    · obtain ⟨b, o, rfl, hbl, hcell⟩ := h.at_ (by omega)
      obtain ⟨x, hx⟩ : ∃ x, x = xs.getD k 0 := ⟨_, rfl⟩
      have hxc := (hbel.cell (p := ⟨b, o + k, none⟩) hbl).trans (hcell k hkx)
      have hxb := hd.at_ hkx
      have htx := val_take_succ 4294967296 xs k hkx
      rw [← hx] at hxc hxb htx
      obtain ⟨hx0, hx1⟩ := hxb
      by_cases hky : k < ys.length
      · obtain ⟨b', o', rfl, hbl', hcell'⟩ := h'.at_ (by omega)
        obtain ⟨y, hy⟩ : ∃ y, y = ys.getD k 0 := ⟨_, rfl⟩
        have hyc := (hbel.cell (p := ⟨b', o' + k, none⟩) hbl').trans (hcell' k hky)
        have hyb := hd'.at_ hky
        have hty := val_take_succ 4294967296 ys k hky
        rw [← hy] at hyc hyb hty
        obtain ⟨hyl, hyu⟩ := hyb
        have HT := hide (And.intro htx hty); clear htx hty
        have HV := hide hval; clear hval
        have HX := hide (And.intro hx hy); clear hx hy
        have HL := hide hos; clear hos
        have HLE := hide hle; clear hle
        clear hcell hcell' h h' hd hd'
        go_wp2_with (at_builtin; refine app1 Tryz.u32T _ rfl _ _ rfl w.heap.size _ os ((cy + x - y) % 4294967296) rfl (hown.keep ((Below.refl _ _).alloc (Nat.le_refl _) _)) ⟨wr.heap.size, 0, none⟩ _ rfl (by simp [World.cell?_alloc_new]) hosl (by have := hbel.size; simp; omega) ?_; intro g c1 w1 hown1 _ _ hb1)
        go_roundw
        case rel =>
          refine ⟨k + 1, os ++ [(cy + x - y) % 4294967296], (cy + x - y) / 4294967296, by omega, by go_num, rfl, by omega, by omega, by simp [HL.out], hdos.snoc (by omega) (by omega), ?_, hown1, (hbel.alloc hbel.size _).trans hb1⟩
          rw [val_snoc, HL.out, HT.out.1, HT.out.2]
          have := HV.out
          have e : (cy + x - y) % 4294967296 + 4294967296 * ((cy + x - y) / 4294967296) = cy + x - y := Int.emod_add_mul_ediv _ _
          grind
        case measure => simp [intOf]; omega
      · have hty1 := val_take_more 4294967296 ys k (by omega)
        have hty2 := val_take_more 4294967296 ys (k + 1) (by omega)
        have HT := hide (And.intro htx (And.intro hty1 hty2)); clear htx hty1 hty2
        have HV := hide hval; clear hval
        have HX := hide hx; clear hx
        have HL := hide hos; clear hos
        have HLE := hide hle; clear hle
        clear hcell h h' hd hd'
        go_wp2_with (at_builtin; refine app1 Tryz.u32T _ rfl _ _ rfl w.heap.size _ os ((cy + x) % 4294967296) rfl (hown.keep ((Below.refl _ _).alloc (Nat.le_refl _) _)) ⟨wr.heap.size, 0, none⟩ _ rfl (by simp [World.cell?_alloc_new]) hosl (by have := hbel.size; simp; omega) ?_; intro g c1 w1 hown1 _ _ hb1)
        go_roundw
        case rel =>
          refine ⟨k + 1, os ++ [(cy + x) % 4294967296], (cy + x) / 4294967296, by omega, by go_num, rfl, by omega, by omega, by simp [HL.out], hdos.snoc (by omega) (by omega), ?_, hown1, (hbel.alloc hbel.size _).trans hb1⟩
          rw [val_snoc, HL.out, HT.out.1, HT.out.2.2]
          have := HV.out
          rw [HT.out.2.1] at this
          have e : (cy + x) % 4294967296 + 4294967296 * ((cy + x) / 4294967296) = cy + x := Int.emod_add_mul_ediv _ _
          grind
        case measure => simp [intOf]; omega
    · obtain rfl : k = xs.length := by omega
      rw [List.take_of_length_le (Nat.le_refl _), val_take_more _ ys _ (by omega)] at hval
      have hv := val_lt (by omega) hdos
      rw [hos] at hv
      obtain rfl : cy = 0 := by
        have h1 : cy = 0 ∨ cy = -1 := by omega
        rcases h1 with h1 | h1
        · exact h1
        · subst h1; omega
      have HV := hide hval; clear hval
      have HL := hide hos; clear hos
      have HX := hide hv; clear hv
      have HLE := hide hle; clear hle
      obtain ⟨Ao, co, rfl, hco, hmo, hao⟩ := hown.form
      clear h h' hd hd'
      go_wp2_with (go_at_call 170; refine (trim_c _ _ _ _ os rfl hao hco hmo).mono ?_; rintro e w' ⟨v, rfl, n, hn, rfl, rfl⟩; have HN := hide hn; clear hn)
      go_ret
      have hv := NatV.of_trim hao hdos (by omega) HN.out
      refine ⟨_, rfl, ?_, hbel⟩
      have e := HV.out
      rw [show val 4294967296 xs - val 4294967296 ys = val 4294967296 os by simpa using e.symm]
      exact hv.more (by simp [HL.out])
theorem minus_c (w : World) (v v' : Value) (x y : Int) (L L' : Nat) (hx : NatV w v x L) (hy : NatV w v' y L') (hL : L ≤ 1073741824) (hle : y ≤ x) :
    Calls Tryz.prog 142 #[v, v'] w (Ret (natR w (x - y) L)) := by
  obtain ⟨A, c, xs, rfl, hc, hm, ha, hd, hn, rfl, hl⟩ := hx
  obtain ⟨A', c', ys, rfl, hc', hm', ha', hd', hn', rfl, hl'⟩ := hy
  have hyx : ys.length ≤ xs.length := by
    rcases Nat.lt_or_ge xs.length ys.length with h | h
    · have := val_lt_of_length (by omega) hd hd' hn' h; omega
    · exact h
  refine (minus_digs w A A' c c' xs ys ha hc hm ha' hc' hm' hd hd' (by omega) hyx hle).mono ?_
  rintro e w' ⟨v, rfl, h1, h2⟩
  exact ⟨v, rfl, h1.more hl, h2⟩
end Go.Proofs.YtpoahodnakhmiaaGreat
namespace Go.Proofs.YtpoahodnakhmiaaGreat
set_option linter.unusedVariables false
set_option linter.unusedSimpArgs false
open Go.RowKit
theorem one_c (w : World) : Calls Tryz.prog 173 #[] w (Ret (natR w 1 1)) := by
  go_enter Tryz.func173, Tryz.ntmps173
  go_wp2
  go_ret
  refine ⟨_, rfl, ?_, (Below.refl _ _).alloc (Nat.le_refl _) _⟩
  exact ⟨some ⟨w.heap.size, 0, none⟩, 1, [1], rfl, Nat.le_refl _, by simp [maxLen], Arr.new (xs := [1]) rfl, by intro d hd; simp at hd; subst hd; omega, by simp [Norm], by simp [val], Nat.le_refl _⟩
theorem den_c (w : World) (b : Bool) (n l : Value) (x : Int) (L : Nat) (hl : NatV w l x L) (hL : L ≤ 1073741800) :
    Calls Tryz.prog 129 #[.agg #[.bool b, n, l]] w (Ret (natR w (x + 1) (L + 2))) := by
  obtain ⟨A, c, xs, rfl, hrest⟩ := hl.open_
  have HL := hide hl; clear hl hrest
  go_enter Tryz.func129, Tryz.ntmps129
  go_wp2_with fail
  have hb0 : Below w.heap.size w (w.alloc (.cells #[.bool b, n, .slice A xs.length c] 43)).drew := ((Below.refl _ _).alloc (Nat.le_refl _) _).drew
  have hk : ∀ w', Below (w.heap.size + 1) (w.alloc (.cells #[.bool b, n, .slice A xs.length c] 43)) w' → w'.cell? ⟨w.heap.size, 2, none⟩ = some (.slice A xs.length c) :=
    fun w' h => (h.cell (p := ⟨w.heap.size, 2, none⟩) (by simp)).trans (by simp [World.cell?_alloc_new])
  have HK := hide hk; clear hk
  go_region_held3 (fun w' => w'.cell? ⟨w.heap.size, 2, none⟩ = some (.slice A xs.length c))
    (first | go_keep | exact HK.out _ hc2 | exact HK.out _ hc1)
    (first
      | (go_at_call 173; refine (one_c _).mono ?_; rintro e w1 ⟨u, rfl, h1, hb1⟩; have hc1 : Below (w.heap.size + 1) (w.alloc (.cells #[.bool b, n, .slice A xs.length c] 43)) w1 := (Below.refl _ _).drew.trans (hb1.mono (by simp)))
      | (go_at_call 140; refine (plus_c _ _ _ x 1 L 1 ((HL.out.below hb0).below hb1) h1 (by omega) (by omega)).mono ?_; rintro e w2 ⟨u2, rfl, h2, hb2⟩; have hc2 := hc1.trans (hb2.mono (by have := hc1.size; simp at this; omega))))
  go_wp2
  go_ret
  exact ⟨_, rfl, h2.more (by omega), below_next (below_next hb0 hb1) hb2⟩
/-- a number with its sign -/
def sgd (b : Bool) (x : Int) : Int := if b then -x else x
theorem lowest_num (b : Bool) (x y : Int) (hx : 0 ≤ x) (hy : 0 < y) :
    (Rat.divInt (sgd b x) y).num = sgd b (x / Int.gcd x y) ∧ ((Rat.divInt (sgd b x) y).den : Int) = y / Int.gcd x y := by
  have hg : (y.gcd (sgd b x) : Int) = Int.gcd x y := by
    unfold sgd; cases b <;> simp [Int.gcd_comm]
  constructor
  · rw [Rat.num_divInt, hg, Int.sign_eq_one_of_pos hy, Int.one_mul]
    unfold sgd
    cases b
    · simp
    · simp only [if_true]
      rw [Int.neg_ediv_of_dvd (Int.gcd_dvd_left x y)]
  · rw [Rat.den_divInt, if_neg (by omega)]
    rw [Int.natCast_ediv, hg, Int.natAbs_of_nonneg (by omega)]
theorem lowest_parts (b : Bool) (x y : Int) (hx : 0 ≤ x) (hy : 0 < y) :
    (((Rat.divInt (sgd b x) y).num.natAbs : Int) = x / Int.gcd x y) ∧ ((Rat.divInt (sgd b x) y).den : Int) - 1 = y / Int.gcd x y - 1 ∧
    decide ((Rat.divInt (sgd b x) y).num < 0) = (b && decide (0 < x / Int.gcd x y)) := by
  obtain ⟨h1, h2⟩ := lowest_num b x y hx hy
  have h3 : 0 ≤ x / Int.gcd x y := Int.ediv_nonneg hx (by omega)
  refine ⟨?_, by rw [h2], ?_⟩
  · rw [h1]; unfold sgd; cases b <;> simp <;> omega
  · rw [h1]; unfold sgd; cases b <;> simp <;> omega
theorem lowest_c (w : World) (b : Bool) (n d : Value) (x y : Int) (L : Nat) (hx : NatV w n x L) (hy : NatV w d y L) (hL : L ≤ 1073741800) (hy0 : 0 < y) :
    Calls Tryz.prog 127 #[.bool b, n, d] w (Ret (ratR w (Rat.divInt (sgd b x) y) L)) := by
  have hx0 := hx.nonneg
  have hg0 : (0 : Int) < Int.gcd x y := by
    have := Int.gcd_pos_of_ne_zero_right x (show y ≠ 0 by omega)
    omega
  have hdg : 0 < y / Int.gcd x y := Int.ediv_pos_of_pos_of_dvd hy0 (by omega) (Int.gcd_dvd_right x y)
  have HX := hide (And.intro hx hy); clear hx hy
  go_enter Tryz.func127, Tryz.ntmps127
  go_wp2_with fail
  have hb0 : Below w.heap.size w (w.alloc (.cells #[.bool false, .slice none 0 0, .slice none 0 0] 43)) := (Below.refl _ _).alloc (Nat.le_refl _) _
  refine (divisor_c _ _ _ x y L (HX.out.1.below hb0) (HX.out.2.below hb0) hL).mono ?_
  rintro e w1 ⟨g, rfl, hg, hb1⟩
  have hc1 := below_more (below_start w _) hb1 (by simp)
  have hd1 := below_next hb0 hb1
  have HG := hide hg; clear hg hb0 hb1
  go_wp2_with fail
  refine (over_c _ _ _ x _ L L (HX.out.1.below hd1) HG.out hL hg0).mono ?_
  rintro e w2 ⟨u, rfl, q1, r1, rfl, hq1, hr1, hb2⟩
  have hc2 := below_more hc1 hb2 (by simp)
  have hd2 := below_next hd1 hb2
  obtain ⟨A1, c1, xs1, rfl, hrest⟩ := hq1.open_
  have HQ1 := hide hq1; clear hq1 hr1
  go_wp2_with fail
  refine (over_c _ _ _ y _ L L (HX.out.2.below hd2) (HG.out.below hb2) hL hg0).mono ?_
  rintro e w3 ⟨u, rfl, q2, r2, rfl, hq2, hr2, hb3⟩
  have hc3 := below_more hc2 hb3 (by simp)
  have hd3 := below_next hd2 hb3
  have HQ2 := hide hq2; clear hq2 hr2
  have HR := hide hrest; clear hrest
  have HB3 := hide hb3
  have lp := lowest_parts b x y hx0 hy0
  have hpos : decide (0 < x / Int.gcd x y) = decide (0 < xs1.length) := by
    obtain ⟨_, _, _, r4, r5, r6, _⟩ := HR.out
    rw [← r6, decide_eq_decide]
    constructor
    · intro h
      rcases Nat.eq_zero_or_pos xs1.length with h0 | h0
      · rw [List.eq_nil_of_length_eq_zero h0] at h; simp [val] at h
      · exact h0
    · intro h
      exact val_pos (by omega) r4 r5 (by intro e; rw [e] at h; simp at h)
  rw [hpos] at lp
  have LP := hide lp; clear lp hpos
  cases b
  · go_wp2_with fail
    refine (one_c _).mono ?_
    rintro e w4 ⟨o1, rfl, ho1, hb4⟩
    have hc4 := below_more hc3 hb4 (by simp)
    go_wp2_with fail
    refine (minus_c _ _ _ _ 1 L 1 (HQ2.out.below hb4) ho1 (by omega) (by omega)).mono ?_
    rintro e w5 ⟨l, rfl, hl, hb5⟩
    have hc5 := below_more hc4 hb5 (by simp)
    have hd5 := below_next (below_next hd3 hb4) hb5
    obtain ⟨k0, k1, k2, f0, f1, f2, ks⟩ := box3 hc5
    obtain ⟨A2, c2, xs2, rfl, hrest2⟩ := hl.open_
    have HL := hide hl; clear hl hrest2
    go_wp2
    refine bodyPost_ret (v := .agg #[.bool false, .slice A1 xs1.length c1, .slice A2 xs2.length c2]) ?_ rfl ?_
    · simp [results, Tryz.results127, go_sem, k0, k1, k2, ks]
    have hq := HQ1.out.below (below_next (below_next hb3 hb4) hb5)
    obtain ⟨p1, p2, p3⟩ := LP.out
    refine ⟨_, rfl, ⟨.slice A1 xs1.length c1, .slice A2 xs2.length c2, ?_, ?_, ?_⟩, below_set3 hd5 (Nat.le_refl _) _ _ _⟩
    · rw [p3]; rfl
    · rw [p1]; exact hq.set3 k0 k1 k2
    · rw [p2]; exact HL.out.set3 k0 k1 k2
  · by_cases hxl : 0 < xs1.length
    · have hp : (true && decide (0 < xs1.length)) = true := by simp [hxl]
      have HP := hide hp; clear hp
      go_wp2_with fail
      refine (one_c _).mono ?_
      rintro e w4 ⟨o1, rfl, ho1, hb4⟩
      have hc4 := below_more hc3 hb4 (by simp)
      go_wp2_with fail
      refine (minus_c _ _ _ _ 1 L 1 (HQ2.out.below hb4) ho1 (by omega) (by omega)).mono ?_
      rintro e w5 ⟨l, rfl, hl, hb5⟩
      have hc5 := below_more hc4 hb5 (by simp)
      have hd5 := below_next (below_next hd3 hb4) hb5
      obtain ⟨k0, k1, k2, f0, f1, f2, ks⟩ := box3 hc5
      obtain ⟨A2, c2, xs2, rfl, hrest2⟩ := hl.open_
      have HL := hide hl; clear hl hrest2
      go_wp2
      refine bodyPost_ret (v := .agg #[.bool true, .slice A1 xs1.length c1, .slice A2 xs2.length c2]) ?_ rfl ?_
      · simp [results, Tryz.results127, go_sem, k0, k1, k2, ks]
      have hq := HQ1.out.below (below_next (below_next hb3 hb4) hb5)
      obtain ⟨p1, p2, p3⟩ := LP.out
      refine ⟨_, rfl, ⟨.slice A1 xs1.length c1, .slice A2 xs2.length c2, ?_, ?_, ?_⟩, below_set3 hd5 (Nat.le_refl _) _ _ _⟩
      · rw [p3, HP.out]
      · rw [p1]; exact hq.set3 k0 k1 k2
      · rw [p2]; exact HL.out.set3 k0 k1 k2
    · have hp : (true && decide (0 < xs1.length)) = false := by rw [Bool.true_and]; exact decide_eq_false hxl
      have HP := hide hp; clear hp
      obtain rfl : xs1 = [] := List.eq_nil_of_length_eq_zero (by omega)
      go_wp2_with fail
      refine (one_c _).mono ?_
      rintro e w4 ⟨o1, rfl, ho1, hb4⟩
      have hc4 := below_more hc3 hb4 (by simp)
      go_wp2_with fail
      refine (minus_c _ _ _ _ 1 L 1 (HQ2.out.below hb4) ho1 (by omega) (by omega)).mono ?_
      rintro e w5 ⟨l, rfl, hl, hb5⟩
      have hc5 := below_more hc4 hb5 (by simp)
      have hd5 := below_next (below_next hd3 hb4) hb5
      obtain ⟨k0, k1, k2, f0, f1, f2, ks⟩ := box3 hc5
      obtain ⟨A2, c2, xs2, rfl, hrest2⟩ := hl.open_
      have HL := hide hl; clear hl hrest2
      go_wp2
      refine bodyPost_ret (v := .agg #[.bool false, .slice A1 0 c1, .slice A2 xs2.length c2]) ?_ rfl ?_
      · simp [results, Tryz.results127, go_sem, k0, k1, k2, ks]
      have hq := HQ1.out.below (below_next (below_next hb3 hb4) hb5)
      obtain ⟨p1, p2, p3⟩ := LP.out
      refine ⟨_, rfl, ⟨.slice A1 0 c1, .slice A2 xs2.length c2, ?_, ?_, ?_⟩, below_set3 hd5 (Nat.le_refl _) _ _ _⟩
      · rw [p3, HP.out]
      · rw [p1]; exact hq.set3 k0 k1 k2
      · rw [p2]; exact HL.out.set3 k0 k1 k2
end Go.Proofs.YtpoahodnakhmiaaGreat
