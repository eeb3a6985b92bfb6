/- Walks of the reference: the difference of two naturals. -/
import Derived.Test.YthnnbpnocefmgaaLim2
namespace Go.Proofs.Ythnnbpnocefmgaa
set_option linter.unusedVariables false
set_option linter.unusedSimpArgs false
open Go.RowKit

/-- not in the blocks below n -/
def Fresh (n : Nat) (v : Value) : Prop := ∀ a l c, v = .slice (some a) l c → n ≤ a.block
theorem Fresh.len {n : Nat} {A : Option Addr} {l c l' c' : Nat} (h : Fresh n (.slice A l c)) : Fresh n (.slice A l' c') := by
  intro a m d e
  injection e with e1 e2 e3
  exact h a l c (by rw [e1])
theorem Fresh.mono {n m : Nat} {v : Value} (h : Fresh n v) (hm : m ≤ n) : Fresh m v := fun a l c e => Nat.le_trans hm (h a l c e)
theorem OwnI.fresh {w : World} {base : Nat} {e : TypeId} {k : IntKind} {v : Value} {xs : List Int} (h : OwnI w base e k v xs) : Fresh base v := by
  intro a l c e
  rcases h.2 with ⟨h2, _⟩ | ⟨g, cap, cur, hv, hg, _⟩
  · rw [h2] at e; cases e
  · rw [hv] at e; injection e with e1 e2 e3; injection e1 with e1; rw [← e1]; exact hg
def limF (w : World) (x : Int) (L : Nat) (v : Value) (w' : World) : Prop := LimV w' v x L ∧ Below w.heap.size w w' ∧ Fresh w.heap.size v

theorem sub9_s1 (V P bo T U x y : Int) (k : Nat) (hP : P = 1000000000 ^ k) (h : V - 1000000000 ^ k * bo = T - U) : V + 1000000000 ^ k * (x - bo - y + 1000000000) - 1000000000 ^ (k + 1) * 1 = T + 1000000000 ^ k * x - (U + 1000000000 ^ k * y) := by
  rw [Int.pow_succ, ← hP] at *
  grind
theorem sub9_s2 (V P bo T U x y : Int) (k : Nat) (hP : P = 1000000000 ^ k) (h : V - 1000000000 ^ k * bo = T - U) : V + 1000000000 ^ k * (x - bo - y) - 1000000000 ^ (k + 1) * 0 = T + 1000000000 ^ k * x - (U + 1000000000 ^ k * y) := by
  rw [← hP] at *
  grind
theorem sub9_s3 (V P bo T U x : Int) (k : Nat) (hP : P = 1000000000 ^ k) (h : V - 1000000000 ^ k * bo = T - U) : V + 1000000000 ^ k * (x - bo + 1000000000) - 1000000000 ^ (k + 1) * 1 = T + 1000000000 ^ k * x - U := by
  rw [Int.pow_succ, ← hP] at *
  grind
theorem sub9_s4 (V P bo T U x : Int) (k : Nat) (hP : P = 1000000000 ^ k) (h : V - 1000000000 ^ k * bo = T - U) : V + 1000000000 ^ k * (x - bo) - 1000000000 ^ (k + 1) * 0 = T + 1000000000 ^ k * x - U := by
  rw [← hP] at *
  grind

theorem sub9_digs (w : World) (A A' : Option Addr) (c c' : Nat) (xs ys : List Int) (h : Arr w A .i64 xs) (hc : xs.length ≤ c) (hm : c ≤ maxLen) (h' : Arr w A' .i64 ys) (hc' : ys.length ≤ c') (hm' : c' ≤ maxLen)
    (hd : Dig 1000000000 xs) (hd' : Dig 1000000000 ys) (hl : xs.length ≤ 1073741824) (hyx : ys.length ≤ xs.length) (hle : val 1000000000 ys ≤ val 1000000000 xs) :
    Calls Try.prog 82 #[.slice A xs.length c, .slice A' ys.length c'] w (Ret (limF w (val 1000000000 xs - val 1000000000 ys) xs.length)) := by
  unfold maxLen at hm hm'
  go_enter Try.func82, Try.ntmps82
  go_wp2
  go_loopw [5, 6, 7] (fun s5 s6 s7 wr => ∃ (k : Nat) (os : List Int) (bo : Int), k ≤ xs.length ∧ s7 = .int .i64 k ∧ s6 = .int .i64 bo ∧ 0 ≤ bo ∧ bo ≤ 1 ∧ os.length = k ∧ Dig 1000000000 os ∧
      val 1000000000 os - 1000000000 ^ k * bo = val 1000000000 (xs.take k) - val 1000000000 (ys.take k) ∧ OwnI wr w.heap.size 3 .i64 s5 os ∧ Below w.heap.size w wr)
    (fun _ _ s7 _ => xs.length - (intOf s7).toNat)
  case atStart => exact ⟨0, [], 0, Nat.zero_le _, rfl, rfl, by omega, by omega, rfl, Dig.nil _, by simp [val], OwnI.nil _ _ _ _, Below.refl _ _⟩
  case round =>
    obtain ⟨k, os, bo, hk, rfl, rfl, hy0, hy1, hos, hdos, hval, hown, hbel⟩ := hrel
    have hosl : os.length ≤ 4398046511104 := by omega
    by_cases hkx : k < xs.length
    · obtain ⟨b, o, rfl, hbl, hcell⟩ := h.at_ (by omega)
      obtain ⟨x, hx⟩ : ∃ x, x = xs.getD k 0 := ⟨_, rfl⟩
      have hxc := (hbel.cell (p := ⟨b, o + k, none⟩) hbl).trans (hcell k hkx)
      have hxb := hd.at_ hkx
      have htx := val_take_succ 1000000000 xs k hkx
      rw [← hx] at hxc hxb htx
      obtain ⟨hx0, hx1⟩ := hxb
      have HLE := hide hle; clear hle
      by_cases hky : k < ys.length
      · obtain ⟨b', o', rfl, hbl', hcell'⟩ := h'.at_ (by omega)
        obtain ⟨y, hy⟩ : ∃ y, y = ys.getD k 0 := ⟨_, rfl⟩
        have hyc := (hbel.cell (p := ⟨b', o' + k, none⟩) hbl').trans (hcell' k hky)
        have hyb := hd'.at_ hky
        have hty := val_take_succ 1000000000 ys k hky
        rw [← hy] at hyc hyb hty
        obtain ⟨hyl, hyu⟩ := hyb
        have HT := hide (And.intro htx hty); clear htx hty
        have HX := hide (And.intro hx hy); clear hx hy
        clear hcell hcell' h h' hd hd'
        have HV := hide hval; clear hval
        have HL := hide hos; clear hos
        by_cases hneg : x - bo - y < 0
        · have hnd : decide (x - bo - y < 0) = true := by simp [hneg]
          go_wp2_with (at_builtin; refine app1 Try.limT _ rfl _ _ rfl w.heap.size _ os (x - bo - y + 1000000000) rfl (hown.keep ((Below.refl _ _).alloc (Nat.le_refl _) _)) ⟨wr.heap.size, 0, none⟩ _ rfl (by simp [World.cell?_alloc_new]) hosl (by have := hbel.size; simp; omega) ?_; intro g c1 w1 hown1 _ _ hb1)
          go_roundw
          case rel =>
            refine ⟨k + 1, os ++ [x - bo - y + 1000000000], 1, by omega, by go_num, rfl, by omega, by omega, by simp [HL.out], hdos.snoc (by omega) (by omega), ?_, hown1, (hbel.alloc hbel.size _).trans hb1⟩
            rw [val_snoc, HL.out, HT.out.1, HT.out.2]
            have := HV.out
            exact sub9_s1 _ _ _ _ _ _ _ k rfl this
          case measure => simp [intOf]; omega
        · have hnd : decide (x - bo - y < 0) = false := by rw [decide_eq_false_iff_not]; exact hneg
          go_wp2_with (at_builtin; refine app1 Try.limT _ rfl _ _ rfl w.heap.size _ os (x - bo - y) rfl (hown.keep ((Below.refl _ _).alloc (Nat.le_refl _) _)) ⟨wr.heap.size, 0, none⟩ _ rfl (by simp [World.cell?_alloc_new]) hosl (by have := hbel.size; simp; omega) ?_; intro g c1 w1 hown1 _ _ hb1)
          go_roundw
          case rel =>
            refine ⟨k + 1, os ++ [x - bo - y], 0, by omega, by go_num, rfl, by omega, by omega, by simp [HL.out], hdos.snoc (by omega) (by omega), ?_, hown1, (hbel.alloc hbel.size _).trans hb1⟩
            rw [val_snoc, HL.out, HT.out.1, HT.out.2]
            have := HV.out
            exact sub9_s2 _ _ _ _ _ _ _ k rfl this
          case measure => simp [intOf]; omega
      · have hty1 := val_take_more 1000000000 ys k (by omega)
        have hty2 := val_take_more 1000000000 ys (k + 1) (by omega)
        have HT := hide (And.intro htx (And.intro hty1 hty2)); clear htx hty1 hty2
        have HX := hide hx; clear hx
        clear hcell h h' hd hd'
        have HV := hide hval; clear hval
        have HL := hide hos; clear hos
        by_cases hneg : x - bo < 0
        · have hnd : decide (x - bo < 0) = true := by simp [hneg]
          go_wp2_with (at_builtin; refine app1 Try.limT _ rfl _ _ rfl w.heap.size _ os (x - bo + 1000000000) rfl (hown.keep ((Below.refl _ _).alloc (Nat.le_refl _) _)) ⟨wr.heap.size, 0, none⟩ _ rfl (by simp [World.cell?_alloc_new]) hosl (by have := hbel.size; simp; omega) ?_; intro g c1 w1 hown1 _ _ hb1)
          go_roundw
          case rel =>
            refine ⟨k + 1, os ++ [x - bo + 1000000000], 1, by omega, by go_num, rfl, by omega, by omega, by simp [HL.out], hdos.snoc (by omega) (by omega), ?_, hown1, (hbel.alloc hbel.size _).trans hb1⟩
            rw [val_snoc, HL.out, HT.out.1, HT.out.2.2]
            have := HV.out
            rw [HT.out.2.1] at this
            exact sub9_s3 _ _ _ _ _ _ k rfl this
          case measure => simp [intOf]; omega
        · have hnd : decide (x - bo < 0) = false := by rw [decide_eq_false_iff_not]; exact hneg
          go_wp2_with (at_builtin; refine app1 Try.limT _ rfl _ _ rfl w.heap.size _ os (x - bo) rfl (hown.keep ((Below.refl _ _).alloc (Nat.le_refl _) _)) ⟨wr.heap.size, 0, none⟩ _ rfl (by simp [World.cell?_alloc_new]) hosl (by have := hbel.size; simp; omega) ?_; intro g c1 w1 hown1 _ _ hb1)
          go_roundw
          case rel =>
            refine ⟨k + 1, os ++ [x - bo], 0, by omega, by go_num, rfl, by omega, by omega, by simp [HL.out], hdos.snoc (by omega) (by omega), ?_, hown1, (hbel.alloc hbel.size _).trans hb1⟩
            rw [val_snoc, HL.out, HT.out.1, HT.out.2.2]
            have := HV.out
            rw [HT.out.2.1] at this
            exact sub9_s4 _ _ _ _ _ _ k rfl this
          case measure => simp [intOf]; omega
    · obtain rfl : k = xs.length := by omega
      rw [List.take_of_length_le (Nat.le_refl _), val_take_more _ ys _ hyx] at hval
      have hvl := val_lt (B := 1000000000) (by omega) hdos
      rw [hos] at hvl
      have hb0 : bo = 0 := by
        have hp := pow_pos' (B := 1000000000) (by omega) xs.length
        have hbo : bo = 0 ∨ bo = 1 := by omega
        rcases hbo with h0 | h0
        · exact h0
        · rw [h0] at hval; omega
      subst hb0
      rw [Int.mul_zero, Int.sub_zero] at hval
      have HV := hide hval; clear hval hvl
      have HL := hide hos; clear hos
      have HLE := hide hle; clear hle
      obtain ⟨Ao, co, rfl, hco, hmo, harr⟩ := hown.form
      have HW := hide (And.intro hown (And.intro harr (And.intro hco hmo))); clear hown harr hco hmo
      clear h h' hd hd'
      go_wp2_with fail
      refine (trim9_c _ _ _ _ os rfl HW.out.2.1 HW.out.2.2.1 HW.out.2.2.2).mono ?_
      rintro e w' ⟨v, rfl, n, hn, rfl, rfl⟩
      have HN := hide hn; clear hn
      go_wp2_with fail
      go_ret
      have hv := LimV.of_trim HW.out.2.1 hdos HW.out.2.2.1 HW.out.2.2.2 HN.out
      rw [HV.out] at hv
      exact ⟨_, rfl, hv.more (by rw [HL.out]; exact Nat.le_refl _), hbel, HW.out.1.fresh.len⟩

theorem sub9_c (w : World) (v v' : Value) (x y : Int) (L L' : Nat) (hx : LimV w v x L) (hy : LimV w v' y L') (hL : L ≤ 1073741824) (hle : y ≤ x) :
    Calls Try.prog 82 #[v, v'] w (Ret (limF w (x - y) L)) := by
  obtain ⟨A, c, xs, rfl, hc, hm, ha, hd, hn, rfl, hl⟩ := hx
  obtain ⟨A', c', ys, rfl, hc', hm', ha', hd', hn', rfl, hl'⟩ := hy
  have hyx : ys.length ≤ xs.length := by
    rcases Nat.lt_or_ge xs.length ys.length with h | h
    · have := val_lt_of_length (B := 1000000000) (by omega) hd hd' hn' h; omega
    · exact h
  refine (sub9_digs w A A' c c' xs ys ha hc hm ha' hc' hm' hd hd' (by omega) hyx hle).mono ?_
  rintro e w' ⟨v, rfl, h1, h2, h3⟩
  exact ⟨v, rfl, h1.more (by omega), h2, h3⟩
end Go.Proofs.Ythnnbpnocefmgaa
