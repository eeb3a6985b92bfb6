/- Walks: a row of fractions is divided. -/
import Derived.Test.YthnnbpnocefmgaaGreatRow
namespace Go.Proofs.YthnnbpnocefmgaaGreat
set_option linter.unusedVariables false
set_option linter.unusedSimpArgs false
open Go.RowKit
/-- changed as far as k -/
def UpTo (f : Nat → Rat → Rat) (qs zs : List Rat) (k : Nat) : Prop :=
  zs.length = qs.length ∧ ∀ i, i < qs.length → zs.getD i 0 = if i < k then f i (qs.getD i 0) else qs.getD i 0
theorem upTo_zero (f : Nat → Rat → Rat) (qs : List Rat) : UpTo f qs qs 0 := ⟨rfl, fun i hi => by rw [if_neg (by omega)]⟩
theorem upTo_step {f : Nat → Rat → Rat} {qs zs : List Rat} {k : Nat} (h : UpTo f qs zs k) (hk : k < qs.length) : UpTo f qs (zs.set k (f k (zs.getD k 0))) (k + 1) := by
  obtain ⟨h1, h2⟩ := h
  refine ⟨by simp [h1], fun i hi => ?_⟩
  by_cases e : k = i
  · subst e
    rw [show (zs.set k (f k (zs.getD k 0))).getD k 0 = f k (zs.getD k 0) by simp [List.getD, h1, hk], h2 k hk, if_neg (by omega), if_pos (by omega)]
  · rw [show (zs.set k (f k (zs.getD k 0))).getD i 0 = zs.getD i 0 by simp [List.getD, List.getElem?_set_ne e], h2 i hi]
    by_cases c : i < k
    · rw [if_pos c, if_pos (by omega)]
    · rw [if_neg c, if_neg (by omega)]
theorem upTo_end {f : Nat → Rat → Rat} {qs zs : List Rat} {k : Nat} (h : UpTo f qs zs k) (hk : qs.length ≤ k) : zs = qs.mapIdx f := by
  obtain ⟨h1, h2⟩ := h
  apply List.ext_getElem (by simp [h1])
  intro i hi hi'
  have hx : i < qs.length := by omega
  have := h2 i hx
  rw [if_pos (by omega)] at this
  simpa [List.getD, hi, hx] using this
theorem grown_below {a b c : World} {r : Option Nat} (h : a.grownBy b r) (k : Below b.heap.size b c) : a.grownBy c r :=
  ⟨k.os.trans h.os, k.tape.trans h.tape, k.output.trans h.output, Nat.le_trans h.size k.size, fun i hi hne => (k.block i (Nat.lt_of_lt_of_le hi h.size)).trans (h.block i hi hne)⟩
theorem only_start {a b c : World} {r : Option Nat} (h : Below a.heap.size a b) (k : b.grownBy c r) : a.grownBy c r :=
  ⟨k.os.trans h.os, k.tape.trans h.tape, k.output.trans h.output, Nat.le_trans h.size k.size, fun i hi hne => (k.block i (Nat.lt_of_lt_of_le hi h.size) hne).trans (h.block i hi)⟩
theorem grownBy_drew {w w' : World} {r : Option Nat} (h : w.grownBy w' r) : w.grownBy w'.drew r := ⟨h.os, h.tape, h.output, h.size, h.block⟩
theorem meth_over (v : Value) (w : World) : (method 291 35 v "minikin/ratio.over").run Tryz.prog w = .ok (71, v) w := by kernel_rfl
theorem meth_times (v : Value) (w : World) : (method 291 35 v "minikin/ratio.times").run Tryz.prog w = .ok (65, v) w := by kernel_rfl
theorem meth_minus (v : Value) (w : World) : (method 291 35 v "minikin/ratio.minus").run Tryz.prog w = .ok (62, v) w := by kernel_rfl
theorem meth_isZero (v : Value) (w : World) : (method 291 35 v "minikin/ratio.isZero").run Tryz.prog w = .ok (66, v) w := by kernel_rfl
set_option maxRecDepth 100000 in
theorem divide_c (w : World) (g c : Nat) (qs : List Rat) (by_ : Value) (q : Rat) (L : Nat) (hrow : RowC w g qs L) (hq : RatV w by_ q L) (hL : L ≤ 268435456) (hq0 : q ≠ 0) (hc : qs.length ≤ c) (hm : c ≤ maxLen)
    (hfit : ∀ i, i < qs.length → FitQ L (qs.getD i 0 / q)) :
    Calls Tryz.prog 110 #[.slice (some ⟨g, 0, none⟩) qs.length c, by_] w (Ret (fun v w' => v = .tuple #[] ∧ RowC w' g (qs.mapIdx fun _ x => x / q) L ∧ Keeps w w' ∧ w.grownBy w' (some g))) := by
  unfold maxLen at hm
  have hmo := meth_over
  have HA := hide (And.intro hrow (And.intro hq (And.intro hq0 hfit)))
  have hgl := hrow.lt
  obtain ⟨n1, l1, rfl, h1, g1⟩ := hq
  obtain ⟨A1, c1, xs1, rfl, _⟩ := h1.open_
  obtain ⟨A2, c2, xs2, rfl, _⟩ := g1.open_
  clear hrow h1 g1 hq0 hfit
  obtain ⟨b1, hs1⟩ : ∃ s, s = decide (q.num < 0) := ⟨_, rfl⟩
  rw [← hs1] at HA
  rw [← hs1]
  clear hs1
  go_enter Tryz.func110, Tryz.ntmps110
  go_wp2
  have hbw : Below w.heap.size w (w.alloc (.cells #[.bool b1, .slice A1 xs1.length c1, .slice A2 xs2.length c2] 35)) := (Below.refl _ _).alloc (Nat.le_refl _) _
  go_loopw [8] (fun s8 wr => ∃ (k : Nat) (zs : List Rat), k ≤ qs.length ∧ s8 = .int .i64 k ∧ UpTo (fun _ x => x / q) qs zs k ∧ RowC wr g zs L ∧ Keeps w wr ∧
    (w.alloc (.cells #[.bool b1, .slice A1 xs1.length c1, .slice A2 xs2.length c2] 35)).grownBy wr (some g)) (fun s8 _ => qs.length - (intOf s8).toNat)
  case atStart =>
    have hb0 : Below w.heap.size w (w.alloc (.cells #[.bool b1, .slice A1 xs1.length c1, .slice A2 xs2.length c2] 35)) := (Below.refl _ _).alloc (Nat.le_refl _) _
    exact ⟨0, qs, Nat.zero_le _, rfl, upTo_zero _ _, HA.out.1.below hb0, Below.keeps hb0, ⟨rfl, rfl, rfl, Nat.le_refl _, fun _ _ _ => rfl⟩⟩
  case round =>
    obtain ⟨k, zs, hk, rfl, hup, hrow, hkeep, hgr⟩ := hrel
    by_cases hkl : k < qs.length
    · obtain ⟨s, B1, m1, d1, B2, m2, d2, e0, e1, e2, hr⟩ := (hrow.2 k (by rw [hup.1]; exact hkl)).rat
      have hbx : wr.heap[w.heap.size]? = some (.cells #[.bool b1, .slice A1 xs1.length c1, .slice A2 xs2.length c2] 35 (0, 0)) := (hgr.block w.heap.size (by simp) (by intro e; injection e with e; omega)).trans (heap_alloc_new w _)
      have x0 : wr.cell? ⟨w.heap.size, 0, none⟩ = some (.bool b1) := by simp [World.cell?, hbx]
      have x1 : wr.cell? ⟨w.heap.size, 1, none⟩ = some (.slice A1 xs1.length c1) := by simp [World.cell?, hbx]
      have x2 : wr.cell? ⟨w.heap.size, 2, none⟩ = some (.slice A2 xs2.length c2) := by simp [World.cell?, hbx]
      have hsz : w.heap.size < wr.heap.size := lt_of_block hbx
      have HH := hide (And.intro hup (And.intro hrow (And.intro hkeep (And.intro hgr hr)))); clear hup hrow hkeep hgr hr hbx
      go_wp2_with fail
      have hba : Below wr.heap.size wr (wr.alloc (.cells #[.bool s, .slice B1 m1 d1, .slice B2 m2 d2] 35)) := (Below.refl _ _).alloc (Nat.le_refl _) _
      refine (over_q _ _ _ (zs.getD k 0) q L (HH.out.2.2.2.2.below hba) ((HA.out.2.1.keeps HH.out.2.2.1).below hba) hL HA.out.2.2.1).mono ?_
      rintro e w2 ⟨u2, rfl, hu, hd2⟩
      have hb2 := below_next hba hd2
      have hzk : zs.getD k 0 = qs.getD k 0 := by have := HH.out.1.2 k hkl; rw [if_neg (by omega)] at this; exact this
      replace hu := hu.fit (by rw [hzk]; exact HA.out.2.2.2 k hkl)
      have hrow2 := HH.out.2.1.below hb2
      obtain ⟨s', B1', m1', d1', B2', m2', d2', e0', e1', e2', _⟩ := (hrow2.2 k (by rw [HH.out.1.1]; exact hkl)).rat
      have f0 := hrow2.frozen (k * 3)
      have f1 := hrow2.frozen (k * 3 + 1)
      have f2 := hrow2.frozen (k * 3 + 2)
      obtain ⟨rn, rl, rfl, r1, r2⟩ := id hu
      obtain ⟨A5, c5, xs5, rfl, _⟩ := r1.open_
      obtain ⟨A6, c6, xs6, rfl, _⟩ := r2.open_
      have HU := hide (And.intro hu (And.intro hrow2 (And.intro hb2 hzk))); clear hu hrow2 hb2 r1 r2 hzk
      go_wp2
      go_roundw
      case rel =>
        obtain ⟨hup, hrow, hkeep, hgr, hr⟩ := HH.out
        obtain ⟨hu, hrow2, hb2, hzk⟩ := HU.out
        obtain ⟨t1, t2, t3⟩ := hrow2.set3 (i := k) (by rw [hup.1]; exact hkl) hu
        exact ⟨k + 1, _, by omega, by go_num, upTo_step hup hkl, t1, (hkeep.trans (Below.keeps hb2)).trans t2, only_trans (grown_below hgr hb2) t3⟩
      case measure => simp [intOf]; omega
    · have HH := hide (And.intro hup (And.intro hrow (And.intro hkeep hgr))); clear hup hrow hkeep hgr
      go_wp2
      go_end0
      obtain ⟨hup, hrow, hkeep, hgr⟩ := HH.out
      have := upTo_end hup (by omega)
      subst this
      exact ⟨_, rfl, rfl, hrow, hkeep, only_start hbw hgr⟩
end Go.Proofs.YthnnbpnocefmgaaGreat
