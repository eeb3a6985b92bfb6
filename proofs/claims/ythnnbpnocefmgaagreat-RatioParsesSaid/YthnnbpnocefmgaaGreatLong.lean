/- Walks: what is wrong with a row of fractions. -/
import Derived.Test.YthnnbpnocefmgaaGreatDot
namespace Go.Proofs.YthnnbpnocefmgaaGreat
set_option linter.unusedVariables false
set_option linter.unusedSimpArgs false
open Go.RowKit
/-- too many digits -/
def longQ (q : Rat) : Bool := decide (60 < (decText (q.num.natAbs : Int)).length) || decide (60 < (decText (q.den : Int)).length)
theorem isLong_c (w : World) (a : Value) (q : Rat) (L : Nat) (ha : RatV w a q L) (hL : L ≤ 1073741800) :
    Calls Tryz.prog 103 #[a] w (Ret (fun v w' => v = .bool (longQ q) ∧ Below w.heap.size w w')) := by
  obtain ⟨n1, l1, rfl, h1, g1⟩ := ha
  obtain ⟨A1, c1, xs1, rfl, _⟩ := h1.open_
  obtain ⟨A2, c2, xs2, rfl, _⟩ := g1.open_
  have z1 := h1.text_size (by omega)
  have hb0 : Below w.heap.size w (w.alloc (.cells #[.bool (decide (q.num < 0)), .slice A1 xs1.length c1, .slice A2 xs2.length c2] 35)) := (Below.refl _ _).alloc (Nat.le_refl _) _
  have hs0 := below_start w (.cells #[.bool (decide (q.num < 0)), .slice A1 xs1.length c1, .slice A2 xs2.length c2] 35)
  obtain ⟨b1, hs1⟩ : ∃ s, s = decide (q.num < 0) := ⟨_, rfl⟩
  rw [← hs1] at hb0 hs0 ⊢; clear hs1
  have HA := hide (And.intro h1 g1); clear h1 g1
  rw [str_size] at z1
  obtain ⟨x, hx⟩ : ∃ x, x = (q.num.natAbs : Int) := ⟨_, rfl⟩
  have hlq : longQ q = (decide (60 < (decText x).length) || decide (60 < (decText (q.den : Int)).length)) := by rw [hx]; rfl
  rw [hlq]; clear hlq
  rw [← hx] at HA z1; clear hx
  obtain ⟨y, hy⟩ : ∃ y, y = (q.den : Int) := ⟨_, rfl⟩
  rw [← hy] at HA ⊢; clear hy
  by_cases hd : 60 < (decText x).length
  · have hdd : decide (60 < (decText x).length) = true := by simp [hd]
    go_enter Tryz.func103, Tryz.ntmps103
    go_wp2_with fail
    refine (text_c _ _ x L (HA.out.1.below hb0) (by omega)).mono ?_
    rintro e w1 ⟨_, rfl, rfl, hd1⟩
    rw [show (str (decText x)) = str (decText x) from rfl]
    have hsz := str_size (decText x)
    go_wp2
    go_ret
    exact ⟨_, rfl, by simp [hd], below_next hb0 hd1⟩
  · have hdd : decide (60 < (decText x).length) = false := by simp only [decide_eq_false_iff_not]; exact hd
    have hD := hide hdd; clear hdd
    go_enter Tryz.func103, Tryz.ntmps103
    go_wp2_with fail
    refine (text_c _ _ x L (HA.out.1.below hb0) (by omega)).mono ?_
    rintro e w1 ⟨_, rfl, rfl, hd1⟩
    obtain ⟨k0, k1, k2, f0, f1, f2, ks⟩ := box3 (below_more hs0 hd1 (by simp))
    have hsz := str_size (decText x)
    have hdd := hD.out
    have hb1 := below_next hb0 hd1
    go_wp2_with fail
    refine (den_c _ _ _ _ (y - 1) L (HA.out.2.below hb1) hL).mono ?_
    rintro e w2 ⟨u2, rfl, hu2, hd2⟩
    rw [show y - 1 + 1 = y by omega] at hu2
    have z2 := hu2.text_size (by omega)
    rw [str_size] at z2
    have HU := hide hu2; clear hu2
    go_wp2_with fail
    refine (text_c _ _ y (L + 2) HU.out (by omega)).mono ?_
    rintro e w3 ⟨_, rfl, rfl, hd3⟩
    have hsz2 := str_size (decText y)
    clear k0 k1 k2 f0 f1 f2
    go_wp2
    go_ret
    refine ⟨_, rfl, ?_, below_next (below_next hb1 hd2) hd3⟩
    rw [hD.out, Bool.false_or]
    have h6 : ¬ (60 : Int) < ((decText x).length : Int) := by omega
    rw [decide_eq_false h6, Bool.false_or]
    show Value.bool (decide ((60 : Int) < ((decText y).length : Int))) = Value.bool _
    congr 1
    rw [decide_eq_decide]; omega
/-- a value that a function says of each of the first n -/
def anyB (p : Nat → Bool) (n : Nat) : Bool := (List.range n).any p
theorem anyB_of {p : Nat → Bool} {n k : Nat} (hk : k < n) (h : p k = true) : anyB p n = true := List.any_eq_true.2 ⟨k, List.mem_range.2 hk, h⟩
theorem anyB_none {p : Nat → Bool} {n : Nat} (h : ∀ i, i < n → p i = false) : anyB p n = false := by
  rw [Bool.eq_false_iff]
  intro h1
  obtain ⟨k, hk, h2⟩ := List.any_eq_true.1 h1
  rw [h k (List.mem_range.1 hk)] at h2
  cases h2
/-- the number that is found, if there is one -/
def FoundR (w : World) (b : Bool) (v : Value) (w' : World) : Prop := ∃ r : Int, v = .int .i64 r ∧ decide (0 ≤ r) = b ∧ Below w.heap.size w w'
set_option maxRecDepth 100000 in
theorem index_q (w : World) (va : Value) (qs : List Rat) (L : Nat) (ha : RowV w va qs L) (hL : L ≤ 1073741800) :
    Calls Tryz.prog 138 #[va, .func (.func 103) #[] #[]] w (Ret (FoundR w (anyB (fun i => longQ (qs.getD i 0)) qs.length))) := by
  have HA := hide ha
  obtain ⟨A1, c1, rfl, hc1, hm1, _⟩ := ha
  unfold maxLen at hm1
  go_enter Tryz.func138, Tryz.ntmps138
  go_wp2
  go_loopw [8] (fun s8 wr => ∃ k : Nat, k ≤ qs.length ∧ s8 = .int .i64 k ∧ (∀ i, i < k → longQ (qs.getD i 0) = false) ∧ Below w.heap.size w wr) (fun s8 _ => qs.length - (intOf s8).toNat)
  case atStart => exact ⟨0, Nat.zero_le _, rfl, fun i hi => by omega, Below.refl _ _⟩
  case round =>
    obtain ⟨k, hk, rfl, hno, hbel⟩ := hrel
    by_cases hkl : k < qs.length
    · obtain ⟨_, _, _, hcell⟩ := (HA.out.below hbel).at_
      obtain ⟨g1, o1, rfl, hcl1⟩ := hcell (by omega)
      obtain ⟨s, B1, m1, d1, B2, m2, d2, e0, e1, e2, hr⟩ := (hcl1 k hkl).rat
      have HH := hide (And.intro hno (And.intro hbel hr)); clear hno hbel hr hcell hcl1
      rcases hp : longQ (qs.getD k 0) with _ | _
      · have HP := hide hp; clear hp
        go_wp2_with (go_at_call 103; refine (isLong_c _ _ (qs.getD k 0) L HH.out.2.2 hL).mono ?_; rintro e w1 ⟨_, rfl, rfl, hd1⟩; rw [HP.out])
        go_roundw
        case rel =>
          refine ⟨k + 1, by omega, by go_num, fun i hi => ?_, below_next HH.out.2.1 hd1⟩
          by_cases h : i < k
          · exact HH.out.1 i h
          · obtain rfl : i = k := by omega
            exact HP.out
        case measure => simp [intOf]; omega
      · have HP := hide hp; clear hp
        go_wp2_with (go_at_call 103; refine (isLong_c _ _ (qs.getD k 0) L HH.out.2.2 hL).mono ?_; rintro e w1 ⟨_, rfl, rfl, hd1⟩; rw [HP.out])
        go_ret
        exact ⟨_, rfl, k, rfl, by rw [anyB_of hkl HP.out]; simp, below_next HH.out.2.1 hd1⟩
    · obtain rfl : k = qs.length := by omega
      have HH := hide (And.intro hno hbel); clear hno hbel
      go_wp2
      go_ret
      exact ⟨_, rfl, -1, rfl, by rw [anyB_none HH.out.1]; rfl, HH.out.2⟩
theorem contains_q (w : World) (va : Value) (qs : List Rat) (L : Nat) (ha : RowV w va qs L) (hL : L ≤ 1073741800) :
    Calls Tryz.prog 102 #[va, .func (.func 103) #[] #[]] w (Ret (fun v w' => v = .bool (anyB (fun i => longQ (qs.getD i 0)) qs.length) ∧ Below w.heap.size w w')) := by
  have HA := hide ha
  obtain ⟨A1, c1, rfl, hc1, hm1, _⟩ := ha
  go_enter Tryz.func102, Tryz.ntmps102
  go_wp2_with fail
  refine (index_q _ _ qs L HA.out hL).mono ?_
  rintro e w1 ⟨_, rfl, r, rfl, hr, hd1⟩
  have HR := hide hr; clear hr
  go_wp2
  go_ret
  exact ⟨_, rfl, by rw [← HR.out]; rfl, hd1⟩
end Go.Proofs.YthnnbpnocefmgaaGreat
