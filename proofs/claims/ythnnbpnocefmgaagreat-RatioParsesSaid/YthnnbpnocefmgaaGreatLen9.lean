/- Walks of the reference: sums, differences, products, quotients, the order and the sign of fractions. Walks of the reference: how many digits a number has; whether numbers are small. Walks of the reference: quotients and remainders of integers, floors of fractions. Walks of the law: what a call returns is the fraction. -/
import Derived.Test.YthnnbpnocefmgaaGreatAddN
import Derived.Test.YthnnbpnocefmgaaGreatStr9
import Derived.Test.YthnnbpnocefmgaaGreatRead9
import Derived.Test.YthnnbpnocefmgaaGreatCalc2
namespace Go.Proofs.YthnnbpnocefmgaaGreat
set_option linter.unusedVariables false
set_option linter.unusedSimpArgs false
open Go.RowKit
theorem sgnZ_sgnQ (q : Rat) : sgnZ q.num = sgnQ q := rfl
theorem sgn9_c (w : World) (v : Value) (q : Rat) (L : Nat) (hq : QV w v q L) :
    Calls Tryz.prog 32 #[v] w (Ret fun v w' => v = .int .i64 (sgnQ q) ∧ Below w.heap.size w w') := by
  obtain ⟨s, A, n, c, B, m, d, rfl, hz, hy⟩ := hq.parts
  have hb0 : Below w.heap.size w (w.alloc (.cells #[.bool s, .slice A n c, .bool false, .slice B m d] 41)) := (Below.refl _ _).alloc (Nat.le_refl _) _
  have HZ := hide (hz.below hb0)
  clear hz hy hq
  go_enter Tryz.func32, Tryz.ntmps32
  go_wp2_with fail
  refine (sign9_c _ _ q.num L HZ.out).mono ?_
  rintro e w1 ⟨_, rfl, rfl, hd⟩
  have HB := hide (below_next hb0 hd)
  clear hb0 hd
  rw [sgnZ_sgnQ]
  go_wp2
  go_ret
  exact ⟨_, rfl, rfl, HB.out⟩
end Go.Proofs.YthnnbpnocefmgaaGreat
namespace Go.Proofs.YthnnbpnocefmgaaGreat
set_option linter.unusedVariables false
set_option linter.unusedSimpArgs false
open Go.RowKit
/-- how many decimal digits -/
def lenR (w : World) (x : Int) (v : Value) (w' : World) : Prop := ∃ n : Nat, v = .int .i64 n ∧ 1 ≤ n ∧ (x = 0 → n = 1) ∧ (0 < x → 10 ^ (n - 1) ≤ x) ∧ x < 10 ^ n ∧ w = w'
theorem top_split (xs : List Int) (h : 0 < xs.length) : val 1000000000 xs = val 1000000000 (xs.take (xs.length - 1)) + 1000000000 ^ (xs.length - 1) * xs.getD (xs.length - 1) 0 := by
  have := val_take_succ 1000000000 xs (xs.length - 1) (by omega)
  rw [show xs.length - 1 + 1 = xs.length by omega, List.take_length] at this
  exact this
theorem len9_c (w : World) (v : Value) (x : Int) (L : Nat) (hx : LimV w v x L) (hL : L ≤ 17592186000000) :
    Calls Tryz.prog 105 #[v] w (Ret (lenR w x)) := by
  obtain ⟨A, c, xs, rfl, hc, hm, ha, hd, hn, rfl, hl⟩ := hx
  unfold maxLen at hm
  by_cases h0 : xs.length = 0
  · obtain rfl : xs = [] := List.eq_nil_of_length_eq_zero h0
    clear ha hd hn
    go_enter Tryz.func105, Tryz.ntmps105
    go_wp2
    go_ret
    exact ⟨_, rfl, 1, rfl, by omega, fun _ => rfl, fun h => by simp [val] at h, by simp [val], rfl⟩
  · have hp : 0 < xs.length := by omega
    have hb0 : ((xs.length : Int) == 0) = false := by rw [beq_eq_false_iff_ne]; omega
    obtain ⟨b, o, rfl, hbl, hcell⟩ := ha.at_ hp
    have htc := hcell (xs.length - 1) (by omega)
    have htb := hd.at_ (k := xs.length - 1) (by omega)
    have hts := top_split xs hp
    have htn := hn.last hp
    obtain ⟨t, ht⟩ : ∃ t, t = xs.getD (xs.length - 1) 0 := ⟨_, rfl⟩
    rw [← ht] at htc htb hts htn
    have hlow := val_nonneg (B := 1000000000) (by omega) (hd.take (xs.length - 1))
    have hlow2 := val_lt (B := 1000000000) (by omega) (hd.take (xs.length - 1))
    rw [List.length_take, show min (xs.length - 1) xs.length = xs.length - 1 by omega] at hlow2
    have ht1 : 0 < t := by omega
    have HT := hide (And.intro hts (And.intro hlow (And.intro hlow2 (And.intro htb ht1)))); clear hts hlow hlow2 htb ht htn hcell hd hn ha
    have hm0 : (0 : Int) ≤ (xs.length : Int) - 1 := by omega
    have hm1 : (xs.length : Int) - 1 < (xs.length : Int) := by omega
    obtain ⟨k, hk⟩ : ∃ k : Nat, xs.length = k + 1 := ⟨xs.length - 1, by omega⟩
    have HK := hide hk; clear hk
    go_enter Tryz.func105, Tryz.ntmps105
    go_wp2
    go_loop [3, 4] (fun s3 s4 => ∃ c : Nat, c ≤ 9 ∧ s3 = .int .i64 (9 * ((xs.length : Int) - 1) + c) ∧ s4 = .int .i64 (t / 10 ^ c) ∧ (0 < c → 10 ^ (c - 1) ≤ t)) (fun _ s4 => (intOf s4).toNat)
    case atStart => exact ⟨0, by omega, by simp, by simp, fun h => by omega⟩
    case round =>
      obtain ⟨c', hc9, rfl, rfl, hc10⟩ := hrel
      have hpc : (0 : Int) < 10 ^ c' := Int.pow_pos (by omega)
      have hv0 : 0 ≤ t / 10 ^ c' := Int.ediv_nonneg (by have := HT.out.2.2.2.2; omega) (by omega)
      have hv1 : t / 10 ^ c' ≤ 999999999 := by
        have h1 := Int.ediv_le_self (10 ^ c' : Int) (show 0 ≤ t by have := HT.out.2.2.2.2; omega)
        have := HT.out.2.2.2.1.2
        omega
      have hdd : t / 10 ^ c' / 10 = t / 10 ^ (c' + 1) := by rw [Int.pow_succ, Int.ediv_ediv_of_nonneg (by omega)]
      have hge : 0 < t / 10 ^ c' → 10 ^ c' ≤ t := fun h => by
        have := (Int.le_ediv_iff_mul_le hpc).1 (show 1 ≤ t / 10 ^ c' by omega)
        omega
      have hend : ¬ 0 < t / 10 ^ c' → t < 10 ^ c' := fun h => by
        have e : t / 10 ^ c' = 0 := by omega
        have := Int.emod_add_mul_ediv t (10 ^ c')
        have := Int.emod_lt_of_pos t hpc
        rw [e] at *
        omega
      obtain ⟨u, hu⟩ : ∃ u, u = t / 10 ^ c' := ⟨_, rfl⟩
      rw [← hu] at hv0 hv1 hdd hge hend ⊢
      have hc8 : 0 < u → c' ≤ 8 := fun h => by
        rcases Nat.lt_or_ge c' 9 with h9 | h9
        · omega
        · have h1 := hge h
          have h2 := pow_le_pow' (B := 10) (by omega) h9
          have h3 : (10 : Int) ^ 9 = 1000000000 := by decide
          have := HT.out.2.2.2.1.2
          omega
      have HC := hide (And.intro hdd (And.intro hge (And.intro hend (And.intro hc10 (And.intro hc8 hu))))); clear hdd hge hend hc10 hu hpc hc8
      by_cases hlt : 0 < u
      · go_wp2
        go_round
        case rel =>
          obtain ⟨e1, e2, e3, e4, e5, e6⟩ := HC.out
          exact ⟨c' + 1, by have := e5 hlt; omega, by go_num, by rw [e1], fun _ => by simpa using e2 hlt⟩
        case measure => simp [intOf]; omega
      · go_wp2
        go_ret
        obtain ⟨e1, e2, e3, e4, e5, e6⟩ := HC.out
        obtain ⟨f1, f2, f3, f4, f5⟩ := HT.out
        have e3 := e3 hlt
        have hc1 : 0 < c' := by
          rcases Nat.eq_zero_or_pos c' with h | h
          · subst h; simp at e3; omega
          · exact h
        have e4 := e4 hc1
        rw [HK.out, show k + 1 - 1 = k by omega] at f1 f2 f3
        have hP : (1000000000 : Int) ^ k = 10 ^ (9 * k) := by rw [Int.pow_mul]; rfl
        rw [hP] at f1 f3
        have hP0 : (0 : Int) < 10 ^ (9 * k) := Int.pow_pos (by omega)
        have g1 : (10 : Int) ^ (9 * k + (c' - 1)) = 10 ^ (9 * k) * 10 ^ (c' - 1) := Int.pow_add ..
        have g2 : (10 : Int) ^ (9 * k + c') = 10 ^ (9 * k) * 10 ^ c' := Int.pow_add ..
        have g3 : (10 : Int) ^ (9 * k) * 10 ^ (c' - 1) ≤ 10 ^ (9 * k) * t := Int.mul_le_mul_of_nonneg_left e4 (by omega)
        have g4 : (10 : Int) ^ (9 * k) * (t + 1) ≤ 10 ^ (9 * k) * 10 ^ c' := Int.mul_le_mul_of_nonneg_left (by omega) (by omega)
        rw [Int.mul_add, Int.mul_one] at g4
        have g5 : (0 : Int) < 10 ^ (9 * k) * 10 ^ (c' - 1) := Int.mul_pos hP0 (Int.pow_pos (by omega))
        refine ⟨_, rfl, 9 * k + c', congrArg (Value.int .i64) (by have := HK.out; omega), by omega, fun h => by omega, fun _ => ?_, ?_, rfl⟩
        · rw [show 9 * k + c' - 1 = 9 * k + (c' - 1) by omega, g1]; omega
        · rw [g2]; omega
theorem lenR_le {x : Int} {n L : Nat} (h1 : 1 ≤ n) (h2 : x = 0 → n = 1) (h3 : 0 < x → 10 ^ (n - 1) ≤ x) (hx0 : 0 ≤ x) (hx : x < 10 ^ L) (hL : 1 ≤ L) : n ≤ L := by
  by_cases h0 : x = 0
  · have := h2 h0; omega
  · have := h3 (by omega)
    rcases Nat.lt_or_ge L n with h | h
    · have := pow_le_pow' (B := 10) (by omega) (show L ≤ n - 1 by omega)
      omega
    · exact h
set_option maxRecDepth 100000 in
theorem small9_yes (w : World) (v : Value) (z : Int) (L : Nat) (hz : ZV w v z L) (hL : L ≤ 3000) :
    Calls Tryz.prog 92 #[v] w (Ret (fun v w' => v = .bool true ∧ Below w.heap.size w w')) := by
  obtain ⟨s, A, n, c, rfl, hs, hm⟩ := hz.parts
  have hb0 : Below w.heap.size w (w.alloc (.cells #[.bool s, .slice A n c] 39)) := (Below.refl _ _).alloc (Nat.le_refl _) _
  have HM := hide (hm.below hb0)
  have hlt := hm.lt
  clear hm hz hs
  go_enter Tryz.func92, Tryz.ntmps92
  go_wp2_with fail
  refine (len9_c _ _ _ L HM.out (by omega)).mono ?_
  rintro e w1 ⟨_, rfl, k, rfl, h1, h2, h3, h4, rfl⟩
  have hk : k ≤ 9 * L + 1 := lenR_le h1 h2 h3 (by omega) (L := 9 * L + 1) (by
    rw [show (1000000000 : Int) ^ L = 10 ^ (9 * L) by rw [Int.pow_mul]; rfl] at hlt
    have := pow_le_pow' (B := 10) (by omega) (show 9 * L ≤ 9 * L + 1 by omega)
    omega) (by omega)
  have hk2 : (k : Int) < 30103 := by omega
  have HB := hide hb0
  clear h1 h2 h3 h4 hk hlt hb0
  go_wp2
  go_ret
  exact ⟨_, rfl, rfl, HB.out⟩
set_option maxRecDepth 100000 in
theorem fits9_yes (w : World) (v : Value) (q : Rat) (L : Nat) (hq : QV w v q L) (hL : L ≤ 3000) :
    Calls Tryz.prog 39 #[v] w (Ret (fun v w' => v = .bool true ∧ Below w.heap.size w w')) := by
  obtain ⟨s, A, n, c, B, m, d, rfl, hz, hy⟩ := hq.parts
  obtain ⟨W, hW⟩ : ∃ W, W = w.alloc (.cells #[.bool s, .slice A n c, .bool false, .slice B m d] 41) := ⟨_, rfl⟩
  have hb0 : Below w.heap.size w W := by rw [hW]; exact (Below.refl _ _).alloc (Nat.le_refl _) _
  have hr : W.heap[w.heap.size]? = some (.cells #[.bool s, .slice A n c, .bool false, .slice B m d] 41) := by rw [hW]; exact at_new _ _
  have HW := hide (And.intro hW (And.intro hb0 (And.intro hr (And.intro (hz.below hb0) (hy.below hb0))))); clear hW hb0 hr hz hy hq
  go_enter Tryz.func39, Tryz.ntmps39
  go_wp2_with fail
  rw [← HW.out.1]
  refine (small9_yes _ _ _ L HW.out.2.2.2.1 hL).mono ?_
  rintro e w1 ⟨_, rfl, rfl, hd1⟩
  obtain ⟨y0, y1, y2, y3, _⟩ := four_cells (at_later HW.out.2.2.1 hd1)
  have hy1 := hide (HW.out.2.2.2.2.below hd1)
  have hb1 := below_next HW.out.2.1 hd1
  clear hd1
  go_wp2_with fail
  refine (small9_yes _ _ _ L hy1.out hL).mono ?_
  rintro e w2 ⟨_, rfl, rfl, hd2⟩
  have HB := hide (below_next hb1 hd2)
  clear hb1 hd2 y0 y1 y2 y3
  go_wp2
  go_ret
  exact ⟨_, rfl, rfl, HB.out⟩
end Go.Proofs.YthnnbpnocefmgaaGreat
namespace Go.Proofs.YthnnbpnocefmgaaGreat
set_option linter.unusedVariables false
set_option linter.unusedSimpArgs false
open Go.RowKit
end Go.Proofs.YthnnbpnocefmgaaGreat
namespace Go.Proofs.YthnnbpnocefmgaaGreat
set_option linter.unusedVariables false
set_option linter.unusedSimpArgs false
open Go.RowKit
end Go.Proofs.YthnnbpnocefmgaaGreat
