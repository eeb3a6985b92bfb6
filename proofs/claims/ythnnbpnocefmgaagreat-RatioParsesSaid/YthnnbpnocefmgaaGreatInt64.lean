/- Walks: whole numbers as int64s; numerators and denominators. -/
import Derived.Test.YthnnbpnocefmgaaGreatLen9
import Derived.Test.YthnnbpnocefmgaaGreatRat4
import Derived.Test.YthnnbpnocefmgaaGreatRat6
import Derived.Test.YthnnbpnocefmgaaGreatParse
namespace Go.Proofs.YthnnbpnocefmgaaGreat
set_option linter.unusedVariables false
set_option linter.unusedSimpArgs false
open Go.RowKit
/-- a whole number that an int64 holds -/
def intOk (p : Rat) : Prop := p.den = 1 ∧ -9223372036854775808 ≤ p.num ∧ p.num ≤ 9223372036854775807
def int64R (w : World) (p : Rat) (v : Value) (w' : World) : Prop :=
  ((intOk p ∧ v = .tuple #[.int .i64 p.num, .bool true]) ∨ (¬ intOk p ∧ v = .tuple #[.int .i64 0, .bool false])) ∧ Below w.heap.size w w'
theorem val_drop_le {B : Int} (hB : 1 ≤ B) {xs : List Int} (h : Dig B xs) : ∀ k, val B (xs.drop k) ≤ val B xs := by
  induction xs with
  | nil => intro k; simp
  | cons x xs ih =>
    intro k
    cases k with
    | zero => simp
    | succ k =>
      rw [List.drop_succ_cons]
      rw [Dig.cons] at h
      have h1 := ih h.2 k
      have h2 := val_nonneg (by omega) h.2
      have h3 : val B xs ≤ B * val B xs := by
        have := Int.mul_le_mul_of_nonneg_right hB h2
        omega
      simp only [val]; omega
theorem val_dropS {B : Int} {xs : List Int} {k : Nat} (hk : k < xs.length) : val B (xs.drop k) = val B (xs.drop (k + 1)) * B + xs.getD k 0 := by
  rw [List.drop_eq_getElem_cons hk]
  simp only [val, List.getD, List.getElem?_eq_getElem hk, Option.getD_some]
  rw [Int.mul_comm, Int.add_comm]
set_option maxRecDepth 100000 in
set_option maxHeartbeats 2000000 in
theorem int64_q (w : World) (a : Value) (p : Rat) (L : Nat) (ha : RatV w a p L) :
    Calls Tryz.prog 42 #[a] w (Ret (int64R w p)) := by
  obtain ⟨n, l, rfl, h1, g1⟩ := ha
  obtain ⟨A1, c1, xs, rfl, hc1, hm1, ha1, hd1, hn1, hv1, -⟩ := h1.open_
  obtain ⟨A2, c2, ys, rfl, hc2, hm2, ha2, hd2, hn2, hv2, -⟩ := g1.open_
  obtain ⟨neg, hneg⟩ : ∃ b, b = decide (p.num < 0) := ⟨_, rfl⟩
  rw [← hneg]
  unfold maxLen at hm1 hm2
  by_cases hy : 0 < ys.length
  · have d1 : decide (0 < ys.length) = true := decide_eq_true hy
    have hden : p.den ≠ 1 := by
      intro e
      have h2 := val_pos (by omega) hd2 hn2 (List.length_pos_iff.1 hy)
      rw [hv2, e] at h2
      omega
    have HD := hide hden
    clear hneg hd1 hn1 hv1 ha1 ha2 hd2 hn2 hv2 h1 g1 hden
    go_enter Tryz.func42, Tryz.ntmps42
    go_wp2
    refine bodyPost_ret (v := .tuple #[.int .i64 0, .bool false]) ?_ rfl ?_
    · simp [results, Tryz.results42, go_sem]
    exact ⟨_, rfl, .inr ⟨fun h => HD.out h.1, rfl⟩, (Below.refl _ _).alloc (Nat.le_refl _) _⟩
  · by_cases hx : 2 < xs.length
    · have d1 : decide (0 < ys.length) = false := decide_eq_false hy
      have d2 : decide (2 < xs.length) = true := decide_eq_true hx
      have hbig : (18446744073709551616 : Int) ≤ (p.num.natAbs : Int) := by
        have h2 := le_val_of_norm (by omega) hd1 hn1 (List.length_pos_iff.1 (by omega))
        have h3 := pow_le_pow' (B := 4294967296) (by omega) (show 2 ≤ xs.length - 1 by omega)
        rw [hv1] at h2
        omega
      have HD := hide hbig
      clear hneg hd1 hn1 hv1 ha1 ha2 hd2 hn2 hv2 h1 g1 hbig
      go_enter Tryz.func42, Tryz.ntmps42
      go_wp2
      refine bodyPost_ret (v := .tuple #[.int .i64 0, .bool false]) ?_ rfl ?_
      · simp [results, Tryz.results42, go_sem]
      exact ⟨_, rfl, .inr ⟨fun h => by have h1 := h.2.1; have h2 := h.2.2; have h3 := HD.out; omega, rfl⟩, (Below.refl _ _).alloc (Nat.le_refl _) _⟩
    · obtain ⟨W, hW⟩ : ∃ W, W = w.alloc (.cells #[.bool neg, .slice A1 xs.length c1, .slice A2 ys.length c2] 35) := ⟨_, rfl⟩
      have hbW : Below w.heap.size w W := by rw [hW]; exact (Below.refl _ _).alloc (Nat.le_refl _) _
      have hbox : W.heap[w.heap.size]? = some (.cells #[.bool neg, .slice A1 xs.length c1, .slice A2 ys.length c2] 35) := by rw [hW]; exact at_new _ _
      have d1 : decide (0 < ys.length) = false := decide_eq_false hy
      have d2 : decide (2 < xs.length) = false := decide_eq_false hx
      have HX := hide (And.intro hneg (And.intro hd1 (And.intro hv1 (And.intro (ha1.below hbW) (And.intro hbox (And.intro hbW hv2))))))
      have HL := hide hW
      have hx2 : xs.length ≤ 2 := by omega
      obtain ⟨k0, k1, k2⟩ := three_cells hbox
      clear hneg hd1 hn1 hv1 ha1 ha2 hd2 hn2 hv2 h1 g1 hbox hbW hW
      rw [HL.out] at k0 k1 k2
      go_enter Tryz.func42, Tryz.ntmps42
      go_wp2
      rw [← HL.out]
      go_loopw [4, 5] (fun s4 s5 wr => ∃ k : Nat, k ≤ xs.length ∧ s5 = .int .i64 ((k : Int) - 1) ∧ s4 = .int .u64 (val 4294967296 (xs.drop k)) ∧ wr = W) (fun _ s5 _ => (intOf s5 + 1).toNat)
      case atStart => exact ⟨xs.length, Nat.le_refl _, rfl, by simp [val], rfl⟩
      case round =>
        obtain ⟨k, hk, rfl, rfl, rfl⟩ := hrel
        have hbox := HX.out.2.2.2.2.1
        obtain ⟨k0, k1, k2⟩ := three_cells hbox
        clear hbox
        obtain ⟨r, hr⟩ : ∃ r, r = val 4294967296 (xs.drop k) := ⟨_, rfl⟩
        have hr0 : 0 ≤ r := by rw [hr]; exact val_nonneg (by omega) (HX.out.2.1.drop k)
        rw [← hr]
        by_cases hk0 : 0 < k
        · obtain ⟨j, rfl⟩ : ∃ j, k = j + 1 := ⟨k - 1, by omega⟩
          have hr1 : r < 4294967296 := by
            have h1 := val_lt (B := 4294967296) (by omega) (HX.out.2.1.drop (j + 1))
            rw [← hr, List.length_drop] at h1
            have h2 := pow_le_pow' (B := 4294967296) (by omega) (show xs.length - (j + 1) ≤ 1 by omega)
            omega
          obtain ⟨b, o, e, -, hcl⟩ := HX.out.2.2.2.1 (by omega)
          obtain rfl := e
          have hc := hcl j (by omega)
          obtain ⟨x, hx3⟩ : ∃ x, x = xs.getD j 0 := ⟨_, rfl⟩
          have hx0 := HX.out.2.1.at_ (k := j) (by omega)
          rw [← hx3] at hc hx0
          have hor := or64 r x hr0 (by omega) hx0.1 hx0.2
          have e1 : (((j + 1 : Nat) : Int) - 1) = (j : Int) := by omega
          rw [e1]
          have HR := hide (And.intro hr hx3)
          obtain ⟨hx0, hx1⟩ := hx0
          have d3 : decide ((0 : Int) ≤ (j : Int)) = true := by apply decide_eq_true; omega
          clear hr hx3 hcl e1
          go_wp2
          refine ⟨⟨j, by omega, rfl, ?_, trivial⟩, by simp [intOf]⟩
          rw [val_dropS (by omega), ← HR.out.1, ← HR.out.2]
        · obtain rfl : k = 0 := by omega
          rw [List.drop_zero, HX.out.2.2.1] at hr
          have hys : ys = [] := List.eq_nil_of_length_eq_zero (by omega)
          have hden : p.den = 1 := by
            have := HX.out.2.2.2.2.2.2
            rw [hys] at this
            simp [val] at this
            omega
          have hr2 : r < 18446744073709551616 := by
            have h1 := val_lt (B := 4294967296) (by omega) HX.out.2.1
            have h2 := pow_le_pow' (B := 4294967296) (by omega) (show xs.length ≤ 2 by omega)
            rw [HX.out.2.2.1, ← hr] at h1
            omega
          have HR := hide (And.intro hr (And.intro hden (HX.out.1)))
          clear hr hden hys
          cases neg with
          | true =>
            have hpn : p.num < 0 := of_decide_eq_true HR.out.2.2.symm
            have hrn : p.num = -r := by have := HR.out.1; omega
            by_cases hb : r ≤ 9223372036854775808
            · have d3 : decide (r ≤ 9223372036854775808) = true := decide_eq_true hb
              go_wp2
              refine bodyPost_ret (v := .tuple #[.int .i64 (wrap64 (-wrap64 r)), .bool true]) ?_ rfl ?_
              · simp [results, Tryz.results42, go_sem]
              exact ⟨_, rfl, .inl ⟨⟨HR.out.2.1, by omega, by omega⟩, by rw [hrn, show wrap64 (-wrap64 r) = -r by unfold wrap64; omega]⟩, HX.out.2.2.2.2.2.1⟩
            · have d3 : decide (r ≤ 9223372036854775808) = false := decide_eq_false hb
              go_wp2
              refine bodyPost_ret (v := .tuple #[.int .i64 0, .bool false]) ?_ rfl ?_
              · simp [results, Tryz.results42, go_sem]
              exact ⟨_, rfl, .inr ⟨fun h => by have h1 := h.2.1; omega, rfl⟩, HX.out.2.2.2.2.2.1⟩
          | false =>
            have hpn : ¬ p.num < 0 := of_decide_eq_false HR.out.2.2.symm
            have hrn : p.num = r := by have := HR.out.1; omega
            by_cases hb : r < 9223372036854775808
            · have d3 : decide (r < 9223372036854775808) = true := decide_eq_true hb
              go_wp2
              refine bodyPost_ret (v := .tuple #[.int .i64 r, .bool true]) ?_ rfl ?_
              · simp [results, Tryz.results42, go_sem]
              exact ⟨_, rfl, .inl ⟨⟨HR.out.2.1, by omega, by omega⟩, by rw [hrn]⟩, HX.out.2.2.2.2.2.1⟩
            · have d3 : decide (r < 9223372036854775808) = false := decide_eq_false hb
              go_wp2
              refine bodyPost_ret (v := .tuple #[.int .i64 0, .bool false]) ?_ rfl ?_
              · simp [results, Tryz.results42, go_sem]
              exact ⟨_, rfl, .inr ⟨fun h => by have h1 := h.2.2; omega, rfl⟩, HX.out.2.2.2.2.2.1⟩
theorem num_q (w : World) (a : Value) (p : Rat) (L : Nat) (ha : RatV w a p L) :
    Calls Tryz.prog 44 #[a] w (Ret (ratR w ((p.num : Int) : Rat) L)) := by
  obtain ⟨n, l, rfl, h1, g1⟩ := ha
  obtain ⟨A1, c1, xs, rfl, -⟩ := h1.open_
  obtain ⟨A2, c2, ys, rfl, -⟩ := g1.open_
  obtain ⟨neg, hneg⟩ : ∃ b, b = decide (p.num < 0) := ⟨_, rfl⟩
  rw [← hneg]
  have HX := hide (And.intro h1 hneg)
  clear h1 g1 hneg
  go_enter Tryz.func44, Tryz.ntmps44
  go_wp2
  have hb : Below w.heap.size w ((w.alloc (.cells #[.bool neg, .slice A1 xs.length c1, .slice A2 ys.length c2] 35)).alloc (.cells #[.bool neg, .slice A1 xs.length c1, .slice none 0 0] 35)) := ((Below.refl _ _).alloc (Nat.le_refl _) _).alloc (by simp) _
  have e1 : (((p.num : Int) : Rat)).num = p.num := Rat.num_intCast _
  have e2 : (((p.num : Int) : Rat)).den = 1 := Rat.den_intCast _
  refine bodyPost_ret (v := .agg #[.bool neg, .slice A1 xs.length c1, .slice none 0 0]) ?_ rfl ?_
  · simp [results, Tryz.results44, go_sem]
  exact ⟨_, rfl, ⟨_, _, by rw [e1, HX.out.2], by rw [e1]; exact HX.out.1.below hb, by rw [e2]; exact NatV.nil _ _⟩, hb⟩
set_option maxRecDepth 100000 in
theorem den_q (w : World) (a : Value) (p : Rat) (L : Nat) (ha : RatV w a p L) (hL : L ≤ 1073741800) :
    Calls Tryz.prog 45 #[a] w (Ret (ratR w ((p.den : Int) : Rat) (L + 2))) := by
  obtain ⟨n, l, rfl, h1, g1⟩ := ha
  obtain ⟨A1, c1, xs, rfl, -⟩ := h1.open_
  obtain ⟨A2, c2, ys, rfl, -⟩ := g1.open_
  obtain ⟨neg, hneg⟩ : ∃ b, b = decide (p.num < 0) := ⟨_, rfl⟩
  rw [← hneg]
  obtain ⟨W, hW⟩ : ∃ W, W = (w.alloc (.cells #[.bool neg, .slice A1 xs.length c1, .slice A2 ys.length c2] 35)).alloc (.cells #[.bool false, .slice none 0 0, .slice none 0 0] 35) := ⟨_, rfl⟩
  have hbW : Below w.heap.size w W := by rw [hW]; exact ((Below.refl _ _).alloc (Nat.le_refl _) _).alloc (by simp) _
  have hr : W.heap[w.heap.size + 1]? = some (.cells #[.bool false, .slice none 0 0, .slice none 0 0] 35) := by rw [hW]; exact at_new' _ (by simp)
  have HX := hide (And.intro g1 (And.intro hbW hr))
  have HL := hide hW
  clear h1 g1 hneg hW hbW hr
  go_enter Tryz.func45, Tryz.ntmps45
  go_wp2_with fail
  rw [← HL.out]
  refine (den_c _ _ _ _ _ L (HX.out.1.below HX.out.2.1) hL).mono ?_
  rintro e w1 ⟨v1, rfl, q1, hd1⟩
  have hr1 := at_later HX.out.2.2 hd1
  obtain ⟨x0, x1, x2⟩ := three_cells hr1
  obtain ⟨f0, f1, f2⟩ := three_frozen hr1
  have hlt := lt_of_block hr1
  rw [show ((p.den : Int) - 1 + 1) = (p.den : Int) by omega] at q1
  obtain ⟨A3, c3, zs, rfl, -⟩ := q1.open_
  have HF := hide (And.intro q1 (And.intro hr1 (below_next HX.out.2.1 hd1)))
  clear q1 hr1 hd1
  go_wp2
  refine bodyPost_ret (v := .agg #[.bool false, .slice A3 zs.length c3, .slice none 0 0]) ?_ rfl ?_
  · simp [results, Tryz.results45, go_sem, x0, x1, x2, hlt]
  have e1 : (((p.den : Int) : Rat)).num = (p.den : Int) := Rat.num_intCast _
  have e2 : (((p.den : Int) : Rat)).den = 1 := Rat.den_intCast _
  have hq : RatV w1 (.agg #[.bool false, .slice A3 zs.length c3, .slice none 0 0]) ((p.den : Int) : Rat) (L + 2) :=
    ⟨_, _, by rw [e1, decide_eq_false (show ¬ (p.den : Int) < 0 by omega)], by rw [e1]; exact HF.out.1, by rw [e2]; exact NatV.nil _ _⟩
  exact ⟨_, rfl, hq.put3 HF.out.2.1, below_set3 HF.out.2.2 (by omega) _ _ _⟩
end Go.Proofs.YthnnbpnocefmgaaGreat
