/- The walk of the law RatioCalculates: it returns true for any two strings. -/
import Derived.Test.YthnnbpnocefmgaaGreatCalc2
import Derived.Test.YthnnbpnocefmgaaGreatRead9
import Derived.Test.YthnnbpnocefmgaaGreatLen9
import Derived.Test.YthnnbpnocefmgaaGreatAwake
namespace Go.Proofs.YthnnbpnocefmgaaGreat
open Go.RowKit
set_option linter.unusedVariables false
set_option linter.unusedSimpArgs false

theorem four_only {w : World} {B : Nat} {a b c d : Value} {e : TypeId} (hh : w.heap[B]? = some (.cells #[a, b, c, d] e (0, 0))) :
    w.cell? ⟨B, 0, none⟩ = some a ∧ w.cell? ⟨B, 1, none⟩ = some b ∧ w.cell? ⟨B, 2, none⟩ = some c ∧ w.cell? ⟨B, 3, none⟩ = some d := four_onl hh

set_option maxRecDepth 1000000 in
set_option maxHeartbeats 16000000 in
theorem calcul_c (w : World) (za zb : ByteArray) (ha : za.size ≤ 140737488355328) (hb : zb.size ≤ 140737488355328) :
    Calls Tryz.prog 4 #[.string za, .string zb] w (Ret (TrueR w)) := by
  have HW := hide (Below.refl w.heap.size w)
  go_enter Tryz.func4, Tryz.ntmps4
  go_wp2_with fail
  refine (frac_c _ za ha 700 (by omega) (by omega)).mono ?_
  rintro e w1 ⟨_, rfl, a, s1, A1, n1, c1, B1, m1, d1, t1, A1', n1', c1', B1', m1', d1', rfl, hfa, hv, hv', hd⟩
  replace hv : RatV _ _ a 78 := hv
  replace hv' : QV _ _ a 78 := hv'
  obtain ⟨W1, hW1⟩ : ∃ W1, W1 = (w1.alloc (.cells #[.bool s1, .slice A1 n1 c1, .slice B1 m1 d1] 35)).alloc (.cells #[.bool t1, .slice A1' n1' c1', .bool false, .slice B1' m1' d1'] 41) := ⟨_, rfl⟩
  have hda : Below w1.heap.size w1 W1 := by rw [hW1]; exact ((Below.refl _ _).alloc (Nat.le_refl _) _).alloc (by simp) _
  have hdn := below_next hd hda
  have HBa := hide (show BoxR W1 w1.heap.size a 78 from ⟨_, _, _, _, _, _, _, by rw [hW1]; exact at_old (at_new _ _) _, hv.below hda⟩)
  have HQa := hide (show BoxQ W1 (w1.heap.size + 1) a 78 from ⟨_, _, _, _, _, _, _, by rw [hW1]; exact at_new' _ (by simp), hv'.below hda⟩)
  replace HW := hide (below_next HW.out hdn)
  skip
  have HL := hide hW1
  have hga := hfa.fit
  replace hga : FitQ 78 a := hga
  clear hW1 hd hda hdn hv hv' 
  go_wp2_with fail
  rw [← HL.out]
  refine (frac_c _ zb hb 700 (by omega) (by omega)).mono ?_
  rintro e w2 ⟨_, rfl, b, s2, A2, n2, c2, B2, m2, d2, t2, A2', n2', c2', B2', m2', d2', rfl, hfb, hv, hv', hd⟩
  replace hv : RatV _ _ b 78 := hv
  replace hv' : QV _ _ b 78 := hv'
  obtain ⟨W2, hW2⟩ : ∃ W2, W2 = (w2.alloc (.cells #[.bool s2, .slice A2 n2 c2, .slice B2 m2 d2] 35)).alloc (.cells #[.bool t2, .slice A2' n2' c2', .bool false, .slice B2' m2' d2'] 41) := ⟨_, rfl⟩
  have hda : Below w2.heap.size w2 W2 := by rw [hW2]; exact ((Below.refl _ _).alloc (Nat.le_refl _) _).alloc (by simp) _
  have hdn := below_next hd hda
  have HBb := hide (show BoxR W2 w2.heap.size b 78 from ⟨_, _, _, _, _, _, _, by rw [hW2]; exact at_old (at_new _ _) _, hv.below hda⟩)
  have HQb := hide (show BoxQ W2 (w2.heap.size + 1) b 78 from ⟨_, _, _, _, _, _, _, by rw [hW2]; exact at_new' _ (by simp), hv'.below hda⟩)
  replace HBa := hide (HBa.out.below hdn)
  replace HQa := hide (HQa.out.below hdn)
  replace HW := hide (below_next HW.out hdn)
  clear HL
  have HL := hide hW2
  have hgb := hfb.fit
  replace hgb : FitQ 78 b := hgb
  clear hW2 hd hda hdn hv hv' 
  obtain ⟨s3, A3, n3, c3, B3, m3, d3, hx3, hq3⟩ := HBa.out
  obtain ⟨k3a, k3b, k3c⟩ := three_cells hx3
  clear hx3
  obtain ⟨s4, A4, n4, c4, B4, m4, d4, hx4, hq4⟩ := HBb.out
  obtain ⟨k4a, k4b, k4c⟩ := three_cells hx4
  clear hx4
  rw [HL.out] at k3a k3b k3c k4a k4b k4c
  go_wp2_with fail
  rw [← HL.out]
  clear k3a k3b k3c k4a k4b k4c
  refine (add_q _ _ _ a b 78 hq3 hq4 (by omega)).mono ?_
  rintro e w5 ⟨_, rfl, hd, hor⟩
  rcases hor with ⟨_, v, rfl, hv⟩ | ⟨hs, _⟩
  rotate_left
  · exact absurd (((hga.add hgb).more (show 2 * 78 + 1 ≤ 160 by omega)).smallQ (by omega)) hs
  obtain ⟨s5, A5, n5, c5, B5, m5, d5, rfl⟩ := hv.shape
  clear hq3 hq4
  obtain ⟨W5, hW5⟩ : ∃ W5, W5 = w5.alloc (.cells #[.bool s5, .slice A5 n5 c5, .slice B5 m5 d5] 35) := ⟨_, rfl⟩
  have hda : Below w5.heap.size w5 W5 := by rw [hW5]; exact (Below.refl _ _).alloc (Nat.le_refl _) _
  have hdn := below_next hd hda
  have HBx := hide (show BoxR W5 w5.heap.size (a + b) (160) from ⟨_, _, _, _, _, _, _, by rw [hW5]; exact at_new _ _, hv.below hda⟩)
  replace HBa := hide (HBa.out.below hdn)
  replace HQa := hide (HQa.out.below hdn)
  replace HBb := hide (HBb.out.below hdn)
  replace HQb := hide (HQb.out.below hdn)
  replace HW := hide (below_next HW.out hdn)
  clear HL
  have HL := hide hW5
  clear hW5 hd hda hdn hv
  have fx := (hga.add hgb).more (show 2 * 78 + 1 ≤ 160 by omega)
  obtain ⟨s6, A6, n6, c6, B6, m6, d6, hx6, hq6⟩ := HBa.out
  obtain ⟨k6a, k6b, k6c⟩ := three_cells hx6
  clear hx6
  obtain ⟨s7, A7, n7, c7, B7, m7, d7, hx7, hq7⟩ := HBb.out
  obtain ⟨k7a, k7b, k7c⟩ := three_cells hx7
  clear hx7
  rw [HL.out] at k6a k6b k6c k7a k7b k7c
  go_wp2_with fail
  rw [← HL.out]
  clear k6a k6b k6c k7a k7b k7c
  refine (sub_q _ _ _ a b 78 hq6 hq7 (by omega)).mono ?_
  rintro e w8 ⟨_, rfl, hd, hor⟩
  rcases hor with ⟨_, v, rfl, hv⟩ | ⟨hs, _⟩
  rotate_left
  · exact absurd (((hga.sub hgb).more (show 2 * 78 + 1 ≤ 160 by omega)).smallQ (by omega)) hs
  obtain ⟨s8, A8, n8, c8, B8, m8, d8, rfl⟩ := hv.shape
  clear hq6 hq7
  obtain ⟨W8, hW8⟩ : ∃ W8, W8 = w8.alloc (.cells #[.bool s8, .slice A8 n8 c8, .slice B8 m8 d8] 35) := ⟨_, rfl⟩
  have hda : Below w8.heap.size w8 W8 := by rw [hW8]; exact (Below.refl _ _).alloc (Nat.le_refl _) _
  have hdn := below_next hd hda
  have HBy := hide (show BoxR W8 w8.heap.size (a - b) (160) from ⟨_, _, _, _, _, _, _, by rw [hW8]; exact at_new _ _, hv.below hda⟩)
  replace HBa := hide (HBa.out.below hdn)
  replace HQa := hide (HQa.out.below hdn)
  replace HBb := hide (HBb.out.below hdn)
  replace HQb := hide (HQb.out.below hdn)
  replace HBx := hide (HBx.out.below hdn)
  replace HW := hide (below_next HW.out hdn)
  clear HL
  have HL := hide hW8
  clear hW8 hd hda hdn hv
  have fy := (hga.sub hgb).more (show 2 * 78 + 1 ≤ 160 by omega)
  obtain ⟨s9, A9, n9, c9, B9, m9, d9, hx9, hq9⟩ := HBa.out
  obtain ⟨k9a, k9b, k9c⟩ := three_cells hx9
  clear hx9
  obtain ⟨s10, A10, n10, c10, B10, m10, d10, hx10, hq10⟩ := HBb.out
  obtain ⟨k10a, k10b, k10c⟩ := three_cells hx10
  clear hx10
  rw [HL.out] at k9a k9b k9c k10a k10b k10c
  go_wp2_with fail
  rw [← HL.out]
  clear k9a k9b k9c k10a k10b k10c
  refine (mul_q _ _ _ a b 78 hq9 hq10 (by omega)).mono ?_
  rintro e w11 ⟨_, rfl, hd, hor⟩
  rcases hor with ⟨_, v, rfl, hv⟩ | ⟨hs, _⟩
  rotate_left
  · exact absurd (((hga.mul hgb).more (show 2 * 78 + 1 ≤ 160 by omega)).smallQ (by omega)) hs
  obtain ⟨s11, A11, n11, c11, B11, m11, d11, rfl⟩ := hv.shape
  clear hq9 hq10
  obtain ⟨W11, hW11⟩ : ∃ W11, W11 = w11.alloc (.cells #[.bool s11, .slice A11 n11 c11, .slice B11 m11 d11] 35) := ⟨_, rfl⟩
  have hda : Below w11.heap.size w11 W11 := by rw [hW11]; exact (Below.refl _ _).alloc (Nat.le_refl _) _
  have hdn := below_next hd hda
  have HBz := hide (show BoxR W11 w11.heap.size (a * b) (160) from ⟨_, _, _, _, _, _, _, by rw [hW11]; exact at_new _ _, hv.below hda⟩)
  replace HBa := hide (HBa.out.below hdn)
  replace HQa := hide (HQa.out.below hdn)
  replace HBb := hide (HBb.out.below hdn)
  replace HQb := hide (HQb.out.below hdn)
  replace HBx := hide (HBx.out.below hdn)
  replace HBy := hide (HBy.out.below hdn)
  replace HW := hide (below_next HW.out hdn)
  clear HL
  have HL := hide hW11
  clear hW11 hd hda hdn hv
  have fz := (hga.mul hgb).more (show 2 * 78 + 1 ≤ 160 by omega)
  obtain ⟨σ, hσ⟩ : ∃ σ, σ = sgnQ (a - b) := ⟨_, rfl⟩
  have Hσ := hide hσ.symm
  clear hσ
  by_cases hb0 : b = 0
  · as_aux_lemma =>
      obtain ⟨s12, A12, n12, c12, B12, m12, d12, hx12, hq12⟩ := HBa.out
      obtain ⟨k12a, k12b, k12c⟩ := three_cells hx12
      clear hx12
      obtain ⟨s13, A13, n13, c13, B13, m13, d13, hx13, hq13⟩ := HBb.out
      obtain ⟨k13a, k13b, k13c⟩ := three_cells hx13
      clear hx13
      rw [HL.out] at k12a k12b k12c k13a k13b k13c
      go_wp2_with fail
      rw [← HL.out]
      clear k12a k12b k12c k13a k13b k13c
      refine (quo_zero _ _ _ a 78 hq12 (by have h := hq13; rw [hb0] at h; exact h)).mono ?_
      rintro e w14 ⟨_, rfl, rfl, hd⟩
      obtain ⟨s14, A14, n14, c14, B14, m14, d14, hs0, hA0, hn0, hc0, hB0, hm0, hd0⟩ : ∃ (s : Bool) (A : Option Addr) (n c : Nat) (B : Option Addr) (m d : Nat), s = false ∧ A = none ∧ n = 0 ∧ c = 0 ∧ B = none ∧ m = 0 ∧ d = 0 := ⟨_, _, _, _, _, _, _, rfl, rfl, rfl, rfl, rfl, rfl, rfl⟩
      have hv : RatV w14 (.agg #[.bool s14, .slice A14 n14 c14, .slice B14 m14 d14]) 0 1 := by rw [hs0, hA0, hn0, hc0, hB0, hm0, hd0]; exact ⟨_, _, rfl, NatV.nil _ _, NatV.nil _ _⟩
      rw [show Value.tuple #[.agg #[.bool false, .slice none 0 0, .slice none 0 0], .int .i64 6] = .tuple #[.agg #[.bool s14, .slice A14 n14 c14, .slice B14 m14 d14], .int .i64 6] by rw [hs0, hA0, hn0, hc0, hB0, hm0, hd0]]
      clear hq12 hq13 hs0 hA0 hn0 hc0 hB0 hm0 hd0
      obtain ⟨W14, hW14⟩ : ∃ W14, W14 = w14.alloc (.cells #[.bool s14, .slice A14 n14 c14, .slice B14 m14 d14] 35) := ⟨_, rfl⟩
      have hda : Below w14.heap.size w14 W14 := by rw [hW14]; exact (Below.refl _ _).alloc (Nat.le_refl _) _
      have hdn := below_next hd hda
      have HBu := hide (show BoxR W14 w14.heap.size (0) (1) from ⟨_, _, _, _, _, _, _, by rw [hW14]; exact at_new _ _, hv.below hda⟩)
      replace HBa := hide (HBa.out.below hdn)
      replace HQa := hide (HQa.out.below hdn)
      replace HBb := hide (HBb.out.below hdn)
      replace HQb := hide (HQb.out.below hdn)
      replace HBx := hide (HBx.out.below hdn)
      replace HBy := hide (HBy.out.below hdn)
      replace HBz := hide (HBz.out.below hdn)
      replace HW := hide (below_next HW.out hdn)
      clear HL
      have HL := hide hW14
      clear hW14 hd hda hdn hv
      go_upto_region 7 with fail
      rw [← HL.out]
      go_cut [94] (fun s94 wx => s94 = .bool false ∧ Below W14.heap.size W14 wx)
      case first =>
        as_aux_lemma =>
          obtain ⟨s15, A15, n15, c15, B15, m15, d15, hx15, hq15⟩ := HBa.out
          obtain ⟨s16, A16, n16, c16, B16, m16, d16, hx16, hq16⟩ := HBb.out
          obtain ⟨s17, A17, n17, c17, B17, m17, d17, hx17, hq17⟩ := HQa.out
          obtain ⟨s18, A18, n18, c18, B18, m18, d18, hx18, hq18⟩ := HQb.out
          obtain ⟨s19, A19, n19, c19, B19, m19, d19, hx19, hq19⟩ := HBx.out
          obtain ⟨s20, A20, n20, c20, B20, m20, d20, hx20, hq20⟩ := HBy.out
          obtain ⟨s21, A21, n21, c21, B21, m21, d21, hx21, hq21⟩ := HBz.out
          have hS : ∀ w', Below W14.heap.size W14 w' → (w'.cell? ⟨w1.heap.size, 0, none⟩ = some (.bool s15) ∧ w'.cell? ⟨w1.heap.size, 1, none⟩ = some (.slice A15 n15 c15) ∧ w'.cell? ⟨w1.heap.size, 2, none⟩ = some (.slice B15 m15 d15)) ∧ (w'.cell? ⟨w2.heap.size, 0, none⟩ = some (.bool s16) ∧ w'.cell? ⟨w2.heap.size, 1, none⟩ = some (.slice A16 n16 c16) ∧ w'.cell? ⟨w2.heap.size, 2, none⟩ = some (.slice B16 m16 d16)) ∧ (w'.cell? ⟨w1.heap.size + 1, 0, none⟩ = some (.bool s17) ∧ w'.cell? ⟨w1.heap.size + 1, 1, none⟩ = some (.slice A17 n17 c17) ∧ w'.cell? ⟨w1.heap.size + 1, 2, none⟩ = some (.bool false) ∧ w'.cell? ⟨w1.heap.size + 1, 3, none⟩ = some (.slice B17 m17 d17)) ∧ (w'.cell? ⟨w2.heap.size + 1, 0, none⟩ = some (.bool s18) ∧ w'.cell? ⟨w2.heap.size + 1, 1, none⟩ = some (.slice A18 n18 c18) ∧ w'.cell? ⟨w2.heap.size + 1, 2, none⟩ = some (.bool false) ∧ w'.cell? ⟨w2.heap.size + 1, 3, none⟩ = some (.slice B18 m18 d18)) ∧ (w'.cell? ⟨w5.heap.size, 0, none⟩ = some (.bool s19) ∧ w'.cell? ⟨w5.heap.size, 1, none⟩ = some (.slice A19 n19 c19) ∧ w'.cell? ⟨w5.heap.size, 2, none⟩ = some (.slice B19 m19 d19)) ∧ (w'.cell? ⟨w8.heap.size, 0, none⟩ = some (.bool s20) ∧ w'.cell? ⟨w8.heap.size, 1, none⟩ = some (.slice A20 n20 c20) ∧ w'.cell? ⟨w8.heap.size, 2, none⟩ = some (.slice B20 m20 d20)) ∧ (w'.cell? ⟨w11.heap.size, 0, none⟩ = some (.bool s21) ∧ w'.cell? ⟨w11.heap.size, 1, none⟩ = some (.slice A21 n21 c21) ∧ w'.cell? ⟨w11.heap.size, 2, none⟩ = some (.slice B21 m21 d21)) := fun w' h => ⟨three_cells (at_later hx15 h), three_cells (at_later hx16 h), four_only (at_later hx17 h), four_only (at_later hx18 h), three_cells (at_later hx19 h), three_cells (at_later hx20 h), three_cells (at_later hx21 h)⟩
          have HSS := hide hS; clear hS
          have HQS := hide (And.intro trivial (And.intro hq15 (And.intro hq16 (And.intro hq17 (And.intro hq18 (And.intro hq19 (And.intro hq20 (And.intro hq21 trivial))))))))
          clear hq15 hq16 hq17 hq18 hq19 hq20 hq21 hx15 hx16 hx17 hx18 hx19 hx20 hx21
          have hdr : Below W14.heap.size W14 W14.drew := (Below.refl _ _).drew
          go_wp2
          refine till_begin (fun w' => (w'.cell? ⟨w1.heap.size, 0, none⟩ = some (.bool s15) ∧ w'.cell? ⟨w1.heap.size, 1, none⟩ = some (.slice A15 n15 c15) ∧ w'.cell? ⟨w1.heap.size, 2, none⟩ = some (.slice B15 m15 d15)) ∧ (w'.cell? ⟨w2.heap.size, 0, none⟩ = some (.bool s16) ∧ w'.cell? ⟨w2.heap.size, 1, none⟩ = some (.slice A16 n16 c16) ∧ w'.cell? ⟨w2.heap.size, 2, none⟩ = some (.slice B16 m16 d16)) ∧ (w'.cell? ⟨w1.heap.size + 1, 0, none⟩ = some (.bool s17) ∧ w'.cell? ⟨w1.heap.size + 1, 1, none⟩ = some (.slice A17 n17 c17) ∧ w'.cell? ⟨w1.heap.size + 1, 2, none⟩ = some (.bool false) ∧ w'.cell? ⟨w1.heap.size + 1, 3, none⟩ = some (.slice B17 m17 d17)) ∧ (w'.cell? ⟨w2.heap.size + 1, 0, none⟩ = some (.bool s18) ∧ w'.cell? ⟨w2.heap.size + 1, 1, none⟩ = some (.slice A18 n18 c18) ∧ w'.cell? ⟨w2.heap.size + 1, 2, none⟩ = some (.bool false) ∧ w'.cell? ⟨w2.heap.size + 1, 3, none⟩ = some (.slice B18 m18 d18)) ∧ (w'.cell? ⟨w5.heap.size, 0, none⟩ = some (.bool s19) ∧ w'.cell? ⟨w5.heap.size, 1, none⟩ = some (.slice A19 n19 c19) ∧ w'.cell? ⟨w5.heap.size, 2, none⟩ = some (.slice B19 m19 d19)) ∧ (w'.cell? ⟨w8.heap.size, 0, none⟩ = some (.bool s20) ∧ w'.cell? ⟨w8.heap.size, 1, none⟩ = some (.slice A20 n20 c20) ∧ w'.cell? ⟨w8.heap.size, 2, none⟩ = some (.slice B20 m20 d20)) ∧ (w'.cell? ⟨w11.heap.size, 0, none⟩ = some (.bool s21) ∧ w'.cell? ⟨w11.heap.size, 1, none⟩ = some (.slice A21 n21 c21) ∧ w'.cell? ⟨w11.heap.size, 2, none⟩ = some (.slice B21 m21 d21))) [0, 1, 2, 3, 4, 5, 6, 7, 8, 9, 10, 11, 12, 13, 14, 15, 16, 17, 18, 19, 20, 21, 22, 23, 24, 25, 26, 27, 28, 29, 30, 31, 32, 33, 34, 35, 36, 37, 38, 39, 40, 41, 42, 43] (by kernel_rfl) (HSS.out _ hdr) (fun hHeld => ?_)
          refine till_take (i := 1) (v := ?vv21001) rfl (by kernel_rfl) (by kernel_rfl) (by kernel_rfl) (by kernel_rfl) (fun _ _ _ h => h) (by rfl) ?hy21001 hHeld (some 52) rfl ?rest21001
          case hy21001 => (intro w hSw; (try dsimp only at hSw); first | (go_simp; done) | (go_simp; with_reducible rfl))
          try simp only [Act.put, List.setIfInBounds_toArray, List.set_cons_zero, List.set_cons_succ]
          refine till_take (i := 0) (v := ?vv21002) rfl (by kernel_rfl) (by kernel_rfl) (by kernel_rfl) (by kernel_rfl) (fun _ _ _ h => h) (by rfl) ?hy21002 hHeld (some 51) rfl ?rest21002
          case hy21002 => (intro w hSw; (try dsimp only at hSw); first | (go_simp; done) | (go_simp; with_reducible rfl))
          try simp only [Act.put, List.setIfInBounds_toArray, List.set_cons_zero, List.set_cons_succ]
          refine till_take (i := 2) (v := ?vv21003) rfl (by kernel_rfl) (by kernel_rfl) (by kernel_rfl) (by kernel_rfl) (fun _ _ _ h => h) (by rfl) ?hy21003 hHeld (some 53) rfl ?rest21003
          case hy21003 => (intro w hSw; (try dsimp only at hSw); first | (go_simp; done) | (go_simp; with_reducible rfl))
          try simp only [Act.put, List.setIfInBounds_toArray, List.set_cons_zero, List.set_cons_succ]
          refine till_take (i := 3) (v := ?vv21004) rfl (by kernel_rfl) (by kernel_rfl) (by kernel_rfl) (by kernel_rfl) (fun _ _ _ h => h) (by rfl) ?hy21004 hHeld (some 54) rfl ?rest21004
          case hy21004 => (intro w hSw; (try dsimp only at hSw); first | (go_simp; done) | (go_simp; with_reducible rfl))
          try simp only [Act.put, List.setIfInBounds_toArray, List.set_cons_zero, List.set_cons_succ]
          refine till_ready (rs := [4]) (by kernel_rfl) (by simp) ?_
          refine List.forall_mem_cons.2 ⟨?_, fun _ h => absurd h List.not_mem_nil⟩
          refine till_step rfl (fun K hK => ?_)
          go_simp
          go_at_call 23
          refine (plus9_c _ _ _ a b 78 (HQS.out.2.2.2.1.below hdr) (HQS.out.2.2.2.2.1.below hdr) (by omega)).mono ?_
          rintro e w22 ⟨v, rfl, hv, hd⟩
          obtain ⟨s22, A22, n22, c22, B22, m22, d22, rfl, _⟩ := hv.parts
          have HV := hide (hv.more (show 2 * 78 + 1 ≤ 160 by omega))
          clear hv
          have hg22 : Below W14.heap.size W14 w22 := hdr.trans (hd.mono hdr.size)
          clear hd
          go_wp2_with fail
          refine hK.out _ _ (HSS.out _ hg22) (fun hHeld => ?_)
          clear hK K
          try simp only [Act.put, List.setIfInBounds_toArray, List.set_cons_zero, List.set_cons_succ]
          refine till_ready (rs := [5]) (by kernel_rfl) (by simp) ?_
          refine List.forall_mem_cons.2 ⟨?_, fun _ h => absurd h List.not_mem_nil⟩
          refine till_step rfl (fun K hK => ?_)
          go_simp
          go_at_call 22
          refine (done_c _ _ _ (a + b) 160 (HQS.out.2.2.2.2.2.1.below hg22) HV.out (by omega)).mono ?_
          rintro e w23 ⟨_, rfl, rfl, hd⟩
          clear HV
          have hg23 : Below W14.heap.size W14 w23 := hg22.trans (hd.mono hg22.size)
          clear hd
          go_wp2_with fail
          refine hK.out _ _ (HSS.out _ hg23) (fun hHeld => ?_)
          clear hK K
          try simp only [Act.put, List.setIfInBounds_toArray, List.set_cons_zero, List.set_cons_succ]
          refine till_take (i := 6) (v := ?vv21005) rfl (by kernel_rfl) (by kernel_rfl) (by kernel_rfl) (by kernel_rfl) (fun _ _ _ h => h) (by rfl) ?hy21005 hHeld (some 57) rfl ?rest21005
          case hy21005 => (intro w hSw; (try dsimp only at hSw); first | (go_simp; done) | (go_simp; with_reducible rfl))
          try simp only [Act.put, List.setIfInBounds_toArray, List.set_cons_zero, List.set_cons_succ]
          refine till_take (i := 7) (v := ?vv21006) rfl (by kernel_rfl) (by kernel_rfl) (by kernel_rfl) (by kernel_rfl) (fun _ _ _ h => h) (by rfl) ?hy21006 hHeld (some 58) rfl ?rest21006
          case hy21006 => (intro w hSw; (try dsimp only at hSw); first | (go_simp; done) | (go_simp; with_reducible rfl))
          try simp only [Act.put, List.setIfInBounds_toArray, List.set_cons_zero, List.set_cons_succ]
          refine till_take (i := 9) (v := ?vv21007) rfl (by kernel_rfl) (by kernel_rfl) (by kernel_rfl) (by kernel_rfl) (fun _ _ _ h => h) (by rfl) ?hy21007 hHeld (some 60) rfl ?rest21007
          case hy21007 => (intro w hSw; (try dsimp only at hSw); first | (go_simp; done) | (go_simp; with_reducible rfl))
          try simp only [Act.put, List.setIfInBounds_toArray, List.set_cons_zero, List.set_cons_succ]
          refine till_take (i := 8) (v := ?vv21008) rfl (by kernel_rfl) (by kernel_rfl) (by kernel_rfl) (by kernel_rfl) (fun _ _ _ h => h) (by rfl) ?hy21008 hHeld (some 59) rfl ?rest21008
          case hy21008 => (intro w hSw; (try dsimp only at hSw); first | (go_simp; done) | (go_simp; with_reducible rfl))
          try simp only [Act.put, List.setIfInBounds_toArray, List.set_cons_zero, List.set_cons_succ]
          refine till_take (i := 10) (v := ?vv21009) rfl (by kernel_rfl) (by kernel_rfl) (by kernel_rfl) (by kernel_rfl) (fun _ _ _ h => h) (by rfl) ?hy21009 hHeld (some 61) rfl ?rest21009
          case hy21009 => (intro w hSw; (try dsimp only at hSw); first | (go_simp; done) | (go_simp; with_reducible rfl))
          try simp only [Act.put, List.setIfInBounds_toArray, List.set_cons_zero, List.set_cons_succ]
          refine till_take (i := 11) (v := ?vv21010) rfl (by kernel_rfl) (by kernel_rfl) (by kernel_rfl) (by kernel_rfl) (fun _ _ _ h => h) (by rfl) ?hy21010 hHeld (some 62) rfl ?rest21010
          case hy21010 => (intro w hSw; (try dsimp only at hSw); first | (go_simp; done) | (go_simp; with_reducible rfl))
          try simp only [Act.put, List.setIfInBounds_toArray, List.set_cons_zero, List.set_cons_succ]
          refine till_ready (rs := [12]) (by kernel_rfl) (by simp) ?_
          refine List.forall_mem_cons.2 ⟨?_, fun _ h => absurd h List.not_mem_nil⟩
          refine till_step rfl (fun K hK => ?_)
          go_simp
          go_at_call 24
          refine (minus9_c _ _ _ a b 78 (HQS.out.2.2.2.1.below hg23) (HQS.out.2.2.2.2.1.below hg23) (by omega)).mono ?_
          rintro e w24 ⟨v, rfl, hv, hd⟩
          obtain ⟨s24, A24, n24, c24, B24, m24, d24, rfl, _⟩ := hv.parts
          have HV := hide (hv.more (show 2 * 78 + 1 ≤ 160 by omega))
          clear hv
          have hg24 : Below W14.heap.size W14 w24 := hg23.trans (hd.mono hg23.size)
          clear hd
          go_wp2_with fail
          refine hK.out _ _ (HSS.out _ hg24) (fun hHeld => ?_)
          clear hK K
          try simp only [Act.put, List.setIfInBounds_toArray, List.set_cons_zero, List.set_cons_succ]
          refine till_ready (rs := [13]) (by kernel_rfl) (by simp) ?_
          refine List.forall_mem_cons.2 ⟨?_, fun _ h => absurd h List.not_mem_nil⟩
          refine till_step rfl (fun K hK => ?_)
          go_simp
          go_at_call 22
          refine (done_c _ _ _ (a - b) 160 (HQS.out.2.2.2.2.2.2.1.below hg24) HV.out (by omega)).mono ?_
          rintro e w25 ⟨_, rfl, rfl, hd⟩
          clear HV
          have hg25 : Below W14.heap.size W14 w25 := hg24.trans (hd.mono hg24.size)
          clear hd
          go_wp2_with fail
          refine hK.out _ _ (HSS.out _ hg25) (fun hHeld => ?_)
          clear hK K
          try simp only [Act.put, List.setIfInBounds_toArray, List.set_cons_zero, List.set_cons_succ]
          refine till_take (i := 14) (v := ?vv21011) rfl (by kernel_rfl) (by kernel_rfl) (by kernel_rfl) (by kernel_rfl) (fun _ _ _ h => h) (by rfl) ?hy21011 hHeld (some 65) rfl ?rest21011
          case hy21011 => (intro w hSw; (try dsimp only at hSw); first | (go_simp; done) | (go_simp; with_reducible rfl))
          try simp only [Act.put, List.setIfInBounds_toArray, List.set_cons_zero, List.set_cons_succ]
          refine till_take (i := 15) (v := ?vv21012) rfl (by kernel_rfl) (by kernel_rfl) (by kernel_rfl) (by kernel_rfl) (fun _ _ _ h => h) (by rfl) ?hy21012 hHeld (some 66) rfl ?rest21012
          case hy21012 => (intro w hSw; (try dsimp only at hSw); first | (go_simp; done) | (go_simp; with_reducible rfl))
          try simp only [Act.put, List.setIfInBounds_toArray, List.set_cons_zero, List.set_cons_succ]
          refine till_take (i := 16) (v := ?vv21013) rfl (by kernel_rfl) (by kernel_rfl) (by kernel_rfl) (by kernel_rfl) (fun _ _ _ h => h) (by rfl) ?hy21013 hHeld (some 67) rfl ?rest21013
          case hy21013 => (intro w hSw; (try dsimp only at hSw); first | (go_simp; done) | (go_simp; with_reducible rfl))
          try simp only [Act.put, List.setIfInBounds_toArray, List.set_cons_zero, List.set_cons_succ]
          refine till_take (i := 18) (v := ?vv21014) rfl (by kernel_rfl) (by kernel_rfl) (by kernel_rfl) (by kernel_rfl) (fun _ _ _ h => h) (by rfl) ?hy21014 hHeld (some 69) rfl ?rest21014
          case hy21014 => (intro w hSw; (try dsimp only at hSw); first | (go_simp; done) | (go_simp; with_reducible rfl))
          try simp only [Act.put, List.setIfInBounds_toArray, List.set_cons_zero, List.set_cons_succ]
          refine till_take (i := 17) (v := ?vv21015) rfl (by kernel_rfl) (by kernel_rfl) (by kernel_rfl) (by kernel_rfl) (fun _ _ _ h => h) (by rfl) ?hy21015 hHeld (some 68) rfl ?rest21015
          case hy21015 => (intro w hSw; (try dsimp only at hSw); first | (go_simp; done) | (go_simp; with_reducible rfl))
          try simp only [Act.put, List.setIfInBounds_toArray, List.set_cons_zero, List.set_cons_succ]
          refine till_take (i := 19) (v := ?vv21016) rfl (by kernel_rfl) (by kernel_rfl) (by kernel_rfl) (by kernel_rfl) (fun _ _ _ h => h) (by rfl) ?hy21016 hHeld (some 70) rfl ?rest21016
          case hy21016 => (intro w hSw; (try dsimp only at hSw); first | (go_simp; done) | (go_simp; with_reducible rfl))
          try simp only [Act.put, List.setIfInBounds_toArray, List.set_cons_zero, List.set_cons_succ]
          refine till_take (i := 20) (v := ?vv21017) rfl (by kernel_rfl) (by kernel_rfl) (by kernel_rfl) (by kernel_rfl) (fun _ _ _ h => h) (by rfl) ?hy21017 hHeld (some 71) rfl ?rest21017
          case hy21017 => (intro w hSw; (try dsimp only at hSw); first | (go_simp; done) | (go_simp; with_reducible rfl))
          try simp only [Act.put, List.setIfInBounds_toArray, List.set_cons_zero, List.set_cons_succ]
          refine till_ready (rs := [21]) (by kernel_rfl) (by simp) ?_
          refine List.forall_mem_cons.2 ⟨?_, fun _ h => absurd h List.not_mem_nil⟩
          refine till_step rfl (fun K hK => ?_)
          go_simp
          go_at_call 25
          refine (times9_c _ _ _ a b 78 (HQS.out.2.2.2.1.below hg25) (HQS.out.2.2.2.2.1.below hg25) (by omega)).mono ?_
          rintro e w26 ⟨v, rfl, hv, hd⟩
          obtain ⟨s26, A26, n26, c26, B26, m26, d26, rfl, _⟩ := hv.parts
          have HV := hide (hv.more (show 2 * 78 + 1 ≤ 160 by omega))
          clear hv
          have hg26 : Below W14.heap.size W14 w26 := hg25.trans (hd.mono hg25.size)
          clear hd
          go_wp2_with fail
          refine hK.out _ _ (HSS.out _ hg26) (fun hHeld => ?_)
          clear hK K
          try simp only [Act.put, List.setIfInBounds_toArray, List.set_cons_zero, List.set_cons_succ]
          refine till_ready (rs := [22]) (by kernel_rfl) (by simp) ?_
          refine List.forall_mem_cons.2 ⟨?_, fun _ h => absurd h List.not_mem_nil⟩
          refine till_step rfl (fun K hK => ?_)
          go_simp
          go_at_call 22
          refine (done_c _ _ _ (a * b) 160 (HQS.out.2.2.2.2.2.2.2.1.below hg26) HV.out (by omega)).mono ?_
          rintro e w27 ⟨_, rfl, rfl, hd⟩
          clear HV
          have hg27 : Below W14.heap.size W14 w27 := hg26.trans (hd.mono hg26.size)
          clear hd
          go_wp2_with fail
          refine hK.out _ _ (HSS.out _ hg27) (fun hHeld => ?_)
          clear hK K
          try simp only [Act.put, List.setIfInBounds_toArray, List.set_cons_zero, List.set_cons_succ]
          refine till_take (i := 23) (v := ?vv21018) rfl (by kernel_rfl) (by kernel_rfl) (by kernel_rfl) (by kernel_rfl) (fun _ _ _ h => h) (by rfl) ?hy21018 hHeld (some 74) rfl ?rest21018
          case hy21018 => (intro w hSw; (try dsimp only at hSw); first | (go_simp; done) | (go_simp; with_reducible rfl))
          try simp only [Act.put, List.setIfInBounds_toArray, List.set_cons_zero, List.set_cons_succ]
          refine till_take (i := 24) (v := ?vv21019) rfl (by kernel_rfl) (by kernel_rfl) (by kernel_rfl) (by kernel_rfl) (fun _ _ _ h => h) (by rfl) ?hy21019 hHeld (some 75) rfl ?rest21019
          case hy21019 => (intro w hSw; (try dsimp only at hSw); first | (go_simp; done) | (go_simp; with_reducible rfl))
          try simp only [Act.put, List.setIfInBounds_toArray, List.set_cons_zero, List.set_cons_succ]
          refine till_take (i := 25) (v := ?vv21020) rfl (by kernel_rfl) (by kernel_rfl) (by kernel_rfl) (by kernel_rfl) (fun _ _ _ h => h) (by rfl) ?hy21020 hHeld (some 76) rfl ?rest21020
          case hy21020 => (intro w hSw; (try dsimp only at hSw); first | (go_simp; done) | (go_simp; with_reducible rfl))
          try simp only [Act.put, List.setIfInBounds_toArray, List.set_cons_zero, List.set_cons_succ]
          refine till_take (i := 26) (v := ?vv21021) rfl (by kernel_rfl) (by kernel_rfl) (by kernel_rfl) (by kernel_rfl) (fun _ _ _ h => h) (by rfl) ?hy21021 hHeld (some 77) rfl ?rest21021
          case hy21021 => (intro w hSw; (try dsimp only at hSw); first | (go_simp; done) | (go_simp; with_reducible rfl))
          try simp only [Act.put, List.setIfInBounds_toArray, List.set_cons_zero, List.set_cons_succ]
          refine till_take (i := 27) (v := ?vv21022) rfl (by kernel_rfl) (by kernel_rfl) (by kernel_rfl) (by kernel_rfl) (fun _ _ _ h => h) (by rfl) ?hy21022 hHeld (some 78) rfl ?rest21022
          case hy21022 => (intro w hSw; (try dsimp only at hSw); first | (go_simp; done) | (go_simp; with_reducible rfl))
          try simp only [Act.put, List.setIfInBounds_toArray, List.set_cons_zero, List.set_cons_succ]
          refine till_take (i := 29) (v := ?vv21023) rfl (by kernel_rfl) (by kernel_rfl) (by kernel_rfl) (by kernel_rfl) (fun _ _ _ h => h) (by rfl) ?hy21023 hHeld (some 80) rfl ?rest21023
          case hy21023 => (intro w hSw; (try dsimp only at hSw); first | (go_simp; done) | (go_simp; with_reducible rfl))
          try simp only [Act.put, List.setIfInBounds_toArray, List.set_cons_zero, List.set_cons_succ]
          refine till_take (i := 30) (v := ?vv21024) rfl (by kernel_rfl) (by kernel_rfl) (by kernel_rfl) (by kernel_rfl) (fun _ _ _ h => h) (by rfl) ?hy21024 hHeld (some 81) rfl ?rest21024
          case hy21024 => (intro w hSw; (try dsimp only at hSw); first | (go_simp; done) | (go_simp; with_reducible rfl))
          try simp only [Act.put, List.setIfInBounds_toArray, List.set_cons_zero, List.set_cons_succ]
          refine till_ready (rs := [28]) (by kernel_rfl) (by simp) ?_
          refine List.forall_mem_cons.2 ⟨?_, fun _ h => absurd h List.not_mem_nil⟩
          refine till_step rfl (fun K hK => ?_)
          go_simp
          go_at_call 26
          refine (cmp_q _ _ _ a b 78 (HQS.out.2.1.below hg27) (HQS.out.2.2.1.below hg27) (by omega)).mono ?_
          rintro e w28 ⟨_, rfl, rfl, hd⟩
          have hg28 : Below W14.heap.size W14 w28 := hg27.trans (hd.mono hg27.size)
          rw [Hσ.out]
          clear hd
          go_wp2_with fail
          refine hK.out _ _ (HSS.out _ hg28) (fun hHeld => ?_)
          clear hK K
          try simp only [Act.put, List.setIfInBounds_toArray, List.set_cons_zero, List.set_cons_succ]
          refine till_ready (rs := [31]) (by kernel_rfl) (by simp) ?_
          refine List.forall_mem_cons.2 ⟨?_, fun _ h => absurd h List.not_mem_nil⟩
          refine till_step rfl (fun K hK => ?_)
          go_simp
          go_at_call 27
          refine (compare9_c _ _ _ a b 78 (HQS.out.2.2.2.1.below hg28) (HQS.out.2.2.2.2.1.below hg28) (by omega)).mono ?_
          rintro e w29 ⟨_, rfl, rfl, hd⟩
          have hg29 : Below W14.heap.size W14 w29 := hg28.trans (hd.mono hg28.size)
          rw [Hσ.out]
          clear hd
          go_wp2_with fail
          refine hK.out _ _ (HSS.out _ hg29) (fun hHeld => ?_)
          clear hK K
          try simp only [Act.put, List.setIfInBounds_toArray, List.set_cons_zero, List.set_cons_succ]
          refine till_take (i := 32) (v := ?vv21025) rfl (by kernel_rfl) (by kernel_rfl) (by kernel_rfl) (by kernel_rfl) (fun _ _ _ h => h) (by rfl) ?hy21025 hHeld (some 83) rfl ?rest21025
          case hy21025 => (intro w hSw; (try dsimp only at hSw); first | (go_simp; done) | (go_simp; with_reducible rfl))
          try simp only [Act.put, List.setIfInBounds_toArray, List.set_cons_zero, List.set_cons_succ]
          refine till_take (i := 33) (v := ?vv21026) rfl (by kernel_rfl) (by kernel_rfl) (by kernel_rfl) (by kernel_rfl) (fun _ _ _ h => h) (by rfl) ?hy21026 hHeld (some 84) rfl ?rest21026
          case hy21026 => (intro w hSw; (try dsimp only at hSw); first | (go_simp; done) | (go_simp; with_reducible rfl))
          try simp only [Act.put, List.setIfInBounds_toArray, List.set_cons_zero, List.set_cons_succ]
          refine till_take (i := 34) (v := ?vv21027) rfl (by kernel_rfl) (by kernel_rfl) (by kernel_rfl) (by kernel_rfl) (fun _ _ _ h => h) (by rfl) ?hy21027 hHeld (some 85) rfl ?rest21027
          case hy21027 => (intro w hSw; (try dsimp only at hSw); first | (go_simp; done) | (go_simp; with_reducible rfl))
          try simp only [Act.put, List.setIfInBounds_toArray, List.set_cons_zero, List.set_cons_succ]
          refine till_take (i := 35) (v := ?vv21028) rfl (by kernel_rfl) (by kernel_rfl) (by kernel_rfl) (by kernel_rfl) (fun _ _ _ h => h) (by rfl) ?hy21028 hHeld (some 86) rfl ?rest21028
          case hy21028 => (intro w hSw; (try dsimp only at hSw); first | (go_simp; done) | (go_simp; with_reducible rfl))
          try simp only [Act.put, List.setIfInBounds_toArray, List.set_cons_zero, List.set_cons_succ]
          refine till_take (i := 37) (v := ?vv21029) rfl (by kernel_rfl) (by kernel_rfl) (by kernel_rfl) (by kernel_rfl) (fun _ _ _ h => h) (by rfl) ?hy21029 hHeld (some 88) rfl ?rest21029
          case hy21029 => (intro w hSw; (try dsimp only at hSw); first | (go_simp; done) | (go_simp; with_reducible rfl))
          try simp only [Act.put, List.setIfInBounds_toArray, List.set_cons_zero, List.set_cons_succ]
          refine till_ready (rs := [36]) (by kernel_rfl) (by simp) ?_
          refine List.forall_mem_cons.2 ⟨?_, fun _ h => absurd h List.not_mem_nil⟩
          refine till_step rfl (fun K hK => ?_)
          go_simp
          go_at_call 29
          refine (floor_q _ _ a 78 (HQS.out.2.1.below hg29) (by omega)).mono ?_
          rintro e w30 ⟨v, rfl, hv, hd⟩
          obtain ⟨s30, A30, n30, c30, B30, m30, d30, rfl⟩ := hv.shape
          have HV := hide hv
          clear hv
          have hg30 : Below W14.heap.size W14 w30 := hg29.trans (hd.mono hg29.size)
          clear hd
          go_wp2_with fail
          refine hK.out _ _ (HSS.out _ hg30) (fun hHeld => ?_)
          clear hK K
          try simp only [Act.put, List.setIfInBounds_toArray, List.set_cons_zero, List.set_cons_succ]
          refine till_ready (rs := [38]) (by kernel_rfl) (by simp) ?_
          refine List.forall_mem_cons.2 ⟨?_, fun _ h => absurd h List.not_mem_nil⟩
          refine till_step rfl (fun K hK => ?_)
          go_simp
          go_at_call 30
          refine (floor9_c _ _ a 78 (HQS.out.2.2.2.1.below hg30) (by omega)).mono ?_
          rintro e w31 ⟨v, rfl, hv, hd⟩
          obtain ⟨s31, A31, n31, c31, rfl, hs31, _⟩ := hv.parts
          clear hs31
          have HZ := hide hv
          clear hv
          replace HV := hide (HV.out.below hd)
          have hg31 : Below W14.heap.size W14 w31 := hg30.trans (hd.mono hg30.size)
          clear hd
          go_wp2_with fail
          refine hK.out _ _ (HSS.out _ hg31) (fun hHeld => ?_)
          clear hK K
          try simp only [Act.put, List.setIfInBounds_toArray, List.set_cons_zero, List.set_cons_succ]
          refine till_ready (rs := [39]) (by kernel_rfl) (by simp) ?_
          refine List.forall_mem_cons.2 ⟨?_, fun _ h => absurd h List.not_mem_nil⟩
          refine till_step rfl (fun K hK => ?_)
          go_simp
          go_at_call 31
          refine (of9_c _ 1 (by omega) (by omega)).mono ?_
          rintro e w32 ⟨v, rfl, hv, hd⟩
          obtain ⟨s32, A32, n32, c32, rfl, hs32, _⟩ := hv.parts
          clear hs32
          have HO := hide (hv.more (show 3 ≤ 79 by omega))
          clear hv
          replace HV := hide (HV.out.below hd)
          replace HZ := hide (HZ.out.below hd)
          have hg32 : Below W14.heap.size W14 w32 := hg31.trans (hd.mono hg31.size)
          clear hd
          go_wp2_with fail
          refine hK.out _ _ (HSS.out _ hg32) (fun hHeld => ?_)
          clear hK K
          try simp only [Act.put, List.setIfInBounds_toArray, List.set_cons_zero, List.set_cons_succ]
          refine till_take (i := 40) (v := ?vv21030) rfl (by kernel_rfl) (by kernel_rfl) (by kernel_rfl) (by kernel_rfl) (fun _ _ _ h => h) (by rfl) ?hy21030 hHeld (some 91) rfl ?rest21030
          case hy21030 => (intro w hSw; (try dsimp only at hSw); first | (go_simp; done) | (go_simp; with_reducible rfl))
          try simp only [Act.put, List.setIfInBounds_toArray, List.set_cons_zero, List.set_cons_succ]
          refine till_ready (rs := [41]) (by kernel_rfl) (by simp) ?_
          refine List.forall_mem_cons.2 ⟨?_, fun _ h => absurd h List.not_mem_nil⟩
          refine till_step rfl (fun K hK => ?_)
          go_simp
          go_at_call 28
          refine (is_c _ _ _ ((flQ a : Int) : Rat) 79 HV.out (qv_int HZ.out HO.out) (by omega)).mono ?_
          rintro e w33 ⟨_, rfl, rfl, hd⟩
          have hg33 : Below W14.heap.size W14 w33 := hg32.trans (hd.mono hg32.size)
          clear hd
          go_wp2_with fail
          refine hK.out _ _ (HSS.out _ hg33) (fun hHeld => ?_)
          clear hK K
          try simp only [Act.put, List.setIfInBounds_toArray, List.set_cons_zero, List.set_cons_succ]
          refine till_take (i := 42) (v := ?vv21031) rfl (by kernel_rfl) (by kernel_rfl) (by kernel_rfl) (by kernel_rfl) (fun _ _ _ h => h) (by rfl) ?hy21031 hHeld (some 93) rfl ?rest21031
          case hy21031 => (intro w hSw; (try dsimp only at hSw); first | (go_simp; done) | (go_simp; with_reducible rfl))
          try simp only [Act.put, List.setIfInBounds_toArray, List.set_cons_zero, List.set_cons_succ]
          refine till_take (i := 43) (v := ?vv21032) rfl (by kernel_rfl) (by kernel_rfl) (by kernel_rfl) (by kernel_rfl) (fun _ _ _ h => h) (by rfl) ?hy21032 hHeld (some 94) rfl ?rest21032
          case hy21032 => (intro w hSw; (try dsimp only at hSw); first | (go_simp; done) | (go_simp; with_reducible rfl))
          try simp only [Act.put, List.setIfInBounds_toArray, List.set_cons_zero, List.set_cons_succ]
          refine till_done (by kernel_rfl) ?_ _
          clear hHeld
          go_wp2_with fail
          go_meet
          exact ⟨rfl, hg33⟩
      case rest =>
        obtain ⟨rfl, hd⟩ := hcut
        clear HL
        replace HBa := hide (HBa.out.below hd)
        replace HQa := hide (HQa.out.below hd)
        replace HBb := hide (HBb.out.below hd)
        replace HQb := hide (HQb.out.below hd)
        replace HBx := hide (HBx.out.below hd)
        replace HBy := hide (HBy.out.below hd)
        replace HBz := hide (HBz.out.below hd)
        replace HBu := hide (HBu.out.below hd)
        replace HW := hide (below_next HW.out hd)
        clear hd
        have e0 := hide (show sgnQ b = 0 by rw [hb0]; rfl)
        clear hb0
        obtain ⟨s35, A35, n35, c35, B35, m35, d35, hx35, hq35⟩ := HQb.out
        obtain ⟨k35a, k35b, k35c, k35d, _⟩ := four_cells hx35
        clear hx35
        go_wp2_with fail
        clear k35a k35b k35c k35d
        refine (sgn9_c _ _ b 78 hq35).mono ?_
        rintro e w36 ⟨_, rfl, rfl, hd⟩
        rw [e0.out]
        clear hq35
        replace HBa := hide (HBa.out.below hd)
        replace HQa := hide (HQa.out.below hd)
        replace HBb := hide (HBb.out.below hd)
        replace HQb := hide (HQb.out.below hd)
        replace HBx := hide (HBx.out.below hd)
        replace HBy := hide (HBy.out.below hd)
        replace HBz := hide (HBz.out.below hd)
        replace HBu := hide (HBu.out.below hd)
        replace HW := hide (below_next HW.out hd)
        clear hd
        obtain ⟨s37, A37, n37, c37, B37, m37, d37, hx37, hq37⟩ := HBu.out
        obtain ⟨k37a, k37b, k37c⟩ := three_cells hx37
        clear hx37
        go_wp2_with fail
        clear k37a k37b k37c
        refine (sign_q _ _ 0 1 hq37).mono ?_
        rintro e w38 ⟨_, rfl, rfl, hd⟩
        rw [show sgnQ 0 = 0 from rfl]
        clear hq37
        replace HBa := hide (HBa.out.below hd)
        replace HQa := hide (HQa.out.below hd)
        replace HBb := hide (HBb.out.below hd)
        replace HQb := hide (HQb.out.below hd)
        replace HBx := hide (HBx.out.below hd)
        replace HBy := hide (HBy.out.below hd)
        replace HBz := hide (HBz.out.below hd)
        replace HBu := hide (HBu.out.below hd)
        replace HW := hide (below_next HW.out hd)
        clear hd
        go_wp2_with fail
        refine (awake_c _).mono ?_
        rintro e wz ⟨_, rfl, rfl, hd⟩
        have HB := hide (below_next HW.out hd)
        clear hd
        go_wp2
        go_ret
        exact ⟨_, rfl, rfl, HB.out⟩
  · as_aux_lemma =>
      obtain ⟨s39, A39, n39, c39, B39, m39, d39, hx39, hq39⟩ := HBa.out
      obtain ⟨k39a, k39b, k39c⟩ := three_cells hx39
      clear hx39
      obtain ⟨s40, A40, n40, c40, B40, m40, d40, hx40, hq40⟩ := HBb.out
      obtain ⟨k40a, k40b, k40c⟩ := three_cells hx40
      clear hx40
      rw [HL.out] at k39a k39b k39c k40a k40b k40c
      go_wp2_with fail
      rw [← HL.out]
      clear k39a k39b k39c k40a k40b k40c
      refine (quo_q _ _ _ a b 78 hq39 hq40 (by omega) hb0).mono ?_
      rintro e w41 ⟨_, rfl, hd, hor⟩
      rcases hor with ⟨_, v, rfl, hv⟩ | ⟨hs, _⟩
      rotate_left
      · exact absurd (((hga.div hgb hb0).more (show 2 * 78 + 3 ≤ 160 by omega)).smallQ (by omega)) hs
      obtain ⟨s41, A41, n41, c41, B41, m41, d41, rfl⟩ := hv.shape
      clear hq39 hq40
      obtain ⟨W41, hW41⟩ : ∃ W41, W41 = w41.alloc (.cells #[.bool s41, .slice A41 n41 c41, .slice B41 m41 d41] 35) := ⟨_, rfl⟩
      have hda : Below w41.heap.size w41 W41 := by rw [hW41]; exact (Below.refl _ _).alloc (Nat.le_refl _) _
      have hdn := below_next hd hda
      have HBu := hide (show BoxR W41 w41.heap.size (a / b) (160) from ⟨_, _, _, _, _, _, _, by rw [hW41]; exact at_new _ _, hv.below hda⟩)
      replace HBa := hide (HBa.out.below hdn)
      replace HQa := hide (HQa.out.below hdn)
      replace HBb := hide (HBb.out.below hdn)
      replace HQb := hide (HQb.out.below hdn)
      replace HBx := hide (HBx.out.below hdn)
      replace HBy := hide (HBy.out.below hdn)
      replace HBz := hide (HBz.out.below hdn)
      replace HW := hide (below_next HW.out hdn)
      clear HL
      have HL := hide hW41
      clear hW41 hd hda hdn hv
      have fu := (hga.div hgb hb0).more (show 2 * 78 + 3 ≤ 160 by omega)
      go_upto_region 7 with fail
      rw [← HL.out]
      go_cut [94] (fun s94 wx => s94 = .bool false ∧ Below W41.heap.size W41 wx)
      case first =>
        as_aux_lemma =>
          obtain ⟨s42, A42, n42, c42, B42, m42, d42, hx42, hq42⟩ := HBa.out
          obtain ⟨s43, A43, n43, c43, B43, m43, d43, hx43, hq43⟩ := HBb.out
          obtain ⟨s44, A44, n44, c44, B44, m44, d44, hx44, hq44⟩ := HQa.out
          obtain ⟨s45, A45, n45, c45, B45, m45, d45, hx45, hq45⟩ := HQb.out
          obtain ⟨s46, A46, n46, c46, B46, m46, d46, hx46, hq46⟩ := HBx.out
          obtain ⟨s47, A47, n47, c47, B47, m47, d47, hx47, hq47⟩ := HBy.out
          obtain ⟨s48, A48, n48, c48, B48, m48, d48, hx48, hq48⟩ := HBz.out
          have hS : ∀ w', Below W41.heap.size W41 w' → (w'.cell? ⟨w1.heap.size, 0, none⟩ = some (.bool s42) ∧ w'.cell? ⟨w1.heap.size, 1, none⟩ = some (.slice A42 n42 c42) ∧ w'.cell? ⟨w1.heap.size, 2, none⟩ = some (.slice B42 m42 d42)) ∧ (w'.cell? ⟨w2.heap.size, 0, none⟩ = some (.bool s43) ∧ w'.cell? ⟨w2.heap.size, 1, none⟩ = some (.slice A43 n43 c43) ∧ w'.cell? ⟨w2.heap.size, 2, none⟩ = some (.slice B43 m43 d43)) ∧ (w'.cell? ⟨w1.heap.size + 1, 0, none⟩ = some (.bool s44) ∧ w'.cell? ⟨w1.heap.size + 1, 1, none⟩ = some (.slice A44 n44 c44) ∧ w'.cell? ⟨w1.heap.size + 1, 2, none⟩ = some (.bool false) ∧ w'.cell? ⟨w1.heap.size + 1, 3, none⟩ = some (.slice B44 m44 d44)) ∧ (w'.cell? ⟨w2.heap.size + 1, 0, none⟩ = some (.bool s45) ∧ w'.cell? ⟨w2.heap.size + 1, 1, none⟩ = some (.slice A45 n45 c45) ∧ w'.cell? ⟨w2.heap.size + 1, 2, none⟩ = some (.bool false) ∧ w'.cell? ⟨w2.heap.size + 1, 3, none⟩ = some (.slice B45 m45 d45)) ∧ (w'.cell? ⟨w5.heap.size, 0, none⟩ = some (.bool s46) ∧ w'.cell? ⟨w5.heap.size, 1, none⟩ = some (.slice A46 n46 c46) ∧ w'.cell? ⟨w5.heap.size, 2, none⟩ = some (.slice B46 m46 d46)) ∧ (w'.cell? ⟨w8.heap.size, 0, none⟩ = some (.bool s47) ∧ w'.cell? ⟨w8.heap.size, 1, none⟩ = some (.slice A47 n47 c47) ∧ w'.cell? ⟨w8.heap.size, 2, none⟩ = some (.slice B47 m47 d47)) ∧ (w'.cell? ⟨w11.heap.size, 0, none⟩ = some (.bool s48) ∧ w'.cell? ⟨w11.heap.size, 1, none⟩ = some (.slice A48 n48 c48) ∧ w'.cell? ⟨w11.heap.size, 2, none⟩ = some (.slice B48 m48 d48)) := fun w' h => ⟨three_cells (at_later hx42 h), three_cells (at_later hx43 h), four_only (at_later hx44 h), four_only (at_later hx45 h), three_cells (at_later hx46 h), three_cells (at_later hx47 h), three_cells (at_later hx48 h)⟩
          have HSS := hide hS; clear hS
          have HQS := hide (And.intro trivial (And.intro hq42 (And.intro hq43 (And.intro hq44 (And.intro hq45 (And.intro hq46 (And.intro hq47 (And.intro hq48 trivial))))))))
          clear hq42 hq43 hq44 hq45 hq46 hq47 hq48 hx42 hx43 hx44 hx45 hx46 hx47 hx48
          have hdr : Below W41.heap.size W41 W41.drew := (Below.refl _ _).drew
          go_wp2
          refine till_begin (fun w' => (w'.cell? ⟨w1.heap.size, 0, none⟩ = some (.bool s42) ∧ w'.cell? ⟨w1.heap.size, 1, none⟩ = some (.slice A42 n42 c42) ∧ w'.cell? ⟨w1.heap.size, 2, none⟩ = some (.slice B42 m42 d42)) ∧ (w'.cell? ⟨w2.heap.size, 0, none⟩ = some (.bool s43) ∧ w'.cell? ⟨w2.heap.size, 1, none⟩ = some (.slice A43 n43 c43) ∧ w'.cell? ⟨w2.heap.size, 2, none⟩ = some (.slice B43 m43 d43)) ∧ (w'.cell? ⟨w1.heap.size + 1, 0, none⟩ = some (.bool s44) ∧ w'.cell? ⟨w1.heap.size + 1, 1, none⟩ = some (.slice A44 n44 c44) ∧ w'.cell? ⟨w1.heap.size + 1, 2, none⟩ = some (.bool false) ∧ w'.cell? ⟨w1.heap.size + 1, 3, none⟩ = some (.slice B44 m44 d44)) ∧ (w'.cell? ⟨w2.heap.size + 1, 0, none⟩ = some (.bool s45) ∧ w'.cell? ⟨w2.heap.size + 1, 1, none⟩ = some (.slice A45 n45 c45) ∧ w'.cell? ⟨w2.heap.size + 1, 2, none⟩ = some (.bool false) ∧ w'.cell? ⟨w2.heap.size + 1, 3, none⟩ = some (.slice B45 m45 d45)) ∧ (w'.cell? ⟨w5.heap.size, 0, none⟩ = some (.bool s46) ∧ w'.cell? ⟨w5.heap.size, 1, none⟩ = some (.slice A46 n46 c46) ∧ w'.cell? ⟨w5.heap.size, 2, none⟩ = some (.slice B46 m46 d46)) ∧ (w'.cell? ⟨w8.heap.size, 0, none⟩ = some (.bool s47) ∧ w'.cell? ⟨w8.heap.size, 1, none⟩ = some (.slice A47 n47 c47) ∧ w'.cell? ⟨w8.heap.size, 2, none⟩ = some (.slice B47 m47 d47)) ∧ (w'.cell? ⟨w11.heap.size, 0, none⟩ = some (.bool s48) ∧ w'.cell? ⟨w11.heap.size, 1, none⟩ = some (.slice A48 n48 c48) ∧ w'.cell? ⟨w11.heap.size, 2, none⟩ = some (.slice B48 m48 d48))) [0, 1, 2, 3, 4, 5, 6, 7, 8, 9, 10, 11, 12, 13, 14, 15, 16, 17, 18, 19, 20, 21, 22, 23, 24, 25, 26, 27, 28, 29, 30, 31, 32, 33, 34, 35, 36, 37, 38, 39, 40, 41, 42, 43] (by kernel_rfl) (HSS.out _ hdr) (fun hHeld => ?_)
          refine till_take (i := 1) (v := ?vv48001) rfl (by kernel_rfl) (by kernel_rfl) (by kernel_rfl) (by kernel_rfl) (fun _ _ _ h => h) (by rfl) ?hy48001 hHeld (some 52) rfl ?rest48001
          case hy48001 => (intro w hSw; (try dsimp only at hSw); first | (go_simp; done) | (go_simp; with_reducible rfl))
          try simp only [Act.put, List.setIfInBounds_toArray, List.set_cons_zero, List.set_cons_succ]
          refine till_take (i := 0) (v := ?vv48002) rfl (by kernel_rfl) (by kernel_rfl) (by kernel_rfl) (by kernel_rfl) (fun _ _ _ h => h) (by rfl) ?hy48002 hHeld (some 51) rfl ?rest48002
          case hy48002 => (intro w hSw; (try dsimp only at hSw); first | (go_simp; done) | (go_simp; with_reducible rfl))
          try simp only [Act.put, List.setIfInBounds_toArray, List.set_cons_zero, List.set_cons_succ]
          refine till_take (i := 2) (v := ?vv48003) rfl (by kernel_rfl) (by kernel_rfl) (by kernel_rfl) (by kernel_rfl) (fun _ _ _ h => h) (by rfl) ?hy48003 hHeld (some 53) rfl ?rest48003
          case hy48003 => (intro w hSw; (try dsimp only at hSw); first | (go_simp; done) | (go_simp; with_reducible rfl))
          try simp only [Act.put, List.setIfInBounds_toArray, List.set_cons_zero, List.set_cons_succ]
          refine till_take (i := 3) (v := ?vv48004) rfl (by kernel_rfl) (by kernel_rfl) (by kernel_rfl) (by kernel_rfl) (fun _ _ _ h => h) (by rfl) ?hy48004 hHeld (some 54) rfl ?rest48004
          case hy48004 => (intro w hSw; (try dsimp only at hSw); first | (go_simp; done) | (go_simp; with_reducible rfl))
          try simp only [Act.put, List.setIfInBounds_toArray, List.set_cons_zero, List.set_cons_succ]
          refine till_ready (rs := [4]) (by kernel_rfl) (by simp) ?_
          refine List.forall_mem_cons.2 ⟨?_, fun _ h => absurd h List.not_mem_nil⟩
          refine till_step rfl (fun K hK => ?_)
          go_simp
          go_at_call 23
          refine (plus9_c _ _ _ a b 78 (HQS.out.2.2.2.1.below hdr) (HQS.out.2.2.2.2.1.below hdr) (by omega)).mono ?_
          rintro e w49 ⟨v, rfl, hv, hd⟩
          obtain ⟨s49, A49, n49, c49, B49, m49, d49, rfl, _⟩ := hv.parts
          have HV := hide (hv.more (show 2 * 78 + 1 ≤ 160 by omega))
          clear hv
          have hg49 : Below W41.heap.size W41 w49 := hdr.trans (hd.mono hdr.size)
          clear hd
          go_wp2_with fail
          refine hK.out _ _ (HSS.out _ hg49) (fun hHeld => ?_)
          clear hK K
          try simp only [Act.put, List.setIfInBounds_toArray, List.set_cons_zero, List.set_cons_succ]
          refine till_ready (rs := [5]) (by kernel_rfl) (by simp) ?_
          refine List.forall_mem_cons.2 ⟨?_, fun _ h => absurd h List.not_mem_nil⟩
          refine till_step rfl (fun K hK => ?_)
          go_simp
          go_at_call 22
          refine (done_c _ _ _ (a + b) 160 (HQS.out.2.2.2.2.2.1.below hg49) HV.out (by omega)).mono ?_
          rintro e w50 ⟨_, rfl, rfl, hd⟩
          clear HV
          have hg50 : Below W41.heap.size W41 w50 := hg49.trans (hd.mono hg49.size)
          clear hd
          go_wp2_with fail
          refine hK.out _ _ (HSS.out _ hg50) (fun hHeld => ?_)
          clear hK K
          try simp only [Act.put, List.setIfInBounds_toArray, List.set_cons_zero, List.set_cons_succ]
          refine till_take (i := 6) (v := ?vv48005) rfl (by kernel_rfl) (by kernel_rfl) (by kernel_rfl) (by kernel_rfl) (fun _ _ _ h => h) (by rfl) ?hy48005 hHeld (some 57) rfl ?rest48005
          case hy48005 => (intro w hSw; (try dsimp only at hSw); first | (go_simp; done) | (go_simp; with_reducible rfl))
          try simp only [Act.put, List.setIfInBounds_toArray, List.set_cons_zero, List.set_cons_succ]
          refine till_take (i := 7) (v := ?vv48006) rfl (by kernel_rfl) (by kernel_rfl) (by kernel_rfl) (by kernel_rfl) (fun _ _ _ h => h) (by rfl) ?hy48006 hHeld (some 58) rfl ?rest48006
          case hy48006 => (intro w hSw; (try dsimp only at hSw); first | (go_simp; done) | (go_simp; with_reducible rfl))
          try simp only [Act.put, List.setIfInBounds_toArray, List.set_cons_zero, List.set_cons_succ]
          refine till_take (i := 9) (v := ?vv48007) rfl (by kernel_rfl) (by kernel_rfl) (by kernel_rfl) (by kernel_rfl) (fun _ _ _ h => h) (by rfl) ?hy48007 hHeld (some 60) rfl ?rest48007
          case hy48007 => (intro w hSw; (try dsimp only at hSw); first | (go_simp; done) | (go_simp; with_reducible rfl))
          try simp only [Act.put, List.setIfInBounds_toArray, List.set_cons_zero, List.set_cons_succ]
          refine till_take (i := 8) (v := ?vv48008) rfl (by kernel_rfl) (by kernel_rfl) (by kernel_rfl) (by kernel_rfl) (fun _ _ _ h => h) (by rfl) ?hy48008 hHeld (some 59) rfl ?rest48008
          case hy48008 => (intro w hSw; (try dsimp only at hSw); first | (go_simp; done) | (go_simp; with_reducible rfl))
          try simp only [Act.put, List.setIfInBounds_toArray, List.set_cons_zero, List.set_cons_succ]
          refine till_take (i := 10) (v := ?vv48009) rfl (by kernel_rfl) (by kernel_rfl) (by kernel_rfl) (by kernel_rfl) (fun _ _ _ h => h) (by rfl) ?hy48009 hHeld (some 61) rfl ?rest48009
          case hy48009 => (intro w hSw; (try dsimp only at hSw); first | (go_simp; done) | (go_simp; with_reducible rfl))
          try simp only [Act.put, List.setIfInBounds_toArray, List.set_cons_zero, List.set_cons_succ]
          refine till_take (i := 11) (v := ?vv48010) rfl (by kernel_rfl) (by kernel_rfl) (by kernel_rfl) (by kernel_rfl) (fun _ _ _ h => h) (by rfl) ?hy48010 hHeld (some 62) rfl ?rest48010
          case hy48010 => (intro w hSw; (try dsimp only at hSw); first | (go_simp; done) | (go_simp; with_reducible rfl))
          try simp only [Act.put, List.setIfInBounds_toArray, List.set_cons_zero, List.set_cons_succ]
          refine till_ready (rs := [12]) (by kernel_rfl) (by simp) ?_
          refine List.forall_mem_cons.2 ⟨?_, fun _ h => absurd h List.not_mem_nil⟩
          refine till_step rfl (fun K hK => ?_)
          go_simp
          go_at_call 24
          refine (minus9_c _ _ _ a b 78 (HQS.out.2.2.2.1.below hg50) (HQS.out.2.2.2.2.1.below hg50) (by omega)).mono ?_
          rintro e w51 ⟨v, rfl, hv, hd⟩
          obtain ⟨s51, A51, n51, c51, B51, m51, d51, rfl, _⟩ := hv.parts
          have HV := hide (hv.more (show 2 * 78 + 1 ≤ 160 by omega))
          clear hv
          have hg51 : Below W41.heap.size W41 w51 := hg50.trans (hd.mono hg50.size)
          clear hd
          go_wp2_with fail
          refine hK.out _ _ (HSS.out _ hg51) (fun hHeld => ?_)
          clear hK K
          try simp only [Act.put, List.setIfInBounds_toArray, List.set_cons_zero, List.set_cons_succ]
          refine till_ready (rs := [13]) (by kernel_rfl) (by simp) ?_
          refine List.forall_mem_cons.2 ⟨?_, fun _ h => absurd h List.not_mem_nil⟩
          refine till_step rfl (fun K hK => ?_)
          go_simp
          go_at_call 22
          refine (done_c _ _ _ (a - b) 160 (HQS.out.2.2.2.2.2.2.1.below hg51) HV.out (by omega)).mono ?_
          rintro e w52 ⟨_, rfl, rfl, hd⟩
          clear HV
          have hg52 : Below W41.heap.size W41 w52 := hg51.trans (hd.mono hg51.size)
          clear hd
          go_wp2_with fail
          refine hK.out _ _ (HSS.out _ hg52) (fun hHeld => ?_)
          clear hK K
          try simp only [Act.put, List.setIfInBounds_toArray, List.set_cons_zero, List.set_cons_succ]
          refine till_take (i := 14) (v := ?vv48011) rfl (by kernel_rfl) (by kernel_rfl) (by kernel_rfl) (by kernel_rfl) (fun _ _ _ h => h) (by rfl) ?hy48011 hHeld (some 65) rfl ?rest48011
          case hy48011 => (intro w hSw; (try dsimp only at hSw); first | (go_simp; done) | (go_simp; with_reducible rfl))
          try simp only [Act.put, List.setIfInBounds_toArray, List.set_cons_zero, List.set_cons_succ]
          refine till_take (i := 15) (v := ?vv48012) rfl (by kernel_rfl) (by kernel_rfl) (by kernel_rfl) (by kernel_rfl) (fun _ _ _ h => h) (by rfl) ?hy48012 hHeld (some 66) rfl ?rest48012
          case hy48012 => (intro w hSw; (try dsimp only at hSw); first | (go_simp; done) | (go_simp; with_reducible rfl))
          try simp only [Act.put, List.setIfInBounds_toArray, List.set_cons_zero, List.set_cons_succ]
          refine till_take (i := 16) (v := ?vv48013) rfl (by kernel_rfl) (by kernel_rfl) (by kernel_rfl) (by kernel_rfl) (fun _ _ _ h => h) (by rfl) ?hy48013 hHeld (some 67) rfl ?rest48013
          case hy48013 => (intro w hSw; (try dsimp only at hSw); first | (go_simp; done) | (go_simp; with_reducible rfl))
          try simp only [Act.put, List.setIfInBounds_toArray, List.set_cons_zero, List.set_cons_succ]
          refine till_take (i := 18) (v := ?vv48014) rfl (by kernel_rfl) (by kernel_rfl) (by kernel_rfl) (by kernel_rfl) (fun _ _ _ h => h) (by rfl) ?hy48014 hHeld (some 69) rfl ?rest48014
          case hy48014 => (intro w hSw; (try dsimp only at hSw); first | (go_simp; done) | (go_simp; with_reducible rfl))
          try simp only [Act.put, List.setIfInBounds_toArray, List.set_cons_zero, List.set_cons_succ]
          refine till_take (i := 17) (v := ?vv48015) rfl (by kernel_rfl) (by kernel_rfl) (by kernel_rfl) (by kernel_rfl) (fun _ _ _ h => h) (by rfl) ?hy48015 hHeld (some 68) rfl ?rest48015
          case hy48015 => (intro w hSw; (try dsimp only at hSw); first | (go_simp; done) | (go_simp; with_reducible rfl))
          try simp only [Act.put, List.setIfInBounds_toArray, List.set_cons_zero, List.set_cons_succ]
          refine till_take (i := 19) (v := ?vv48016) rfl (by kernel_rfl) (by kernel_rfl) (by kernel_rfl) (by kernel_rfl) (fun _ _ _ h => h) (by rfl) ?hy48016 hHeld (some 70) rfl ?rest48016
          case hy48016 => (intro w hSw; (try dsimp only at hSw); first | (go_simp; done) | (go_simp; with_reducible rfl))
          try simp only [Act.put, List.setIfInBounds_toArray, List.set_cons_zero, List.set_cons_succ]
          refine till_take (i := 20) (v := ?vv48017) rfl (by kernel_rfl) (by kernel_rfl) (by kernel_rfl) (by kernel_rfl) (fun _ _ _ h => h) (by rfl) ?hy48017 hHeld (some 71) rfl ?rest48017
          case hy48017 => (intro w hSw; (try dsimp only at hSw); first | (go_simp; done) | (go_simp; with_reducible rfl))
          try simp only [Act.put, List.setIfInBounds_toArray, List.set_cons_zero, List.set_cons_succ]
          refine till_ready (rs := [21]) (by kernel_rfl) (by simp) ?_
          refine List.forall_mem_cons.2 ⟨?_, fun _ h => absurd h List.not_mem_nil⟩
          refine till_step rfl (fun K hK => ?_)
          go_simp
          go_at_call 25
          refine (times9_c _ _ _ a b 78 (HQS.out.2.2.2.1.below hg52) (HQS.out.2.2.2.2.1.below hg52) (by omega)).mono ?_
          rintro e w53 ⟨v, rfl, hv, hd⟩
          obtain ⟨s53, A53, n53, c53, B53, m53, d53, rfl, _⟩ := hv.parts
          have HV := hide (hv.more (show 2 * 78 + 1 ≤ 160 by omega))
          clear hv
          have hg53 : Below W41.heap.size W41 w53 := hg52.trans (hd.mono hg52.size)
          clear hd
          go_wp2_with fail
          refine hK.out _ _ (HSS.out _ hg53) (fun hHeld => ?_)
          clear hK K
          try simp only [Act.put, List.setIfInBounds_toArray, List.set_cons_zero, List.set_cons_succ]
          refine till_ready (rs := [22]) (by kernel_rfl) (by simp) ?_
          refine List.forall_mem_cons.2 ⟨?_, fun _ h => absurd h List.not_mem_nil⟩
          refine till_step rfl (fun K hK => ?_)
          go_simp
          go_at_call 22
          refine (done_c _ _ _ (a * b) 160 (HQS.out.2.2.2.2.2.2.2.1.below hg53) HV.out (by omega)).mono ?_
          rintro e w54 ⟨_, rfl, rfl, hd⟩
          clear HV
          have hg54 : Below W41.heap.size W41 w54 := hg53.trans (hd.mono hg53.size)
          clear hd
          go_wp2_with fail
          refine hK.out _ _ (HSS.out _ hg54) (fun hHeld => ?_)
          clear hK K
          try simp only [Act.put, List.setIfInBounds_toArray, List.set_cons_zero, List.set_cons_succ]
          refine till_take (i := 23) (v := ?vv48018) rfl (by kernel_rfl) (by kernel_rfl) (by kernel_rfl) (by kernel_rfl) (fun _ _ _ h => h) (by rfl) ?hy48018 hHeld (some 74) rfl ?rest48018
          case hy48018 => (intro w hSw; (try dsimp only at hSw); first | (go_simp; done) | (go_simp; with_reducible rfl))
          try simp only [Act.put, List.setIfInBounds_toArray, List.set_cons_zero, List.set_cons_succ]
          refine till_take (i := 24) (v := ?vv48019) rfl (by kernel_rfl) (by kernel_rfl) (by kernel_rfl) (by kernel_rfl) (fun _ _ _ h => h) (by rfl) ?hy48019 hHeld (some 75) rfl ?rest48019
          case hy48019 => (intro w hSw; (try dsimp only at hSw); first | (go_simp; done) | (go_simp; with_reducible rfl))
          try simp only [Act.put, List.setIfInBounds_toArray, List.set_cons_zero, List.set_cons_succ]
          refine till_take (i := 25) (v := ?vv48020) rfl (by kernel_rfl) (by kernel_rfl) (by kernel_rfl) (by kernel_rfl) (fun _ _ _ h => h) (by rfl) ?hy48020 hHeld (some 76) rfl ?rest48020
          case hy48020 => (intro w hSw; (try dsimp only at hSw); first | (go_simp; done) | (go_simp; with_reducible rfl))
          try simp only [Act.put, List.setIfInBounds_toArray, List.set_cons_zero, List.set_cons_succ]
          refine till_take (i := 26) (v := ?vv48021) rfl (by kernel_rfl) (by kernel_rfl) (by kernel_rfl) (by kernel_rfl) (fun _ _ _ h => h) (by rfl) ?hy48021 hHeld (some 77) rfl ?rest48021
          case hy48021 => (intro w hSw; (try dsimp only at hSw); first | (go_simp; done) | (go_simp; with_reducible rfl))
          try simp only [Act.put, List.setIfInBounds_toArray, List.set_cons_zero, List.set_cons_succ]
          refine till_take (i := 27) (v := ?vv48022) rfl (by kernel_rfl) (by kernel_rfl) (by kernel_rfl) (by kernel_rfl) (fun _ _ _ h => h) (by rfl) ?hy48022 hHeld (some 78) rfl ?rest48022
          case hy48022 => (intro w hSw; (try dsimp only at hSw); first | (go_simp; done) | (go_simp; with_reducible rfl))
          try simp only [Act.put, List.setIfInBounds_toArray, List.set_cons_zero, List.set_cons_succ]
          refine till_take (i := 29) (v := ?vv48023) rfl (by kernel_rfl) (by kernel_rfl) (by kernel_rfl) (by kernel_rfl) (fun _ _ _ h => h) (by rfl) ?hy48023 hHeld (some 80) rfl ?rest48023
          case hy48023 => (intro w hSw; (try dsimp only at hSw); first | (go_simp; done) | (go_simp; with_reducible rfl))
          try simp only [Act.put, List.setIfInBounds_toArray, List.set_cons_zero, List.set_cons_succ]
          refine till_take (i := 30) (v := ?vv48024) rfl (by kernel_rfl) (by kernel_rfl) (by kernel_rfl) (by kernel_rfl) (fun _ _ _ h => h) (by rfl) ?hy48024 hHeld (some 81) rfl ?rest48024
          case hy48024 => (intro w hSw; (try dsimp only at hSw); first | (go_simp; done) | (go_simp; with_reducible rfl))
          try simp only [Act.put, List.setIfInBounds_toArray, List.set_cons_zero, List.set_cons_succ]
          refine till_ready (rs := [28]) (by kernel_rfl) (by simp) ?_
          refine List.forall_mem_cons.2 ⟨?_, fun _ h => absurd h List.not_mem_nil⟩
          refine till_step rfl (fun K hK => ?_)
          go_simp
          go_at_call 26
          refine (cmp_q _ _ _ a b 78 (HQS.out.2.1.below hg54) (HQS.out.2.2.1.below hg54) (by omega)).mono ?_
          rintro e w55 ⟨_, rfl, rfl, hd⟩
          have hg55 : Below W41.heap.size W41 w55 := hg54.trans (hd.mono hg54.size)
          rw [Hσ.out]
          clear hd
          go_wp2_with fail
          refine hK.out _ _ (HSS.out _ hg55) (fun hHeld => ?_)
          clear hK K
          try simp only [Act.put, List.setIfInBounds_toArray, List.set_cons_zero, List.set_cons_succ]
          refine till_ready (rs := [31]) (by kernel_rfl) (by simp) ?_
          refine List.forall_mem_cons.2 ⟨?_, fun _ h => absurd h List.not_mem_nil⟩
          refine till_step rfl (fun K hK => ?_)
          go_simp
          go_at_call 27
          refine (compare9_c _ _ _ a b 78 (HQS.out.2.2.2.1.below hg55) (HQS.out.2.2.2.2.1.below hg55) (by omega)).mono ?_
          rintro e w56 ⟨_, rfl, rfl, hd⟩
          have hg56 : Below W41.heap.size W41 w56 := hg55.trans (hd.mono hg55.size)
          rw [Hσ.out]
          clear hd
          go_wp2_with fail
          refine hK.out _ _ (HSS.out _ hg56) (fun hHeld => ?_)
          clear hK K
          try simp only [Act.put, List.setIfInBounds_toArray, List.set_cons_zero, List.set_cons_succ]
          refine till_take (i := 32) (v := ?vv48025) rfl (by kernel_rfl) (by kernel_rfl) (by kernel_rfl) (by kernel_rfl) (fun _ _ _ h => h) (by rfl) ?hy48025 hHeld (some 83) rfl ?rest48025
          case hy48025 => (intro w hSw; (try dsimp only at hSw); first | (go_simp; done) | (go_simp; with_reducible rfl))
          try simp only [Act.put, List.setIfInBounds_toArray, List.set_cons_zero, List.set_cons_succ]
          refine till_take (i := 33) (v := ?vv48026) rfl (by kernel_rfl) (by kernel_rfl) (by kernel_rfl) (by kernel_rfl) (fun _ _ _ h => h) (by rfl) ?hy48026 hHeld (some 84) rfl ?rest48026
          case hy48026 => (intro w hSw; (try dsimp only at hSw); first | (go_simp; done) | (go_simp; with_reducible rfl))
          try simp only [Act.put, List.setIfInBounds_toArray, List.set_cons_zero, List.set_cons_succ]
          refine till_take (i := 34) (v := ?vv48027) rfl (by kernel_rfl) (by kernel_rfl) (by kernel_rfl) (by kernel_rfl) (fun _ _ _ h => h) (by rfl) ?hy48027 hHeld (some 85) rfl ?rest48027
          case hy48027 => (intro w hSw; (try dsimp only at hSw); first | (go_simp; done) | (go_simp; with_reducible rfl))
          try simp only [Act.put, List.setIfInBounds_toArray, List.set_cons_zero, List.set_cons_succ]
          refine till_take (i := 35) (v := ?vv48028) rfl (by kernel_rfl) (by kernel_rfl) (by kernel_rfl) (by kernel_rfl) (fun _ _ _ h => h) (by rfl) ?hy48028 hHeld (some 86) rfl ?rest48028
          case hy48028 => (intro w hSw; (try dsimp only at hSw); first | (go_simp; done) | (go_simp; with_reducible rfl))
          try simp only [Act.put, List.setIfInBounds_toArray, List.set_cons_zero, List.set_cons_succ]
          refine till_take (i := 37) (v := ?vv48029) rfl (by kernel_rfl) (by kernel_rfl) (by kernel_rfl) (by kernel_rfl) (fun _ _ _ h => h) (by rfl) ?hy48029 hHeld (some 88) rfl ?rest48029
          case hy48029 => (intro w hSw; (try dsimp only at hSw); first | (go_simp; done) | (go_simp; with_reducible rfl))
          try simp only [Act.put, List.setIfInBounds_toArray, List.set_cons_zero, List.set_cons_succ]
          refine till_ready (rs := [36]) (by kernel_rfl) (by simp) ?_
          refine List.forall_mem_cons.2 ⟨?_, fun _ h => absurd h List.not_mem_nil⟩
          refine till_step rfl (fun K hK => ?_)
          go_simp
          go_at_call 29
          refine (floor_q _ _ a 78 (HQS.out.2.1.below hg56) (by omega)).mono ?_
          rintro e w57 ⟨v, rfl, hv, hd⟩
          obtain ⟨s57, A57, n57, c57, B57, m57, d57, rfl⟩ := hv.shape
          have HV := hide hv
          clear hv
          have hg57 : Below W41.heap.size W41 w57 := hg56.trans (hd.mono hg56.size)
          clear hd
          go_wp2_with fail
          refine hK.out _ _ (HSS.out _ hg57) (fun hHeld => ?_)
          clear hK K
          try simp only [Act.put, List.setIfInBounds_toArray, List.set_cons_zero, List.set_cons_succ]
          refine till_ready (rs := [38]) (by kernel_rfl) (by simp) ?_
          refine List.forall_mem_cons.2 ⟨?_, fun _ h => absurd h List.not_mem_nil⟩
          refine till_step rfl (fun K hK => ?_)
          go_simp
          go_at_call 30
          refine (floor9_c _ _ a 78 (HQS.out.2.2.2.1.below hg57) (by omega)).mono ?_
          rintro e w58 ⟨v, rfl, hv, hd⟩
          obtain ⟨s58, A58, n58, c58, rfl, hs58, _⟩ := hv.parts
          clear hs58
          have HZ := hide hv
          clear hv
          replace HV := hide (HV.out.below hd)
          have hg58 : Below W41.heap.size W41 w58 := hg57.trans (hd.mono hg57.size)
          clear hd
          go_wp2_with fail
          refine hK.out _ _ (HSS.out _ hg58) (fun hHeld => ?_)
          clear hK K
          try simp only [Act.put, List.setIfInBounds_toArray, List.set_cons_zero, List.set_cons_succ]
          refine till_ready (rs := [39]) (by kernel_rfl) (by simp) ?_
          refine List.forall_mem_cons.2 ⟨?_, fun _ h => absurd h List.not_mem_nil⟩
          refine till_step rfl (fun K hK => ?_)
          go_simp
          go_at_call 31
          refine (of9_c _ 1 (by omega) (by omega)).mono ?_
          rintro e w59 ⟨v, rfl, hv, hd⟩
          obtain ⟨s59, A59, n59, c59, rfl, hs59, _⟩ := hv.parts
          clear hs59
          have HO := hide (hv.more (show 3 ≤ 79 by omega))
          clear hv
          replace HV := hide (HV.out.below hd)
          replace HZ := hide (HZ.out.below hd)
          have hg59 : Below W41.heap.size W41 w59 := hg58.trans (hd.mono hg58.size)
          clear hd
          go_wp2_with fail
          refine hK.out _ _ (HSS.out _ hg59) (fun hHeld => ?_)
          clear hK K
          try simp only [Act.put, List.setIfInBounds_toArray, List.set_cons_zero, List.set_cons_succ]
          refine till_take (i := 40) (v := ?vv48030) rfl (by kernel_rfl) (by kernel_rfl) (by kernel_rfl) (by kernel_rfl) (fun _ _ _ h => h) (by rfl) ?hy48030 hHeld (some 91) rfl ?rest48030
          case hy48030 => (intro w hSw; (try dsimp only at hSw); first | (go_simp; done) | (go_simp; with_reducible rfl))
          try simp only [Act.put, List.setIfInBounds_toArray, List.set_cons_zero, List.set_cons_succ]
          refine till_ready (rs := [41]) (by kernel_rfl) (by simp) ?_
          refine List.forall_mem_cons.2 ⟨?_, fun _ h => absurd h List.not_mem_nil⟩
          refine till_step rfl (fun K hK => ?_)
          go_simp
          go_at_call 28
          refine (is_c _ _ _ ((flQ a : Int) : Rat) 79 HV.out (qv_int HZ.out HO.out) (by omega)).mono ?_
          rintro e w60 ⟨_, rfl, rfl, hd⟩
          have hg60 : Below W41.heap.size W41 w60 := hg59.trans (hd.mono hg59.size)
          clear hd
          go_wp2_with fail
          refine hK.out _ _ (HSS.out _ hg60) (fun hHeld => ?_)
          clear hK K
          try simp only [Act.put, List.setIfInBounds_toArray, List.set_cons_zero, List.set_cons_succ]
          refine till_take (i := 42) (v := ?vv48031) rfl (by kernel_rfl) (by kernel_rfl) (by kernel_rfl) (by kernel_rfl) (fun _ _ _ h => h) (by rfl) ?hy48031 hHeld (some 93) rfl ?rest48031
          case hy48031 => (intro w hSw; (try dsimp only at hSw); first | (go_simp; done) | (go_simp; with_reducible rfl))
          try simp only [Act.put, List.setIfInBounds_toArray, List.set_cons_zero, List.set_cons_succ]
          refine till_take (i := 43) (v := ?vv48032) rfl (by kernel_rfl) (by kernel_rfl) (by kernel_rfl) (by kernel_rfl) (fun _ _ _ h => h) (by rfl) ?hy48032 hHeld (some 94) rfl ?rest48032
          case hy48032 => (intro w hSw; (try dsimp only at hSw); first | (go_simp; done) | (go_simp; with_reducible rfl))
          try simp only [Act.put, List.setIfInBounds_toArray, List.set_cons_zero, List.set_cons_succ]
          refine till_done (by kernel_rfl) ?_ _
          clear hHeld
          go_wp2_with fail
          go_meet
          exact ⟨rfl, hg60⟩
      case rest =>
        obtain ⟨rfl, hd⟩ := hcut
        clear HL
        replace HBa := hide (HBa.out.below hd)
        replace HQa := hide (HQa.out.below hd)
        replace HBb := hide (HBb.out.below hd)
        replace HQb := hide (HQb.out.below hd)
        replace HBx := hide (HBx.out.below hd)
        replace HBy := hide (HBy.out.below hd)
        replace HBz := hide (HBz.out.below hd)
        replace HBu := hide (HBu.out.below hd)
        replace HW := hide (below_next HW.out hd)
        clear hd
        obtain ⟨γ, hγ⟩ : ∃ γ, γ = sgnQ b := ⟨_, rfl⟩
        have hγ0 : (γ == 0) = false := by
          rw [beq_eq_false_iff_ne, hγ]
          rcases sgnQ_cases b with ⟨ec, pc⟩ | ⟨ec, pc⟩ | ⟨ec, pc⟩
          · rw [ec]; omega
          · exact absurd pc hb0
          · rw [ec]; omega
        have Hγ := hide hγ.symm
        clear hγ
        obtain ⟨s62, A62, n62, c62, B62, m62, d62, hx62, hq62⟩ := HQb.out
        obtain ⟨k62a, k62b, k62c, k62d, _⟩ := four_cells hx62
        clear hx62
        go_wp2_with fail
        clear k62a k62b k62c k62d
        refine (sgn9_c _ _ b 78 hq62).mono ?_
        rintro e w63 ⟨_, rfl, rfl, hd⟩
        rw [Hγ.out]
        clear hq62
        replace HBa := hide (HBa.out.below hd)
        replace HQa := hide (HQa.out.below hd)
        replace HBb := hide (HBb.out.below hd)
        replace HQb := hide (HQb.out.below hd)
        replace HBx := hide (HBx.out.below hd)
        replace HBy := hide (HBy.out.below hd)
        replace HBz := hide (HBz.out.below hd)
        replace HBu := hide (HBu.out.below hd)
        replace HW := hide (below_next HW.out hd)
        clear hd
        obtain ⟨s64, A64, n64, c64, B64, m64, d64, hx64, hq64⟩ := HQa.out
        obtain ⟨s65, A65, n65, c65, B65, m65, d65, hx65, hq65⟩ := HQb.out
        obtain ⟨s66, A66, n66, c66, B66, m66, d66, hx66, hq66⟩ := HBu.out
        have hS : ∀ w', Below w63.heap.size w63 w' → (w'.cell? ⟨w1.heap.size + 1, 0, none⟩ = some (.bool s64) ∧ w'.cell? ⟨w1.heap.size + 1, 1, none⟩ = some (.slice A64 n64 c64) ∧ w'.cell? ⟨w1.heap.size + 1, 2, none⟩ = some (.bool false) ∧ w'.cell? ⟨w1.heap.size + 1, 3, none⟩ = some (.slice B64 m64 d64)) ∧ (w'.cell? ⟨w2.heap.size + 1, 0, none⟩ = some (.bool s65) ∧ w'.cell? ⟨w2.heap.size + 1, 1, none⟩ = some (.slice A65 n65 c65) ∧ w'.cell? ⟨w2.heap.size + 1, 2, none⟩ = some (.bool false) ∧ w'.cell? ⟨w2.heap.size + 1, 3, none⟩ = some (.slice B65 m65 d65)) ∧ (w'.cell? ⟨w41.heap.size, 0, none⟩ = some (.bool s66) ∧ w'.cell? ⟨w41.heap.size, 1, none⟩ = some (.slice A66 n66 c66) ∧ w'.cell? ⟨w41.heap.size, 2, none⟩ = some (.slice B66 m66 d66)) := fun w' h => ⟨four_only (at_later hx64 h), four_only (at_later hx65 h), three_cells (at_later hx66 h)⟩
        have HSS := hide hS; clear hS
        have HQS := hide (And.intro trivial (And.intro hq64 (And.intro hq65 (And.intro hq66 trivial))))
        clear hq64 hq65 hq66 hx64 hx65 hx66
        have hdr : Below w63.heap.size w63 w63.drew := (Below.refl _ _).drew
        go_wp2
        refine till_begin (fun w' => (w'.cell? ⟨w1.heap.size + 1, 0, none⟩ = some (.bool s64) ∧ w'.cell? ⟨w1.heap.size + 1, 1, none⟩ = some (.slice A64 n64 c64) ∧ w'.cell? ⟨w1.heap.size + 1, 2, none⟩ = some (.bool false) ∧ w'.cell? ⟨w1.heap.size + 1, 3, none⟩ = some (.slice B64 m64 d64)) ∧ (w'.cell? ⟨w2.heap.size + 1, 0, none⟩ = some (.bool s65) ∧ w'.cell? ⟨w2.heap.size + 1, 1, none⟩ = some (.slice A65 n65 c65) ∧ w'.cell? ⟨w2.heap.size + 1, 2, none⟩ = some (.bool false) ∧ w'.cell? ⟨w2.heap.size + 1, 3, none⟩ = some (.slice B65 m65 d65)) ∧ (w'.cell? ⟨w41.heap.size, 0, none⟩ = some (.bool s66) ∧ w'.cell? ⟨w41.heap.size, 1, none⟩ = some (.slice A66 n66 c66) ∧ w'.cell? ⟨w41.heap.size, 2, none⟩ = some (.slice B66 m66 d66))) [0, 1, 2, 3, 4, 5, 6, 7, 8, 9] (by kernel_rfl) (HSS.out _ hdr) (fun hHeld => ?_)
        refine till_take (i := 1) (v := ?vv66001) rfl (by kernel_rfl) (by kernel_rfl) (by kernel_rfl) (by kernel_rfl) (fun _ _ _ h => h) (by rfl) ?hy66001 hHeld (some 109) rfl ?rest66001
        case hy66001 => (intro w hSw; (try dsimp only at hSw); first | (go_simp; done) | (go_simp; with_reducible rfl))
        try simp only [Act.put, List.setIfInBounds_toArray, List.set_cons_zero, List.set_cons_succ]
        refine till_take (i := 0) (v := ?vv66002) rfl (by kernel_rfl) (by kernel_rfl) (by kernel_rfl) (by kernel_rfl) (fun _ _ _ h => h) (by rfl) ?hy66002 hHeld (some 108) rfl ?rest66002
        case hy66002 => (intro w hSw; (try dsimp only at hSw); first | (go_simp; done) | (go_simp; with_reducible rfl))
        try simp only [Act.put, List.setIfInBounds_toArray, List.set_cons_zero, List.set_cons_succ]
        refine till_take (i := 2) (v := ?vv66003) rfl (by kernel_rfl) (by kernel_rfl) (by kernel_rfl) (by kernel_rfl) (fun _ _ _ h => h) (by rfl) ?hy66003 hHeld (some 110) rfl ?rest66003
        case hy66003 => (intro w hSw; (try dsimp only at hSw); first | (go_simp; done) | (go_simp; with_reducible rfl))
        try simp only [Act.put, List.setIfInBounds_toArray, List.set_cons_zero, List.set_cons_succ]
        refine till_take (i := 3) (v := ?vv66004) rfl (by kernel_rfl) (by kernel_rfl) (by kernel_rfl) (by kernel_rfl) (fun _ _ _ h => h) (by rfl) ?hy66004 hHeld (some 111) rfl ?rest66004
        case hy66004 => (intro w hSw; (try dsimp only at hSw); first | (go_simp; done) | (go_simp; with_reducible rfl))
        try simp only [Act.put, List.setIfInBounds_toArray, List.set_cons_zero, List.set_cons_succ]
        refine till_ready (rs := [4]) (by kernel_rfl) (by simp) ?_
        refine List.forall_mem_cons.2 ⟨?_, fun _ h => absurd h List.not_mem_nil⟩
        refine till_step rfl (fun K hK => ?_)
        go_simp
        go_at_call 34
        refine (over9_c _ _ _ a b 78 (HQS.out.2.1.below hdr) (HQS.out.2.2.1.below hdr) (by omega) hb0).mono ?_
        rintro e w67 ⟨v, rfl, hv, hd⟩
        obtain ⟨s67, A67, n67, c67, B67, m67, d67, rfl, _⟩ := hv.parts
        have HV := hide (hv.more (show 2 * 78 + 1 ≤ 160 by omega))
        clear hv
        have hg67 : Below w63.heap.size w63 w67 := hdr.trans (hd.mono hdr.size)
        clear hd
        go_wp2_with fail
        refine hK.out _ _ (HSS.out _ hg67) (fun hHeld => ?_)
        clear hK K
        try simp only [Act.put, List.setIfInBounds_toArray, List.set_cons_zero, List.set_cons_succ]
        refine till_ready (rs := [5]) (by kernel_rfl) (by simp) ?_
        refine List.forall_mem_cons.2 ⟨?_, fun _ h => absurd h List.not_mem_nil⟩
        refine till_step rfl (fun K hK => ?_)
        go_simp
        go_at_call 22
        refine (done_c _ _ _ (a / b) 160 (HQS.out.2.2.2.1.below hg67) HV.out (by omega)).mono ?_
        rintro e w68 ⟨_, rfl, rfl, hd⟩
        clear HV
        have hg68 : Below w63.heap.size w63 w68 := hg67.trans (hd.mono hg67.size)
        clear hd
        go_wp2_with fail
        refine hK.out _ _ (HSS.out _ hg68) (fun hHeld => ?_)
        clear hK K
        try simp only [Act.put, List.setIfInBounds_toArray, List.set_cons_zero, List.set_cons_succ]
        refine till_take (i := 6) (v := ?vv66005) rfl (by kernel_rfl) (by kernel_rfl) (by kernel_rfl) (by kernel_rfl) (fun _ _ _ h => h) (by rfl) ?hy66005 hHeld (some 114) rfl ?rest66005
        case hy66005 => (intro w hSw; (try dsimp only at hSw); first | (go_simp; done) | (go_simp; with_reducible rfl))
        try simp only [Act.put, List.setIfInBounds_toArray, List.set_cons_zero, List.set_cons_succ]
        refine till_ready (rs := [7]) (by kernel_rfl) (by simp) ?_
        refine List.forall_mem_cons.2 ⟨?_, fun _ h => absurd h List.not_mem_nil⟩
        refine till_step rfl (fun K hK => ?_)
        go_simp
        go_at_call 17
        refine (awake_c _).mono ?_
        rintro e w69 ⟨_, rfl, rfl, hd⟩
        have hg69 : Below w63.heap.size w63 w69 := hg68.trans (hd.mono hg68.size)
        clear hd
        go_wp2_with fail
        refine hK.out _ _ (HSS.out _ hg69) (fun hHeld => ?_)
        clear hK K
        try simp only [Act.put, List.setIfInBounds_toArray, List.set_cons_zero, List.set_cons_succ]
        refine till_take (i := 8) (v := ?vv66006) rfl (by kernel_rfl) (by kernel_rfl) (by kernel_rfl) (by kernel_rfl) (fun _ _ _ h => h) (by rfl) ?hy66006 hHeld (some 116) rfl ?rest66006
        case hy66006 => (intro w hSw; (try dsimp only at hSw); first | (go_simp; done) | (go_simp; with_reducible rfl))
        try simp only [Act.put, List.setIfInBounds_toArray, List.set_cons_zero, List.set_cons_succ]
        refine till_take (i := 9) (v := ?vv66007) rfl (by kernel_rfl) (by kernel_rfl) (by kernel_rfl) (by kernel_rfl) (fun _ _ _ h => h) (by rfl) ?hy66007 hHeld (some 4) rfl ?rest66007
        case hy66007 => (intro w hSw; (try dsimp only at hSw); first | (go_simp; done) | (go_simp; with_reducible rfl))
        try simp only [Act.put, List.setIfInBounds_toArray, List.set_cons_zero, List.set_cons_succ]
        refine till_done (by kernel_rfl) ?_ _
        clear hHeld
        go_wp2
        go_ret
        exact ⟨_, rfl, rfl, below_next HW.out hg69⟩
end Go.Proofs.YthnnbpnocefmgaaGreat
