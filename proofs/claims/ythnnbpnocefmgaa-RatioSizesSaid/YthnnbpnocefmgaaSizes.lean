/- The law of sizes. -/
import Derived.Test.YthnnbpnocefmgaaSizesP
import Derived.Test.YthnnbpnocefmgaaText
import Derived.Test.YthnnbpnocefmgaaAwake
namespace Go.Proofs.Ythnnbpnocefmgaa
set_option linter.unusedVariables false
set_option linter.unusedSimpArgs false
open Go.RowKit
theorem u64_mod (i : Int) (n : Nat) (hn : 0 < n) (hn2 : n ≤ 1000000) : ∃ m : Nat, m < n ∧ wrap64 ((IntKind.u64.wrap i).tmod n) = (m : Int) ∧ (IntKind.u64.wrap i).tmod n = (m : Int) := by
  have h0 : 0 ≤ IntKind.u64.wrap i := by simp [IntKind.wrap, IntKind.bits, IntKind.signed]; omega
  generalize IntKind.u64.wrap i = x at *
  rw [Int.tmod_eq_emod_of_nonneg h0]
  have h1 := Int.emod_nonneg x (show (n : Int) ≠ 0 by omega)
  have h2 := Int.emod_lt_of_pos x (show (0 : Int) < n by omega)
  refine ⟨(x % n).toNat, by omega, ?_, by omega⟩
  unfold wrap64
  omega
theorem pow2_c (w : World) (a : Value) (n : Nat) (ha : RatV w a ((4611686018427387904 : Int) : Rat) 2) (hn : n ≤ 1000) :
    Calls Try.prog 15 #[a, .int .i64 n] w (Ret (doneR w (twoQ (62 * n)) 1940)) := by
  have := pow_up w a ((4611686018427387904 : Int) : Rat) n 1940 (ha.more (by omega)) hn (by omega) (by omega) (fun k hk => by rw [powN_two]; exact ⟨twoQ_fit (by omega), (twoQ_small _).2 (by omega)⟩)
  rwa [powN_two] at this
theorem mul2_c (w : World) (a b : Value) (m n : Nat) (ha : RatV w a (twoQ m) 1940) (hb : RatV w b (twoQ n) 1940) :
    Calls Try.prog 16 #[a, b] w (Ret (doneR w (twoQ (m + n)) 3884)) := by
  have := mul_q w a b _ _ 1940 ha hb (by omega)
  rwa [twoQ_mul] at this
theorem quo1_c (w : World) (a b : Value) (m : Nat) (ha : RatV w a (twoQ m) 1940) (hb : RatV w b (twoQ m) 1940) :
    Calls Try.prog 17 #[a, b] w (Ret (doneR w 1 3884)) := by
  have := quo_q w a b _ _ 1940 ha hb (by omega) (twoQ_ne m)
  rwa [twoQ_self] at this
theorem quo2_c (w : World) (a b : Value) (m : Nat) (ha : RatV w a 1 1940) (hb : RatV w b (twoQ m) 1940) :
    Calls Try.prog 17 #[a, b] w (Ret (doneR w (halfQ m) 3884)) := by
  have := quo_q w a b _ _ 1940 ha hb (by omega) (twoQ_ne m)
  rwa [one_twoQ] at this
theorem quo3_c (w : World) (a b : Value) (m n : Nat) (ha : RatV w a (halfQ m) 1940) (hb : RatV w b (twoQ n) 1940) :
    Calls Try.prog 17 #[a, b] w (Ret (doneR w (halfQ (m + n)) 3884)) := by
  have := quo_q w a b _ _ 1940 ha hb (by omega) (twoQ_ne n)
  rwa [half_div] at this
theorem one_small : SmallQ 1 := by
  have := (twoQ_small 0).2 (by omega)
  rwa [show twoQ 0 = 1 by unfold twoQ; simp] at this
theorem one_fit : FitQ 1940 1 := by
  have := twoQ_fit (e := 0) (L := 1940) (by omega)
  rwa [show twoQ 0 = 1 by unfold twoQ; simp] at this
theorem ones_step {N x : Nat} (h : x < N) : (List.replicate x (49 : Int) ++ List.replicate (N - x) 0).set x 49 = List.replicate (x + 1) 49 ++ List.replicate (N - (x + 1)) 0 := by
  rw [List.set_append_right _ _ (by simp), List.length_replicate, Nat.sub_self, show N - x = (N - (x + 1)) + 1 by omega, List.replicate_succ, List.set_cons_zero, List.replicate_succ', List.append_assoc]
  rfl
theorem Blk.cel {w : World} {g : Nat} {e : TypeId} {k : IntKind} {xs : List Int} (h : Blk w g e k xs) : Cel w g e k xs [] := by
  unfold Cel; rw [List.append_nil]; exact h
set_option maxRecDepth 100000 in
set_option maxHeartbeats 8000000 in
theorem sizes_c (w : World) (i k : Int) (hi0 : -9223372036854775808 ≤ i) (hi1 : i ≤ 9223372036854775807) (hk0 : -9223372036854775808 ≤ k) (hk1 : k ≤ 9223372036854775807) :
    Calls Try.prog 4 #[.int .i64 i, .int .i64 k] w (Ret (fun v w' => v = .bool true ∧ Below w.heap.size w w')) := by
  obtain ⟨m, hm, em, -⟩ := u64_mod i 1001 (by omega) (by omega)
  obtain ⟨n, hn, en, -⟩ := u64_mod k 1001 (by omega) (by omega)
  obtain ⟨j, hj, ej, -⟩ := u64_mod i 4 (by omega) (by omega)
  replace em : wrap64 ((IntKind.u64.wrap i).tmod 1001) = (m : Int) := em
  replace en : wrap64 ((IntKind.u64.wrap k).tmod 1001) = (n : Int) := en
  replace ej : wrap64 ((IntKind.u64.wrap i).tmod 4) = (j : Int) := ej
  go_enter Try.func4, Try.ntmps4
  go_wp2_with fail
  refine (of_c _ 4611686018427387904 (by omega) (by omega)).mono ?_
  rintro e w1 ⟨v1, rfl, q1, hb1⟩
  obtain ⟨s1, A1, n1, c1, B1, m1, d1, rfl⟩ := q1.shape
  obtain ⟨W1, hW1⟩ : ∃ W1, W1 = w1.alloc (.cells #[.bool s1, .slice A1 n1 c1, .slice B1 m1 d1] 25) := ⟨_, rfl⟩
  have hda : Below w1.heap.size w1 W1 := by rw [hW1]; exact (Below.refl _ _).alloc (Nat.le_refl _) _
  have HBt := hide (show BoxR W1 w1.heap.size ((4611686018427387904 : Int) : Rat) 2 from ⟨_, _, _, _, _, _, _, by rw [hW1]; exact at_new _ _, q1.below hda⟩)
  have HW := hide (below_next hb1 hda)
  have HL := hide hW1
  clear hW1 q1 hb1 hda
  go_upto_if 36 with fail
  rw [← HL.out]
  go_cut [6] (fun s6 wx => s6 = .int .i64 n ∧ Below W1.heap.size W1 wx)
  case first =>
    by_cases h8 : ((IntKind.u64.wrap k).tmod 8 == 0) = true
    · obtain ⟨N, hN⟩ : ∃ N, N = 69999 + j := ⟨_, rfl⟩
      have hN2 : (69999 + (j : Int)) = (N : Int) := by omega
      have hmk := mk_run Try.u8T N (by omega)
      have hNb : N ≤ 70002 := by omega
      have hN0 : 69999 ≤ N := by omega
      clear hN
      go_wp2
      go_loopw [9] (fun s9 wr => ∃ x : Nat, x ≤ N ∧ s9 = .int .i64 x ∧ Blk wr W1.heap.size 5 .u8 (List.replicate x 49 ++ List.replicate (N - x) 0) ∧ Below W1.heap.size W1 wr) (fun s9 _ => N - (intOf s9).toNat)
      case atStart => exact ⟨0, Nat.zero_le _, rfl, Blk.new _ _ _ _, below_al (Below.refl _ _) _⟩
      case round =>
        obtain ⟨x, hx, rfl, hblk, hbel⟩ := hrel
        by_cases hxl : x < N
        · have d1 : decide (x < N) = true := decide_eq_true hxl
          have k0 := hblk.cell (j := x) (by rw [List.length_append, List.length_replicate, List.length_replicate]; omega)
          have f0 := hblk.frozen x
          have HX := hide (And.intro hblk hbel)
          clear hblk hbel
          go_wp2
          case roundEnd =>
            refine ⟨⟨x + 1, by omega, by go_num, ?_, HX.out.2.setCell (Nat.le_refl _) _⟩, by simp [intOf]; omega⟩
            have := HX.out.1.set_ x 49
            rw [ones_step hxl] at this
            exact this
        · have d1 : decide (x < N) = false := decide_eq_false hxl
          obtain rfl : x = N := by omega
          rw [Nat.sub_self, List.replicate_zero, List.append_nil] at hblk
          have hbs := fun (P : Program) => bytes_str (P := P) wr 45 9 5 W1.heap.size x (List.replicate x 49) [] hblk.cel
          rw [List.length_replicate] at hbs
          have hbs2 := hbs Try.prog (by kernel_rfl) (by kernel_rfl) (by kernel_rfl)
          have HX := hide hbel
          clear hblk hbel hbs
          obtain ⟨y, hy⟩ : ∃ y, x = y + 1 := ⟨x - 1, by omega⟩
          have hsz : (str (List.replicate x 49)).size = x := by rw [str_size, List.length_replicate]
          by_cases hlong : 70000 < x
          · have d2 : decide ((70000 : Int) < (x : Int)) = true := by apply decide_eq_true; omega
            have d3 : decide ((x : Int) ≤ 70000) = false := by apply decide_eq_false; omega
            have HY := hide hy; clear hy
            go_wp2_with fail
            refine (parse_long _ _ (by rw [hsz]; exact hlong) (by rw [hsz]; omega)).mono ?_
            rintro e w5 ⟨_, rfl, rfl, hd⟩
            have HD := hide (And.intro (ratV_zero (w5.alloc (.cells #[.bool false, .slice none 0 0, .slice none 0 0] 25)) 2) (below_next HX.out (below_next hd (below_al (Below.refl _ _) (.cells #[.bool false, .slice none 0 0, .slice none 0 0] 25)))))
            clear hd
            go_wp2_with fail
            refine (sign_q _ _ 0 2 HD.out.1).mono ?_
            rintro e w6 ⟨_, rfl, rfl, hd⟩
            rw [show sgnQ 0 = 0 from rfl]
            have HE := hide (below_next HD.out.2 hd)
            clear hd
            go_wp2
            go_meet
            exact ⟨rfl, HE.out⟩
          · have d2 : decide ((70000 : Int) < (x : Int)) = false := by apply decide_eq_false; omega
            have d3 : decide ((x : Int) ≤ 70000) = true := by apply decide_eq_true; omega
            have htx := ones_text y
            rw [← hy] at htx
            have hlg := ones_large y (by omega)
            rw [← hy] at hlg
            have HY := hide (And.intro hy (And.intro htx hlg)); clear hy htx hlg
            go_wp2_with fail
            rw [← HY.out.2.1]
            refine (parse_c _ _ (by rw [HY.out.2.1, List.length_replicate]; omega)).mono ?_
            rintro e w5 ⟨_, rfl, hd, hor⟩
            rcases hor with ⟨hs2, _⟩ | ⟨_, v, rfl, hv⟩
            · exact absurd hs2 HY.out.2.2
            obtain ⟨s5, A5, n5, c5, B5, m5, d5, rfl⟩ := hv.shape
            have HD := hide (And.intro (RatV.below hv (below_al (Below.refl _ _) (.cells #[.bool s5, .slice A5 n5 c5, .slice B5 m5 d5] 25))) (below_next HX.out (below_next hd (below_al (Below.refl _ _) (.cells #[.bool s5, .slice A5 n5 c5, .slice B5 m5 d5] 25)))))
            clear hd hv
            go_wp2_with fail
            refine (sign_q _ _ 0 70002 HD.out.1).mono ?_
            rintro e w6 ⟨_, rfl, rfl, hd⟩
            rw [show sgnQ 0 = 0 from rfl]
            have HE := hide (below_next HD.out.2 hd)
            clear hd
            go_wp2
            go_meet
            exact ⟨rfl, HE.out⟩
    · have h8' : ((IntKind.u64.wrap k).tmod 8 == 0) = false := by simpa using h8
      clear h8
      go_wp2
      go_meet
      exact ⟨rfl, Below.refl _ _⟩
  case rest =>
    obtain ⟨rfl, hbx⟩ := hcut
    rename World => wx
    replace HBt := hide (HBt.out.below hbx)
    replace HW := hide (below_next HW.out hbx)
    clear HL hbx
    obtain ⟨s11, A11, n11, c11, B11, m11, d11, hx11, hq11⟩ := HBt.out
    obtain ⟨k11a, k11b, k11c⟩ := three_cells hx11
    clear hx11
    go_wp2_with fail
    clear k11a k11b k11c
    refine (pow2_c _ _ m hq11 (by omega)).mono ?_
    rintro e w12 ⟨_, rfl, hd, hor⟩
    rcases hor with ⟨_, v, rfl, hv⟩ | ⟨hs2, _⟩
    rotate_left
    · exact absurd ((twoQ_small _).2 (by omega)) hs2
    obtain ⟨s12, A12, n12, c12, B12, m12, d12, rfl⟩ := hv.shape
    clear hq11
    obtain ⟨W12, hW12⟩ : ∃ W12, W12 = w12.alloc (.cells #[.bool s12, .slice A12 n12 c12, .slice B12 m12 d12] 25) := ⟨_, rfl⟩
    have hda : Below w12.heap.size w12 W12 := by rw [hW12]; exact (Below.refl _ _).alloc (Nat.le_refl _) _
    have hdn := below_next hd hda
    have HBa := hide (show BoxR W12 w12.heap.size (twoQ (62 * m)) (1940) from ⟨_, _, _, _, _, _, _, by rw [hW12]; exact at_new _ _, hv.below hda⟩)
    replace HBt := hide (HBt.out.below hdn)
    replace HW := hide (below_next HW.out hdn)
    skip
    have HL := hide hW12
    clear hW12 hd hda hdn hv
    obtain ⟨s13, A13, n13, c13, B13, m13, d13, hx13, hq13⟩ := HBt.out
    obtain ⟨k13a, k13b, k13c⟩ := three_cells hx13
    clear hx13
    rw [HL.out] at k13a k13b k13c
    go_wp2_with fail
    rw [← HL.out]
    clear k13a k13b k13c
    refine (pow2_c _ _ n hq13 (by omega)).mono ?_
    rintro e w14 ⟨_, rfl, hd, hor⟩
    rcases hor with ⟨_, v, rfl, hv⟩ | ⟨hs2, _⟩
    rotate_left
    · exact absurd ((twoQ_small _).2 (by omega)) hs2
    obtain ⟨s14, A14, n14, c14, B14, m14, d14, rfl⟩ := hv.shape
    clear hq13
    obtain ⟨W14, hW14⟩ : ∃ W14, W14 = w14.alloc (.cells #[.bool s14, .slice A14 n14 c14, .slice B14 m14 d14] 25) := ⟨_, rfl⟩
    have hda : Below w14.heap.size w14 W14 := by rw [hW14]; exact (Below.refl _ _).alloc (Nat.le_refl _) _
    have hdn := below_next hd hda
    have HBb := hide (show BoxR W14 w14.heap.size (twoQ (62 * n)) (1940) from ⟨_, _, _, _, _, _, _, by rw [hW14]; exact at_new _ _, hv.below hda⟩)
    replace HBt := hide (HBt.out.below hdn)
    replace HBa := hide (HBa.out.below hdn)
    replace HW := hide (below_next HW.out hdn)
    clear HL
    have HL := hide hW14
    clear hW14 hd hda hdn hv
    clear HBt
    have c1 : decide ((100000 : Int) ≤ 62 * (m : Int)) = false := by apply decide_eq_false; omega
    have c2 : decide ((100000 : Int) ≤ 62 * (n : Int)) = false := by apply decide_eq_false; omega
    by_cases hs : 62 * m + 62 * n < 100000
    · have c3 : decide ((100000 : Int) ≤ 62 * (m : Int) + 62 * (n : Int)) = false := by apply decide_eq_false; omega
      obtain ⟨s15, A15, n15, c15, B15, m15, d15, hx15, hq15⟩ := HBa.out
      obtain ⟨k15a, k15b, k15c⟩ := three_cells hx15
      clear hx15
      obtain ⟨s16, A16, n16, c16, B16, m16, d16, hx16, hq16⟩ := HBb.out
      obtain ⟨k16a, k16b, k16c⟩ := three_cells hx16
      clear hx16
      rw [HL.out] at k15a k15b k15c k16a k16b k16c
      go_wp2_with fail
      rw [← HL.out]
      clear k15a k15b k15c k16a k16b k16c
      refine (mul2_c _ _ _ (62 * m) (62 * n) hq15 hq16).mono ?_
      rintro e w17 ⟨_, rfl, hd, hor⟩
      rcases hor with ⟨_, v, rfl, hv⟩ | ⟨hs2, _⟩
      rotate_left
      · exact absurd ((twoQ_small _).2 hs) hs2
      obtain ⟨s17, A17, n17, c17, B17, m17, d17, rfl⟩ := hv.shape
      clear hq15 hq16
      obtain ⟨W17, hW17⟩ : ∃ W17, W17 = w17.alloc (.cells #[.bool s17, .slice A17 n17 c17, .slice B17 m17 d17] 25) := ⟨_, rfl⟩
      have hda : Below w17.heap.size w17 W17 := by rw [hW17]; exact (Below.refl _ _).alloc (Nat.le_refl _) _
      have hdn := below_next hd hda
      have HBc := hide (show BoxR W17 w17.heap.size (twoQ (62 * m + 62 * n)) (3884) from ⟨_, _, _, _, _, _, _, by rw [hW17]; exact at_new _ _, hv.below hda⟩)
      replace HBa := hide (HBa.out.below hdn)
      replace HBb := hide (HBb.out.below hdn)
      replace HW := hide (below_next HW.out hdn)
      clear HL
      have HL := hide hW17
      clear hW17 hd hda hdn hv
      obtain ⟨s18, A18, n18, c18, B18, m18, d18, hx18, hq18⟩ := HBa.out
      obtain ⟨k18a, k18b, k18c⟩ := three_cells hx18
      clear hx18
      rw [HL.out] at k18a k18b k18c
      go_wp2_with fail
      rw [← HL.out]
      clear k18a k18b k18c
      refine (quo1_c _ _ _ (62 * m) hq18 hq18).mono ?_
      rintro e w19 ⟨_, rfl, hd, hor⟩
      rcases hor with ⟨_, v, rfl, hv⟩ | ⟨hs2, _⟩
      rotate_left
      · exact absurd (one_small) hs2
      obtain ⟨s19, A19, n19, c19, B19, m19, d19, rfl⟩ := hv.shape
      clear hq18
      replace hv := hv.fit (one_fit)
      obtain ⟨W19, hW19⟩ : ∃ W19, W19 = w19.alloc (.cells #[.bool s19, .slice A19 n19 c19, .slice B19 m19 d19] 25) := ⟨_, rfl⟩
      have hda : Below w19.heap.size w19 W19 := by rw [hW19]; exact (Below.refl _ _).alloc (Nat.le_refl _) _
      have hdn := below_next hd hda
      have HBo := hide (show BoxR W19 w19.heap.size (1) (1940) from ⟨_, _, _, _, _, _, _, by rw [hW19]; exact at_new _ _, hv.below hda⟩)
      replace HBa := hide (HBa.out.below hdn)
      replace HBb := hide (HBb.out.below hdn)
      replace HBc := hide (HBc.out.below hdn)
      replace HW := hide (below_next HW.out hdn)
      clear HL
      have HL := hide hW19
      clear hW19 hd hda hdn hv
      obtain ⟨s20, A20, n20, c20, B20, m20, d20, hx20, hq20⟩ := HBo.out
      obtain ⟨k20a, k20b, k20c⟩ := three_cells hx20
      clear hx20
      obtain ⟨s21, A21, n21, c21, B21, m21, d21, hx21, hq21⟩ := HBa.out
      obtain ⟨k21a, k21b, k21c⟩ := three_cells hx21
      clear hx21
      rw [HL.out] at k20a k20b k20c k21a k21b k21c
      go_wp2_with fail
      rw [← HL.out]
      clear k20a k20b k20c k21a k21b k21c
      refine (quo2_c _ _ _ (62 * m) hq20 hq21).mono ?_
      rintro e w22 ⟨_, rfl, hd, hor⟩
      rcases hor with ⟨_, v, rfl, hv⟩ | ⟨hs2, _⟩
      rotate_left
      · exact absurd ((halfQ_small _).2 (by omega)) hs2
      obtain ⟨s22, A22, n22, c22, B22, m22, d22, rfl⟩ := hv.shape
      clear hq20 hq21
      replace hv := hv.fit (halfQ_fit (L := 1940) (by omega) (by omega))
      obtain ⟨W22, hW22⟩ : ∃ W22, W22 = w22.alloc (.cells #[.bool s22, .slice A22 n22 c22, .slice B22 m22 d22] 25) := ⟨_, rfl⟩
      have hda : Below w22.heap.size w22 W22 := by rw [hW22]; exact (Below.refl _ _).alloc (Nat.le_refl _) _
      have hdn := below_next hd hda
      have HBd := hide (show BoxR W22 w22.heap.size (halfQ (62 * m)) (1940) from ⟨_, _, _, _, _, _, _, by rw [hW22]; exact at_new _ _, hv.below hda⟩)
      replace HBa := hide (HBa.out.below hdn)
      replace HBb := hide (HBb.out.below hdn)
      replace HBc := hide (HBc.out.below hdn)
      replace HBo := hide (HBo.out.below hdn)
      replace HW := hide (below_next HW.out hdn)
      clear HL
      have HL := hide hW22
      clear hW22 hd hda hdn hv
      clear HBo
      obtain ⟨s23, A23, n23, c23, B23, m23, d23, hx23, hq23⟩ := HBd.out
      obtain ⟨k23a, k23b, k23c⟩ := three_cells hx23
      clear hx23
      obtain ⟨s24, A24, n24, c24, B24, m24, d24, hx24, hq24⟩ := HBb.out
      obtain ⟨k24a, k24b, k24c⟩ := three_cells hx24
      clear hx24
      rw [HL.out] at k23a k23b k23c k24a k24b k24c
      go_wp2_with fail
      rw [← HL.out]
      clear k23a k23b k23c k24a k24b k24c
      refine (quo3_c _ _ _ (62 * m) (62 * n) hq23 hq24).mono ?_
      rintro e w25 ⟨_, rfl, hd, hor⟩
      rcases hor with ⟨_, v, rfl, hv⟩ | ⟨hs2, _⟩
      rotate_left
      · exact absurd ((halfQ_small _).2 hs) hs2
      obtain ⟨s25, A25, n25, c25, B25, m25, d25, rfl⟩ := hv.shape
      clear hq23 hq24
      obtain ⟨W25, hW25⟩ : ∃ W25, W25 = w25.alloc (.cells #[.bool s25, .slice A25 n25 c25, .slice B25 m25 d25] 25) := ⟨_, rfl⟩
      have hda : Below w25.heap.size w25 W25 := by rw [hW25]; exact (Below.refl _ _).alloc (Nat.le_refl _) _
      have hdn := below_next hd hda
      have HBx := hide (show BoxR W25 w25.heap.size (halfQ (62 * m + 62 * n)) (3884) from ⟨_, _, _, _, _, _, _, by rw [hW25]; exact at_new _ _, hv.below hda⟩)
      replace HBa := hide (HBa.out.below hdn)
      replace HBb := hide (HBb.out.below hdn)
      replace HBc := hide (HBc.out.below hdn)
      replace HBd := hide (HBd.out.below hdn)
      replace HW := hide (below_next HW.out hdn)
      clear HL
      have HL := hide hW25
      clear hW25 hd hda hdn hv
      obtain ⟨z1, hz1⟩ : ∃ z, z = sgnQ (halfQ (62 * m + 62 * n) - halfQ (62 * m)) := ⟨_, rfl⟩
      obtain ⟨z2, hz2⟩ : ∃ z, z = sgnQ (twoQ (62 * m + 62 * n) - twoQ (62 * m)) := ⟨_, rfl⟩
      have c4 : decide (z1 ≤ 0) = true := by apply decide_eq_true; rw [hz1]; exact half_cmp _ _
      have c5 : decide (0 ≤ z2) = true := by apply decide_eq_true; rw [hz2]; exact two_cmp _ _
      have HZ := hide (And.intro hz1 hz2)
      clear hz1 hz2
      obtain ⟨s26, A26, n26, c26, B26, m26, d26, hx26, hq26⟩ := HBx.out
      obtain ⟨k26a, k26b, k26c⟩ := three_cells hx26
      clear hx26
      obtain ⟨s27, A27, n27, c27, B27, m27, d27, hx27, hq27⟩ := HBd.out
      obtain ⟨k27a, k27b, k27c⟩ := three_cells hx27
      clear hx27
      rw [HL.out] at k26a k26b k26c k27a k27b k27c
      go_wp2_with fail
      rw [← HL.out]
      clear k26a k26b k26c k27a k27b k27c
      refine (cmp_q _ _ _ (halfQ (62 * m + 62 * n)) (halfQ (62 * m)) 3884 hq26 (hq27.more (by omega)) (by omega)).mono ?_
      rintro e w28 ⟨_, rfl, rfl, hd⟩
      rw [← HZ.out.1]
      clear hq26 hq27
      clear HL
      replace HBa := hide (HBa.out.below hd)
      replace HBb := hide (HBb.out.below hd)
      replace HBc := hide (HBc.out.below hd)
      replace HBd := hide (HBd.out.below hd)
      replace HBx := hide (HBx.out.below hd)
      replace HW := hide (below_next HW.out hd)
      clear hd
      obtain ⟨s29, A29, n29, c29, B29, m29, d29, hx29, hq29⟩ := HBc.out
      obtain ⟨k29a, k29b, k29c⟩ := three_cells hx29
      clear hx29
      obtain ⟨s30, A30, n30, c30, B30, m30, d30, hx30, hq30⟩ := HBa.out
      obtain ⟨k30a, k30b, k30c⟩ := three_cells hx30
      clear hx30
      go_wp2_with fail
      clear k29a k29b k29c k30a k30b k30c
      refine (cmp_q _ _ _ (twoQ (62 * m + 62 * n)) (twoQ (62 * m)) 3884 hq29 (hq30.more (by omega)) (by omega)).mono ?_
      rintro e w31 ⟨_, rfl, rfl, hd⟩
      rw [← HZ.out.2]
      clear hq29 hq30
      replace HBa := hide (HBa.out.below hd)
      replace HBb := hide (HBb.out.below hd)
      replace HBc := hide (HBc.out.below hd)
      replace HBd := hide (HBd.out.below hd)
      replace HBx := hide (HBx.out.below hd)
      replace HW := hide (below_next HW.out hd)
      clear hd
      go_wp2_with fail
      refine (awake_c _).mono ?_
      rintro e w32 ⟨_, rfl, rfl, hd⟩
      replace HW := hide (below_next HW.out hd)
      clear hd
      go_wp2
      go_ret
      exact ⟨_, rfl, rfl, HW.out⟩
    · have c3 : decide ((100000 : Int) ≤ 62 * (m : Int) + 62 * (n : Int)) = true := by apply decide_eq_true; omega
      obtain ⟨s15, A15, n15, c15, B15, m15, d15, hx15, hq15⟩ := HBa.out
      obtain ⟨k15a, k15b, k15c⟩ := three_cells hx15
      clear hx15
      obtain ⟨s16, A16, n16, c16, B16, m16, d16, hx16, hq16⟩ := HBb.out
      obtain ⟨k16a, k16b, k16c⟩ := three_cells hx16
      clear hx16
      rw [HL.out] at k15a k15b k15c k16a k16b k16c
      go_wp2_with fail
      rw [← HL.out]
      clear k15a k15b k15c k16a k16b k16c
      refine (mul2_c _ _ _ (62 * m) (62 * n) hq15 hq16).mono ?_
      rintro e w17 ⟨_, rfl, hd, hor⟩
      rcases hor with ⟨hs2, _⟩ | ⟨_, v, rfl, hv⟩
      · exact absurd hs2 (fun h => hs ((twoQ_small _).1 h))
      obtain ⟨s17, A17, n17, c17, B17, m17, d17, rfl⟩ := hv.shape
      clear hq15 hq16
      obtain ⟨W17, hW17⟩ : ∃ W17, W17 = w17.alloc (.cells #[.bool s17, .slice A17 n17 c17, .slice B17 m17 d17] 25) := ⟨_, rfl⟩
      have hda : Below w17.heap.size w17 W17 := by rw [hW17]; exact (Below.refl _ _).alloc (Nat.le_refl _) _
      have hdn := below_next hd hda
      have HBc := hide (show BoxR W17 w17.heap.size (0) (3884) from ⟨_, _, _, _, _, _, _, by rw [hW17]; exact at_new _ _, hv.below hda⟩)
      replace HBa := hide (HBa.out.below hdn)
      replace HBb := hide (HBb.out.below hdn)
      replace HW := hide (below_next HW.out hdn)
      clear HL
      have HL := hide hW17
      clear hW17 hd hda hdn hv
      obtain ⟨s18, A18, n18, c18, B18, m18, d18, hx18, hq18⟩ := HBc.out
      obtain ⟨k18a, k18b, k18c⟩ := three_cells hx18
      clear hx18
      rw [HL.out] at k18a k18b k18c
      go_wp2_with fail
      rw [← HL.out]
      clear k18a k18b k18c
      refine (sign_q _ _ 0 3884 hq18).mono ?_
      rintro e w19 ⟨_, rfl, rfl, hd⟩
      rw [show sgnQ 0 = 0 from rfl]
      clear hq18
      clear HL
      replace HBa := hide (HBa.out.below hd)
      replace HBb := hide (HBb.out.below hd)
      replace HBc := hide (HBc.out.below hd)
      replace HW := hide (below_next HW.out hd)
      clear hd
      obtain ⟨s20, A20, n20, c20, B20, m20, d20, hx20, hq20⟩ := HBa.out
      obtain ⟨k20a, k20b, k20c⟩ := three_cells hx20
      clear hx20
      go_wp2_with fail
      clear k20a k20b k20c
      refine (quo1_c _ _ _ (62 * m) hq20 hq20).mono ?_
      rintro e w21 ⟨_, rfl, hd, hor⟩
      rcases hor with ⟨_, v, rfl, hv⟩ | ⟨hs2, _⟩
      rotate_left
      · exact absurd (one_small) hs2
      obtain ⟨s21, A21, n21, c21, B21, m21, d21, rfl⟩ := hv.shape
      clear hq20
      replace hv := hv.fit (one_fit)
      obtain ⟨W21, hW21⟩ : ∃ W21, W21 = w21.alloc (.cells #[.bool s21, .slice A21 n21 c21, .slice B21 m21 d21] 25) := ⟨_, rfl⟩
      have hda : Below w21.heap.size w21 W21 := by rw [hW21]; exact (Below.refl _ _).alloc (Nat.le_refl _) _
      have hdn := below_next hd hda
      have HBo := hide (show BoxR W21 w21.heap.size (1) (1940) from ⟨_, _, _, _, _, _, _, by rw [hW21]; exact at_new _ _, hv.below hda⟩)
      replace HBa := hide (HBa.out.below hdn)
      replace HBb := hide (HBb.out.below hdn)
      replace HBc := hide (HBc.out.below hdn)
      replace HW := hide (below_next HW.out hdn)
      skip
      have HL := hide hW21
      clear hW21 hd hda hdn hv
      obtain ⟨s22, A22, n22, c22, B22, m22, d22, hx22, hq22⟩ := HBo.out
      obtain ⟨k22a, k22b, k22c⟩ := three_cells hx22
      clear hx22
      obtain ⟨s23, A23, n23, c23, B23, m23, d23, hx23, hq23⟩ := HBa.out
      obtain ⟨k23a, k23b, k23c⟩ := three_cells hx23
      clear hx23
      rw [HL.out] at k22a k22b k22c k23a k23b k23c
      go_wp2_with fail
      rw [← HL.out]
      clear k22a k22b k22c k23a k23b k23c
      refine (quo2_c _ _ _ (62 * m) hq22 hq23).mono ?_
      rintro e w24 ⟨_, rfl, hd, hor⟩
      rcases hor with ⟨_, v, rfl, hv⟩ | ⟨hs2, _⟩
      rotate_left
      · exact absurd ((halfQ_small _).2 (by omega)) hs2
      obtain ⟨s24, A24, n24, c24, B24, m24, d24, rfl⟩ := hv.shape
      clear hq22 hq23
      replace hv := hv.fit (halfQ_fit (L := 1940) (by omega) (by omega))
      obtain ⟨W24, hW24⟩ : ∃ W24, W24 = w24.alloc (.cells #[.bool s24, .slice A24 n24 c24, .slice B24 m24 d24] 25) := ⟨_, rfl⟩
      have hda : Below w24.heap.size w24 W24 := by rw [hW24]; exact (Below.refl _ _).alloc (Nat.le_refl _) _
      have hdn := below_next hd hda
      have HBd := hide (show BoxR W24 w24.heap.size (halfQ (62 * m)) (1940) from ⟨_, _, _, _, _, _, _, by rw [hW24]; exact at_new _ _, hv.below hda⟩)
      replace HBa := hide (HBa.out.below hdn)
      replace HBb := hide (HBb.out.below hdn)
      replace HBc := hide (HBc.out.below hdn)
      replace HBo := hide (HBo.out.below hdn)
      replace HW := hide (below_next HW.out hdn)
      clear HL
      have HL := hide hW24
      clear hW24 hd hda hdn hv
      clear HBo
      obtain ⟨s25, A25, n25, c25, B25, m25, d25, hx25, hq25⟩ := HBd.out
      obtain ⟨k25a, k25b, k25c⟩ := three_cells hx25
      clear hx25
      obtain ⟨s26, A26, n26, c26, B26, m26, d26, hx26, hq26⟩ := HBb.out
      obtain ⟨k26a, k26b, k26c⟩ := three_cells hx26
      clear hx26
      rw [HL.out] at k25a k25b k25c k26a k26b k26c
      go_wp2_with fail
      rw [← HL.out]
      clear k25a k25b k25c k26a k26b k26c
      refine (quo3_c _ _ _ (62 * m) (62 * n) hq25 hq26).mono ?_
      rintro e w27 ⟨_, rfl, hd, hor⟩
      rcases hor with ⟨hs2, _⟩ | ⟨_, v, rfl, hv⟩
      · exact absurd hs2 (fun h => hs ((halfQ_small _).1 h))
      obtain ⟨s27, A27, n27, c27, B27, m27, d27, rfl⟩ := hv.shape
      clear hq25 hq26
      obtain ⟨W27, hW27⟩ : ∃ W27, W27 = w27.alloc (.cells #[.bool s27, .slice A27 n27 c27, .slice B27 m27 d27] 25) := ⟨_, rfl⟩
      have hda : Below w27.heap.size w27 W27 := by rw [hW27]; exact (Below.refl _ _).alloc (Nat.le_refl _) _
      have hdn := below_next hd hda
      have HBx := hide (show BoxR W27 w27.heap.size (0) (3884) from ⟨_, _, _, _, _, _, _, by rw [hW27]; exact at_new _ _, hv.below hda⟩)
      replace HBa := hide (HBa.out.below hdn)
      replace HBb := hide (HBb.out.below hdn)
      replace HBc := hide (HBc.out.below hdn)
      replace HBd := hide (HBd.out.below hdn)
      replace HW := hide (below_next HW.out hdn)
      clear HL
      have HL := hide hW27
      clear hW27 hd hda hdn hv
      go_wp2_with fail
      rw [← HL.out]
      refine (awake_c _).mono ?_
      rintro e w28 ⟨_, rfl, rfl, hd⟩
      replace HW := hide (below_next HW.out hd)
      clear hd
      go_wp2
      go_ret
      exact ⟨_, rfl, rfl, HW.out⟩
end Go.Proofs.Ythnnbpnocefmgaa
