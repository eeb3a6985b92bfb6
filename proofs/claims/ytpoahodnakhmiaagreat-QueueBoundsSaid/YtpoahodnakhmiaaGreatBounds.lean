/- Walks: the law QueueBounds. -/
import Derived.Test.YtpoahodnakhmiaaGreatQAwake
import Derived.Test.YtpoahodnakhmiaaGreatTameW
import Derived.Test.YtpoahodnakhmiaaGreatBoundL
namespace Go.Proofs.YtpoahodnakhmiaaGreat
set_option linter.unusedVariables false
set_option linter.unusedSimpArgs false
open Go.RowKit
set_option maxRecDepth 100000 in
set_option maxHeartbeats 8000000 in
theorem bounds_law (w0 : World) (va vb : Value) (rs : List Int) (ws : List (List Int)) (T : TypeId) (a0 a1 : Int) (ha : IntsE w0 va rs) (hb : LstV T 1 IntsE w0 vb ws) :
    Calls Tryz.prog 9 #[va, vb, .agg #[.int .i64 a0, .int .i64 a1]] w0 (Ret (fun v w' => v = .bool true ∧ Below w0.heap.size w0 w')) := by
  obtain ⟨A1, c1, rfl, hl1, hm1, -⟩ := ha.at_
  obtain ⟨A2, c2, rfl, hl2, hm2, -⟩ := id hb
  obtain ⟨w, hw⟩ : ∃ w, w = w0.alloc (.cells #[.int .i64 a0, .int .i64 a1] 78) := ⟨_, rfl⟩
  have hbw : Below w0.heap.size w0 w := by rw [hw]; exact below_al (Below.refl _ _) _
  have hof : w.heap[w0.heap.size]? = some (.cells #[.int .i64 a0, .int .i64 a1] 78 (0, 0)) := by rw [hw]; exact at_new _ _
  replace ha := ha.below hbw
  replace hb := hb.below stB_ints hbw
  have HOF := hide hof
  have HBW := hide hbw
  have HL0 := hide hw
  clear hof hbw hw
  obtain ⟨N, hN⟩ : ∃ N, N = max 1 (min rs.length 5) := ⟨_, rfl⟩
  have hN1 : 1 ≤ N := by omega
  have hN6 : N ≤ 6 := by omega
  have hTS := tameT N rs ws (by omega) hN6
  have hSG := hTS.shopG
  have hvp := hTS.ringE.vis_pos (by rw [hTS.rowsE]; exact hTS.sys)
  obtain ⟨R, hR⟩ : ∃ R, R = tR N (aT rs) (bT rs) := ⟨_, rfl⟩
  obtain ⟨Ws, hWs⟩ : ∃ Ws, Ws = tW N (cT N ws) := ⟨_, rfl⟩
  have hgv := hTS.give
  rw [← hWs] at hvp
  rw [← hR, ← hWs] at hSG hgv
  have hRl : R.length = N := by rw [hR]; exact tR_length _ _ _
  have HRl := hide hRl
  have H0 := hide (And.intro ha (And.intro hb True.intro))
  have HG := hide hgv
  have HS := hide hSG
  have HM := hide hvp
  have HT := hide (And.intro hN (And.intro hR hWs))
  clear ha hb hgv hSG hTS hRl hN hR hWs hvp
  go_enter Tryz.func9, Tryz.ntmps9
  go_upto_region 1 with fail
  rw [← HL0.out]
  go_wp2_with fail
  refine (tame_c _ _ _ rs ws T 5 N H0.out.1 H0.out.2.1 (by omega) HT.out.1).mono ?_
  rintro e w1 ⟨v1, rfl, hv1, hd1⟩
  rw [← HT.out.2.1, ← HT.out.2.2] at hv1
  have HV1 := hide hv1
  obtain ⟨ra, wa, rfl, hra, hwa⟩ := hv1
  obtain ⟨Ar, cr, rfl, hcr, hmr, -⟩ := id hra
  obtain ⟨Aw, cw, rfl, -, -, -⟩ := id hwa
  obtain ⟨W1, hW1⟩ : ∃ W1, W1 = w1.alloc (.cells #[.slice Ar R.length cr, .slice Aw Ws.length cw] 28) := ⟨_, rfl⟩
  have hb1 : Below w1.heap.size w1 W1 := by rw [hW1]; exact below_al (Below.refl _ _) _
  have hx1 : W1.heap[w1.heap.size]? = some (.cells #[.slice Ar R.length cr, .slice Aw Ws.length cw] 28 (0, 0)) := by rw [hW1]; exact at_new _ _
  have hd2 := below_next hd1 hb1
  have H1 := hide (And.intro True.intro (And.intro hx1 (And.intro (HV1.out.below hb1) hd2)))
  have HL1 := hide hW1
  obtain ⟨x0, x1, -, -⟩ := two_cells hx1
  have hl1x := lt_of_block hx1
  clear hra hwa hd1 hb1 hx1 hd2 hW1 HV1
  go_upto_region 2 with fail
  rw [← HL1.out]
  go_wp2_with fail
  refine (give_c _ _ R Ws 3 H1.out.2.2.1 (by omega) HG.out.1 HG.out.2.1 HG.out.2.2.1 HG.out.2.2.2.1 HG.out.2.2.2.2).mono ?_
  rintro e w2 ⟨v2, rfl, hv2, hd3⟩
  replace hv2 := hv2.upS (show 1 ≤ 3000 by omega)
  have HV2 := hide hv2
  obtain ⟨rb, wb, rfl, hrb, hwb⟩ := hv2
  obtain ⟨Ab, cb, rfl, -, -, -⟩ := id hrb
  obtain ⟨Ac, cc, rfl, -, -, -⟩ := id hwb
  obtain ⟨W2, hW2⟩ : ∃ W2, W2 = w2.alloc (.cells #[.slice Ab R.length cb, .slice Ac Ws.length cc] 33) := ⟨_, rfl⟩
  have hb2 : Below w2.heap.size w2 W2 := by rw [hW2]; exact below_al (Below.refl _ _) _
  have hx2 : W2.heap[w2.heap.size]? = some (.cells #[.slice Ab R.length cb, .slice Ac Ws.length cc] 33 (0, 0)) := by rw [hW2]; exact at_new _ _
  have hd4 := below_next hd3 hb2
  have hxo := at_later H1.out.2.1 hd4
  have H2 := hide (And.intro True.intro (And.intro hxo (And.intro hx2 (And.intro (HV2.out.below hb2) (below_next H1.out.2.2.2 hd4)))))
  have HL2 := hide hW2
  clear x0 x1 hl1x
  obtain ⟨x0, x1, -, -⟩ := two_cells hxo
  have hl1x := lt_of_block hxo
  have HGV0 := hide (H1.out.2.2.1.below hd4)
  have HOF2 := hide (at_later HOF.out (below_next H1.out.2.2.2 hd4))
  obtain ⟨v0, v1, -, -⟩ := two_cells HOF2.out
  have hlv := lt_of_block HOF2.out
  clear hrb hwb hd3 hb2 hx2 hd4 hxo hW2 HV2
  go_upto_region 3 with fail
  rw [← HL2.out]
  rw [HRl.out] at x0 H1 H2 HL2 hcr HGV0 ⊢
  have hu0 := uQ_range a0
  have hu1 := uQ_range a1
  obtain ⟨n, hn⟩ : ∃ n : Nat, (n : Int) = uQ a0 % 12 := ⟨(uQ a0 % 12).toNat, by omega⟩
  obtain ⟨i, hi⟩ : ∃ i : Nat, (i : Int) = uQ a1 % (N : Int) := ⟨(uQ a1 % (N : Int)).toNat, by have := Int.emod_nonneg (uQ a1) (show (N : Int) ≠ 0 by omega); omega⟩
  have hn11 : n ≤ 11 := by omega
  have hiN : i < N := by have := Int.emod_lt_of_pos (uQ a1) (show (0 : Int) < (N : Int) by omega); omega
  have e0 : wrap64 ((IntKind.u64.wrap a0).tmod 12) = (n : Int) := by
    rw [← IntWalk.i64_left, show IntKind.u64.wrap a0 = uQ a0 from rfl, Int.tmod_eq_emod_of_nonneg hu0.1, IntWalk.i64_in (uQ a0 % 12) (by omega), hn]
  have e1 : wrap64 ((IntKind.u64.wrap a1).tmod (N : Int)) = (i : Int) := by
    rw [← IntWalk.i64_left, show IntKind.u64.wrap a1 = uQ a1 from rfl, Int.tmod_eq_emod_of_nonneg hu1.1, IntWalk.i64_in _ (by omega), hi]
  have q1 : (N : Int) ≠ 0 := by omega
  have HE := hide (And.intro e0 e1)
  clear e0 e1 hn hi hu0 hu1
  have HX := hide H2.out.2.2.1
  have HO := hide H2.out.2.1
  have HSV := hide H2.out.2.2.2.1
  have HW := hide (HBW.out.trans (H2.out.2.2.2.2.mono HBW.out.size))
  obtain ⟨qa, qb, e, hqr, -⟩ := HGV0.out
  injection e with e
  simp only [Array.mk.injEq, List.cons.injEq, and_true] at e
  obtain ⟨rfl, rfl⟩ := e
  obtain ⟨bq, oq, rfl, hqx⟩ := QRowE.x hqr (by rw [HRl.out]; omega)
  have HQR := hide hqx
  have HGq := hide HG.out.2.2.2.1
  go_upto_region 4 with fail
  rw [HE.out.1]
  go_upto_region 5 with fail
  rw [HE.out.2]
  clear hqr hqx H2 H1 H0 HL1 HL2 HT x0 x1 hl1x HE HG HGV0 W1 v0 v1 hlv HOF HOF2 HBW HL0 q1
  obtain ⟨y0, y1, -, -⟩ := two_cells HX.out
  have hly := lt_of_block HX.out
  go_wp2_with fail
  refine (Speed_c _ _ N i (n : Int) R Ws HSV.out HS.out hiN (by omega) (by omega)).mono ?_
  rintro e w101 ⟨_, rfl, r101, rfl, hr101, hd⟩
  clear y0 y1 hly
  obtain ⟨s101, A101, n101, c101, B101, m101, d101, rfl⟩ := hr101.shape
  obtain ⟨W101, hW101⟩ : ∃ W101, W101 = w101.alloc (.cells #[.bool s101, .slice A101 n101 c101, .slice B101 m101 d101] 43) := ⟨_, rfl⟩
  have hda : Below w101.heap.size w101 W101 := by rw [hW101]; exact below_al (Below.refl _ _) _
  have hdn := below_next hd hda
  have HBa := hide (show BoxR W101 w101.heap.size (spQ N R Ws i (n : Int)) 3000 from ⟨_, _, _, _, _, _, _, by rw [hW101]; exact at_new _ _, hr101.below hda⟩)
  have HL := hide hW101
  replace HX := hide (at_later HX.out hdn)
  replace HO := hide (at_later HO.out hdn)
  replace HSV := hide (HSV.out.below hdn)
  replace HQR := hide (HQR.out.below hdn)
  replace HW := hide (below_next HW.out hdn)
  clear hd hda hdn hr101 hW101
  go_upto_region 6 with fail
  rw [← HL.out]
  clear HL
  obtain ⟨y0, y1, -, -⟩ := two_cells HX.out
  have hly := lt_of_block HX.out
  go_wp2_with fail
  refine (Speed_c _ _ N i ((n : Int) + 1) R Ws HSV.out HS.out hiN (by omega) (by omega)).mono ?_
  rintro e w102 ⟨_, rfl, r102, rfl, hr102, hd⟩
  clear y0 y1 hly
  obtain ⟨s102, A102, n102, c102, B102, m102, d102, rfl⟩ := hr102.shape
  obtain ⟨W102, hW102⟩ : ∃ W102, W102 = w102.alloc (.cells #[.bool s102, .slice A102 n102 c102, .slice B102 m102 d102] 43) := ⟨_, rfl⟩
  have hda : Below w102.heap.size w102 W102 := by rw [hW102]; exact below_al (Below.refl _ _) _
  have hdn := below_next hd hda
  have HBb := hide (show BoxR W102 w102.heap.size (spQ N R Ws i ((n : Int) + 1)) 3000 from ⟨_, _, _, _, _, _, _, by rw [hW102]; exact at_new _ _, hr102.below hda⟩)
  have HL := hide hW102
  replace HX := hide (at_later HX.out hdn)
  replace HO := hide (at_later HO.out hdn)
  replace HSV := hide (HSV.out.below hdn)
  replace HQR := hide (HQR.out.below hdn)
  replace HBa := hide (HBa.out.below hdn)
  replace HW := hide (below_next HW.out hdn)
  clear hd hda hdn hr102 hW102
  go_upto_region 7 with fail
  rw [← HL.out]
  clear HL
  obtain ⟨y0, y1, -, -⟩ := two_cells HX.out
  have hly := lt_of_block HX.out
  go_wp2_with fail
  refine (Visits_c _ _ N R Ws HSV.out HS.out).mono ?_
  rintro e w103 ⟨_, rfl, r103, rfl, hr103, hd⟩
  obtain ⟨Av, cv, rfl, hcv, hmv, -⟩ := id hr103
  obtain ⟨bv, ov, rfl, hvx⟩ := RowV.x hr103 (by rw [HS.out.vlen]; omega) (vF N Ws) (fun j hj => rfl)
  rw [HS.out.vlen] at hcv hvx ⊢
  unfold maxLen at hmv
  have HVX := hide hvx
  clear hr103 hvx
  clear y0 y1 hly
  replace HX := hide (at_later HX.out hd)
  replace HO := hide (at_later HO.out hd)
  replace HSV := hide (HSV.out.below hd)
  replace HQR := hide (HQR.out.below hd)
  replace HBa := hide (HBa.out.below hd)
  replace HBb := hide (HBb.out.below hd)
  replace HW := hide (below_next HW.out hd)
  clear hd
  obtain ⟨y0, y1, -, -⟩ := two_cells HX.out
  have hly := lt_of_block HX.out
  go_wp2_with fail
  refine (Bottleneck_c _ _ N R Ws HSV.out HS.out).mono ?_
  rintro e w104 ⟨_, rfl, j, Al, cl, rfl, hjN, hjle, hcl, hml, harr, hd⟩
  obtain ⟨b, rest, hbot, hbN, hbl⟩ := botN_head (l := ldF N R Ws) hjN
  rw [hbot] at harr hcl ⊢
  obtain ⟨bb0, ob0, rfl, -, harr2⟩ := harr.at_ (by simp [natsI])
  have hc0 := harr2 0 (by simp [natsI])
  rw [Nat.add_zero, show (natsI (b :: rest)).getD 0 0 = (b : Int) by simp [natsI]] at hc0
  have HC := hide hc0
  have hlen1 : (b :: rest).length = rest.length + 1 := rfl
  rw [hlen1] at hcl ⊢
  unfold maxLen at hml
  have hrest : rest.length ≤ 100 := by
    have h1 := botN_le (ldF N R Ws) (ldF N R Ws j) N
    rw [hbot, hlen1] at h1; omega
  clear harr harr2 hc0 hbot hjle hlen1
  clear y0 y1 hly
  replace HX := hide (at_later HX.out hd)
  replace HO := hide (at_later HO.out hd)
  replace HSV := hide (HSV.out.below hd)
  replace HQR := hide (HQR.out.below hd)
  replace HBa := hide (HBa.out.below hd)
  replace HBb := hide (HBb.out.below hd)
  replace HVX := hide (HVX.out.below hd)
  replace HW := hide (below_next HW.out hd)
  clear hd
  obtain ⟨s105, A105, n105, c105, B105, m105, d105, hx105, hq105⟩ := HBa.out
  obtain ⟨x0, x1, x2⟩ := three_cells hx105
  have hlx := lt_of_block hx105
  obtain ⟨s106, A106, n106, c106, B106, m106, d106, hx106, hq106⟩ := HBb.out
  obtain ⟨z0, z1, z2⟩ := three_cells hx106
  have hlz := lt_of_block hx106
  have HQa := hide hq105
  have HQb := hide hq106
  clear hx105 hx106 hq105 hq106
  have j1 : ¬ ((rest.length : Int) + 1 = 0) := by omega
  go_wp2_with fail
  refine (cmp_q _ _ _ (spQ N R Ws i (n : Int)) (spQ N R Ws i ((n : Int) + 1)) 3000 HQa.out HQb.out (by omega)).mono ?_
  rintro e w107 ⟨_, rfl, rfl, hd⟩
  have hsg := sgn_le (HS.out.sp_mono HM.out i n hiN)
  generalize sgnQ (spQ N R Ws i (n : Int) - spQ N R Ws i ((n : Int) + 1)) = σ at hsg ⊢
  clear x0 x1 x2 z0 z1 z2 hlx hlz HQa HQb
  have jor : ¬ (((rest.length : Int) + 1 == 0) = true ∨ 0 < σ) := by
    rintro (h | h)
    · have := eq_of_beq h; omega
    · exact hsg h
  replace HX := hide (at_later HX.out hd)
  replace HO := hide (at_later HO.out hd)
  replace HSV := hide (HSV.out.below hd)
  replace HQR := hide (HQR.out.below hd)
  replace HBa := hide (HBa.out.below hd)
  replace HBb := hide (HBb.out.below hd)
  replace HVX := hide (HVX.out.below hd)
  replace HC := hide ((hd.cell (lt_of_cell HC.out)).trans HC.out)
  replace HW := hide (below_next HW.out hd)
  clear hd
  clear HBa
  have hf14 : FracQ 6 (R.getD b 0) := HGq.out _ (getD_memQ R b (by rw [HRl.out]; exact hbN))
  have HF14 := hide hf14
  clear hf14
  go_upto_region 11 with fail
  go_cut [19, 20] (fun s19 s20 wx => (∃ g : Nat, s19 = .pointer (some ⟨g, 0, none⟩) ∧ w107.heap.size ≤ g ∧ BoxR wx g (ldF N R Ws b) 3000 ∧ Below w107.heap.size w107 wx) ∧ s20 = .int .i64 0)
  case first =>
    as_aux_lemma =>
      have j1 : (b : Int) < (N : Int) := by omega
      have j2 : (0 : Int) < (rest.length : Int) + 1 := by omega
      obtain ⟨s108, A108, n108, c108, B108, m108, d108, e108a, e108b, e108c, hq108⟩ := (HVX.out (b) hbN).rat
      have e109a := (two_cells HO.out).1
      have e110a := HC.out
      obtain ⟨s111, A111, n111, c111, B111, m111, d111, e111a, e111b, e111c, e111d, hq111⟩ := HQR.out (b) (by rw [HRl.out]; exact hbN)
      have hS : ∀ w', Below w107.heap.size w107 w' → (w'.cell? ⟨bv, ov + (b) * 3, none⟩ = some (.bool s108) ∧ w'.cell? ⟨bv, ov + (b) * 3 + 1, none⟩ = some (.slice A108 n108 c108) ∧ w'.cell? ⟨bv, ov + (b) * 3 + 2, none⟩ = some (.slice B108 m108 d108)) ∧ w'.cell? ⟨w1.heap.size, 0, none⟩ = some (.slice (some ⟨bq, oq, none⟩) N cr) ∧ w'.cell? ⟨bb0, ob0, none⟩ = some (.int .i64 (b : Int)) ∧ (w'.cell? ⟨bq, oq + (b) * 4, none⟩ = some (.bool s111) ∧ w'.cell? ⟨bq, oq + (b) * 4 + 1, none⟩ = some (.slice A111 n111 c111) ∧ w'.cell? ⟨bq, oq + (b) * 4 + 2, none⟩ = some (.bool false) ∧ w'.cell? ⟨bq, oq + (b) * 4 + 3, none⟩ = some (.slice B111 m111 d111)) := fun w' h => by
        have eC : ∀ b o v, w107.cell? ⟨b, o, none⟩ = some v → w'.cell? ⟨b, o, none⟩ = some v := fun b o v hv => (h.cell (lt_of_cell hv)).trans hv
        exact ⟨⟨eC _ _ _ e108a, eC _ _ _ e108b, eC _ _ _ e108c⟩, eC _ _ _ e109a, eC _ _ _ e110a, ⟨eC _ _ _ e111a, eC _ _ _ e111b, eC _ _ _ e111c, eC _ _ _ e111d⟩⟩
      have hdr : Below w107.heap.size w107 w107.drew := (Below.refl _ _).drew
      have HSS := hide hS
      have HQS := hide (And.intro hq108 (And.intro hq111 trivial))
      clear hS e108a e108b e108c hq108 e109a e110a e111a e111b e111c e111d hq111
      refine till_begin (fun w' => (w'.cell? ⟨bv, ov + (b) * 3, none⟩ = some (.bool s108) ∧ w'.cell? ⟨bv, ov + (b) * 3 + 1, none⟩ = some (.slice A108 n108 c108) ∧ w'.cell? ⟨bv, ov + (b) * 3 + 2, none⟩ = some (.slice B108 m108 d108)) ∧ w'.cell? ⟨w1.heap.size, 0, none⟩ = some (.slice (some ⟨bq, oq, none⟩) N cr) ∧ w'.cell? ⟨bb0, ob0, none⟩ = some (.int .i64 (b : Int)) ∧ (w'.cell? ⟨bq, oq + (b) * 4, none⟩ = some (.bool s111) ∧ w'.cell? ⟨bq, oq + (b) * 4 + 1, none⟩ = some (.slice A111 n111 c111) ∧ w'.cell? ⟨bq, oq + (b) * 4 + 2, none⟩ = some (.bool false) ∧ w'.cell? ⟨bq, oq + (b) * 4 + 3, none⟩ = some (.slice B111 m111 d111))) [0, 1, 2, 3, 4, 5, 6, 7, 8, 9, 10, 11, 12, 13, 14, 15, 16, 17, 18, 19, 20] (by kernel_rfl) (HSS.out _ hdr) (fun hHeld => ?_)
      refine tt (i := 0) hHeld (some 94) ?_
      try simp only [Act.put, ptA, ptB, ptC]
      refine tt (i := 1) hHeld (some 95) ?_
      try simp only [Act.put, ptA, ptB, ptC]
      refine tt (i := 2) hHeld (some 96) ?_
      try simp only [Act.put, ptA, ptB, ptC]
      refine tt (i := 6) hHeld (some 100) ?_
      try simp only [Act.put, ptA, ptB, ptC]
      refine tt (i := 8) hHeld (some 102) ?_
      try simp only [Act.put, ptA, ptB, ptC]
      refine tt (i := 9) hHeld (some 103) ?_
      try simp only [Act.put, ptA, ptB, ptC]
      refine tt (i := 3) hHeld (some 97) ?_
      try simp only [Act.put, ptA, ptB, ptC]
      refine tt (i := 4) hHeld (some 98) ?_
      try simp only [Act.put, ptA, ptB, ptC]
      refine tt (i := 5) hHeld (some 99) ?_
      try simp only [Act.put, ptA, ptB, ptC]
      refine tt (i := 7) hHeld (some 101) ?_
      try simp only [Act.put, ptA, ptB, ptC]
      refine tt (i := 10) hHeld (some 104) ?_
      try simp only [Act.put, ptA, ptB, ptC]
      refine tt (i := 11) hHeld (some 105) ?_
      try simp only [Act.put, ptA, ptB, ptC]
      refine tt (i := 12) hHeld (some 106) ?_
      try simp only [Act.put, ptA, ptB, ptC]
      refine till_ready (rs := [13, 18]) (by kernel_rfl) (by simp) ?_
      refine List.forall_mem_cons.2 ⟨?_, List.forall_mem_cons.2 ⟨?_, fun _ h => absurd h List.not_mem_nil⟩⟩
      · refine till_step rfl (fun K hK => ?_)
        go_simp
        go_at_call 23
        refine (rat_c _ _ (R.getD b 0) 3 (HQS.out.2.1.below hdr) (by omega) HF14.out).mono ?_
        rintro e w1 ⟨v4, rfl, hr4, hd⟩
        replace hr4 : RatV w1 v4 (R.getD b 0) 3000 := hr4.more (by omega)
        obtain ⟨s4, A4, n4, c4, B4, m4, d4, rfl⟩ := hr4.shape
        have H4 := hide hr4
        clear hr4
        try (replace kb := hide (at_later kb.out hd))
        have hg1 : Below w107.heap.size w107 w1 := hdr.trans (hd.mono hdr.size)
        clear hd
        go_wp2_with fail
        refine hK.out _ _ (HSS.out _ hg1) (fun hHeld => ?_)
        clear hK K
        try simp only [Act.put, ptA, ptB, ptC]
        refine till_ready (rs := [14, 18]) (by kernel_rfl) (by simp) ?_
        refine List.forall_mem_cons.2 ⟨?_, List.forall_mem_cons.2 ⟨?_, fun _ h => absurd h List.not_mem_nil⟩⟩
        · refine till_step rfl (fun K hK => ?_)
          go_simp
          go_at_call 22
          refine (quo_q _ _ _ (vF N Ws b) (R.getD b 0) 3000 (HQS.out.1.below hg1) H4.out (by omega) (HS.out.r_ne b hbN)).mono ?_
          rintro e w2 ⟨v5, rfl, hdn⟩
          rw [HS.out.ld_def b hbN] at hdn
          obtain ⟨r5, rfl, hr5, hd⟩ := hdn.ok ((HS.out.ld.fitl b hbN).smallQ (by omega))
          replace hr5 : RatV w2 r5 (ldF N R Ws b) 3000 := hr5.fit ((HS.out.ld.fitl b hbN).more (by omega))
          obtain ⟨s5, A5, n5, c5, B5, m5, d5, rfl⟩ := hr5.shape
          have HR := hide hr5
          clear hr5 hdn
          try (replace kb := hide (at_later kb.out hd))
          have hg2 : Below w107.heap.size w107 w2 := hg1.trans (hd.mono hg1.size)
          clear hd
          go_wp2_with fail
          refine hK.out _ _ (HSS.out _ hg2) (fun hHeld => ?_)
          clear hK K
          try simp only [Act.put, ptA, ptB, ptC]
          refine tt (i := 15) hHeld (some 93) ?_
          try simp only [Act.put, ptA, ptB, ptC]
          refine tt (i := 16) hHeld (some 109) ?_
          try simp only [Act.put, ptA, ptB, ptC]
          refine tt (i := 17) hHeld (some 110) ?_
          try simp only [Act.put, ptA, ptB, ptC]
          refine till_ready (rs := [18]) (by kernel_rfl) (by simp) ?_
          refine mem1 ?_
          refine till_step rfl (fun K hK => ?_)
          go_simp
          have hg3 : Below w107.heap.size w107 (w2.alloc (.cells #[.bool false, .slice none 0 0, .slice none 0 0] 43)) := hg2.alloc hg2.size (.cells #[.bool false, .slice none 0 0, .slice none 0 0] 43)
          have kb := hide (show (w2.alloc (.cells #[.bool false, .slice none 0 0, .slice none 0 0] 43)).heap[w2.heap.size]? = some (.cells #[.bool false, .slice none 0 0, .slice none 0 0] 43) from at_new w2 (.cells #[.bool false, .slice none 0 0, .slice none 0 0] 43))
          have hge : w107.heap.size ≤ w2.heap.size := hg2.size
          have hstep : Below w2.heap.size w2 (w2.alloc (.cells #[.bool false, .slice none 0 0, .slice none 0 0] 43)) := below_al (Below.refl _ _) (.cells #[.bool false, .slice none 0 0, .slice none 0 0] 43)
          generalize w2.alloc (.cells #[.bool false, .slice none 0 0, .slice none 0 0] 43) = w3 at hg3 kb hstep ⊢
          try (replace HR := hide (HR.out.below hstep))
          try (replace H4 := hide (H4.out.below hstep))
          clear hstep
          refine hK.out _ _ (HSS.out _ hg3) (fun hHeld => ?_)
          clear hK K
          try simp only [Act.put, ptA, ptB, ptC]
          refine till_ready (rs := [19]) (by kernel_rfl) (by simp) ?_
          refine mem1 ?_
          refine till_step rfl (fun K hK => ?_)
          obtain ⟨k0, k1, k2⟩ := three_cells kb.out
          obtain ⟨f0, f1, f2⟩ := three_frozen kb.out
          have hlt := lt_of_block kb.out
          go_simp
          have HF := hide (BoxR.stored hge hg3 HR.out kb)
          have hg4 := HF.out.choose_spec.2.2.2
          clear k0 k1 k2 f0 f1 f2
          refine hK.out _ _ (HSS.out _ hg4) (fun hHeld => ?_)
          clear hK K
          try simp only [Act.put, ptA, ptB, ptC]
          refine tt (i := 20) hHeld (some 20) ?_
          try simp only [Act.put, ptA, ptB, ptC]
          refine till_done (by kernel_rfl) ?_ _
          clear hHeld
          go_wp2_with fail
          go_meet
          exact ⟨HF.out, rfl⟩
        · refine till_step rfl (fun K hK => ?_)
          go_simp
          have hg5 : Below w107.heap.size w107 (w1.alloc (.cells #[.bool false, .slice none 0 0, .slice none 0 0] 43)) := hg1.alloc hg1.size (.cells #[.bool false, .slice none 0 0, .slice none 0 0] 43)
          have kb := hide (show (w1.alloc (.cells #[.bool false, .slice none 0 0, .slice none 0 0] 43)).heap[w1.heap.size]? = some (.cells #[.bool false, .slice none 0 0, .slice none 0 0] 43) from at_new w1 (.cells #[.bool false, .slice none 0 0, .slice none 0 0] 43))
          have hge : w107.heap.size ≤ w1.heap.size := hg1.size
          have hstep : Below w1.heap.size w1 (w1.alloc (.cells #[.bool false, .slice none 0 0, .slice none 0 0] 43)) := below_al (Below.refl _ _) (.cells #[.bool false, .slice none 0 0, .slice none 0 0] 43)
          generalize w1.alloc (.cells #[.bool false, .slice none 0 0, .slice none 0 0] 43) = w5 at hg5 kb hstep ⊢
          try (replace HR := hide (HR.out.below hstep))
          try (replace H4 := hide (H4.out.below hstep))
          clear hstep
          refine hK.out _ _ (HSS.out _ hg5) (fun hHeld => ?_)
          clear hK K
          try simp only [Act.put, ptA, ptB, ptC]
          refine till_ready (rs := [14]) (by kernel_rfl) (by simp) ?_
          refine mem1 ?_
          refine till_step rfl (fun K hK => ?_)
          go_simp
          go_at_call 22
          refine (quo_q _ _ _ (vF N Ws b) (R.getD b 0) 3000 (HQS.out.1.below hg5) H4.out (by omega) (HS.out.r_ne b hbN)).mono ?_
          rintro e w6 ⟨v5, rfl, hdn⟩
          rw [HS.out.ld_def b hbN] at hdn
          obtain ⟨r5, rfl, hr5, hd⟩ := hdn.ok ((HS.out.ld.fitl b hbN).smallQ (by omega))
          replace hr5 : RatV w6 r5 (ldF N R Ws b) 3000 := hr5.fit ((HS.out.ld.fitl b hbN).more (by omega))
          obtain ⟨s5, A5, n5, c5, B5, m5, d5, rfl⟩ := hr5.shape
          have HR := hide hr5
          clear hr5 hdn
          try (replace kb := hide (at_later kb.out hd))
          have hg6 : Below w107.heap.size w107 w6 := hg5.trans (hd.mono hg5.size)
          clear hd
          go_wp2_with fail
          refine hK.out _ _ (HSS.out _ hg6) (fun hHeld => ?_)
          clear hK K
          try simp only [Act.put, ptA, ptB, ptC]
          refine tt (i := 15) hHeld (some 93) ?_
          try simp only [Act.put, ptA, ptB, ptC]
          refine tt (i := 16) hHeld (some 109) ?_
          try simp only [Act.put, ptA, ptB, ptC]
          refine tt (i := 17) hHeld (some 110) ?_
          try simp only [Act.put, ptA, ptB, ptC]
          refine till_ready (rs := [19]) (by kernel_rfl) (by simp) ?_
          refine mem1 ?_
          refine till_step rfl (fun K hK => ?_)
          obtain ⟨k0, k1, k2⟩ := three_cells kb.out
          obtain ⟨f0, f1, f2⟩ := three_frozen kb.out
          have hlt := lt_of_block kb.out
          go_simp
          have HF := hide (BoxR.stored hge hg6 HR.out kb)
          have hg7 := HF.out.choose_spec.2.2.2
          clear k0 k1 k2 f0 f1 f2
          refine hK.out _ _ (HSS.out _ hg7) (fun hHeld => ?_)
          clear hK K
          try simp only [Act.put, ptA, ptB, ptC]
          refine tt (i := 20) hHeld (some 20) ?_
          try simp only [Act.put, ptA, ptB, ptC]
          refine till_done (by kernel_rfl) ?_ _
          clear hHeld
          go_wp2_with fail
          go_meet
          exact ⟨HF.out, rfl⟩
      · refine till_step rfl (fun K hK => ?_)
        go_simp
        have hg8 : Below w107.heap.size w107 ((w107.alloc (.cells #[.bool false, .slice none 0 0, .slice none 0 0] 43)).drew) := (below_al (Below.refl _ _) (.cells #[.bool false, .slice none 0 0, .slice none 0 0] 43)).drew
        have kb := hide (show ((w107.alloc (.cells #[.bool false, .slice none 0 0, .slice none 0 0] 43)).drew).heap[w107.heap.size]? = some (.cells #[.bool false, .slice none 0 0, .slice none 0 0] 43) from at_new w107 (.cells #[.bool false, .slice none 0 0, .slice none 0 0] 43))
        have hge : w107.heap.size ≤ w107.heap.size := Nat.le_refl _
        have hstep : Below w107.heap.size w107 ((w107.alloc (.cells #[.bool false, .slice none 0 0, .slice none 0 0] 43)).drew) := (below_al (Below.refl _ _) (.cells #[.bool false, .slice none 0 0, .slice none 0 0] 43)).drew
        generalize (w107.alloc (.cells #[.bool false, .slice none 0 0, .slice none 0 0] 43)).drew = w8 at hg8 kb hstep ⊢
        try (replace HR := hide (HR.out.below hstep))
        try (replace H4 := hide (H4.out.below hstep))
        clear hstep
        refine hK.out _ _ (HSS.out _ hg8) (fun hHeld => ?_)
        clear hK K
        try simp only [Act.put, ptA, ptB, ptC]
        refine till_ready (rs := [13]) (by kernel_rfl) (by simp) ?_
        refine mem1 ?_
        refine till_step rfl (fun K hK => ?_)
        go_simp
        go_at_call 23
        refine (rat_c _ _ (R.getD b 0) 3 (HQS.out.2.1.below hg8) (by omega) HF14.out).mono ?_
        rintro e w9 ⟨v4, rfl, hr4, hd⟩
        replace hr4 : RatV w9 v4 (R.getD b 0) 3000 := hr4.more (by omega)
        obtain ⟨s4, A4, n4, c4, B4, m4, d4, rfl⟩ := hr4.shape
        have H4 := hide hr4
        clear hr4
        try (replace kb := hide (at_later kb.out hd))
        have hg9 : Below w107.heap.size w107 w9 := hg8.trans (hd.mono hg8.size)
        clear hd
        go_wp2_with fail
        refine hK.out _ _ (HSS.out _ hg9) (fun hHeld => ?_)
        clear hK K
        try simp only [Act.put, ptA, ptB, ptC]
        refine till_ready (rs := [14]) (by kernel_rfl) (by simp) ?_
        refine mem1 ?_
        refine till_step rfl (fun K hK => ?_)
        go_simp
        go_at_call 22
        refine (quo_q _ _ _ (vF N Ws b) (R.getD b 0) 3000 (HQS.out.1.below hg9) H4.out (by omega) (HS.out.r_ne b hbN)).mono ?_
        rintro e w10 ⟨v5, rfl, hdn⟩
        rw [HS.out.ld_def b hbN] at hdn
        obtain ⟨r5, rfl, hr5, hd⟩ := hdn.ok ((HS.out.ld.fitl b hbN).smallQ (by omega))
        replace hr5 : RatV w10 r5 (ldF N R Ws b) 3000 := hr5.fit ((HS.out.ld.fitl b hbN).more (by omega))
        obtain ⟨s5, A5, n5, c5, B5, m5, d5, rfl⟩ := hr5.shape
        have HR := hide hr5
        clear hr5 hdn
        try (replace kb := hide (at_later kb.out hd))
        have hg10 : Below w107.heap.size w107 w10 := hg9.trans (hd.mono hg9.size)
        clear hd
        go_wp2_with fail
        refine hK.out _ _ (HSS.out _ hg10) (fun hHeld => ?_)
        clear hK K
        try simp only [Act.put, ptA, ptB, ptC]
        refine tt (i := 15) hHeld (some 93) ?_
        try simp only [Act.put, ptA, ptB, ptC]
        refine tt (i := 16) hHeld (some 109) ?_
        try simp only [Act.put, ptA, ptB, ptC]
        refine tt (i := 17) hHeld (some 110) ?_
        try simp only [Act.put, ptA, ptB, ptC]
        refine till_ready (rs := [19]) (by kernel_rfl) (by simp) ?_
        refine mem1 ?_
        refine till_step rfl (fun K hK => ?_)
        obtain ⟨k0, k1, k2⟩ := three_cells kb.out
        obtain ⟨f0, f1, f2⟩ := three_frozen kb.out
        have hlt := lt_of_block kb.out
        go_simp
        have HF := hide (BoxR.stored hge hg10 HR.out kb)
        have hg11 := HF.out.choose_spec.2.2.2
        clear k0 k1 k2 f0 f1 f2
        refine hK.out _ _ (HSS.out _ hg11) (fun hHeld => ?_)
        clear hK K
        try simp only [Act.put, ptA, ptB, ptC]
        refine tt (i := 20) hHeld (some 20) ?_
        try simp only [Act.put, ptA, ptB, ptC]
        refine till_done (by kernel_rfl) ?_ _
        clear hHeld
        go_wp2_with fail
        go_meet
        exact ⟨HF.out, rfl⟩
  case rest =>
  obtain ⟨⟨g19, rfl, hgl, hbx, hd⟩, rfl⟩ := hcut
  rename World => w112
  have HB19 := hide hbx
  replace HX := hide (at_later HX.out hd)
  replace HO := hide (at_later HO.out hd)
  replace HSV := hide (HSV.out.below hd)
  replace HQR := hide (HQR.out.below hd)
  replace HBb := hide (HBb.out.below hd)
  replace HVX := hide (HVX.out.below hd)
  replace HC := hide ((hd.cell (lt_of_cell HC.out)).trans HC.out)
  replace HW := hide (below_next HW.out hd)
  clear hgl hbx hd
  clear HF14
  have hlne : ldF N R Ws b ≠ 0 := by have := HS.out.ld.pos b hbN; grind
  go_upto_region 12 with fail
  go_cut [21, 22] (fun s21 s22 wx => (∃ g : Nat, s21 = .pointer (some ⟨g, 0, none⟩) ∧ w112.heap.size ≤ g ∧ BoxR wx g (vF N Ws i / ldF N R Ws b) 3000 ∧ Below w112.heap.size w112 wx) ∧ s22 = .int .i64 0)
  case first =>
    as_aux_lemma =>
      have j1 : (i : Int) < (N : Int) := by omega
      obtain ⟨s113, A113, n113, c113, B113, m113, d113, e113a, e113b, e113c, hq113⟩ := (HVX.out (i) hiN).rat
      obtain ⟨s114, A114, n114, c114, B114, m114, d114, hx114, hq114⟩ := HB19.out
      have hS : ∀ w', Below w112.heap.size w112 w' → (w'.cell? ⟨bv, ov + (i) * 3, none⟩ = some (.bool s113) ∧ w'.cell? ⟨bv, ov + (i) * 3 + 1, none⟩ = some (.slice A113 n113 c113) ∧ w'.cell? ⟨bv, ov + (i) * 3 + 2, none⟩ = some (.slice B113 m113 d113)) ∧ (w'.cell? ⟨g19, 0, none⟩ = some (.bool s114) ∧ w'.cell? ⟨g19, 1, none⟩ = some (.slice A114 n114 c114) ∧ w'.cell? ⟨g19, 2, none⟩ = some (.slice B114 m114 d114)) := fun w' h => by
        have eC : ∀ b o v, w112.cell? ⟨b, o, none⟩ = some v → w'.cell? ⟨b, o, none⟩ = some v := fun b o v hv => (h.cell (lt_of_cell hv)).trans hv
        exact ⟨⟨eC _ _ _ e113a, eC _ _ _ e113b, eC _ _ _ e113c⟩, three_cells (at_later hx114 h)⟩
      have hdr : Below w112.heap.size w112 w112.drew := (Below.refl _ _).drew
      have HSS := hide hS
      have HQS := hide (And.intro hq113 (And.intro hq114 trivial))
      clear hS e113a e113b e113c hq113 hx114 hq114
      refine till_begin (fun w' => (w'.cell? ⟨bv, ov + (i) * 3, none⟩ = some (.bool s113) ∧ w'.cell? ⟨bv, ov + (i) * 3 + 1, none⟩ = some (.slice A113 n113 c113) ∧ w'.cell? ⟨bv, ov + (i) * 3 + 2, none⟩ = some (.slice B113 m113 d113)) ∧ (w'.cell? ⟨g19, 0, none⟩ = some (.bool s114) ∧ w'.cell? ⟨g19, 1, none⟩ = some (.slice A114 n114 c114) ∧ w'.cell? ⟨g19, 2, none⟩ = some (.slice B114 m114 d114))) [0, 1, 2, 3, 4, 5, 6, 7, 8, 9, 10, 11] (by kernel_rfl) (HSS.out _ hdr) (fun hHeld => ?_)
      refine tt (i := 0) hHeld (some 112) ?_
      try simp only [Act.put, ptA, ptB, ptC]
      refine tt (i := 1) hHeld (some 113) ?_
      try simp only [Act.put, ptA, ptB, ptC]
      refine tt (i := 2) hHeld (some 114) ?_
      try simp only [Act.put, ptA, ptB, ptC]
      refine tt (i := 3) hHeld (some 115) ?_
      try simp only [Act.put, ptA, ptB, ptC]
      refine tt (i := 4) hHeld (some 116) ?_
      try simp only [Act.put, ptA, ptB, ptC]
      refine till_ready (rs := [5, 9]) (by kernel_rfl) (by simp) ?_
      refine List.forall_mem_cons.2 ⟨?_, List.forall_mem_cons.2 ⟨?_, fun _ h => absurd h List.not_mem_nil⟩⟩
      · refine till_step rfl (fun K hK => ?_)
        go_simp
        go_at_call 22
        refine (quo_q _ _ _ (vF N Ws i) (ldF N R Ws b) 3000 (HQS.out.1.below hdr) (HQS.out.2.1.below hdr) (by omega) hlne).mono ?_
        rintro e w1 ⟨v5, rfl, hdn⟩
        obtain ⟨r5, rfl, hr5, hd⟩ := hdn.ok (((HS.out.v_fit i hiN).divA (HS.out.ld.fitl b hbN) (hlne)).smallQ (by omega))
        replace hr5 : RatV w1 r5 (vF N Ws i / ldF N R Ws b) 3000 := hr5.fit (((HS.out.v_fit i hiN).divA (HS.out.ld.fitl b hbN) (hlne)).more (by omega))
        obtain ⟨s5, A5, n5, c5, B5, m5, d5, rfl⟩ := hr5.shape
        have HR := hide hr5
        clear hr5 hdn
        try (replace kb := hide (at_later kb.out hd))
        have hg1 : Below w112.heap.size w112 w1 := hdr.trans (hd.mono hdr.size)
        clear hd
        go_wp2_with fail
        refine hK.out _ _ (HSS.out _ hg1) (fun hHeld => ?_)
        clear hK K
        try simp only [Act.put, ptA, ptB, ptC]
        refine tt (i := 6) hHeld (some 111) ?_
        try simp only [Act.put, ptA, ptB, ptC]
        refine tt (i := 7) hHeld (some 118) ?_
        try simp only [Act.put, ptA, ptB, ptC]
        refine tt (i := 8) hHeld (some 119) ?_
        try simp only [Act.put, ptA, ptB, ptC]
        refine till_ready (rs := [9]) (by kernel_rfl) (by simp) ?_
        refine mem1 ?_
        refine till_step rfl (fun K hK => ?_)
        go_simp
        have hg2 : Below w112.heap.size w112 (w1.alloc (.cells #[.bool false, .slice none 0 0, .slice none 0 0] 43)) := hg1.alloc hg1.size (.cells #[.bool false, .slice none 0 0, .slice none 0 0] 43)
        have kb := hide (show (w1.alloc (.cells #[.bool false, .slice none 0 0, .slice none 0 0] 43)).heap[w1.heap.size]? = some (.cells #[.bool false, .slice none 0 0, .slice none 0 0] 43) from at_new w1 (.cells #[.bool false, .slice none 0 0, .slice none 0 0] 43))
        have hge : w112.heap.size ≤ w1.heap.size := hg1.size
        have hstep : Below w1.heap.size w1 (w1.alloc (.cells #[.bool false, .slice none 0 0, .slice none 0 0] 43)) := below_al (Below.refl _ _) (.cells #[.bool false, .slice none 0 0, .slice none 0 0] 43)
        generalize w1.alloc (.cells #[.bool false, .slice none 0 0, .slice none 0 0] 43) = w2 at hg2 kb hstep ⊢
        try (replace HR := hide (HR.out.below hstep))
        try (replace H4 := hide (H4.out.below hstep))
        clear hstep
        refine hK.out _ _ (HSS.out _ hg2) (fun hHeld => ?_)
        clear hK K
        try simp only [Act.put, ptA, ptB, ptC]
        refine till_ready (rs := [10]) (by kernel_rfl) (by simp) ?_
        refine mem1 ?_
        refine till_step rfl (fun K hK => ?_)
        obtain ⟨k0, k1, k2⟩ := three_cells kb.out
        obtain ⟨f0, f1, f2⟩ := three_frozen kb.out
        have hlt := lt_of_block kb.out
        go_simp
        have HF := hide (BoxR.stored hge hg2 HR.out kb)
        have hg3 := HF.out.choose_spec.2.2.2
        clear k0 k1 k2 f0 f1 f2
        refine hK.out _ _ (HSS.out _ hg3) (fun hHeld => ?_)
        clear hK K
        try simp only [Act.put, ptA, ptB, ptC]
        refine tt (i := 11) hHeld (some 22) ?_
        try simp only [Act.put, ptA, ptB, ptC]
        refine till_done (by kernel_rfl) ?_ _
        clear hHeld
        go_wp2_with fail
        go_meet
        exact ⟨HF.out, rfl⟩
      · refine till_step rfl (fun K hK => ?_)
        go_simp
        have hg4 : Below w112.heap.size w112 ((w112.alloc (.cells #[.bool false, .slice none 0 0, .slice none 0 0] 43)).drew) := (below_al (Below.refl _ _) (.cells #[.bool false, .slice none 0 0, .slice none 0 0] 43)).drew
        have kb := hide (show ((w112.alloc (.cells #[.bool false, .slice none 0 0, .slice none 0 0] 43)).drew).heap[w112.heap.size]? = some (.cells #[.bool false, .slice none 0 0, .slice none 0 0] 43) from at_new w112 (.cells #[.bool false, .slice none 0 0, .slice none 0 0] 43))
        have hge : w112.heap.size ≤ w112.heap.size := Nat.le_refl _
        have hstep : Below w112.heap.size w112 ((w112.alloc (.cells #[.bool false, .slice none 0 0, .slice none 0 0] 43)).drew) := (below_al (Below.refl _ _) (.cells #[.bool false, .slice none 0 0, .slice none 0 0] 43)).drew
        generalize (w112.alloc (.cells #[.bool false, .slice none 0 0, .slice none 0 0] 43)).drew = w4 at hg4 kb hstep ⊢
        try (replace HR := hide (HR.out.below hstep))
        try (replace H4 := hide (H4.out.below hstep))
        clear hstep
        refine hK.out _ _ (HSS.out _ hg4) (fun hHeld => ?_)
        clear hK K
        try simp only [Act.put, ptA, ptB, ptC]
        refine till_ready (rs := [5]) (by kernel_rfl) (by simp) ?_
        refine mem1 ?_
        refine till_step rfl (fun K hK => ?_)
        go_simp
        go_at_call 22
        refine (quo_q _ _ _ (vF N Ws i) (ldF N R Ws b) 3000 (HQS.out.1.below hg4) (HQS.out.2.1.below hg4) (by omega) hlne).mono ?_
        rintro e w5 ⟨v5, rfl, hdn⟩
        obtain ⟨r5, rfl, hr5, hd⟩ := hdn.ok (((HS.out.v_fit i hiN).divA (HS.out.ld.fitl b hbN) (hlne)).smallQ (by omega))
        replace hr5 : RatV w5 r5 (vF N Ws i / ldF N R Ws b) 3000 := hr5.fit (((HS.out.v_fit i hiN).divA (HS.out.ld.fitl b hbN) (hlne)).more (by omega))
        obtain ⟨s5, A5, n5, c5, B5, m5, d5, rfl⟩ := hr5.shape
        have HR := hide hr5
        clear hr5 hdn
        try (replace kb := hide (at_later kb.out hd))
        have hg5 : Below w112.heap.size w112 w5 := hg4.trans (hd.mono hg4.size)
        clear hd
        go_wp2_with fail
        refine hK.out _ _ (HSS.out _ hg5) (fun hHeld => ?_)
        clear hK K
        try simp only [Act.put, ptA, ptB, ptC]
        refine tt (i := 6) hHeld (some 111) ?_
        try simp only [Act.put, ptA, ptB, ptC]
        refine tt (i := 7) hHeld (some 118) ?_
        try simp only [Act.put, ptA, ptB, ptC]
        refine tt (i := 8) hHeld (some 119) ?_
        try simp only [Act.put, ptA, ptB, ptC]
        refine till_ready (rs := [10]) (by kernel_rfl) (by simp) ?_
        refine mem1 ?_
        refine till_step rfl (fun K hK => ?_)
        obtain ⟨k0, k1, k2⟩ := three_cells kb.out
        obtain ⟨f0, f1, f2⟩ := three_frozen kb.out
        have hlt := lt_of_block kb.out
        go_simp
        have HF := hide (BoxR.stored hge hg5 HR.out kb)
        have hg6 := HF.out.choose_spec.2.2.2
        clear k0 k1 k2 f0 f1 f2
        refine hK.out _ _ (HSS.out _ hg6) (fun hHeld => ?_)
        clear hK K
        try simp only [Act.put, ptA, ptB, ptC]
        refine tt (i := 11) hHeld (some 22) ?_
        try simp only [Act.put, ptA, ptB, ptC]
        refine till_done (by kernel_rfl) ?_ _
        clear hHeld
        go_wp2_with fail
        go_meet
        exact ⟨HF.out, rfl⟩
  case rest =>
  obtain ⟨⟨g21, rfl, hgl, hbx, hd⟩, rfl⟩ := hcut
  rename World => w115
  have HB21 := hide hbx
  replace HX := hide (at_later HX.out hd)
  replace HO := hide (at_later HO.out hd)
  replace HSV := hide (HSV.out.below hd)
  replace HQR := hide (HQR.out.below hd)
  replace HBb := hide (HBb.out.below hd)
  replace HVX := hide (HVX.out.below hd)
  replace HC := hide ((hd.cell (lt_of_cell HC.out)).trans HC.out)
  replace HB19 := hide (HB19.out.below hd)
  replace HW := hide (below_next HW.out hd)
  clear hgl hbx hd
  clear HB19
  clear HVX
  clear HQR
  clear HC
  obtain ⟨s116, A116, n116, c116, B116, m116, d116, hx116, hq116⟩ := HBb.out
  obtain ⟨x0, x1, x2⟩ := three_cells hx116
  have hlx := lt_of_block hx116
  obtain ⟨s117, A117, n117, c117, B117, m117, d117, hx117, hq117⟩ := HB21.out
  obtain ⟨z0, z1, z2⟩ := three_cells hx117
  have hlz := lt_of_block hx117
  have HQa := hide hq116
  have HQb := hide hq117
  clear hx116 hx117 hq116 hq117
  go_wp2_with fail
  refine (cmp_q _ _ _ (spQ N R Ws i ((n : Int) + 1)) (vF N Ws i / ldF N R Ws b) 3000 HQa.out HQb.out (by omega)).mono ?_
  rintro e w118 ⟨_, rfl, rfl, hd⟩
  have hsg1 := sgn_le (HS.out.sp_most HM.out i b n hiN hbN).1
  have hsg2 := fun h => sgn_ltQ ((HS.out.sp_most HM.out i b n hiN hbN).2 h)
  generalize sgnQ (spQ N R Ws i ((n : Int) + 1) - (vF N Ws i / ldF N R Ws b)) = τ at hsg1 hsg2 ⊢
  clear x0 x1 x2 z0 z1 z2 hlx hlz HQa HQb
  replace HX := hide (at_later HX.out hd)
  replace HO := hide (at_later HO.out hd)
  replace HSV := hide (HSV.out.below hd)
  replace HBb := hide (HBb.out.below hd)
  replace HB21 := hide (HB21.out.below hd)
  replace HW := hide (below_next HW.out hd)
  clear hd
  obtain ⟨x0, x1, -, -⟩ := two_cells HO.out
  have hlx := lt_of_block HO.out
  have k1 : τ ≤ 0 := by omega
  have HT2 := hide hsg2
  clear hsg2
  by_cases hN2 : 2 ≤ N
  · obtain rfl : τ = -1 := HT2.out hN2
    go_wp2_with fail
    refine (awake_q _).mono ?_
    rintro e w119 ⟨_, rfl, rfl, hd⟩
    have HF := hide (below_next HW.out hd)
    clear hd
    go_wp2
    refine bodyPost_ret (v := .bool true) ?_ rfl ⟨_, rfl, rfl, HF.out⟩
    simp [results, Tryz.results9, go_sem]
  · obtain rfl : N = 1 := by omega
    by_cases hτ : τ < 0
    · have k2 : τ < 0 := hτ
      go_wp2_with fail
      refine (awake_q _).mono ?_
      rintro e w120 ⟨_, rfl, rfl, hd⟩
      have HF := hide (below_next HW.out hd)
      clear hd
      go_wp2
      refine bodyPost_ret (v := .bool true) ?_ rfl ⟨_, rfl, rfl, HF.out⟩
      simp [results, Tryz.results9, go_sem]
    · have k2 : ¬ τ < 0 := hτ
      go_wp2_with fail
      refine (awake_q _).mono ?_
      rintro e w121 ⟨_, rfl, rfl, hd⟩
      have HF := hide (below_next HW.out hd)
      clear hd
      go_wp2
      refine bodyPost_ret (v := .bool true) ?_ rfl ⟨_, rfl, rfl, HF.out⟩
      simp [results, Tryz.results9, go_sem]
end Go.Proofs.YtpoahodnakhmiaaGreat
