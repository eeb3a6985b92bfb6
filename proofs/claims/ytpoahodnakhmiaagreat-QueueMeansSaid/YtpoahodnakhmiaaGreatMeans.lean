/- Walks: the law QueueMeans. -/
import Derived.Test.YtpoahodnakhmiaaGreatMeansM
import Derived.Test.YtpoahodnakhmiaaGreatTameW
namespace Go.Proofs.YtpoahodnakhmiaaGreat
set_option linter.unusedVariables false
set_option linter.unusedSimpArgs false
open Go.RowKit
/-- a fraction is written into a box -/
theorem BoxR.put {w : World} {g : Nat} {q0 q : Rat} {L0 L : Nat} {s : Bool} {A B : Option Addr} {n c m d : Nat} (h : BoxR w g q0 L0) (hq : RatV w (.agg #[.bool s, .slice A n c, .slice B m d]) q L) :
    BoxR (((w.setCell ⟨g, 0, none⟩ (.bool s)).setCell ⟨g, 1, none⟩ (.slice A n c)).setCell ⟨g, 2, none⟩ (.slice B m d)) g q L ∧ Keeps w (((w.setCell ⟨g, 0, none⟩ (.bool s)).setCell ⟨g, 1, none⟩ (.slice A n c)).setCell ⟨g, 2, none⟩ (.slice B m d)) ∧ w.grownBy (((w.setCell ⟨g, 0, none⟩ (.bool s)).setCell ⟨g, 1, none⟩ (.slice A n c)).setCell ⟨g, 2, none⟩ (.slice B m d)) (some g) := by
  obtain ⟨s0, A0, n0, c0, B0, m0, d0, hx, -⟩ := h
  have hg : w.grownBy (((w.setCell ⟨g, 0, none⟩ (.bool s)).setCell ⟨g, 1, none⟩ (.slice A n c)).setCell ⟨g, 2, none⟩ (.slice B m d)) (some g) := only_trans (only_trans (setCell_only w g 0 _) (setCell_only _ g 1 _)) (setCell_only _ g 2 _)
  have hk := Keeps.only hg ⟨_, _, hx⟩ (by decide)
  exact ⟨⟨_, _, _, _, _, _, _, by simp [World.setCell, Array.getElem?_modify, hx], hq.keeps hk⟩, hk, hg⟩
theorem BoxR.only {w w' : World} {g g' : Nat} {q : Rat} {L : Nat} (h : BoxR w g q L) (hk : Keeps w w') (hg : w.grownBy w' (some g')) (hne : g ≠ g') : BoxR w' g q L := by
  obtain ⟨s0, A0, n0, c0, B0, m0, d0, hx, hq⟩ := h
  exact ⟨s0, A0, n0, c0, B0, m0, d0, (hg.block g (lt_of_block hx) (by intro e; injection e with e; exact hne e)).trans hx, hq.keeps hk⟩
theorem BoxR.lt {w : World} {g : Nat} {q : Rat} {L : Nat} (h : BoxR w g q L) : g < w.heap.size := by
  obtain ⟨s0, A0, n0, c0, B0, m0, d0, hx, -⟩ := h
  exact lt_of_block hx
set_option maxRecDepth 100000 in
set_option maxHeartbeats 8000000 in
theorem means_law (w : World) (va vb : Value) (rs : List Int) (ws : List (List Int)) (T : TypeId) (a0 : Int) (ha : IntsE w va rs) (hb : LstV T 1 IntsE w vb ws) :
    Calls Tryz.prog 7 #[va, vb, .int .i64 a0] w (Ret (fun v w' => v = .bool true ∧ Below w.heap.size w w')) := by
  obtain ⟨A1, c1, rfl, hl1, hm1, -⟩ := ha.at_
  obtain ⟨A2, c2, rfl, hl2, hm2, -⟩ := id hb
  obtain ⟨N, hN⟩ : ∃ N, N = max 1 (min rs.length 6) := ⟨_, rfl⟩
  have hN1 : 1 ≤ N := by omega
  have hN6 : N ≤ 6 := by omega
  have hTS := tameT N rs ws (by omega) hN6
  have hSG := hTS.shopG
  have hinv := (hTS.ringE.sol (by rw [hTS.rowsE]; exact hTS.sys)).2
  obtain ⟨R, hR⟩ : ∃ R, R = tR N (aT rs) (bT rs) := ⟨_, rfl⟩
  obtain ⟨Ws, hWs⟩ : ∃ Ws, Ws = tW N (cT N ws) := ⟨_, rfl⟩
  have hgv := hTS.give
  rw [← hWs] at hinv
  rw [← hR, ← hWs] at hSG hgv
  have hRl : R.length = N := by rw [hR]; exact tR_length _ _ _
  have HRl := hide hRl
  have H0 := hide (And.intro ha (And.intro hb True.intro))
  have HG := hide hgv
  have HS := hide hSG
  have HM := hide (show vF N Ws 0 = 1 from hinv)
  have HT := hide (And.intro hN (And.intro hR hWs))
  clear ha hb hgv hSG hTS hRl hN hR hWs hinv
  go_enter Tryz.func7, Tryz.ntmps7
  go_wp2_with fail
  refine (tame_c _ _ _ rs ws T 6 N H0.out.1 H0.out.2.1 (by omega) HT.out.1).mono ?_
  rintro e w1 ⟨v1, rfl, hv1, hd1⟩
  rw [← HT.out.2.1, ← HT.out.2.2] at hv1
  have HV1 := hide hv1
  obtain ⟨ra, wa, rfl, hra, hwa⟩ := hv1
  obtain ⟨Ar, cr, rfl, hcr, hmr, -⟩ := id hra
  obtain ⟨Aw, cw, rfl, -, -, -⟩ := id hwa
  obtain ⟨W1, hW1⟩ : ∃ W1, W1 = w1.alloc (.cells #[.slice Ar R.length cr, .slice Aw Ws.length cw] 28) := ⟨_, rfl⟩
  have hb1 : Below w1.heap.size w1 W1 := by rw [hW1]; exact below_al (Below.refl _ _) _
  have hx1 : W1.heap[w1.heap.size]? = some (.cells #[.slice Ar R.length cr, .slice Aw Ws.length cw] 28 (0, 0)) := by rw [hW1]; exact at_new _ _
  have hd2 := below_next hd1 hb1
  have H1 := hide (And.intro True.intro (And.intro hx1 (And.intro (HV1.out.below hb1) hd2)))
  have HL1 := hide hW1
  obtain ⟨x0, x1, -, -⟩ := two_cells hx1
  have hl1x := lt_of_block hx1
  clear hra hwa hd1 hb1 hx1 hd2 hW1 HV1
  go_upto_region 2 with fail
  rw [← HL1.out]
  go_wp2_with fail
  refine (give_c _ _ R Ws 3 H1.out.2.2.1 (by omega) HG.out.1 HG.out.2.1 HG.out.2.2.1 HG.out.2.2.2.1 HG.out.2.2.2.2).mono ?_
  rintro e w2 ⟨v2, rfl, hv2, hd3⟩
  replace hv2 := hv2.upS (show 1 ≤ 3000 by omega)
  have HV2 := hide hv2
  obtain ⟨rb, wb, rfl, hrb, hwb⟩ := hv2
  obtain ⟨Ab, cb, rfl, -, -, -⟩ := id hrb
  obtain ⟨Ac, cc, rfl, -, -, -⟩ := id hwb
  obtain ⟨W2, hW2⟩ : ∃ W2, W2 = w2.alloc (.cells #[.slice Ab R.length cb, .slice Ac Ws.length cc] 33) := ⟨_, rfl⟩
  have hb2 : Below w2.heap.size w2 W2 := by rw [hW2]; exact below_al (Below.refl _ _) _
  have hx2 : W2.heap[w2.heap.size]? = some (.cells #[.slice Ab R.length cb, .slice Ac Ws.length cc] 33 (0, 0)) := by rw [hW2]; exact at_new _ _
  have hd4 := below_next hd3 hb2
  have hxo := at_later H1.out.2.1 hd4
  have H2 := hide (And.intro True.intro (And.intro hxo (And.intro hx2 (And.intro (HV2.out.below hb2) (below_next H1.out.2.2.2 hd4)))))
  have HL2 := hide hW2
  clear x0 x1 hl1x
  obtain ⟨x0, x1, -, -⟩ := two_cells hxo
  have hl1x := lt_of_block hxo
  have HGV0 := hide (H1.out.2.2.1.below hd4)
  clear hrb hwb hd3 hb2 hx2 hd4 hxo hW2 HV2
  go_upto_region 3 with fail
  rw [← HL2.out]
  rw [HRl.out] at x0 H1 H2 HL2 hcr HGV0 ⊢
  have hu0 := uQ_range a0
  obtain ⟨n, hn⟩ : ∃ n : Nat, (n : Int) = uQ a0 % 12 := ⟨(uQ a0 % 12).toNat, by omega⟩
  have hn11 : n ≤ 11 := by omega
  have e0 : wrap64 (1 + wrap64 ((IntKind.u64.wrap a0).tmod 12)) = (n : Int) + 1 := by
    rw [← IntWalk.i64_left, ← IntWalk.i64_left, show IntKind.u64.wrap a0 = uQ a0 from rfl, Int.tmod_eq_emod_of_nonneg hu0.1, IntWalk.i64_in (uQ a0 % 12) (by omega), IntWalk.i64_in _ (by omega), hn]
    omega
  have HE := hide e0
  clear e0 hn hu0
  have HX := hide H2.out.2.2.1
  have HO := hide H2.out.2.1
  have HSV := hide H2.out.2.2.2.1
  have HW := hide H2.out.2.2.2.2
  obtain ⟨qa, qb, e, hqr, -⟩ := HGV0.out
  injection e with e
  simp only [Array.mk.injEq, List.cons.injEq, and_true] at e
  obtain ⟨rfl, rfl⟩ := e
  obtain ⟨bq, oq, rfl, hqx⟩ := QRowE.x hqr (by rw [HRl.out]; omega)
  have HQR := hide hqx
  have HGq := hide HG.out.2.2.2.1
  go_upto_region 4 with fail
  rw [HE.out]
  clear hqr hqx H2 H1 H0 HL1 HL2 HT x0 x1 hl1x HE HG HGV0 W1
  obtain ⟨y0, y1, -, -⟩ := two_cells HX.out
  have hly := lt_of_block HX.out
  go_wp2_with fail
  refine (Visits_c _ _ N R Ws HSV.out HS.out).mono ?_
  rintro e w101 ⟨_, rfl, r101, rfl, hr101, hd⟩
  obtain ⟨Av, cv, rfl, hcv, hmv, -⟩ := id hr101
  obtain ⟨bv, ov, rfl, hvx⟩ := RowV.x hr101 (by rw [HS.out.vlen]; omega) (vF N Ws) (fun j hj => rfl)
  rw [HS.out.vlen] at hcv hvx ⊢
  unfold maxLen at hmv
  have HVX := hide hvx
  clear hr101 hvx
  clear y0 y1 hly
  replace HX := hide (at_later HX.out hd)
  replace HO := hide (at_later HO.out hd)
  replace HSV := hide (HSV.out.below hd)
  replace HQR := hide (HQR.out.below hd)
  replace HW := hide (below_next HW.out hd)
  clear hd
  obtain ⟨x0, x1, -, -⟩ := two_cells HO.out
  have hlx := lt_of_block HO.out
  obtain ⟨W5, hW5⟩ : ∃ W5, W5 = (w101.alloc (.cells #[.bool false, .slice none 0 0, .slice none 0 0] 43)).alloc (.cells #[.bool false, .slice none 0 0, .slice none 0 0] 43) := ⟨_, rfl⟩
  have hb5 : Below w101.heap.size w101 W5 := by rw [hW5]; exact below_al (below_al (Below.refl _ _) _) _
  have hq0 : ∀ w', RatV w' (.agg #[.bool false, .slice none 0 0, .slice none 0 0]) 0 3000 := fun w' => ⟨_, _, rfl, NatV.nil _ _, NatV.nil _ _⟩
  have hbr : BoxR W5 w101.heap.size 0 3000 := ⟨_, _, _, _, _, _, _, by rw [hW5]; exact at_later (at_new w101 _) (below_al (Below.refl _ _) _), hq0 _⟩
  have hba : BoxR W5 (w101.heap.size + 1) 0 3000 := ⟨_, _, _, _, _, _, _, by rw [hW5]; exact at_new' _ (by simp), hq0 _⟩
  have HB5 := hide (And.intro hbr (And.intro hba hb5))
  have HL := hide hW5
  clear hbr hba hb5 hq0 hW5
  go_upto_region 8 with fail
  rw [← HL.out]
  clear HL x0 x1 hlx
  go_wp2_with fail
  go_loopw [14] (fun s14 wr => ∃ i : Nat, i ≤ N ∧ s14 = .int .i64 i ∧ BoxR wr w101.heap.size (sumN (ShopG.rdF N R Ws n) i) 3000 ∧ BoxR wr (w101.heap.size + 1) (sumN (fun i => lnQ (ldF N R Ws) N i (n + 1)) i) 3000 ∧ Below w101.heap.size w101 wr) (fun s14 _ => N - (intOf s14).toNat)
  case atStart => exact ⟨0, Nat.zero_le _, rfl, HB5.out.1, HB5.out.2.1, HB5.out.2.2⟩
  case round =>
    obtain ⟨i, hi, rfl, hbr, hba, hbel⟩ := hrel
    have hv_eq : ∀ i, i < N → vF N Ws i = ldF N R Ws i * R.getD i 0 := fun i hi => HS.out.v_eq i hi
    by_cases hiN : i < N
    · have i1 : (i : Int) < (N : Int) := by omega
      have HV0 := hide hv_eq
      have HBel := hide hbel
      have HBr := hide hbr
      have HBa := hide hba
      clear hbr hba hv_eq
      have hX1 := hide (at_later HX.out hbel)
      have hO1 := hide (at_later HO.out hbel)
      have hSV1 := hide (HSV.out.below hbel)
      have hQR1 := hide (HQR.out.below hbel)
      have hVX1 := hide (HVX.out.below hbel)
      have hsW := hbel.size
      clear hbel
      have HWs := HW
      replace HW := HBel
      obtain ⟨y0, y1, -, -⟩ := two_cells hX1.out
      have hly := lt_of_block hX1.out
      go_wp2_with fail
      refine (Time_c _ _ N i ((n : Int) + 1) R Ws hSV1.out HS.out hiN (by omega) (by omega)).mono ?_
      rintro e w102 ⟨_, rfl, r102, rfl, hr102, hd⟩
      clear y0 y1 hly
      obtain ⟨s102, A102, n102, c102, B102, m102, d102, rfl⟩ := hr102.shape
      obtain ⟨W102, hW102⟩ : ∃ W102, W102 = w102.alloc (.cells #[.bool s102, .slice A102 n102 c102, .slice B102 m102 d102] 43) := ⟨_, rfl⟩
      have hda : Below w102.heap.size w102 W102 := by rw [hW102]; exact below_al (Below.refl _ _) _
      have hdn := below_next hd hda
      have HBt := hide (show BoxR W102 w102.heap.size (tmQ N R Ws i ((n : Int) + 1)) 3000 from ⟨_, _, _, _, _, _, _, by rw [hW102]; exact at_new _ _, hr102.below hda⟩)
      have HL := hide hW102
      replace hX1 := hide (at_later hX1.out hdn)
      replace hO1 := hide (at_later hO1.out hdn)
      replace hSV1 := hide (hSV1.out.below hdn)
      replace hQR1 := hide (hQR1.out.below hdn)
      replace hVX1 := hide (hVX1.out.below hdn)
      replace HBr := hide (HBr.out.below hdn)
      replace HBa := hide (HBa.out.below hdn)
      replace HW := hide (HW.out.trans (hdn.mono HW.out.size))
      clear hd hda hdn hr102 hW102
      go_upto_region 12 with fail
      rw [← HL.out]
      clear HL
      obtain ⟨y0, y1, -, -⟩ := two_cells hX1.out
      have hly := lt_of_block hX1.out
      go_wp2_with fail
      refine (Length_c _ _ N i ((n : Int) + 1) R Ws hSV1.out HS.out hiN (by omega) (by omega)).mono ?_
      rintro e w103 ⟨_, rfl, r103, rfl, hr103, hd⟩
      have hszl : w101.heap.size + 1 < w103.heap.size := Nat.lt_of_lt_of_le (BoxR.lt HBa.out) hd.size
      clear y0 y1 hly
      obtain ⟨s103, A103, n103, c103, B103, m103, d103, rfl⟩ := hr103.shape
      obtain ⟨W103, hW103⟩ : ∃ W103, W103 = w103.alloc (.cells #[.bool s103, .slice A103 n103 c103, .slice B103 m103 d103] 43) := ⟨_, rfl⟩
      have hda : Below w103.heap.size w103 W103 := by rw [hW103]; exact below_al (Below.refl _ _) _
      have hdn := below_next hd hda
      have HBl := hide (show BoxR W103 w103.heap.size (lnQ (ldF N R Ws) N i (n + 1)) 3000 from ⟨_, _, _, _, _, _, _, by rw [hW103]; exact at_new _ _, hr103.below hda⟩)
      have HL := hide hW103
      replace hX1 := hide (at_later hX1.out hdn)
      replace hO1 := hide (at_later hO1.out hdn)
      replace hSV1 := hide (hSV1.out.below hdn)
      replace hQR1 := hide (hQR1.out.below hdn)
      replace hVX1 := hide (hVX1.out.below hdn)
      replace HBr := hide (HBr.out.below hdn)
      replace HBa := hide (HBa.out.below hdn)
      replace HBt := hide (HBt.out.below hdn)
      replace HW := hide (HW.out.trans (hdn.mono HW.out.size))
      clear hd hda hdn hr103 hW103
      go_upto_region 13 with fail
      rw [← HL.out]
      clear HL
      obtain ⟨y0, y1, -, -⟩ := two_cells hX1.out
      have hly := lt_of_block hX1.out
      go_wp2_with fail
      refine (Length_c _ _ N i (n : Int) R Ws hSV1.out HS.out hiN (by omega) (by omega)).mono ?_
      rintro e w104 ⟨_, rfl, r104, rfl, hr104, hd⟩
      clear y0 y1 hly
      obtain ⟨s104, A104, n104, c104, B104, m104, d104, rfl⟩ := hr104.shape
      obtain ⟨W104, hW104⟩ : ∃ W104, W104 = w104.alloc (.cells #[.bool s104, .slice A104 n104 c104, .slice B104 m104 d104] 43) := ⟨_, rfl⟩
      have hda : Below w104.heap.size w104 W104 := by rw [hW104]; exact below_al (Below.refl _ _) _
      have hdn := below_next hd hda
      have HBm := hide (show BoxR W104 w104.heap.size (lnQ (ldF N R Ws) N i n) 3000 from ⟨_, _, _, _, _, _, _, by rw [hW104]; exact at_new _ _, hr104.below hda⟩)
      have HL := hide hW104
      replace hX1 := hide (at_later hX1.out hdn)
      replace hO1 := hide (at_later hO1.out hdn)
      replace hSV1 := hide (hSV1.out.below hdn)
      replace hQR1 := hide (hQR1.out.below hdn)
      replace hVX1 := hide (hVX1.out.below hdn)
      replace HBr := hide (HBr.out.below hdn)
      replace HBa := hide (HBa.out.below hdn)
      replace HBt := hide (HBt.out.below hdn)
      replace HBl := hide (HBl.out.below hdn)
      replace HW := hide (HW.out.trans (hdn.mono HW.out.size))
      clear hd hda hdn hr104 hW104
      go_upto_region 14 with fail
      rw [← HL.out]
      clear HL
      obtain ⟨y0, y1, -, -⟩ := two_cells hX1.out
      have hly := lt_of_block hX1.out
      go_wp2_with fail
      refine (Speed_c _ _ N i ((n : Int) + 1) R Ws hSV1.out HS.out hiN (by omega) (by omega)).mono ?_
      rintro e w105 ⟨_, rfl, r105, rfl, hr105, hd⟩
      clear y0 y1 hly
      obtain ⟨s105, A105, n105, c105, B105, m105, d105, rfl⟩ := hr105.shape
      obtain ⟨W105, hW105⟩ : ∃ W105, W105 = w105.alloc (.cells #[.bool s105, .slice A105 n105 c105, .slice B105 m105 d105] 43) := ⟨_, rfl⟩
      have hda : Below w105.heap.size w105 W105 := by rw [hW105]; exact below_al (Below.refl _ _) _
      have hdn := below_next hd hda
      have HBs := hide (show BoxR W105 w105.heap.size (spQ N R Ws i ((n : Int) + 1)) 3000 from ⟨_, _, _, _, _, _, _, by rw [hW105]; exact at_new _ _, hr105.below hda⟩)
      have HL := hide hW105
      replace hX1 := hide (at_later hX1.out hdn)
      replace hO1 := hide (at_later hO1.out hdn)
      replace hSV1 := hide (hSV1.out.below hdn)
      replace hQR1 := hide (hQR1.out.below hdn)
      replace hVX1 := hide (hVX1.out.below hdn)
      replace HBr := hide (HBr.out.below hdn)
      replace HBa := hide (HBa.out.below hdn)
      replace HBt := hide (HBt.out.below hdn)
      replace HBl := hide (HBl.out.below hdn)
      replace HBm := hide (HBm.out.below hdn)
      replace HW := hide (HW.out.trans (hdn.mono HW.out.size))
      clear hd hda hdn hr105 hW105
      go_upto_region 15 with fail
      rw [← HL.out]
      clear HL
      go_cut [23, 24] (fun s23 s24 wx => (∃ g : Nat, s23 = .pointer (some ⟨g, 0, none⟩) ∧ W105.heap.size ≤ g ∧ BoxR wx g (1 + lnQ (ldF N R Ws) N i n) 3000 ∧ Below W105.heap.size W105 wx) ∧ s24 = .int .i64 0)
      case first =>
        as_aux_lemma =>
          obtain ⟨s106, A106, n106, c106, B106, m106, d106, hx106, hq106⟩ := HBm.out
          have hS : ∀ w', Below W105.heap.size W105 w' → (w'.cell? ⟨w104.heap.size, 0, none⟩ = some (.bool s106) ∧ w'.cell? ⟨w104.heap.size, 1, none⟩ = some (.slice A106 n106 c106) ∧ w'.cell? ⟨w104.heap.size, 2, none⟩ = some (.slice B106 m106 d106)) := fun w' h => by
            have eC : ∀ b o v, W105.cell? ⟨b, o, none⟩ = some v → w'.cell? ⟨b, o, none⟩ = some v := fun b o v hv => (h.cell (lt_of_cell hv)).trans hv
            exact three_cells (at_later hx106 h)
          have hdr : Below W105.heap.size W105 W105.drew := (Below.refl _ _).drew
          have HSS := hide hS
          have HQS := hide (And.intro hq106 trivial)
          clear hS hx106 hq106
          refine till_begin (fun w' => (w'.cell? ⟨w104.heap.size, 0, none⟩ = some (.bool s106) ∧ w'.cell? ⟨w104.heap.size, 1, none⟩ = some (.slice A106 n106 c106) ∧ w'.cell? ⟨w104.heap.size, 2, none⟩ = some (.slice B106 m106 d106))) [0, 1, 2, 3, 4, 5, 6, 7, 8] (by kernel_rfl) (HSS.out _ hdr) (fun hHeld => ?_)
          refine tt (i := 1) hHeld (some 97) ?_
          try simp only [Act.put, ptA, ptB, ptC]
          refine till_ready (rs := [0, 6]) (by kernel_rfl) (by simp) ?_
          refine List.forall_mem_cons.2 ⟨?_, List.forall_mem_cons.2 ⟨?_, fun _ h => absurd h List.not_mem_nil⟩⟩
          · refine till_step rfl (fun K hK => ?_)
            go_simp
            go_at_call 20
            refine (of_c _ (1) (by omega) (by omega)).mono ?_
            rintro e w1 ⟨v4, rfl, hr4, hd⟩
            replace hr4 : RatV w1 v4 (1) 3000 := hr4.more (by omega)
            obtain ⟨s4, A4, n4, c4, B4, m4, d4, rfl⟩ := hr4.shape
            have H4 := hide hr4
            clear hr4
            try (replace kb := hide (at_later kb.out hd))
            have hg1 : Below W105.heap.size W105 w1 := hdr.trans (hd.mono hdr.size)
            clear hd
            go_wp2_with fail
            refine hK.out _ _ (HSS.out _ hg1) (fun hHeld => ?_)
            clear hK K
            try simp only [Act.put, ptA, ptB, ptC]
            refine till_ready (rs := [2, 6]) (by kernel_rfl) (by simp) ?_
            refine List.forall_mem_cons.2 ⟨?_, List.forall_mem_cons.2 ⟨?_, fun _ h => absurd h List.not_mem_nil⟩⟩
            · refine till_step rfl (fun K hK => ?_)
              go_simp
              go_at_call 40
              refine (add_q _ _ _ 1 (lnQ (ldF N R Ws) N i n) 3000 H4.out (HQS.out.1.below hg1) (by omega)).mono ?_
              rintro e w2 ⟨v5, rfl, hdn⟩
              obtain ⟨r5, rfl, hr5, hd⟩ := hdn.ok (((fit_one1 (L := 1) (by omega)).addA (HS.out.ld.ln_fit2 i n hiN (by omega))).smallQ (by omega))
              replace hr5 : RatV w2 r5 (1 + lnQ (ldF N R Ws) N i n) 3000 := hr5.fit (((fit_one1 (L := 1) (by omega)).addA (HS.out.ld.ln_fit2 i n hiN (by omega))).more (by omega))
              obtain ⟨s5, A5, n5, c5, B5, m5, d5, rfl⟩ := hr5.shape
              have HR := hide hr5
              clear hr5 hdn
              try (replace kb := hide (at_later kb.out hd))
              have hg2 : Below W105.heap.size W105 w2 := hg1.trans (hd.mono hg1.size)
              clear hd
              go_wp2_with fail
              refine hK.out _ _ (HSS.out _ hg2) (fun hHeld => ?_)
              clear hK K
              try simp only [Act.put, ptA, ptB, ptC]
              refine tt (i := 3) hHeld (some 95) ?_
              try simp only [Act.put, ptA, ptB, ptC]
              refine tt (i := 4) hHeld (some 99) ?_
              try simp only [Act.put, ptA, ptB, ptC]
              refine tt (i := 5) hHeld (some 100) ?_
              try simp only [Act.put, ptA, ptB, ptC]
              refine till_ready (rs := [6]) (by kernel_rfl) (by simp) ?_
              refine mem1 ?_
              refine till_step rfl (fun K hK => ?_)
              go_simp
              have hg3 : Below W105.heap.size W105 (w2.alloc (.cells #[.bool false, .slice none 0 0, .slice none 0 0] 43)) := hg2.alloc hg2.size (.cells #[.bool false, .slice none 0 0, .slice none 0 0] 43)
              have kb := hide (show (w2.alloc (.cells #[.bool false, .slice none 0 0, .slice none 0 0] 43)).heap[w2.heap.size]? = some (.cells #[.bool false, .slice none 0 0, .slice none 0 0] 43) from at_new w2 (.cells #[.bool false, .slice none 0 0, .slice none 0 0] 43))
              have hge : W105.heap.size ≤ w2.heap.size := hg2.size
              have hstep : Below w2.heap.size w2 (w2.alloc (.cells #[.bool false, .slice none 0 0, .slice none 0 0] 43)) := below_al (Below.refl _ _) (.cells #[.bool false, .slice none 0 0, .slice none 0 0] 43)
              generalize w2.alloc (.cells #[.bool false, .slice none 0 0, .slice none 0 0] 43) = w3 at hg3 kb hstep ⊢
              try (replace HR := hide (HR.out.below hstep))
              try (replace H4 := hide (H4.out.below hstep))
              clear hstep
              refine hK.out _ _ (HSS.out _ hg3) (fun hHeld => ?_)
              clear hK K
              try simp only [Act.put, ptA, ptB, ptC]
              refine till_ready (rs := [7]) (by kernel_rfl) (by simp) ?_
              refine mem1 ?_
              refine till_step rfl (fun K hK => ?_)
              obtain ⟨k0, k1, k2⟩ := three_cells kb.out
              obtain ⟨f0, f1, f2⟩ := three_frozen kb.out
              have hlt := lt_of_block kb.out
              go_simp
              have HF := hide (BoxR.stored hge hg3 HR.out kb)
              have hg4 := HF.out.choose_spec.2.2.2
              clear k0 k1 k2 f0 f1 f2
              refine hK.out _ _ (HSS.out _ hg4) (fun hHeld => ?_)
              clear hK K
              try simp only [Act.put, ptA, ptB, ptC]
              refine tt (i := 8) hHeld (some 24) ?_
              try simp only [Act.put, ptA, ptB, ptC]
              refine till_done (by kernel_rfl) ?_ _
              clear hHeld
              go_wp2_with fail
              go_meet
              exact ⟨HF.out, rfl⟩
            · refine till_step rfl (fun K hK => ?_)
              go_simp
              have hg5 : Below W105.heap.size W105 (w1.alloc (.cells #[.bool false, .slice none 0 0, .slice none 0 0] 43)) := hg1.alloc hg1.size (.cells #[.bool false, .slice none 0 0, .slice none 0 0] 43)
              have kb := hide (show (w1.alloc (.cells #[.bool false, .slice none 0 0, .slice none 0 0] 43)).heap[w1.heap.size]? = some (.cells #[.bool false, .slice none 0 0, .slice none 0 0] 43) from at_new w1 (.cells #[.bool false, .slice none 0 0, .slice none 0 0] 43))
              have hge : W105.heap.size ≤ w1.heap.size := hg1.size
              have hstep : Below w1.heap.size w1 (w1.alloc (.cells #[.bool false, .slice none 0 0, .slice none 0 0] 43)) := below_al (Below.refl _ _) (.cells #[.bool false, .slice none 0 0, .slice none 0 0] 43)
              generalize w1.alloc (.cells #[.bool false, .slice none 0 0, .slice none 0 0] 43) = w5 at hg5 kb hstep ⊢
              try (replace HR := hide (HR.out.below hstep))
              try (replace H4 := hide (H4.out.below hstep))
              clear hstep
              refine hK.out _ _ (HSS.out _ hg5) (fun hHeld => ?_)
              clear hK K
              try simp only [Act.put, ptA, ptB, ptC]
              refine till_ready (rs := [2]) (by kernel_rfl) (by simp) ?_
              refine mem1 ?_
              refine till_step rfl (fun K hK => ?_)
              go_simp
              go_at_call 40
              refine (add_q _ _ _ 1 (lnQ (ldF N R Ws) N i n) 3000 H4.out (HQS.out.1.below hg5) (by omega)).mono ?_
              rintro e w6 ⟨v5, rfl, hdn⟩
              obtain ⟨r5, rfl, hr5, hd⟩ := hdn.ok (((fit_one1 (L := 1) (by omega)).addA (HS.out.ld.ln_fit2 i n hiN (by omega))).smallQ (by omega))
              replace hr5 : RatV w6 r5 (1 + lnQ (ldF N R Ws) N i n) 3000 := hr5.fit (((fit_one1 (L := 1) (by omega)).addA (HS.out.ld.ln_fit2 i n hiN (by omega))).more (by omega))
              obtain ⟨s5, A5, n5, c5, B5, m5, d5, rfl⟩ := hr5.shape
              have HR := hide hr5
              clear hr5 hdn
              try (replace kb := hide (at_later kb.out hd))
              have hg6 : Below W105.heap.size W105 w6 := hg5.trans (hd.mono hg5.size)
              clear hd
              go_wp2_with fail
              refine hK.out _ _ (HSS.out _ hg6) (fun hHeld => ?_)
              clear hK K
              try simp only [Act.put, ptA, ptB, ptC]
              refine tt (i := 3) hHeld (some 95) ?_
              try simp only [Act.put, ptA, ptB, ptC]
              refine tt (i := 4) hHeld (some 99) ?_
              try simp only [Act.put, ptA, ptB, ptC]
              refine tt (i := 5) hHeld (some 100) ?_
              try simp only [Act.put, ptA, ptB, ptC]
              refine till_ready (rs := [7]) (by kernel_rfl) (by simp) ?_
              refine mem1 ?_
              refine till_step rfl (fun K hK => ?_)
              obtain ⟨k0, k1, k2⟩ := three_cells kb.out
              obtain ⟨f0, f1, f2⟩ := three_frozen kb.out
              have hlt := lt_of_block kb.out
              go_simp
              have HF := hide (BoxR.stored hge hg6 HR.out kb)
              have hg7 := HF.out.choose_spec.2.2.2
              clear k0 k1 k2 f0 f1 f2
              refine hK.out _ _ (HSS.out _ hg7) (fun hHeld => ?_)
              clear hK K
              try simp only [Act.put, ptA, ptB, ptC]
              refine tt (i := 8) hHeld (some 24) ?_
              try simp only [Act.put, ptA, ptB, ptC]
              refine till_done (by kernel_rfl) ?_ _
              clear hHeld
              go_wp2_with fail
              go_meet
              exact ⟨HF.out, rfl⟩
          · refine till_step rfl (fun K hK => ?_)
            go_simp
            have hg8 : Below W105.heap.size W105 ((W105.alloc (.cells #[.bool false, .slice none 0 0, .slice none 0 0] 43)).drew) := (below_al (Below.refl _ _) (.cells #[.bool false, .slice none 0 0, .slice none 0 0] 43)).drew
            have kb := hide (show ((W105.alloc (.cells #[.bool false, .slice none 0 0, .slice none 0 0] 43)).drew).heap[W105.heap.size]? = some (.cells #[.bool false, .slice none 0 0, .slice none 0 0] 43) from at_new W105 (.cells #[.bool false, .slice none 0 0, .slice none 0 0] 43))
            have hge : W105.heap.size ≤ W105.heap.size := Nat.le_refl _
            have hstep : Below W105.heap.size W105 ((W105.alloc (.cells #[.bool false, .slice none 0 0, .slice none 0 0] 43)).drew) := (below_al (Below.refl _ _) (.cells #[.bool false, .slice none 0 0, .slice none 0 0] 43)).drew
            generalize (W105.alloc (.cells #[.bool false, .slice none 0 0, .slice none 0 0] 43)).drew = w8 at hg8 kb hstep ⊢
            try (replace HR := hide (HR.out.below hstep))
            try (replace H4 := hide (H4.out.below hstep))
            clear hstep
            refine hK.out _ _ (HSS.out _ hg8) (fun hHeld => ?_)
            clear hK K
            try simp only [Act.put, ptA, ptB, ptC]
            refine till_ready (rs := [0]) (by kernel_rfl) (by simp) ?_
            refine mem1 ?_
            refine till_step rfl (fun K hK => ?_)
            go_simp
            go_at_call 20
            refine (of_c _ (1) (by omega) (by omega)).mono ?_
            rintro e w9 ⟨v4, rfl, hr4, hd⟩
            replace hr4 : RatV w9 v4 (1) 3000 := hr4.more (by omega)
            obtain ⟨s4, A4, n4, c4, B4, m4, d4, rfl⟩ := hr4.shape
            have H4 := hide hr4
            clear hr4
            try (replace kb := hide (at_later kb.out hd))
            have hg9 : Below W105.heap.size W105 w9 := hg8.trans (hd.mono hg8.size)
            clear hd
            go_wp2_with fail
            refine hK.out _ _ (HSS.out _ hg9) (fun hHeld => ?_)
            clear hK K
            try simp only [Act.put, ptA, ptB, ptC]
            refine till_ready (rs := [2]) (by kernel_rfl) (by simp) ?_
            refine mem1 ?_
            refine till_step rfl (fun K hK => ?_)
            go_simp
            go_at_call 40
            refine (add_q _ _ _ 1 (lnQ (ldF N R Ws) N i n) 3000 H4.out (HQS.out.1.below hg9) (by omega)).mono ?_
            rintro e w10 ⟨v5, rfl, hdn⟩
            obtain ⟨r5, rfl, hr5, hd⟩ := hdn.ok (((fit_one1 (L := 1) (by omega)).addA (HS.out.ld.ln_fit2 i n hiN (by omega))).smallQ (by omega))
            replace hr5 : RatV w10 r5 (1 + lnQ (ldF N R Ws) N i n) 3000 := hr5.fit (((fit_one1 (L := 1) (by omega)).addA (HS.out.ld.ln_fit2 i n hiN (by omega))).more (by omega))
            obtain ⟨s5, A5, n5, c5, B5, m5, d5, rfl⟩ := hr5.shape
            have HR := hide hr5
            clear hr5 hdn
            try (replace kb := hide (at_later kb.out hd))
            have hg10 : Below W105.heap.size W105 w10 := hg9.trans (hd.mono hg9.size)
            clear hd
            go_wp2_with fail
            refine hK.out _ _ (HSS.out _ hg10) (fun hHeld => ?_)
            clear hK K
            try simp only [Act.put, ptA, ptB, ptC]
            refine tt (i := 3) hHeld (some 95) ?_
            try simp only [Act.put, ptA, ptB, ptC]
            refine tt (i := 4) hHeld (some 99) ?_
            try simp only [Act.put, ptA, ptB, ptC]
            refine tt (i := 5) hHeld (some 100) ?_
            try simp only [Act.put, ptA, ptB, ptC]
            refine till_ready (rs := [7]) (by kernel_rfl) (by simp) ?_
            refine mem1 ?_
            refine till_step rfl (fun K hK => ?_)
            obtain ⟨k0, k1, k2⟩ := three_cells kb.out
            obtain ⟨f0, f1, f2⟩ := three_frozen kb.out
            have hlt := lt_of_block kb.out
            go_simp
            have HF := hide (BoxR.stored hge hg10 HR.out kb)
            have hg11 := HF.out.choose_spec.2.2.2
            clear k0 k1 k2 f0 f1 f2
            refine hK.out _ _ (HSS.out _ hg11) (fun hHeld => ?_)
            clear hK K
            try simp only [Act.put, ptA, ptB, ptC]
            refine tt (i := 8) hHeld (some 24) ?_
            try simp only [Act.put, ptA, ptB, ptC]
            refine till_done (by kernel_rfl) ?_ _
            clear hHeld
            go_wp2_with fail
            go_meet
            exact ⟨HF.out, rfl⟩
      case rest =>
      obtain ⟨⟨g23, rfl, hgl, hbx, hd⟩, rfl⟩ := hcut
      rename World => w107
      have HB23 := hide hbx
      replace hX1 := hide (at_later hX1.out hd)
      replace hO1 := hide (at_later hO1.out hd)
      replace hSV1 := hide (hSV1.out.below hd)
      replace hQR1 := hide (hQR1.out.below hd)
      replace hVX1 := hide (hVX1.out.below hd)
      replace HBr := hide (HBr.out.below hd)
      replace HBa := hide (HBa.out.below hd)
      replace HBt := hide (HBt.out.below hd)
      replace HBl := hide (HBl.out.below hd)
      replace HBm := hide (HBm.out.below hd)
      replace HBs := hide (HBs.out.below hd)
      replace HW := hide (HW.out.trans (hd.mono HW.out.size))
      clear hgl hbx hd
      clear HBm
      have hf14 : FracQ 6 (R.getD i 0) := HGq.out _ (getD_memQ R i (by rw [HRl.out]; exact hiN))
      have HF14 := hide hf14
      clear hf14
      go_upto_region 16 with fail
      go_cut [25, 26] (fun s25 s26 wx => (∃ g : Nat, s25 = .pointer (some ⟨g, 0, none⟩) ∧ w107.heap.size ≤ g ∧ BoxR wx g ((1 + lnQ (ldF N R Ws) N i n) / R.getD i 0) 3000 ∧ Below w107.heap.size w107 wx) ∧ s26 = .int .i64 0)
      case first =>
        as_aux_lemma =>
          obtain ⟨s108, A108, n108, c108, B108, m108, d108, hx108, hq108⟩ := HB23.out
          have e109a := (two_cells hO1.out).1
          obtain ⟨s110, A110, n110, c110, B110, m110, d110, e110a, e110b, e110c, e110d, hq110⟩ := hQR1.out (i) (by rw [HRl.out]; exact hiN)
          have hS : ∀ w', Below w107.heap.size w107 w' → (w'.cell? ⟨g23, 0, none⟩ = some (.bool s108) ∧ w'.cell? ⟨g23, 1, none⟩ = some (.slice A108 n108 c108) ∧ w'.cell? ⟨g23, 2, none⟩ = some (.slice B108 m108 d108)) ∧ w'.cell? ⟨w1.heap.size, 0, none⟩ = some (.slice (some ⟨bq, oq, none⟩) N cr) ∧ (w'.cell? ⟨bq, oq + (i) * 4, none⟩ = some (.bool s110) ∧ w'.cell? ⟨bq, oq + (i) * 4 + 1, none⟩ = some (.slice A110 n110 c110) ∧ w'.cell? ⟨bq, oq + (i) * 4 + 2, none⟩ = some (.bool false) ∧ w'.cell? ⟨bq, oq + (i) * 4 + 3, none⟩ = some (.slice B110 m110 d110)) := fun w' h => by
            have eC : ∀ b o v, w107.cell? ⟨b, o, none⟩ = some v → w'.cell? ⟨b, o, none⟩ = some v := fun b o v hv => (h.cell (lt_of_cell hv)).trans hv
            exact ⟨three_cells (at_later hx108 h), eC _ _ _ e109a, ⟨eC _ _ _ e110a, eC _ _ _ e110b, eC _ _ _ e110c, eC _ _ _ e110d⟩⟩
          have hdr : Below w107.heap.size w107 w107.drew := (Below.refl _ _).drew
          have HSS := hide hS
          have HQS := hide (And.intro hq108 (And.intro hq110 trivial))
          clear hS hx108 hq108 e109a e110a e110b e110c e110d hq110
          refine till_begin (fun w' => (w'.cell? ⟨g23, 0, none⟩ = some (.bool s108) ∧ w'.cell? ⟨g23, 1, none⟩ = some (.slice A108 n108 c108) ∧ w'.cell? ⟨g23, 2, none⟩ = some (.slice B108 m108 d108)) ∧ w'.cell? ⟨w1.heap.size, 0, none⟩ = some (.slice (some ⟨bq, oq, none⟩) N cr) ∧ (w'.cell? ⟨bq, oq + (i) * 4, none⟩ = some (.bool s110) ∧ w'.cell? ⟨bq, oq + (i) * 4 + 1, none⟩ = some (.slice A110 n110 c110) ∧ w'.cell? ⟨bq, oq + (i) * 4 + 2, none⟩ = some (.bool false) ∧ w'.cell? ⟨bq, oq + (i) * 4 + 3, none⟩ = some (.slice B110 m110 d110))) [0, 1, 2, 3, 4, 5, 6, 7, 8, 9, 10, 11, 12, 13] (by kernel_rfl) (HSS.out _ hdr) (fun hHeld => ?_)
          refine tt (i := 1) hHeld (some 103) ?_
          try simp only [Act.put, ptA, ptB, ptC]
          refine tt (i := 3) hHeld (some 105) ?_
          try simp only [Act.put, ptA, ptB, ptC]
          refine tt (i := 0) hHeld (some 102) ?_
          try simp only [Act.put, ptA, ptB, ptC]
          refine tt (i := 2) hHeld (some 104) ?_
          try simp only [Act.put, ptA, ptB, ptC]
          refine tt (i := 4) hHeld (some 106) ?_
          try simp only [Act.put, ptA, ptB, ptC]
          refine tt (i := 5) hHeld (some 107) ?_
          try simp only [Act.put, ptA, ptB, ptC]
          refine till_ready (rs := [6, 11]) (by kernel_rfl) (by simp) ?_
          refine List.forall_mem_cons.2 ⟨?_, List.forall_mem_cons.2 ⟨?_, fun _ h => absurd h List.not_mem_nil⟩⟩
          · refine till_step rfl (fun K hK => ?_)
            go_simp
            go_at_call 23
            refine (rat_c _ _ (R.getD i 0) 3 (HQS.out.2.1.below hdr) (by omega) HF14.out).mono ?_
            rintro e w1 ⟨v4, rfl, hr4, hd⟩
            replace hr4 : RatV w1 v4 (R.getD i 0) 3000 := hr4.more (by omega)
            obtain ⟨s4, A4, n4, c4, B4, m4, d4, rfl⟩ := hr4.shape
            have H4 := hide hr4
            clear hr4
            try (replace kb := hide (at_later kb.out hd))
            have hg1 : Below w107.heap.size w107 w1 := hdr.trans (hd.mono hdr.size)
            clear hd
            go_wp2_with fail
            refine hK.out _ _ (HSS.out _ hg1) (fun hHeld => ?_)
            clear hK K
            try simp only [Act.put, ptA, ptB, ptC]
            refine till_ready (rs := [7, 11]) (by kernel_rfl) (by simp) ?_
            refine List.forall_mem_cons.2 ⟨?_, List.forall_mem_cons.2 ⟨?_, fun _ h => absurd h List.not_mem_nil⟩⟩
            · refine till_step rfl (fun K hK => ?_)
              go_simp
              go_at_call 22
              refine (quo_q _ _ _ (1 + lnQ (ldF N R Ws) N i n) (R.getD i 0) 3000 (HQS.out.1.below hg1) H4.out (by omega) (HS.out.r_ne i hiN)).mono ?_
              rintro e w2 ⟨v5, rfl, hdn⟩
              obtain ⟨r5, rfl, hr5, hd⟩ := hdn.ok ((((fit_one1 (L := 1) (by omega)).addA (HS.out.ld.ln_fit2 i n hiN (by omega))).divA (HS.out.rf i hiN) (HS.out.r_ne i hiN)).smallQ (by omega))
              replace hr5 : RatV w2 r5 ((1 + lnQ (ldF N R Ws) N i n) / R.getD i 0) 3000 := hr5.fit ((((fit_one1 (L := 1) (by omega)).addA (HS.out.ld.ln_fit2 i n hiN (by omega))).divA (HS.out.rf i hiN) (HS.out.r_ne i hiN)).more (by omega))
              obtain ⟨s5, A5, n5, c5, B5, m5, d5, rfl⟩ := hr5.shape
              have HR := hide hr5
              clear hr5 hdn
              try (replace kb := hide (at_later kb.out hd))
              have hg2 : Below w107.heap.size w107 w2 := hg1.trans (hd.mono hg1.size)
              clear hd
              go_wp2_with fail
              refine hK.out _ _ (HSS.out _ hg2) (fun hHeld => ?_)
              clear hK K
              try simp only [Act.put, ptA, ptB, ptC]
              refine tt (i := 8) hHeld (some 101) ?_
              try simp only [Act.put, ptA, ptB, ptC]
              refine tt (i := 9) hHeld (some 110) ?_
              try simp only [Act.put, ptA, ptB, ptC]
              refine tt (i := 10) hHeld (some 111) ?_
              try simp only [Act.put, ptA, ptB, ptC]
              refine till_ready (rs := [11]) (by kernel_rfl) (by simp) ?_
              refine mem1 ?_
              refine till_step rfl (fun K hK => ?_)
              go_simp
              have hg3 : Below w107.heap.size w107 (w2.alloc (.cells #[.bool false, .slice none 0 0, .slice none 0 0] 43)) := hg2.alloc hg2.size (.cells #[.bool false, .slice none 0 0, .slice none 0 0] 43)
              have kb := hide (show (w2.alloc (.cells #[.bool false, .slice none 0 0, .slice none 0 0] 43)).heap[w2.heap.size]? = some (.cells #[.bool false, .slice none 0 0, .slice none 0 0] 43) from at_new w2 (.cells #[.bool false, .slice none 0 0, .slice none 0 0] 43))
              have hge : w107.heap.size ≤ w2.heap.size := hg2.size
              have hstep : Below w2.heap.size w2 (w2.alloc (.cells #[.bool false, .slice none 0 0, .slice none 0 0] 43)) := below_al (Below.refl _ _) (.cells #[.bool false, .slice none 0 0, .slice none 0 0] 43)
              generalize w2.alloc (.cells #[.bool false, .slice none 0 0, .slice none 0 0] 43) = w3 at hg3 kb hstep ⊢
              try (replace HR := hide (HR.out.below hstep))
              try (replace H4 := hide (H4.out.below hstep))
              clear hstep
              refine hK.out _ _ (HSS.out _ hg3) (fun hHeld => ?_)
              clear hK K
              try simp only [Act.put, ptA, ptB, ptC]
              refine till_ready (rs := [12]) (by kernel_rfl) (by simp) ?_
              refine mem1 ?_
              refine till_step rfl (fun K hK => ?_)
              obtain ⟨k0, k1, k2⟩ := three_cells kb.out
              obtain ⟨f0, f1, f2⟩ := three_frozen kb.out
              have hlt := lt_of_block kb.out
              go_simp
              have HF := hide (BoxR.stored hge hg3 HR.out kb)
              have hg4 := HF.out.choose_spec.2.2.2
              clear k0 k1 k2 f0 f1 f2
              refine hK.out _ _ (HSS.out _ hg4) (fun hHeld => ?_)
              clear hK K
              try simp only [Act.put, ptA, ptB, ptC]
              refine tt (i := 13) hHeld (some 26) ?_
              try simp only [Act.put, ptA, ptB, ptC]
              refine till_done (by kernel_rfl) ?_ _
              clear hHeld
              go_wp2_with fail
              go_meet
              exact ⟨HF.out, rfl⟩
            · refine till_step rfl (fun K hK => ?_)
              go_simp
              have hg5 : Below w107.heap.size w107 (w1.alloc (.cells #[.bool false, .slice none 0 0, .slice none 0 0] 43)) := hg1.alloc hg1.size (.cells #[.bool false, .slice none 0 0, .slice none 0 0] 43)
              have kb := hide (show (w1.alloc (.cells #[.bool false, .slice none 0 0, .slice none 0 0] 43)).heap[w1.heap.size]? = some (.cells #[.bool false, .slice none 0 0, .slice none 0 0] 43) from at_new w1 (.cells #[.bool false, .slice none 0 0, .slice none 0 0] 43))
              have hge : w107.heap.size ≤ w1.heap.size := hg1.size
              have hstep : Below w1.heap.size w1 (w1.alloc (.cells #[.bool false, .slice none 0 0, .slice none 0 0] 43)) := below_al (Below.refl _ _) (.cells #[.bool false, .slice none 0 0, .slice none 0 0] 43)
              generalize w1.alloc (.cells #[.bool false, .slice none 0 0, .slice none 0 0] 43) = w5 at hg5 kb hstep ⊢
              try (replace HR := hide (HR.out.below hstep))
              try (replace H4 := hide (H4.out.below hstep))
              clear hstep
              refine hK.out _ _ (HSS.out _ hg5) (fun hHeld => ?_)
              clear hK K
              try simp only [Act.put, ptA, ptB, ptC]
              refine till_ready (rs := [7]) (by kernel_rfl) (by simp) ?_
              refine mem1 ?_
              refine till_step rfl (fun K hK => ?_)
              go_simp
              go_at_call 22
              refine (quo_q _ _ _ (1 + lnQ (ldF N R Ws) N i n) (R.getD i 0) 3000 (HQS.out.1.below hg5) H4.out (by omega) (HS.out.r_ne i hiN)).mono ?_
              rintro e w6 ⟨v5, rfl, hdn⟩
              obtain ⟨r5, rfl, hr5, hd⟩ := hdn.ok ((((fit_one1 (L := 1) (by omega)).addA (HS.out.ld.ln_fit2 i n hiN (by omega))).divA (HS.out.rf i hiN) (HS.out.r_ne i hiN)).smallQ (by omega))
              replace hr5 : RatV w6 r5 ((1 + lnQ (ldF N R Ws) N i n) / R.getD i 0) 3000 := hr5.fit ((((fit_one1 (L := 1) (by omega)).addA (HS.out.ld.ln_fit2 i n hiN (by omega))).divA (HS.out.rf i hiN) (HS.out.r_ne i hiN)).more (by omega))
              obtain ⟨s5, A5, n5, c5, B5, m5, d5, rfl⟩ := hr5.shape
              have HR := hide hr5
              clear hr5 hdn
              try (replace kb := hide (at_later kb.out hd))
              have hg6 : Below w107.heap.size w107 w6 := hg5.trans (hd.mono hg5.size)
              clear hd
              go_wp2_with fail
              refine hK.out _ _ (HSS.out _ hg6) (fun hHeld => ?_)
              clear hK K
              try simp only [Act.put, ptA, ptB, ptC]
              refine tt (i := 8) hHeld (some 101) ?_
              try simp only [Act.put, ptA, ptB, ptC]
              refine tt (i := 9) hHeld (some 110) ?_
              try simp only [Act.put, ptA, ptB, ptC]
              refine tt (i := 10) hHeld (some 111) ?_
              try simp only [Act.put, ptA, ptB, ptC]
              refine till_ready (rs := [12]) (by kernel_rfl) (by simp) ?_
              refine mem1 ?_
              refine till_step rfl (fun K hK => ?_)
              obtain ⟨k0, k1, k2⟩ := three_cells kb.out
              obtain ⟨f0, f1, f2⟩ := three_frozen kb.out
              have hlt := lt_of_block kb.out
              go_simp
              have HF := hide (BoxR.stored hge hg6 HR.out kb)
              have hg7 := HF.out.choose_spec.2.2.2
              clear k0 k1 k2 f0 f1 f2
              refine hK.out _ _ (HSS.out _ hg7) (fun hHeld => ?_)
              clear hK K
              try simp only [Act.put, ptA, ptB, ptC]
              refine tt (i := 13) hHeld (some 26) ?_
              try simp only [Act.put, ptA, ptB, ptC]
              refine till_done (by kernel_rfl) ?_ _
              clear hHeld
              go_wp2_with fail
              go_meet
              exact ⟨HF.out, rfl⟩
          · refine till_step rfl (fun K hK => ?_)
            go_simp
            have hg8 : Below w107.heap.size w107 ((w107.alloc (.cells #[.bool false, .slice none 0 0, .slice none 0 0] 43)).drew) := (below_al (Below.refl _ _) (.cells #[.bool false, .slice none 0 0, .slice none 0 0] 43)).drew
            have kb := hide (show ((w107.alloc (.cells #[.bool false, .slice none 0 0, .slice none 0 0] 43)).drew).heap[w107.heap.size]? = some (.cells #[.bool false, .slice none 0 0, .slice none 0 0] 43) from at_new w107 (.cells #[.bool false, .slice none 0 0, .slice none 0 0] 43))
            have hge : w107.heap.size ≤ w107.heap.size := Nat.le_refl _
            have hstep : Below w107.heap.size w107 ((w107.alloc (.cells #[.bool false, .slice none 0 0, .slice none 0 0] 43)).drew) := (below_al (Below.refl _ _) (.cells #[.bool false, .slice none 0 0, .slice none 0 0] 43)).drew
            generalize (w107.alloc (.cells #[.bool false, .slice none 0 0, .slice none 0 0] 43)).drew = w8 at hg8 kb hstep ⊢
            try (replace HR := hide (HR.out.below hstep))
            try (replace H4 := hide (H4.out.below hstep))
            clear hstep
            refine hK.out _ _ (HSS.out _ hg8) (fun hHeld => ?_)
            clear hK K
            try simp only [Act.put, ptA, ptB, ptC]
            refine till_ready (rs := [6]) (by kernel_rfl) (by simp) ?_
            refine mem1 ?_
            refine till_step rfl (fun K hK => ?_)
            go_simp
            go_at_call 23
            refine (rat_c _ _ (R.getD i 0) 3 (HQS.out.2.1.below hg8) (by omega) HF14.out).mono ?_
            rintro e w9 ⟨v4, rfl, hr4, hd⟩
            replace hr4 : RatV w9 v4 (R.getD i 0) 3000 := hr4.more (by omega)
            obtain ⟨s4, A4, n4, c4, B4, m4, d4, rfl⟩ := hr4.shape
            have H4 := hide hr4
            clear hr4
            try (replace kb := hide (at_later kb.out hd))
            have hg9 : Below w107.heap.size w107 w9 := hg8.trans (hd.mono hg8.size)
            clear hd
            go_wp2_with fail
            refine hK.out _ _ (HSS.out _ hg9) (fun hHeld => ?_)
            clear hK K
            try simp only [Act.put, ptA, ptB, ptC]
            refine till_ready (rs := [7]) (by kernel_rfl) (by simp) ?_
            refine mem1 ?_
            refine till_step rfl (fun K hK => ?_)
            go_simp
            go_at_call 22
            refine (quo_q _ _ _ (1 + lnQ (ldF N R Ws) N i n) (R.getD i 0) 3000 (HQS.out.1.below hg9) H4.out (by omega) (HS.out.r_ne i hiN)).mono ?_
            rintro e w10 ⟨v5, rfl, hdn⟩
            obtain ⟨r5, rfl, hr5, hd⟩ := hdn.ok ((((fit_one1 (L := 1) (by omega)).addA (HS.out.ld.ln_fit2 i n hiN (by omega))).divA (HS.out.rf i hiN) (HS.out.r_ne i hiN)).smallQ (by omega))
            replace hr5 : RatV w10 r5 ((1 + lnQ (ldF N R Ws) N i n) / R.getD i 0) 3000 := hr5.fit ((((fit_one1 (L := 1) (by omega)).addA (HS.out.ld.ln_fit2 i n hiN (by omega))).divA (HS.out.rf i hiN) (HS.out.r_ne i hiN)).more (by omega))
            obtain ⟨s5, A5, n5, c5, B5, m5, d5, rfl⟩ := hr5.shape
            have HR := hide hr5
            clear hr5 hdn
            try (replace kb := hide (at_later kb.out hd))
            have hg10 : Below w107.heap.size w107 w10 := hg9.trans (hd.mono hg9.size)
            clear hd
            go_wp2_with fail
            refine hK.out _ _ (HSS.out _ hg10) (fun hHeld => ?_)
            clear hK K
            try simp only [Act.put, ptA, ptB, ptC]
            refine tt (i := 8) hHeld (some 101) ?_
            try simp only [Act.put, ptA, ptB, ptC]
            refine tt (i := 9) hHeld (some 110) ?_
            try simp only [Act.put, ptA, ptB, ptC]
            refine tt (i := 10) hHeld (some 111) ?_
            try simp only [Act.put, ptA, ptB, ptC]
            refine till_ready (rs := [12]) (by kernel_rfl) (by simp) ?_
            refine mem1 ?_
            refine till_step rfl (fun K hK => ?_)
            obtain ⟨k0, k1, k2⟩ := three_cells kb.out
            obtain ⟨f0, f1, f2⟩ := three_frozen kb.out
            have hlt := lt_of_block kb.out
            go_simp
            have HF := hide (BoxR.stored hge hg10 HR.out kb)
            have hg11 := HF.out.choose_spec.2.2.2
            clear k0 k1 k2 f0 f1 f2
            refine hK.out _ _ (HSS.out _ hg11) (fun hHeld => ?_)
            clear hK K
            try simp only [Act.put, ptA, ptB, ptC]
            refine tt (i := 13) hHeld (some 26) ?_
            try simp only [Act.put, ptA, ptB, ptC]
            refine till_done (by kernel_rfl) ?_ _
            clear hHeld
            go_wp2_with fail
            go_meet
            exact ⟨HF.out, rfl⟩
      case rest =>
      obtain ⟨⟨g25, rfl, hgl, hbx, hd⟩, rfl⟩ := hcut
      rename World => w111
      have HB25 := hide hbx
      replace hX1 := hide (at_later hX1.out hd)
      replace hO1 := hide (at_later hO1.out hd)
      replace hSV1 := hide (hSV1.out.below hd)
      replace hQR1 := hide (hQR1.out.below hd)
      replace hVX1 := hide (hVX1.out.below hd)
      replace HBr := hide (HBr.out.below hd)
      replace HBa := hide (HBa.out.below hd)
      replace HBt := hide (HBt.out.below hd)
      replace HBl := hide (HBl.out.below hd)
      replace HBs := hide (HBs.out.below hd)
      replace HB23 := hide (HB23.out.below hd)
      replace HW := hide (HW.out.trans (hd.mono HW.out.size))
      clear hgl hbx hd
      clear HB23 HF14
      obtain ⟨s112, A112, n112, c112, B112, m112, d112, hx112, hq112⟩ := HBs.out
      obtain ⟨x0, x1, x2⟩ := three_cells hx112
      have hlx := lt_of_block hx112
      obtain ⟨s113, A113, n113, c113, B113, m113, d113, hx113, hq113⟩ := HBt.out
      obtain ⟨z0, z1, z2⟩ := three_cells hx113
      have hlz := lt_of_block hx113
      have HQa := hide hq112
      have HQb := hide hq113
      clear hx112 hx113 hq112 hq113
      go_wp2_with fail
      refine (mul_q _ _ _ (spQ N R Ws i ((n : Int) + 1)) (tmQ N R Ws i ((n : Int) + 1)) 3000 HQa.out HQb.out (by omega)).mono ?_
      rintro e w114 ⟨_, rfl, hdn⟩
      rw [HS.out.little i n hiN hn11] at hdn
      obtain ⟨r114, rfl, hr114, hd⟩ := hdn.ok (((HS.out.ld.ln_fit2 i (n + 1) hiN (by omega))).smallQ (by omega))
      replace hr114 : RatV w114 r114 (lnQ (ldF N R Ws) N i (n + 1)) 3000 := hr114.fit (((HS.out.ld.ln_fit2 i (n + 1) hiN (by omega))).more (by omega))
      clear hdn x0 x1 x2 z0 z1 z2 hlx hlz HQa HQb
      obtain ⟨s114, A114, n114, c114, B114, m114, d114, rfl⟩ := hr114.shape
      obtain ⟨W114, hW114⟩ : ∃ W114, W114 = w114.alloc (.cells #[.bool s114, .slice A114 n114 c114, .slice B114 m114 d114] 43) := ⟨_, rfl⟩
      have hda : Below w114.heap.size w114 W114 := by rw [hW114]; exact below_al (Below.refl _ _) _
      have hdn := below_next hd hda
      have HB27 := hide (show BoxR W114 w114.heap.size (lnQ (ldF N R Ws) N i (n + 1)) 3000 from ⟨_, _, _, _, _, _, _, by rw [hW114]; exact at_new _ _, hr114.below hda⟩)
      have HL := hide hW114
      replace hX1 := hide (at_later hX1.out hdn)
      replace hO1 := hide (at_later hO1.out hdn)
      replace hSV1 := hide (hSV1.out.below hdn)
      replace hQR1 := hide (hQR1.out.below hdn)
      replace hVX1 := hide (hVX1.out.below hdn)
      replace HBr := hide (HBr.out.below hdn)
      replace HBa := hide (HBa.out.below hdn)
      replace HBt := hide (HBt.out.below hdn)
      replace HBl := hide (HBl.out.below hdn)
      replace HBs := hide (HBs.out.below hdn)
      replace HB25 := hide (HB25.out.below hdn)
      replace HW := hide (HW.out.trans (hdn.mono HW.out.size))
      clear hd hda hdn hr114 hW114
      go_upto_region 18 with fail
      rw [← HL.out]
      clear HL
      obtain ⟨s115, A115, n115, c115, B115, m115, d115, hx115, hq115⟩ := HBt.out
      obtain ⟨x0, x1, x2⟩ := three_cells hx115
      have hlx := lt_of_block hx115
      obtain ⟨s116, A116, n116, c116, B116, m116, d116, hx116, hq116⟩ := HB25.out
      obtain ⟨z0, z1, z2⟩ := three_cells hx116
      have hlz := lt_of_block hx116
      have HQa := hide hq115
      have HQb := hide hq116
      clear hx115 hx116 hq115 hq116
      go_wp2_with fail
      refine (cmp_q _ _ _ (tmQ N R Ws i ((n : Int) + 1)) ((1 + lnQ (ldF N R Ws) N i n) / R.getD i 0) 3000 HQa.out HQb.out (by omega)).mono ?_
      rintro e w117 ⟨_, rfl, rfl, hd⟩
      rw [show sgnQ (tmQ N R Ws i ((n : Int) + 1) - ((1 + lnQ (ldF N R Ws) N i n) / R.getD i 0)) = 0 by rw [HS.out.tm_eq i n hiN]; exact sgn_zero _]
      clear x0 x1 x2 z0 z1 z2 hlx hlz HQa HQb
      replace hX1 := hide (at_later hX1.out hd)
      replace hO1 := hide (at_later hO1.out hd)
      replace hSV1 := hide (hSV1.out.below hd)
      replace hQR1 := hide (hQR1.out.below hd)
      replace hVX1 := hide (hVX1.out.below hd)
      replace HBr := hide (HBr.out.below hd)
      replace HBa := hide (HBa.out.below hd)
      replace HBt := hide (HBt.out.below hd)
      replace HBl := hide (HBl.out.below hd)
      replace HBs := hide (HBs.out.below hd)
      replace HB25 := hide (HB25.out.below hd)
      replace HB27 := hide (HB27.out.below hd)
      replace HW := hide (HW.out.trans (hd.mono HW.out.size))
      clear hd
      obtain ⟨s118, A118, n118, c118, B118, m118, d118, hx118, hq118⟩ := HB27.out
      obtain ⟨x0, x1, x2⟩ := three_cells hx118
      have hlx := lt_of_block hx118
      obtain ⟨s119, A119, n119, c119, B119, m119, d119, hx119, hq119⟩ := HBl.out
      obtain ⟨z0, z1, z2⟩ := three_cells hx119
      have hlz := lt_of_block hx119
      have HQa := hide hq118
      have HQb := hide hq119
      clear hx118 hx119 hq118 hq119
      go_wp2_with fail
      refine (cmp_q _ _ _ (lnQ (ldF N R Ws) N i (n + 1)) (lnQ (ldF N R Ws) N i (n + 1)) 3000 HQa.out HQb.out (by omega)).mono ?_
      rintro e w120 ⟨_, rfl, rfl, hd⟩
      rw [show sgnQ (lnQ (ldF N R Ws) N i (n + 1) - (lnQ (ldF N R Ws) N i (n + 1))) = 0 by exact sgn_zero _]
      clear x0 x1 x2 z0 z1 z2 hlx hlz HQa HQb
      replace hX1 := hide (at_later hX1.out hd)
      replace hO1 := hide (at_later hO1.out hd)
      replace hSV1 := hide (hSV1.out.below hd)
      replace hQR1 := hide (hQR1.out.below hd)
      replace hVX1 := hide (hVX1.out.below hd)
      replace HBr := hide (HBr.out.below hd)
      replace HBa := hide (HBa.out.below hd)
      replace HBt := hide (HBt.out.below hd)
      replace HBl := hide (HBl.out.below hd)
      replace HBs := hide (HBs.out.below hd)
      replace HB25 := hide (HB25.out.below hd)
      replace HB27 := hide (HB27.out.below hd)
      replace HW := hide (HW.out.trans (hd.mono HW.out.size))
      clear hd
      clear HBs
      clear HB25
      clear HB27
      go_upto_region 20 with fail
      go_cut [29, 30] (fun s29 s30 wx => (∃ g : Nat, s29 = .pointer (some ⟨g, 0, none⟩) ∧ w120.heap.size ≤ g ∧ BoxR wx g (ShopG.rdF N R Ws n i) 3000 ∧ Below w120.heap.size w120 wx) ∧ s30 = .int .i64 0)
      case first =>
        as_aux_lemma =>
          obtain ⟨s121, A121, n121, c121, B121, m121, d121, e121a, e121b, e121c, hq121⟩ := (hVX1.out (i) hiN).rat
          obtain ⟨s122, A122, n122, c122, B122, m122, d122, hx122, hq122⟩ := HBt.out
          have hS : ∀ w', Below w120.heap.size w120 w' → (w'.cell? ⟨bv, ov + (i) * 3, none⟩ = some (.bool s121) ∧ w'.cell? ⟨bv, ov + (i) * 3 + 1, none⟩ = some (.slice A121 n121 c121) ∧ w'.cell? ⟨bv, ov + (i) * 3 + 2, none⟩ = some (.slice B121 m121 d121)) ∧ (w'.cell? ⟨w102.heap.size, 0, none⟩ = some (.bool s122) ∧ w'.cell? ⟨w102.heap.size, 1, none⟩ = some (.slice A122 n122 c122) ∧ w'.cell? ⟨w102.heap.size, 2, none⟩ = some (.slice B122 m122 d122)) := fun w' h => by
            have eC : ∀ b o v, w120.cell? ⟨b, o, none⟩ = some v → w'.cell? ⟨b, o, none⟩ = some v := fun b o v hv => (h.cell (lt_of_cell hv)).trans hv
            exact ⟨⟨eC _ _ _ e121a, eC _ _ _ e121b, eC _ _ _ e121c⟩, three_cells (at_later hx122 h)⟩
          have hdr : Below w120.heap.size w120 w120.drew := (Below.refl _ _).drew
          have HSS := hide hS
          have HQS := hide (And.intro hq121 (And.intro hq122 trivial))
          clear hS e121a e121b e121c hq121 hx122 hq122
          refine till_begin (fun w' => (w'.cell? ⟨bv, ov + (i) * 3, none⟩ = some (.bool s121) ∧ w'.cell? ⟨bv, ov + (i) * 3 + 1, none⟩ = some (.slice A121 n121 c121) ∧ w'.cell? ⟨bv, ov + (i) * 3 + 2, none⟩ = some (.slice B121 m121 d121)) ∧ (w'.cell? ⟨w102.heap.size, 0, none⟩ = some (.bool s122) ∧ w'.cell? ⟨w102.heap.size, 1, none⟩ = some (.slice A122 n122 c122) ∧ w'.cell? ⟨w102.heap.size, 2, none⟩ = some (.slice B122 m122 d122))) [0, 1, 2, 3, 4, 5, 6, 7, 8, 9, 10, 11] (by kernel_rfl) (HSS.out _ hdr) (fun hHeld => ?_)
          refine tt (i := 0) hHeld (some 145) ?_
          try simp only [Act.put, ptA, ptB, ptC]
          refine tt (i := 1) hHeld (some 146) ?_
          try simp only [Act.put, ptA, ptB, ptC]
          refine tt (i := 2) hHeld (some 147) ?_
          try simp only [Act.put, ptA, ptB, ptC]
          refine tt (i := 3) hHeld (some 148) ?_
          try simp only [Act.put, ptA, ptB, ptC]
          refine tt (i := 4) hHeld (some 149) ?_
          try simp only [Act.put, ptA, ptB, ptC]
          refine till_ready (rs := [5, 9]) (by kernel_rfl) (by simp) ?_
          refine List.forall_mem_cons.2 ⟨?_, List.forall_mem_cons.2 ⟨?_, fun _ h => absurd h List.not_mem_nil⟩⟩
          · refine till_step rfl (fun K hK => ?_)
            go_simp
            go_at_call 21
            refine (mul_q _ _ _ (vF N Ws i) (tmQ N R Ws i ((n : Int) + 1)) 3000 (HQS.out.1.below hdr) (HQS.out.2.1.below hdr) (by omega)).mono ?_
            rintro e w1 ⟨v5, rfl, hdn⟩
            replace hdn : doneR _ (ShopG.rdF N R Ws n i) _ _ _ := hdn
            obtain ⟨r5, rfl, hr5, hd⟩ := hdn.ok ((HS.out.rd_fit n hn11 i hiN (HS.out.v_fit i hiN)).smallQ (by omega))
            replace hr5 : RatV w1 r5 (ShopG.rdF N R Ws n i) 3000 := hr5.fit ((HS.out.rd_fit n hn11 i hiN (HS.out.v_fit i hiN)).more (by omega))
            obtain ⟨s5, A5, n5, c5, B5, m5, d5, rfl⟩ := hr5.shape
            have HR := hide hr5
            clear hr5 hdn
            try (replace kb := hide (at_later kb.out hd))
            have hg1 : Below w120.heap.size w120 w1 := hdr.trans (hd.mono hdr.size)
            clear hd
            go_wp2_with fail
            refine hK.out _ _ (HSS.out _ hg1) (fun hHeld => ?_)
            clear hK K
            try simp only [Act.put, ptA, ptB, ptC]
            refine tt (i := 6) hHeld (some 144) ?_
            try simp only [Act.put, ptA, ptB, ptC]
            refine tt (i := 7) hHeld (some 151) ?_
            try simp only [Act.put, ptA, ptB, ptC]
            refine tt (i := 8) hHeld (some 152) ?_
            try simp only [Act.put, ptA, ptB, ptC]
            refine till_ready (rs := [9]) (by kernel_rfl) (by simp) ?_
            refine mem1 ?_
            refine till_step rfl (fun K hK => ?_)
            go_simp
            have hg2 : Below w120.heap.size w120 (w1.alloc (.cells #[.bool false, .slice none 0 0, .slice none 0 0] 43)) := hg1.alloc hg1.size (.cells #[.bool false, .slice none 0 0, .slice none 0 0] 43)
            have kb := hide (show (w1.alloc (.cells #[.bool false, .slice none 0 0, .slice none 0 0] 43)).heap[w1.heap.size]? = some (.cells #[.bool false, .slice none 0 0, .slice none 0 0] 43) from at_new w1 (.cells #[.bool false, .slice none 0 0, .slice none 0 0] 43))
            have hge : w120.heap.size ≤ w1.heap.size := hg1.size
            have hstep : Below w1.heap.size w1 (w1.alloc (.cells #[.bool false, .slice none 0 0, .slice none 0 0] 43)) := below_al (Below.refl _ _) (.cells #[.bool false, .slice none 0 0, .slice none 0 0] 43)
            generalize w1.alloc (.cells #[.bool false, .slice none 0 0, .slice none 0 0] 43) = w2 at hg2 kb hstep ⊢
            try (replace HR := hide (HR.out.below hstep))
            try (replace H4 := hide (H4.out.below hstep))
            clear hstep
            refine hK.out _ _ (HSS.out _ hg2) (fun hHeld => ?_)
            clear hK K
            try simp only [Act.put, ptA, ptB, ptC]
            refine till_ready (rs := [10]) (by kernel_rfl) (by simp) ?_
            refine mem1 ?_
            refine till_step rfl (fun K hK => ?_)
            obtain ⟨k0, k1, k2⟩ := three_cells kb.out
            obtain ⟨f0, f1, f2⟩ := three_frozen kb.out
            have hlt := lt_of_block kb.out
            go_simp
            have HF := hide (BoxR.stored hge hg2 HR.out kb)
            have hg3 := HF.out.choose_spec.2.2.2
            clear k0 k1 k2 f0 f1 f2
            refine hK.out _ _ (HSS.out _ hg3) (fun hHeld => ?_)
            clear hK K
            try simp only [Act.put, ptA, ptB, ptC]
            refine tt (i := 11) hHeld (some 30) ?_
            try simp only [Act.put, ptA, ptB, ptC]
            refine till_done (by kernel_rfl) ?_ _
            clear hHeld
            go_wp2_with fail
            go_meet
            exact ⟨HF.out, rfl⟩
          · refine till_step rfl (fun K hK => ?_)
            go_simp
            have hg4 : Below w120.heap.size w120 ((w120.alloc (.cells #[.bool false, .slice none 0 0, .slice none 0 0] 43)).drew) := (below_al (Below.refl _ _) (.cells #[.bool false, .slice none 0 0, .slice none 0 0] 43)).drew
            have kb := hide (show ((w120.alloc (.cells #[.bool false, .slice none 0 0, .slice none 0 0] 43)).drew).heap[w120.heap.size]? = some (.cells #[.bool false, .slice none 0 0, .slice none 0 0] 43) from at_new w120 (.cells #[.bool false, .slice none 0 0, .slice none 0 0] 43))
            have hge : w120.heap.size ≤ w120.heap.size := Nat.le_refl _
            have hstep : Below w120.heap.size w120 ((w120.alloc (.cells #[.bool false, .slice none 0 0, .slice none 0 0] 43)).drew) := (below_al (Below.refl _ _) (.cells #[.bool false, .slice none 0 0, .slice none 0 0] 43)).drew
            generalize (w120.alloc (.cells #[.bool false, .slice none 0 0, .slice none 0 0] 43)).drew = w4 at hg4 kb hstep ⊢
            try (replace HR := hide (HR.out.below hstep))
            try (replace H4 := hide (H4.out.below hstep))
            clear hstep
            refine hK.out _ _ (HSS.out _ hg4) (fun hHeld => ?_)
            clear hK K
            try simp only [Act.put, ptA, ptB, ptC]
            refine till_ready (rs := [5]) (by kernel_rfl) (by simp) ?_
            refine mem1 ?_
            refine till_step rfl (fun K hK => ?_)
            go_simp
            go_at_call 21
            refine (mul_q _ _ _ (vF N Ws i) (tmQ N R Ws i ((n : Int) + 1)) 3000 (HQS.out.1.below hg4) (HQS.out.2.1.below hg4) (by omega)).mono ?_
            rintro e w5 ⟨v5, rfl, hdn⟩
            replace hdn : doneR _ (ShopG.rdF N R Ws n i) _ _ _ := hdn
            obtain ⟨r5, rfl, hr5, hd⟩ := hdn.ok ((HS.out.rd_fit n hn11 i hiN (HS.out.v_fit i hiN)).smallQ (by omega))
            replace hr5 : RatV w5 r5 (ShopG.rdF N R Ws n i) 3000 := hr5.fit ((HS.out.rd_fit n hn11 i hiN (HS.out.v_fit i hiN)).more (by omega))
            obtain ⟨s5, A5, n5, c5, B5, m5, d5, rfl⟩ := hr5.shape
            have HR := hide hr5
            clear hr5 hdn
            try (replace kb := hide (at_later kb.out hd))
            have hg5 : Below w120.heap.size w120 w5 := hg4.trans (hd.mono hg4.size)
            clear hd
            go_wp2_with fail
            refine hK.out _ _ (HSS.out _ hg5) (fun hHeld => ?_)
            clear hK K
            try simp only [Act.put, ptA, ptB, ptC]
            refine tt (i := 6) hHeld (some 144) ?_
            try simp only [Act.put, ptA, ptB, ptC]
            refine tt (i := 7) hHeld (some 151) ?_
            try simp only [Act.put, ptA, ptB, ptC]
            refine tt (i := 8) hHeld (some 152) ?_
            try simp only [Act.put, ptA, ptB, ptC]
            refine till_ready (rs := [10]) (by kernel_rfl) (by simp) ?_
            refine mem1 ?_
            refine till_step rfl (fun K hK => ?_)
            obtain ⟨k0, k1, k2⟩ := three_cells kb.out
            obtain ⟨f0, f1, f2⟩ := three_frozen kb.out
            have hlt := lt_of_block kb.out
            go_simp
            have HF := hide (BoxR.stored hge hg5 HR.out kb)
            have hg6 := HF.out.choose_spec.2.2.2
            clear k0 k1 k2 f0 f1 f2
            refine hK.out _ _ (HSS.out _ hg6) (fun hHeld => ?_)
            clear hK K
            try simp only [Act.put, ptA, ptB, ptC]
            refine tt (i := 11) hHeld (some 30) ?_
            try simp only [Act.put, ptA, ptB, ptC]
            refine till_done (by kernel_rfl) ?_ _
            clear hHeld
            go_wp2_with fail
            go_meet
            exact ⟨HF.out, rfl⟩
      case rest =>
      obtain ⟨⟨g29, rfl, hgl, hbx, hd⟩, rfl⟩ := hcut
      rename World => w123
      have HB29 := hide hbx
      replace hX1 := hide (at_later hX1.out hd)
      replace hO1 := hide (at_later hO1.out hd)
      replace hSV1 := hide (hSV1.out.below hd)
      replace hQR1 := hide (hQR1.out.below hd)
      replace hVX1 := hide (hVX1.out.below hd)
      replace HBr := hide (HBr.out.below hd)
      replace HBa := hide (HBa.out.below hd)
      replace HBt := hide (HBt.out.below hd)
      replace HBl := hide (HBl.out.below hd)
      replace HW := hide (HW.out.trans (hd.mono HW.out.size))
      clear hgl hbx hd
      clear HBt
      clear hVX1
      clear hX1
      clear hO1
      clear hSV1
      clear hQR1
      obtain ⟨s124, A124, n124, c124, B124, m124, d124, hx124, hq124⟩ := HBr.out
      obtain ⟨x0, x1, x2⟩ := three_cells hx124
      have hlx := lt_of_block hx124
      obtain ⟨s125, A125, n125, c125, B125, m125, d125, hx125, hq125⟩ := HB29.out
      obtain ⟨z0, z1, z2⟩ := three_cells hx125
      have hlz := lt_of_block hx125
      have HQa := hide hq124
      have HQb := hide hq125
      clear hx124 hx125 hq124 hq125
      go_wp2_with fail
      refine (add_q _ _ _ (sumN (ShopG.rdF N R Ws n) i) (ShopG.rdF N R Ws n i) 3000 HQa.out HQb.out (by omega)).mono ?_
      rintro e w126 ⟨_, rfl, hdn⟩
      replace hdn : doneR _ (sumN (ShopG.rdF N R Ws n) (i + 1)) _ _ _ := hdn
      obtain ⟨r126, rfl, hr126, hd⟩ := hdn.ok (((fit_sum (L := 375) (f := ShopG.rdF N R Ws n) (i + 1) (fun j hj => HS.out.rd_fit n hn11 j (by omega) (HS.out.v_fit j (by omega)))).more (show (375 + 1) * (i + 1) + 1 ≤ 2257 by omega)).smallQ (by omega))
      replace hr126 : RatV w126 r126 (sumN (ShopG.rdF N R Ws n) (i + 1)) 3000 := hr126.fit (((fit_sum (L := 375) (f := ShopG.rdF N R Ws n) (i + 1) (fun j hj => HS.out.rd_fit n hn11 j (by omega) (HS.out.v_fit j (by omega)))).more (show (375 + 1) * (i + 1) + 1 ≤ 2257 by omega)).more (by omega))
      obtain ⟨s126, A126, n126, c126, B126, m126, d126, rfl⟩ := hr126.shape
      have HR := hide hr126
      clear hdn hr126 x0 x1 x2 z0 z1 z2 hlx hlz HQa HQb
      replace HBr := hide (HBr.out.below hd)
      replace HBa := hide (HBa.out.below hd)
      replace HBl := hide (HBl.out.below hd)
      replace HB29 := hide (HB29.out.below hd)
      replace HW := hide (HW.out.trans (hd.mono HW.out.size))
      clear hd
      obtain ⟨s127, A127, n127, c127, B127, m127, d127, hx127, hq127⟩ := HBr.out
      obtain ⟨x0, x1, x2⟩ := three_cells hx127
      obtain ⟨f0, f1, f2⟩ := three_frozen hx127
      have hlx := lt_of_block hx127
      clear hx127 hq127
      go_upto_region 22 with fail
      obtain ⟨t1, t2, t3⟩ := BoxR.put HBr.out HR.out
      obtain ⟨Wn, hWn⟩ : ∃ Wn, Wn = ((w126.setCell ⟨w101.heap.size, 0, none⟩ (.bool s126)).setCell ⟨w101.heap.size, 1, none⟩ (.slice A126 n126 c126)).setCell ⟨w101.heap.size, 2, none⟩ (.slice B126 m126 d126) := ⟨_, rfl⟩
      rw [← hWn] at t1 t2 t3 ⊢
      have HBr2 := hide t1
      have HBa2 := hide (HBa.out.only t2 t3 (by omega))
      have HBl2 := hide (HBl.out.only t2 t3 (by omega))
      replace HW := hide (only_below HW.out t3 HW.out.size (Nat.le_refl _))
      clear t1 t2 t3 hWn x0 x1 x2 f0 f1 f2 hlx HR HBr HBa HBl HB29
      obtain ⟨s128, A128, n128, c128, B128, m128, d128, hx128, hq128⟩ := HBa2.out
      obtain ⟨x0, x1, x2⟩ := three_cells hx128
      have hlx := lt_of_block hx128
      obtain ⟨s129, A129, n129, c129, B129, m129, d129, hx129, hq129⟩ := HBl2.out
      obtain ⟨z0, z1, z2⟩ := three_cells hx129
      have hlz := lt_of_block hx129
      have HQa := hide hq128
      have HQb := hide hq129
      clear hx128 hx129 hq128 hq129
      go_wp2_with fail
      refine (add_q _ _ _ (sumN (fun i => lnQ (ldF N R Ws) N i (n + 1)) i) (lnQ (ldF N R Ws) N i (n + 1)) 3000 HQa.out HQb.out (by omega)).mono ?_
      rintro e w130 ⟨_, rfl, hdn⟩
      replace hdn : doneR _ (sumN (fun i => lnQ (ldF N R Ws) N i (n + 1)) (i + 1)) _ _ _ := hdn
      obtain ⟨r130, rfl, hr130, hd⟩ := hdn.ok (((fit_sum (L := 350) (f := fun i => lnQ (ldF N R Ws) N i (n + 1)) (i + 1) (fun j hj => HS.out.ld.ln_fit2 j (n + 1) (by omega) (by omega))).more (show (350 + 1) * (i + 1) + 1 ≤ 2107 by omega)).smallQ (by omega))
      replace hr130 : RatV w130 r130 (sumN (fun i => lnQ (ldF N R Ws) N i (n + 1)) (i + 1)) 3000 := hr130.fit (((fit_sum (L := 350) (f := fun i => lnQ (ldF N R Ws) N i (n + 1)) (i + 1) (fun j hj => HS.out.ld.ln_fit2 j (n + 1) (by omega) (by omega))).more (show (350 + 1) * (i + 1) + 1 ≤ 2107 by omega)).more (by omega))
      obtain ⟨s130, A130, n130, c130, B130, m130, d130, rfl⟩ := hr130.shape
      have HR := hide hr130
      clear hdn hr130 x0 x1 x2 z0 z1 z2 hlx hlz HQa HQb
      replace HBr2 := hide (HBr2.out.below hd)
      replace HBa2 := hide (HBa2.out.below hd)
      replace HBl2 := hide (HBl2.out.below hd)
      replace HW := hide (HW.out.trans (hd.mono HW.out.size))
      clear hd
      obtain ⟨s131, A131, n131, c131, B131, m131, d131, hx131, hq131⟩ := HBa2.out
      obtain ⟨x0, x1, x2⟩ := three_cells hx131
      obtain ⟨f0, f1, f2⟩ := three_frozen hx131
      have hlx := lt_of_block hx131
      clear hx131 hq131
      go_wp2_with fail
      go_roundw
      case rel =>
        obtain ⟨t1, t2, t3⟩ := BoxR.put HBa2.out HR.out
        have t4 := HBr2.out.only t2 t3 (by omega)
        have t5 := only_below HW.out t3 HW.out.size (by omega)
        repeat apply Exists.intro
        exact ⟨show i + 1 ≤ N by omega, by go_num, t4, t1, t5⟩
      case measure => simp [intOf]; omega
    · obtain rfl : i = N := by omega
      have i1 : ¬ (i : Int) < (i : Int) := by omega
      have HV0 := hide hv_eq
      have HBr := hide hbr
      have HBa := hide hba
      replace HX := hide (at_later HX.out hbel)
      replace HSV := hide (HSV.out.below hbel)
      replace HW := hide (below_next HW.out hbel)
      clear hbr hba hbel hv_eq HO HQR HVX
      obtain ⟨y0, y1, -, -⟩ := two_cells HX.out
      have hly := lt_of_block HX.out
      go_wp2_with fail
      refine (Speed_c _ _ i 0 ((n : Int) + 1) R Ws HSV.out HS.out (by omega) (by omega) (by omega)).mono ?_
      rintro e w301 ⟨_, rfl, r301, rfl, hr301, hd⟩
      clear y0 y1 hly
      obtain ⟨s301, A301, n301, c301, B301, m301, d301, rfl⟩ := hr301.shape
      obtain ⟨W301, hW301⟩ : ∃ W301, W301 = w301.alloc (.cells #[.bool s301, .slice A301 n301 c301, .slice B301 m301 d301] 43) := ⟨_, rfl⟩
      have hda : Below w301.heap.size w301 W301 := by rw [hW301]; exact below_al (Below.refl _ _) _
      have hdn := below_next hd hda
      have HB31 := hide (show BoxR W301 w301.heap.size (spQ i R Ws 0 ((n : Int) + 1)) 3000 from ⟨_, _, _, _, _, _, _, by rw [hW301]; exact at_new _ _, hr301.below hda⟩)
      have HL := hide hW301
      replace HX := hide (at_later HX.out hdn)
      replace HSV := hide (HSV.out.below hdn)
      replace HBr := hide (HBr.out.below hdn)
      replace HBa := hide (HBa.out.below hdn)
      replace HW := hide (below_next HW.out hdn)
      clear hd hda hdn hr301 hW301
      clear HX
      clear HSV
      go_upto_region 24 with fail
      rw [← HL.out]
      clear HL
      go_cut [33, 34] (fun s33 s34 wx => (∃ g : Nat, s33 = .pointer (some ⟨g, 0, none⟩) ∧ W301.heap.size ≤ g ∧ BoxR wx g ((((n : Int) + 1 : Int) : Rat) / sumN (ShopG.rdF i R Ws n) i) 3000 ∧ Below W301.heap.size W301 wx) ∧ s34 = .int .i64 0)
      case first =>
        as_aux_lemma =>
          obtain ⟨s302, A302, n302, c302, B302, m302, d302, hx302, hq302⟩ := HBr.out
          have hS : ∀ w', Below W301.heap.size W301 w' → (w'.cell? ⟨w101.heap.size, 0, none⟩ = some (.bool s302) ∧ w'.cell? ⟨w101.heap.size, 1, none⟩ = some (.slice A302 n302 c302) ∧ w'.cell? ⟨w101.heap.size, 2, none⟩ = some (.slice B302 m302 d302)) := fun w' h => by
            have eC : ∀ b o v, W301.cell? ⟨b, o, none⟩ = some v → w'.cell? ⟨b, o, none⟩ = some v := fun b o v hv => (h.cell (lt_of_cell hv)).trans hv
            exact three_cells (at_later hx302 h)
          have hdr : Below W301.heap.size W301 W301.drew := (Below.refl _ _).drew
          have HSS := hide hS
          have HQS := hide (And.intro hq302 trivial)
          clear hS hx302 hq302
          refine till_begin (fun w' => (w'.cell? ⟨w101.heap.size, 0, none⟩ = some (.bool s302) ∧ w'.cell? ⟨w101.heap.size, 1, none⟩ = some (.slice A302 n302 c302) ∧ w'.cell? ⟨w101.heap.size, 2, none⟩ = some (.slice B302 m302 d302))) [0, 1, 2, 3, 4, 5, 6, 7, 8, 9] (by kernel_rfl) (HSS.out _ hdr) (fun hHeld => ?_)
          refine tt (i := 0) hHeld (some 172) ?_
          try simp only [Act.put, ptA, ptB, ptC]
          refine tt (i := 2) hHeld (some 174) ?_
          try simp only [Act.put, ptA, ptB, ptC]
          refine till_ready (rs := [1, 7]) (by kernel_rfl) (by simp) ?_
          refine List.forall_mem_cons.2 ⟨?_, List.forall_mem_cons.2 ⟨?_, fun _ h => absurd h List.not_mem_nil⟩⟩
          · refine till_step rfl (fun K hK => ?_)
            go_simp
            go_at_call 20
            refine (of_c _ ((n : Int) + 1) (by omega) (by omega)).mono ?_
            rintro e w1 ⟨v4, rfl, hr4, hd⟩
            replace hr4 : RatV w1 v4 ((((n : Int) + 1 : Int) : Rat)) 3000 := hr4.more (by omega)
            obtain ⟨s4, A4, n4, c4, B4, m4, d4, rfl⟩ := hr4.shape
            have H4 := hide hr4
            clear hr4
            try (replace kb := hide (at_later kb.out hd))
            have hg1 : Below W301.heap.size W301 w1 := hdr.trans (hd.mono hdr.size)
            clear hd
            go_wp2_with fail
            refine hK.out _ _ (HSS.out _ hg1) (fun hHeld => ?_)
            clear hK K
            try simp only [Act.put, ptA, ptB, ptC]
            refine till_ready (rs := [3, 7]) (by kernel_rfl) (by simp) ?_
            refine List.forall_mem_cons.2 ⟨?_, List.forall_mem_cons.2 ⟨?_, fun _ h => absurd h List.not_mem_nil⟩⟩
            · refine till_step rfl (fun K hK => ?_)
              go_simp
              go_at_call 22
              refine (quo_q _ _ _ ((((n : Int) + 1 : Int) : Rat)) (sumN (ShopG.rdF i R Ws n) i) 3000 H4.out (HQS.out.1.below hg1) (by omega) (HS.out.rd_ne n HV0.out)).mono ?_
              rintro e w2 ⟨v5, rfl, hdn⟩
              obtain ⟨r5, rfl, hr5, hd⟩ := hdn.ok ((((fit_frac (L := 1) (q := (((n : Int) + 1 : Int) : Rat)) (a := (n : Int) + 1) (b := 1) (by omega) (by rw [Rat.intCast_one, Rat.mul_one]) (by omega) (by omega))).divA ((fit_sum (L := 375) (f := ShopG.rdF i R Ws n) i (fun j hj => HS.out.rd_fit n hn11 j hj (HS.out.v_fit j hj))).more (show (375 + 1) * i + 1 ≤ 2257 by omega)) (HS.out.rd_ne n HV0.out)).smallQ (by omega))
              replace hr5 : RatV w2 r5 ((((n : Int) + 1 : Int) : Rat) / sumN (ShopG.rdF i R Ws n) i) 3000 := hr5.fit ((((fit_frac (L := 1) (q := (((n : Int) + 1 : Int) : Rat)) (a := (n : Int) + 1) (b := 1) (by omega) (by rw [Rat.intCast_one, Rat.mul_one]) (by omega) (by omega))).divA ((fit_sum (L := 375) (f := ShopG.rdF i R Ws n) i (fun j hj => HS.out.rd_fit n hn11 j hj (HS.out.v_fit j hj))).more (show (375 + 1) * i + 1 ≤ 2257 by omega)) (HS.out.rd_ne n HV0.out)).more (by omega))
              obtain ⟨s5, A5, n5, c5, B5, m5, d5, rfl⟩ := hr5.shape
              have HR := hide hr5
              clear hr5 hdn
              try (replace kb := hide (at_later kb.out hd))
              have hg2 : Below W301.heap.size W301 w2 := hg1.trans (hd.mono hg1.size)
              clear hd
              go_wp2_with fail
              refine hK.out _ _ (HSS.out _ hg2) (fun hHeld => ?_)
              clear hK K
              try simp only [Act.put, ptA, ptB, ptC]
              refine tt (i := 4) hHeld (some 171) ?_
              try simp only [Act.put, ptA, ptB, ptC]
              refine tt (i := 5) hHeld (some 176) ?_
              try simp only [Act.put, ptA, ptB, ptC]
              refine tt (i := 6) hHeld (some 177) ?_
              try simp only [Act.put, ptA, ptB, ptC]
              refine till_ready (rs := [7]) (by kernel_rfl) (by simp) ?_
              refine mem1 ?_
              refine till_step rfl (fun K hK => ?_)
              go_simp
              have hg3 : Below W301.heap.size W301 (w2.alloc (.cells #[.bool false, .slice none 0 0, .slice none 0 0] 43)) := hg2.alloc hg2.size (.cells #[.bool false, .slice none 0 0, .slice none 0 0] 43)
              have kb := hide (show (w2.alloc (.cells #[.bool false, .slice none 0 0, .slice none 0 0] 43)).heap[w2.heap.size]? = some (.cells #[.bool false, .slice none 0 0, .slice none 0 0] 43) from at_new w2 (.cells #[.bool false, .slice none 0 0, .slice none 0 0] 43))
              have hge : W301.heap.size ≤ w2.heap.size := hg2.size
              have hstep : Below w2.heap.size w2 (w2.alloc (.cells #[.bool false, .slice none 0 0, .slice none 0 0] 43)) := below_al (Below.refl _ _) (.cells #[.bool false, .slice none 0 0, .slice none 0 0] 43)
              generalize w2.alloc (.cells #[.bool false, .slice none 0 0, .slice none 0 0] 43) = w3 at hg3 kb hstep ⊢
              try (replace HR := hide (HR.out.below hstep))
              try (replace H4 := hide (H4.out.below hstep))
              clear hstep
              refine hK.out _ _ (HSS.out _ hg3) (fun hHeld => ?_)
              clear hK K
              try simp only [Act.put, ptA, ptB, ptC]
              refine till_ready (rs := [8]) (by kernel_rfl) (by simp) ?_
              refine mem1 ?_
              refine till_step rfl (fun K hK => ?_)
              obtain ⟨k0, k1, k2⟩ := three_cells kb.out
              obtain ⟨f0, f1, f2⟩ := three_frozen kb.out
              have hlt := lt_of_block kb.out
              go_simp
              have HF := hide (BoxR.stored hge hg3 HR.out kb)
              have hg4 := HF.out.choose_spec.2.2.2
              clear k0 k1 k2 f0 f1 f2
              refine hK.out _ _ (HSS.out _ hg4) (fun hHeld => ?_)
              clear hK K
              try simp only [Act.put, ptA, ptB, ptC]
              refine tt (i := 9) hHeld (some 34) ?_
              try simp only [Act.put, ptA, ptB, ptC]
              refine till_done (by kernel_rfl) ?_ _
              clear hHeld
              go_wp2_with fail
              go_meet
              exact ⟨HF.out, rfl⟩
            · refine till_step rfl (fun K hK => ?_)
              go_simp
              have hg5 : Below W301.heap.size W301 (w1.alloc (.cells #[.bool false, .slice none 0 0, .slice none 0 0] 43)) := hg1.alloc hg1.size (.cells #[.bool false, .slice none 0 0, .slice none 0 0] 43)
              have kb := hide (show (w1.alloc (.cells #[.bool false, .slice none 0 0, .slice none 0 0] 43)).heap[w1.heap.size]? = some (.cells #[.bool false, .slice none 0 0, .slice none 0 0] 43) from at_new w1 (.cells #[.bool false, .slice none 0 0, .slice none 0 0] 43))
              have hge : W301.heap.size ≤ w1.heap.size := hg1.size
              have hstep : Below w1.heap.size w1 (w1.alloc (.cells #[.bool false, .slice none 0 0, .slice none 0 0] 43)) := below_al (Below.refl _ _) (.cells #[.bool false, .slice none 0 0, .slice none 0 0] 43)
              generalize w1.alloc (.cells #[.bool false, .slice none 0 0, .slice none 0 0] 43) = w5 at hg5 kb hstep ⊢
              try (replace HR := hide (HR.out.below hstep))
              try (replace H4 := hide (H4.out.below hstep))
              clear hstep
              refine hK.out _ _ (HSS.out _ hg5) (fun hHeld => ?_)
              clear hK K
              try simp only [Act.put, ptA, ptB, ptC]
              refine till_ready (rs := [3]) (by kernel_rfl) (by simp) ?_
              refine mem1 ?_
              refine till_step rfl (fun K hK => ?_)
              go_simp
              go_at_call 22
              refine (quo_q _ _ _ ((((n : Int) + 1 : Int) : Rat)) (sumN (ShopG.rdF i R Ws n) i) 3000 H4.out (HQS.out.1.below hg5) (by omega) (HS.out.rd_ne n HV0.out)).mono ?_
              rintro e w6 ⟨v5, rfl, hdn⟩
              obtain ⟨r5, rfl, hr5, hd⟩ := hdn.ok ((((fit_frac (L := 1) (q := (((n : Int) + 1 : Int) : Rat)) (a := (n : Int) + 1) (b := 1) (by omega) (by rw [Rat.intCast_one, Rat.mul_one]) (by omega) (by omega))).divA ((fit_sum (L := 375) (f := ShopG.rdF i R Ws n) i (fun j hj => HS.out.rd_fit n hn11 j hj (HS.out.v_fit j hj))).more (show (375 + 1) * i + 1 ≤ 2257 by omega)) (HS.out.rd_ne n HV0.out)).smallQ (by omega))
              replace hr5 : RatV w6 r5 ((((n : Int) + 1 : Int) : Rat) / sumN (ShopG.rdF i R Ws n) i) 3000 := hr5.fit ((((fit_frac (L := 1) (q := (((n : Int) + 1 : Int) : Rat)) (a := (n : Int) + 1) (b := 1) (by omega) (by rw [Rat.intCast_one, Rat.mul_one]) (by omega) (by omega))).divA ((fit_sum (L := 375) (f := ShopG.rdF i R Ws n) i (fun j hj => HS.out.rd_fit n hn11 j hj (HS.out.v_fit j hj))).more (show (375 + 1) * i + 1 ≤ 2257 by omega)) (HS.out.rd_ne n HV0.out)).more (by omega))
              obtain ⟨s5, A5, n5, c5, B5, m5, d5, rfl⟩ := hr5.shape
              have HR := hide hr5
              clear hr5 hdn
              try (replace kb := hide (at_later kb.out hd))
              have hg6 : Below W301.heap.size W301 w6 := hg5.trans (hd.mono hg5.size)
              clear hd
              go_wp2_with fail
              refine hK.out _ _ (HSS.out _ hg6) (fun hHeld => ?_)
              clear hK K
              try simp only [Act.put, ptA, ptB, ptC]
              refine tt (i := 4) hHeld (some 171) ?_
              try simp only [Act.put, ptA, ptB, ptC]
              refine tt (i := 5) hHeld (some 176) ?_
              try simp only [Act.put, ptA, ptB, ptC]
              refine tt (i := 6) hHeld (some 177) ?_
              try simp only [Act.put, ptA, ptB, ptC]
              refine till_ready (rs := [8]) (by kernel_rfl) (by simp) ?_
              refine mem1 ?_
              refine till_step rfl (fun K hK => ?_)
              obtain ⟨k0, k1, k2⟩ := three_cells kb.out
              obtain ⟨f0, f1, f2⟩ := three_frozen kb.out
              have hlt := lt_of_block kb.out
              go_simp
              have HF := hide (BoxR.stored hge hg6 HR.out kb)
              have hg7 := HF.out.choose_spec.2.2.2
              clear k0 k1 k2 f0 f1 f2
              refine hK.out _ _ (HSS.out _ hg7) (fun hHeld => ?_)
              clear hK K
              try simp only [Act.put, ptA, ptB, ptC]
              refine tt (i := 9) hHeld (some 34) ?_
              try simp only [Act.put, ptA, ptB, ptC]
              refine till_done (by kernel_rfl) ?_ _
              clear hHeld
              go_wp2_with fail
              go_meet
              exact ⟨HF.out, rfl⟩
          · refine till_step rfl (fun K hK => ?_)
            go_simp
            have hg8 : Below W301.heap.size W301 ((W301.alloc (.cells #[.bool false, .slice none 0 0, .slice none 0 0] 43)).drew) := (below_al (Below.refl _ _) (.cells #[.bool false, .slice none 0 0, .slice none 0 0] 43)).drew
            have kb := hide (show ((W301.alloc (.cells #[.bool false, .slice none 0 0, .slice none 0 0] 43)).drew).heap[W301.heap.size]? = some (.cells #[.bool false, .slice none 0 0, .slice none 0 0] 43) from at_new W301 (.cells #[.bool false, .slice none 0 0, .slice none 0 0] 43))
            have hge : W301.heap.size ≤ W301.heap.size := Nat.le_refl _
            have hstep : Below W301.heap.size W301 ((W301.alloc (.cells #[.bool false, .slice none 0 0, .slice none 0 0] 43)).drew) := (below_al (Below.refl _ _) (.cells #[.bool false, .slice none 0 0, .slice none 0 0] 43)).drew
            generalize (W301.alloc (.cells #[.bool false, .slice none 0 0, .slice none 0 0] 43)).drew = w8 at hg8 kb hstep ⊢
            try (replace HR := hide (HR.out.below hstep))
            try (replace H4 := hide (H4.out.below hstep))
            clear hstep
            refine hK.out _ _ (HSS.out _ hg8) (fun hHeld => ?_)
            clear hK K
            try simp only [Act.put, ptA, ptB, ptC]
            refine till_ready (rs := [1]) (by kernel_rfl) (by simp) ?_
            refine mem1 ?_
            refine till_step rfl (fun K hK => ?_)
            go_simp
            go_at_call 20
            refine (of_c _ ((n : Int) + 1) (by omega) (by omega)).mono ?_
            rintro e w9 ⟨v4, rfl, hr4, hd⟩
            replace hr4 : RatV w9 v4 ((((n : Int) + 1 : Int) : Rat)) 3000 := hr4.more (by omega)
            obtain ⟨s4, A4, n4, c4, B4, m4, d4, rfl⟩ := hr4.shape
            have H4 := hide hr4
            clear hr4
            try (replace kb := hide (at_later kb.out hd))
            have hg9 : Below W301.heap.size W301 w9 := hg8.trans (hd.mono hg8.size)
            clear hd
            go_wp2_with fail
            refine hK.out _ _ (HSS.out _ hg9) (fun hHeld => ?_)
            clear hK K
            try simp only [Act.put, ptA, ptB, ptC]
            refine till_ready (rs := [3]) (by kernel_rfl) (by simp) ?_
            refine mem1 ?_
            refine till_step rfl (fun K hK => ?_)
            go_simp
            go_at_call 22
            refine (quo_q _ _ _ ((((n : Int) + 1 : Int) : Rat)) (sumN (ShopG.rdF i R Ws n) i) 3000 H4.out (HQS.out.1.below hg9) (by omega) (HS.out.rd_ne n HV0.out)).mono ?_
            rintro e w10 ⟨v5, rfl, hdn⟩
            obtain ⟨r5, rfl, hr5, hd⟩ := hdn.ok ((((fit_frac (L := 1) (q := (((n : Int) + 1 : Int) : Rat)) (a := (n : Int) + 1) (b := 1) (by omega) (by rw [Rat.intCast_one, Rat.mul_one]) (by omega) (by omega))).divA ((fit_sum (L := 375) (f := ShopG.rdF i R Ws n) i (fun j hj => HS.out.rd_fit n hn11 j hj (HS.out.v_fit j hj))).more (show (375 + 1) * i + 1 ≤ 2257 by omega)) (HS.out.rd_ne n HV0.out)).smallQ (by omega))
            replace hr5 : RatV w10 r5 ((((n : Int) + 1 : Int) : Rat) / sumN (ShopG.rdF i R Ws n) i) 3000 := hr5.fit ((((fit_frac (L := 1) (q := (((n : Int) + 1 : Int) : Rat)) (a := (n : Int) + 1) (b := 1) (by omega) (by rw [Rat.intCast_one, Rat.mul_one]) (by omega) (by omega))).divA ((fit_sum (L := 375) (f := ShopG.rdF i R Ws n) i (fun j hj => HS.out.rd_fit n hn11 j hj (HS.out.v_fit j hj))).more (show (375 + 1) * i + 1 ≤ 2257 by omega)) (HS.out.rd_ne n HV0.out)).more (by omega))
            obtain ⟨s5, A5, n5, c5, B5, m5, d5, rfl⟩ := hr5.shape
            have HR := hide hr5
            clear hr5 hdn
            try (replace kb := hide (at_later kb.out hd))
            have hg10 : Below W301.heap.size W301 w10 := hg9.trans (hd.mono hg9.size)
            clear hd
            go_wp2_with fail
            refine hK.out _ _ (HSS.out _ hg10) (fun hHeld => ?_)
            clear hK K
            try simp only [Act.put, ptA, ptB, ptC]
            refine tt (i := 4) hHeld (some 171) ?_
            try simp only [Act.put, ptA, ptB, ptC]
            refine tt (i := 5) hHeld (some 176) ?_
            try simp only [Act.put, ptA, ptB, ptC]
            refine tt (i := 6) hHeld (some 177) ?_
            try simp only [Act.put, ptA, ptB, ptC]
            refine till_ready (rs := [8]) (by kernel_rfl) (by simp) ?_
            refine mem1 ?_
            refine till_step rfl (fun K hK => ?_)
            obtain ⟨k0, k1, k2⟩ := three_cells kb.out
            obtain ⟨f0, f1, f2⟩ := three_frozen kb.out
            have hlt := lt_of_block kb.out
            go_simp
            have HF := hide (BoxR.stored hge hg10 HR.out kb)
            have hg11 := HF.out.choose_spec.2.2.2
            clear k0 k1 k2 f0 f1 f2
            refine hK.out _ _ (HSS.out _ hg11) (fun hHeld => ?_)
            clear hK K
            try simp only [Act.put, ptA, ptB, ptC]
            refine tt (i := 9) hHeld (some 34) ?_
            try simp only [Act.put, ptA, ptB, ptC]
            refine till_done (by kernel_rfl) ?_ _
            clear hHeld
            go_wp2_with fail
            go_meet
            exact ⟨HF.out, rfl⟩
      case rest =>
      obtain ⟨⟨g33, rfl, hgl, hbx, hd⟩, rfl⟩ := hcut
      rename World => w303
      have HB33 := hide hbx
      replace HBr := hide (HBr.out.below hd)
      replace HBa := hide (HBa.out.below hd)
      replace HB31 := hide (HB31.out.below hd)
      replace HW := hide (below_next HW.out hd)
      clear hgl hbx hd
      clear HBr
      go_upto_region 25 with fail
      obtain ⟨s304, A304, n304, c304, B304, m304, d304, hx304, hq304⟩ := HB31.out
      obtain ⟨s305, A305, n305, c305, B305, m305, d305, hx305, hq305⟩ := HB33.out
      obtain ⟨s306, A306, n306, c306, B306, m306, d306, hx306, hq306⟩ := HBa.out
      have hS : ∀ w', Below w303.heap.size w303 w' → (w'.cell? ⟨w301.heap.size, 0, none⟩ = some (.bool s304) ∧ w'.cell? ⟨w301.heap.size, 1, none⟩ = some (.slice A304 n304 c304) ∧ w'.cell? ⟨w301.heap.size, 2, none⟩ = some (.slice B304 m304 d304)) ∧ (w'.cell? ⟨g33, 0, none⟩ = some (.bool s305) ∧ w'.cell? ⟨g33, 1, none⟩ = some (.slice A305 n305 c305) ∧ w'.cell? ⟨g33, 2, none⟩ = some (.slice B305 m305 d305)) ∧ (w'.cell? ⟨w101.heap.size + 1, 0, none⟩ = some (.bool s306) ∧ w'.cell? ⟨w101.heap.size + 1, 1, none⟩ = some (.slice A306 n306 c306) ∧ w'.cell? ⟨w101.heap.size + 1, 2, none⟩ = some (.slice B306 m306 d306)) := fun w' h => by
        have eC : ∀ b o v, w303.cell? ⟨b, o, none⟩ = some v → w'.cell? ⟨b, o, none⟩ = some v := fun b o v hv => (h.cell (lt_of_cell hv)).trans hv
        exact ⟨three_cells (at_later hx304 h), three_cells (at_later hx305 h), three_cells (at_later hx306 h)⟩
      have hdr : Below w303.heap.size w303 w303.drew := (Below.refl _ _).drew
      have HSS := hide hS
      have HQS := hide (And.intro hq304 (And.intro hq305 (And.intro hq306 trivial)))
      clear hS hx304 hq304 hx305 hq305 hx306 hq306
      refine till_begin (fun w' => (w'.cell? ⟨w301.heap.size, 0, none⟩ = some (.bool s304) ∧ w'.cell? ⟨w301.heap.size, 1, none⟩ = some (.slice A304 n304 c304) ∧ w'.cell? ⟨w301.heap.size, 2, none⟩ = some (.slice B304 m304 d304)) ∧ (w'.cell? ⟨g33, 0, none⟩ = some (.bool s305) ∧ w'.cell? ⟨g33, 1, none⟩ = some (.slice A305 n305 c305) ∧ w'.cell? ⟨g33, 2, none⟩ = some (.slice B305 m305 d305)) ∧ (w'.cell? ⟨w101.heap.size + 1, 0, none⟩ = some (.bool s306) ∧ w'.cell? ⟨w101.heap.size + 1, 1, none⟩ = some (.slice A306 n306 c306) ∧ w'.cell? ⟨w101.heap.size + 1, 2, none⟩ = some (.slice B306 m306 d306))) [0, 1, 2, 3, 4, 5, 6, 7, 8, 9, 10, 11, 12, 13, 14, 15, 16, 17, 18] (by kernel_rfl) (HSS.out _ hdr) (fun hHeld => ?_)
      refine tt (i := 0) hHeld (some 178) ?_
      try simp only [Act.put, ptA, ptB, ptC]
      refine tt (i := 1) hHeld (some 179) ?_
      try simp only [Act.put, ptA, ptB, ptC]
      refine tt (i := 2) hHeld (some 180) ?_
      try simp only [Act.put, ptA, ptB, ptC]
      refine tt (i := 3) hHeld (some 181) ?_
      try simp only [Act.put, ptA, ptB, ptC]
      refine tt (i := 4) hHeld (some 182) ?_
      try simp only [Act.put, ptA, ptB, ptC]
      refine till_ready (rs := [5]) (by kernel_rfl) (by simp) ?_
      refine mem1 ?_
      refine till_step rfl (fun K hK => ?_)
      go_simp
      go_at_call 19
      refine (cmp_q _ _ _ (spQ i R Ws 0 ((n : Int) + 1)) ((((n : Int) + 1 : Int) : Rat) / sumN (ShopG.rdF i R Ws n) i) 3000 (HQS.out.1.below hdr) (HQS.out.2.1.below hdr) (by omega)).mono ?_
      rintro e w1 ⟨_, rfl, rfl, hd⟩
      rw [show sgnQ (spQ i R Ws 0 ((n : Int) + 1) - (((n : Int) + 1 : Int) : Rat) / sumN (ShopG.rdF i R Ws n) i) = 0 by rw [HS.out.first n HV0.out HM.out]; exact sgn_zero _]
      have hg1 : Below w303.heap.size w303 w1 := hdr.trans (hd.mono hdr.size)
      clear hd
      go_wp2_with fail
      refine hK.out _ _ (HSS.out _ hg1) (fun hHeld => ?_)
      clear hK K
      try simp only [Act.put, ptA, ptB, ptC]
      refine tt (i := 6) hHeld (some 184) ?_
      try simp only [Act.put, ptA, ptB, ptC]
      refine tt (i := 7) hHeld (some 185) ?_
      try simp only [Act.put, ptA, ptB, ptC]
      refine tt (i := 8) hHeld (some 186) ?_
      try simp only [Act.put, ptA, ptB, ptC]
      refine tt (i := 10) hHeld (some 188) ?_
      try simp only [Act.put, ptA, ptB, ptC]
      refine tt (i := 9) hHeld (some 187) ?_
      try simp only [Act.put, ptA, ptB, ptC]
      refine till_ready (rs := [11]) (by kernel_rfl) (by simp) ?_
      refine mem1 ?_
      refine till_step rfl (fun K hK => ?_)
      go_simp
      go_at_call 20
      refine (of_c _ ((n : Int) + 1) (by omega) (by omega)).mono ?_
      rintro e w2 ⟨v4, rfl, hr4, hd⟩
      replace hr4 : RatV w2 v4 ((((n : Int) + 1 : Int) : Rat)) 3000 := hr4.more (by omega)
      obtain ⟨s4, A4, n4, c4, B4, m4, d4, rfl⟩ := hr4.shape
      have H4 := hide hr4
      clear hr4
      have hg2 : Below w303.heap.size w303 w2 := hg1.trans (hd.mono hg1.size)
      clear hd
      go_wp2_with fail
      refine hK.out _ _ (HSS.out _ hg2) (fun hHeld => ?_)
      clear hK K
      try simp only [Act.put, ptA, ptB, ptC]
      refine till_ready (rs := [12]) (by kernel_rfl) (by simp) ?_
      refine mem1 ?_
      refine till_step rfl (fun K hK => ?_)
      go_simp
      go_at_call 19
      refine (cmp_q _ _ _ (sumN (fun j => lnQ (ldF i R Ws) i j (n + 1)) i) ((((n : Int) + 1 : Int) : Rat)) 3000 (HQS.out.2.2.1.below hg2) H4.out (by omega)).mono ?_
      rintro e w3 ⟨_, rfl, rfl, hd⟩
      rw [show sgnQ (sumN (fun j => lnQ (ldF i R Ws) i j (n + 1)) i - (((n : Int) + 1 : Int) : Rat)) = 0 by rw [HS.out.all_ln (n + 1)]; exact sgn_zero _]
      have hg3 : Below w303.heap.size w303 w3 := hg2.trans (hd.mono hg2.size)
      clear hd
      go_wp2_with fail
      refine hK.out _ _ (HSS.out _ hg3) (fun hHeld => ?_)
      clear hK K
      try simp only [Act.put, ptA, ptB, ptC]
      refine tt (i := 13) hHeld (some 191) ?_
      try simp only [Act.put, ptA, ptB, ptC]
      refine tt (i := 14) hHeld (some 192) ?_
      try simp only [Act.put, ptA, ptB, ptC]
      refine tt (i := 15) hHeld (some 193) ?_
      try simp only [Act.put, ptA, ptB, ptC]
      refine till_ready (rs := [16]) (by kernel_rfl) (by simp) ?_
      refine mem1 ?_
      refine till_step rfl (fun K hK => ?_)
      go_simp
      go_at_call 25
      refine (awake_q _).mono ?_
      rintro e w4 ⟨_, rfl, rfl, hd⟩
      have hg4 : Below w303.heap.size w303 w4 := hg3.trans (hd.mono hg3.size)
      clear hd
      go_wp2_with fail
      refine hK.out _ _ (HSS.out _ hg4) (fun hHeld => ?_)
      clear hK K
      try simp only [Act.put, ptA, ptB, ptC]
      refine tt (i := 17) hHeld (some 195) ?_
      try simp only [Act.put, ptA, ptB, ptC]
      refine tt (i := 18) hHeld (some 6) ?_
      try simp only [Act.put, ptA, ptB, ptC]
      refine till_done (by kernel_rfl) ?_ _
      clear hHeld
      go_wp2
      refine bodyPost_ret (v := .bool true) ?_ rfl ⟨_, rfl, rfl, HW.out.trans (hg4.mono HW.out.size)⟩
      simp [results, Tryz.results7, go_sem]
end Go.Proofs.YtpoahodnakhmiaaGreat
