/- Walks: the law QueueBuzen. -/
import Derived.Test.YtpoahodnakhmiaaGreatQAwake
import Derived.Test.YtpoahodnakhmiaaGreatTameW
namespace Go.Proofs.YtpoahodnakhmiaaGreat
set_option linter.unusedVariables false
set_option linter.unusedSimpArgs false
open Go.RowKit
/-- the fractions of a slice, by its address -/
def RowX (w : World) (b o n : Nat) (f : Nat → Rat) (L : Nat) : Prop := ∀ i, i < n → At3 w b (o + i * 3) (f i) L
theorem RowX.below {w w' : World} {b o n : Nat} {f : Nat → Rat} {L : Nat} (h : RowX w b o n f L) (hb : Below w.heap.size w w') : RowX w' b o n f L := fun i hi => (h i hi).below hb
theorem RowV.x {w : World} {A : Option Addr} {n c : Nat} {qs : List Rat} {L : Nat} (h : RowV w (.slice A n c) qs L) (h0 : 0 < qs.length) (f : Nat → Rat) (hf : ∀ i, i < qs.length → qs.getD i 0 = f i) : ∃ b o, A = some ⟨b, o, none⟩ ∧ RowX w b o qs.length f L := by
  obtain ⟨-, -, -, hc⟩ := h.at_
  obtain ⟨b, o, e, hx⟩ := hc h0
  exact ⟨b, o, e, fun i hi => by rw [← hf i hi]; exact hx i hi⟩
/-- the visits -/
def vF (m : Nat) (Ws : List (List Rat)) (i : Nat) : Rat := (visV m (ent Ws)).getD i 0
/-- the reference's fractions of a slice, by its address -/
def QRowX (w : World) (b o : Nat) (qs : List Rat) (L : Nat) : Prop := ∀ i, i < qs.length → ∃ s A n c B m d, w.cell? ⟨b, o + i * 4, none⟩ = some (.bool s) ∧ w.cell? ⟨b, o + i * 4 + 1, none⟩ = some (.slice A n c) ∧ w.cell? ⟨b, o + i * 4 + 2, none⟩ = some (.bool false) ∧ w.cell? ⟨b, o + i * 4 + 3, none⟩ = some (.slice B m d) ∧ QV w (.agg #[.bool s, .slice A n c, .bool false, .slice B m d]) (qs.getD i 0) L
theorem QRowX.below {w w' : World} {b o : Nat} {qs : List Rat} {L : Nat} (h : QRowX w b o qs L) (hb : Below w.heap.size w w') : QRowX w' b o qs L := fun i hi => by
  obtain ⟨s, A, n, c, B, m, d, h0, h1, h2, h3, h4⟩ := h i hi
  exact ⟨s, A, n, c, B, m, d, (hb.cell (lt_of_cell h0)).trans h0, (hb.cell (lt_of_cell h1)).trans h1, (hb.cell (lt_of_cell h2)).trans h2, (hb.cell (lt_of_cell h3)).trans h3, h4.below hb⟩
theorem QRowE.x {w : World} {A : Option Addr} {n c : Nat} {qs : List Rat} {L : Nat} (h : QRowE L w (.slice A n c) qs) (h0 : 0 < qs.length) : ∃ b o, A = some ⟨b, o, none⟩ ∧ QRowX w b o qs L := by
  obtain ⟨A', c', e, h1, h2, h3⟩ := h
  injection e with e _ _
  subst e
  obtain ⟨b, o, e, ht, hc⟩ := h3 h0
  refine ⟨b, o, e, fun i hi => ?_⟩
  obtain ⟨u, hu1, hu2, hu3⟩ := hc i (qs.getD i 0) (by simp [List.getD, hi])
  obtain ⟨s, A1, n1, c1, B1, m1, d1, rfl, -, -⟩ := QV.parts hu3
  have kc : ∀ j x, j < 4 → (Value.agg #[.bool s, .slice A1 n1 c1, .bool false, .slice B1 m1 d1]).cells.getD j undef = x → w.cell? ⟨b, o + i * 4 + j, none⟩ = some x := fun j x hj e => by
    rw [hu2 j (by rw [hu1]; exact hj), e]
  exact ⟨s, A1, n1, c1, B1, m1, d1, kc 0 _ (by omega) rfl, kc 1 _ (by omega) rfl, kc 2 _ (by omega) rfl, kc 3 _ (by omega) rfl, hu3⟩
/-- the rows of a tame shop are as long as they should be, of small numbers -/
theorem TameS.give {n : Nat} {a b : Nat → Nat} {c : Nat → Nat → Nat} (h : TameS n a b c) : (tR n a b).length ≤ 100 ∧ (tW n c).length ≤ 100 ∧ (∀ r ∈ tW n c, r.length ≤ 100) ∧ (∀ q ∈ tR n a b, FracQ 6 q) ∧ (∀ r ∈ tW n c, ∀ q ∈ r, FracQ 6 q) := by
  have h6 := h.n6
  refine ⟨by rw [tR_length]; omega, by rw [tW_length]; omega, fun r hr => ?_, fun q hq => ?_, fun r hr q hq => ?_⟩
  · unfold tW at hr
    obtain ⟨i, -, rfl⟩ := List.mem_map.1 hr
    simp; omega
  · unfold tR at hq
    obtain ⟨i, -, rfl⟩ := List.mem_map.1 hq
    exact h.rate_small i
  · unfold tW at hr
    obtain ⟨i, hi, rfl⟩ := List.mem_map.1 hr
    obtain ⟨j, hj, rfl⟩ := List.mem_map.1 hq
    exact h.way_small i j (List.mem_range.1 hi) (List.mem_range.1 hj)
theorem ShopV.upS {w : World} {v : Value} {R : List Rat} {Ws : List (List Rat)} {L L' : Nat} (h : ShopV w v R Ws L) (hL : L ≤ L') : ShopV w v R Ws L' := by
  obtain ⟨a, b, rfl, h1, h2⟩ := h
  exact ⟨a, b, rfl, h1.upS hL, h2.upS hL⟩
namespace ShopG
variable {m : Nat} {R : List Rat} {Ws : List (List Rat)}
theorem r_ne (h : ShopG m R Ws) (i : Nat) (hi : i < m) : R.getD i 0 ≠ 0 := h.ok.r0 i hi
theorem ld_def (h : ShopG m R Ws) (i : Nat) (hi : i < m) : vF m Ws i / R.getD i 0 = ldF m R Ws i := by
  unfold ldF ldV vF
  rw [loadsV_get _ _ _ (by rw [h.vlen]; exact hi)]
theorem v_eq (h : ShopG m R Ws) (i : Nat) (hi : i < m) : vF m Ws i = ldF m R Ws i * R.getD i 0 := by
  rw [← h.ld_def i hi, Rat.div_mul_cancel (h.r_ne i hi)]
theorem v_fit (h : ShopG m R Ws) (i : Nat) (hi : i < m) : FitQ 12 (vF m Ws i) := by
  have h1 := (h.ld.fitl i hi).mulA (h.rf i hi)
  have h2 := h1.more (show 2 + 10 ≤ 12 by omega)
  rw [← h.v_eq i hi] at h2
  exact h2
theorem sp_eq (h : ShopG m R Ws) (i n : Nat) (hi : i < m) (hn : 1 ≤ n) : spQ m R Ws i n = vF m Ws i * gN (ldF m R Ws) m (n - 1) / gN (ldF m R Ws) m n := by
  unfold spQ atQ
  rw [if_neg (by omega), if_neg (by omega), show ((n : Int) - 1).toNat = n - 1 by omega, Int.toNat_natCast, show (1 : Int).toNat = 1 from rfl, h.v_eq i hi, Rat.div_def, Rat.div_def]
  show _ * (1 * ldF m R Ws i * _ * _) = _
  grind
theorem at_eq (h : ShopG m R Ws) (i k n : Nat) (hk : k ≤ n) : atQ (ldF m R Ws) m i k n = powN (ldF m R Ws i) k * gN (ldF m R Ws) m (n - k) / gN (ldF m R Ws) m n := by
  unfold atQ
  by_cases h0 : k = 0
  · subst h0
    rw [if_pos (by omega), Nat.sub_zero]
    have := h.ld.g_ne n
    show _ = 1 * _ / _
    rw [Rat.one_mul, Rat.div_def, Rat.mul_inv_cancel _ this]
  · rw [if_neg (by omega), if_neg (by omega), show ((n : Int) - (k : Int)).toNat = n - k by omega, Int.toNat_natCast, Int.toNat_natCast]
end ShopG
theorem getD_memQ (l : List Rat) (i : Nat) (h : i < l.length) : l.getD i 0 ∈ l := by
  rw [show l.getD i 0 = l[i] by simp [List.getD, h]]; exact List.getElem_mem h
theorem sgn_zero (q : Rat) : sgnQ (q - q) = 0 := by
  rw [show q - q = 0 by grind]; rfl
set_option maxRecDepth 100000 in
set_option maxHeartbeats 8000000 in
theorem buzen_law (w : World) (va vb : Value) (rs : List Int) (ws : List (List Int)) (T : TypeId) (a0 a1 a2 : Int) (ha : IntsE w va rs) (hb : LstV T 1 IntsE w vb ws) :
    Calls Tryz.prog 3 #[va, vb, .agg #[.int .i64 a0, .int .i64 a1, .int .i64 a2]] w (Ret (fun v w' => v = .bool true ∧ Below w.heap.size w w')) := by
  obtain ⟨A1, c1, rfl, hl1, hm1, -⟩ := ha.at_
  obtain ⟨A2, c2, rfl, hl2, hm2, -⟩ := id hb
  obtain ⟨N, hN⟩ : ∃ N, N = max 1 (min rs.length 6) := ⟨_, rfl⟩
  have hN1 : 1 ≤ N := by omega
  have hN6 : N ≤ 6 := by omega
  have hTS := tameT N rs ws (by omega) hN6
  have hSG := hTS.shopG
  obtain ⟨R, hR⟩ : ∃ R, R = tR N (aT rs) (bT rs) := ⟨_, rfl⟩
  obtain ⟨Ws, hWs⟩ : ∃ Ws, Ws = tW N (cT N ws) := ⟨_, rfl⟩
  obtain ⟨W, hW⟩ : ∃ W, W = w.alloc (.cells #[.int .i64 a0, .int .i64 a1, .int .i64 a2] 24) := ⟨_, rfl⟩
  have hb0 : Below w.heap.size w W := by rw [hW]; exact below_al (Below.refl _ _) _
  have hof : W.heap[w.heap.size]? = some (.cells #[.int .i64 a0, .int .i64 a1, .int .i64 a2] 24 (0, 0)) := by rw [hW]; exact at_new _ _
  have hgv := hTS.give
  rw [← hR, ← hWs] at hSG hgv
  have hRl : R.length = N := by rw [hR]; exact tR_length _ _ _
  have hWl : Ws.length = N := by rw [hWs]; exact tW_length _ _
  have HRl := hide (And.intro hRl hWl)
  have H0 := hide (And.intro hb0 (And.intro hof (And.intro (ha.below hb0) (hb.below stB_ints hb0))))
  have HG := hide hgv
  have HS := hide hSG
  have HL := hide hW
  have HT := hide (And.intro hN (And.intro hR hWs))
  clear hb0 hof hW ha hb hgv hSG hTS hRl hWl hN hR hWs
  go_enter Tryz.func3, Tryz.ntmps3
  go_upto_region 1 with fail
  rw [← HL.out]
  go_wp2_with fail
  refine (tame_c _ _ _ rs ws T 6 N H0.out.2.2.1 H0.out.2.2.2 (by omega) HT.out.1).mono ?_
  rintro e w1 ⟨v1, rfl, hv1, hd1⟩
  rw [← HT.out.2.1, ← HT.out.2.2] at hv1
  have HV1 := hide hv1
  obtain ⟨ra, wa, rfl, hra, hwa⟩ := hv1
  obtain ⟨Ar, cr, rfl, hcr, hmr, -⟩ := id hra
  obtain ⟨Aw, cw, rfl, -, -, -⟩ := id hwa
  obtain ⟨W1, hW1⟩ : ∃ W1, W1 = w1.alloc (.cells #[.slice Ar R.length cr, .slice Aw Ws.length cw] 28) := ⟨_, rfl⟩
  have hb1 : Below w1.heap.size w1 W1 := by rw [hW1]; exact below_al (Below.refl _ _) _
  have hx1 : W1.heap[w1.heap.size]? = some (.cells #[.slice Ar R.length cr, .slice Aw Ws.length cw] 28 (0, 0)) := by rw [hW1]; exact at_new _ _
  have hd2 := below_next hd1 hb1
  have H1 := hide (And.intro (at_later H0.out.2.1 hd2) (And.intro hx1 (And.intro (HV1.out.below hb1) (below_next H0.out.1 hd2))))
  have HL1 := hide hW1
  obtain ⟨x0, x1, -, -⟩ := two_cells hx1
  have hl1x := lt_of_block hx1
  clear hra hwa hd1 hb1 hx1 hd2 hW1 HV1
  go_upto_region 2 with fail
  rw [← HL1.out]
  go_wp2_with fail
  refine (give_c _ _ R Ws 3 H1.out.2.2.1 (by omega) HG.out.1 HG.out.2.1 HG.out.2.2.1 HG.out.2.2.2.1 HG.out.2.2.2.2).mono ?_
  rintro e w2 ⟨v2, rfl, hv2, hd3⟩
  replace hv2 := hv2.upS (show 1 ≤ 3000 by omega)
  have HV2 := hide hv2
  obtain ⟨rb, wb, rfl, hrb, hwb⟩ := hv2
  obtain ⟨Ab, cb, rfl, -, -, -⟩ := id hrb
  obtain ⟨Ac, cc, rfl, -, -, -⟩ := id hwb
  obtain ⟨W2, hW2⟩ : ∃ W2, W2 = w2.alloc (.cells #[.slice Ab R.length cb, .slice Ac Ws.length cc] 33) := ⟨_, rfl⟩
  have hb2 : Below w2.heap.size w2 W2 := by rw [hW2]; exact below_al (Below.refl _ _) _
  have hx2 : W2.heap[w2.heap.size]? = some (.cells #[.slice Ab R.length cb, .slice Ac Ws.length cc] 33 (0, 0)) := by rw [hW2]; exact at_new _ _
  have hd4 := below_next hd3 hb2
  have hxo := at_later H1.out.2.1 hd4
  have hof := at_later H1.out.1 hd4
  have H2 := hide (And.intro hof (And.intro hxo (And.intro hx2 (And.intro (H1.out.2.2.1.below hd4) (And.intro (HV2.out.below hb2) (below_next H1.out.2.2.2 hd4))))))
  have HL2 := hide hW2
  clear x0 x1 hl1x
  obtain ⟨x0, x1, -, -⟩ := two_cells hxo
  obtain ⟨z0, z1, z2⟩ := three_cells hof
  obtain ⟨y0, y1, -, -⟩ := two_cells hx2
  have hl1x := lt_of_block hxo
  have hlof := lt_of_block hof
  have hl2x := lt_of_block hx2
  clear hrb hwb hd3 hb2 hx2 hd4 hxo hof hW2 HV2
  go_upto_region 3 with fail
  rw [← HL2.out]
  rw [HRl.out.1] at x0 y0 H1 H2 HL2 hcr ⊢
  have hu0 := uQ_range a0
  have hu1 := uQ_range a1
  have hu2 := uQ_range a2
  obtain ⟨n, hn⟩ : ∃ n : Nat, (n : Int) = 1 + uQ a0 % 12 := ⟨(1 + uQ a0 % 12).toNat, by omega⟩
  obtain ⟨i, hi⟩ : ∃ i : Nat, (i : Int) = uQ a1 % (N : Int) := ⟨(uQ a1 % (N : Int)).toNat, by have := Int.emod_nonneg (uQ a1) (show (N : Int) ≠ 0 by omega); omega⟩
  obtain ⟨k, hk⟩ : ∃ k : Nat, (k : Int) = uQ a2 % ((n : Int) + 1) := ⟨(uQ a2 % ((n : Int) + 1)).toNat, by have := Int.emod_nonneg (uQ a2) (show (n : Int) + 1 ≠ 0 by omega); omega⟩
  have hn1 : 1 ≤ n := by omega
  have hn12 : n ≤ 12 := by omega
  have hiN : i < N := by have := Int.emod_lt_of_pos (uQ a1) (show (0 : Int) < (N : Int) by omega); omega
  have hkn : k ≤ n := by have := Int.emod_lt_of_pos (uQ a2) (show (0 : Int) < (n : Int) + 1 by omega); omega
  have e0 : wrap64 (1 + wrap64 ((IntKind.u64.wrap a0).tmod 12)) = (n : Int) := by
    rw [← IntWalk.i64_left, ← IntWalk.i64_left, show IntKind.u64.wrap a0 = uQ a0 from rfl, Int.tmod_eq_emod_of_nonneg hu0.1, IntWalk.i64_in (uQ a0 % 12) (by omega), IntWalk.i64_in _ (by omega), hn]
  have e1 : wrap64 ((IntKind.u64.wrap a1).tmod (N : Int)) = (i : Int) := by
    rw [← IntWalk.i64_left, show IntKind.u64.wrap a1 = uQ a1 from rfl, Int.tmod_eq_emod_of_nonneg hu1.1, IntWalk.i64_in _ (by omega), hi]
  have e2 : wrap64 ((IntKind.u64.wrap a2).tmod ((n : Int) + 1)) = (k : Int) := by
    rw [← IntWalk.i64_left, show IntKind.u64.wrap a2 = uQ a2 from rfl, Int.tmod_eq_emod_of_nonneg hu2.1, IntWalk.i64_in _ (by omega), hk]
  have q1 : (N : Int) ≠ 0 := by omega
  have q2 : (n : Int) + 1 ≠ 0 := by omega
  have HE := hide (And.intro e0 (And.intro e1 e2))
  clear e0 e1 e2 hn hi hk hu0 hu1 hu2
  go_upto_region 4 with fail
  rw [HE.out.1]
  go_upto_region 5 with fail
  rw [HE.out.2.1]
  go_upto_region 6 with fail
  rw [HE.out.2.2]
  have HX := hide H2.out.2.2.1
  have HO := hide H2.out.2.1
  have HSV := hide H2.out.2.2.2.2.1
  have HW := hide H2.out.2.2.2.2.2
  obtain ⟨qa, qb, e, hqr, -⟩ := H2.out.2.2.2.1
  injection e with e
  simp only [Array.mk.injEq, List.cons.injEq, and_true] at e
  obtain ⟨rfl, rfl⟩ := e
  obtain ⟨bq, oq, rfl, hqx⟩ := QRowE.x hqr (by rw [HRl.out.1]; omega)
  have HQR := hide hqx
  have HGq := hide HG.out.2.2.2.1
  clear hqr hqx H2 H1 H0 HL HL1 HL2 HT x0 x1 z0 z1 z2 y0 y1 hl1x hlof hl2x HE HG q1 q2 W W1
  obtain ⟨y0, y1, -, -⟩ := two_cells HX.out
  have hly := lt_of_block HX.out
  go_wp2_with fail
  refine (Constants_c _ _ n N R Ws HSV.out HS.out hn12).mono ?_
  rintro e w101 ⟨_, rfl, r101, rfl, hr101, hd⟩
  obtain ⟨Ag, cg, rfl, hcg, hmg, -⟩ := id hr101
  obtain ⟨bg, og, rfl, hgx⟩ := RowV.x hr101 (by rw [gL_length]; omega) (gN (ldF N R Ws) N) (fun j hj => by rw [gL_length] at hj; exact gL_get _ _ _ _ (by omega))
  rw [gL_length] at hcg hgx ⊢
  unfold maxLen at hmg
  have HGX := hide hgx
  clear hr101 hgx
  clear y0 y1 hly
  replace HX := hide (at_later HX.out hd)
  replace HO := hide (at_later HO.out hd)
  replace HSV := hide (HSV.out.below hd)
  replace HQR := hide (HQR.out.below hd)
  replace HW := hide (below_next HW.out hd)
  clear hd
  obtain ⟨y0, y1, -, -⟩ := two_cells HX.out
  have hly := lt_of_block HX.out
  go_wp2_with fail
  refine (Visits_c _ _ N R Ws HSV.out HS.out).mono ?_
  rintro e w102 ⟨_, rfl, r102, rfl, hr102, hd⟩
  obtain ⟨Av, cv, rfl, hcv, hmv, -⟩ := id hr102
  obtain ⟨bv, ov, rfl, hvx⟩ := RowV.x hr102 (by rw [HS.out.vlen]; omega) (vF N Ws) (fun j hj => rfl)
  rw [HS.out.vlen] at hcv hvx ⊢
  unfold maxLen at hmv
  have HVX := hide hvx
  clear hr102 hvx
  clear y0 y1 hly
  replace HX := hide (at_later HX.out hd)
  replace HO := hide (at_later HO.out hd)
  replace HSV := hide (HSV.out.below hd)
  replace HQR := hide (HQR.out.below hd)
  replace HGX := hide (HGX.out.below hd)
  replace HW := hide (below_next HW.out hd)
  clear hd
  obtain ⟨y0, y1, -, -⟩ := two_cells HX.out
  have hly := lt_of_block HX.out
  go_wp2_with fail
  refine (Speed_c _ _ N i n R Ws HSV.out HS.out hiN (by omega) (by omega)).mono ?_
  rintro e w103 ⟨_, rfl, r103, rfl, hr103, hd⟩
  clear y0 y1 hly
  obtain ⟨s103, A103, n103, c103, B103, m103, d103, rfl⟩ := hr103.shape
  obtain ⟨W103, hW103⟩ : ∃ W103, W103 = w103.alloc (.cells #[.bool s103, .slice A103 n103 c103, .slice B103 m103 d103] 43) := ⟨_, rfl⟩
  have hda : Below w103.heap.size w103 W103 := by rw [hW103]; exact below_al (Below.refl _ _) _
  have hdn := below_next hd hda
  have HBs := hide (show BoxR W103 w103.heap.size (spQ N R Ws i n) 3000 from ⟨_, _, _, _, _, _, _, by rw [hW103]; exact at_new _ _, hr103.below hda⟩)
  have HL := hide hW103
  replace HX := hide (at_later HX.out hdn)
  replace HO := hide (at_later HO.out hdn)
  replace HSV := hide (HSV.out.below hdn)
  replace HQR := hide (HQR.out.below hdn)
  replace HGX := hide (HGX.out.below hdn)
  replace HVX := hide (HVX.out.below hdn)
  replace HW := hide (below_next HW.out hdn)
  clear hd hda hdn hr103 hW103
  go_upto_region 9 with fail
  rw [← HL.out]
  clear HL
  obtain ⟨y0, y1, -, -⟩ := two_cells HX.out
  have hly := lt_of_block HX.out
  go_wp2_with fail
  refine (AtLeast_c _ _ N i n k R Ws HSV.out HS.out hiN (by omega) (by omega) (by omega) (by omega)).mono ?_
  rintro e w104 ⟨_, rfl, r104, rfl, hr104, hd⟩
  clear y0 y1 hly
  obtain ⟨s104, A104, n104, c104, B104, m104, d104, rfl⟩ := hr104.shape
  obtain ⟨W104, hW104⟩ : ∃ W104, W104 = w104.alloc (.cells #[.bool s104, .slice A104 n104 c104, .slice B104 m104 d104] 43) := ⟨_, rfl⟩
  have hda : Below w104.heap.size w104 W104 := by rw [hW104]; exact below_al (Below.refl _ _) _
  have hdn := below_next hd hda
  have HBa := hide (show BoxR W104 w104.heap.size (atQ (ldF N R Ws) N i k n) 3000 from ⟨_, _, _, _, _, _, _, by rw [hW104]; exact at_new _ _, hr104.below hda⟩)
  have HL := hide hW104
  replace HX := hide (at_later HX.out hdn)
  replace HO := hide (at_later HO.out hdn)
  replace HSV := hide (HSV.out.below hdn)
  replace HQR := hide (HQR.out.below hdn)
  replace HGX := hide (HGX.out.below hdn)
  replace HVX := hide (HVX.out.below hdn)
  replace HBs := hide (HBs.out.below hdn)
  replace HW := hide (below_next HW.out hdn)
  clear hd hda hdn hr104 hW104
  go_upto_region 10 with fail
  rw [← HL.out]
  clear HL
  go_cut [114] (fun s114 wx => s114 = .bool false ∧ Below W104.heap.size W104 wx)
  case first =>
    as_aux_lemma =>
      have j1 : (0 : Int) < (n : Int) + 1 := by omega
      have j6 : IntKind.i64.wrap ((n : Int) + 1) = (n : Int) + 1 := IntWalk.i64_in _ (by omega)
      obtain ⟨s105, A105, n105, c105, B105, m105, d105, e105a, e105b, e105c, hq105⟩ := (HGX.out (0) (by omega)).rat
      simp only [Nat.zero_mul, Nat.add_zero] at e105a e105b e105c
      have hS : ∀ w', Below W104.heap.size W104 w' → (w'.cell? ⟨bg, og, none⟩ = some (.bool s105) ∧ w'.cell? ⟨bg, og + 1, none⟩ = some (.slice A105 n105 c105) ∧ w'.cell? ⟨bg, og + 2, none⟩ = some (.slice B105 m105 d105)) := fun w' h => by
        have eC : ∀ b o v, W104.cell? ⟨b, o, none⟩ = some v → w'.cell? ⟨b, o, none⟩ = some v := fun b o v hv => (h.cell (lt_of_cell hv)).trans hv
        exact ⟨eC _ _ _ e105a, eC _ _ _ e105b, eC _ _ _ e105c⟩
      have hdr : Below W104.heap.size W104 W104.drew := (Below.refl _ _).drew
      have HSS := hide hS
      have HQS := hide (And.intro hq105 trivial)
      clear hS e105a e105b e105c hq105
      refine till_begin (fun w' => (w'.cell? ⟨bg, og, none⟩ = some (.bool s105) ∧ w'.cell? ⟨bg, og + 1, none⟩ = some (.slice A105 n105 c105) ∧ w'.cell? ⟨bg, og + 2, none⟩ = some (.slice B105 m105 d105))) [0, 1, 2, 3, 4, 5, 6, 7, 8, 9, 10, 11, 12, 13, 14, 15, 16, 17, 18, 19, 20, 21, 22, 23, 24, 25, 26, 27, 28] (by kernel_rfl) (HSS.out _ hdr) (fun hHeld => ?_)
      refine tt (i := 0) hHeld (some 86) ?_
      try simp only [Act.put, ptA, ptB, ptC]
      refine tt (i := 1) hHeld (some 87) ?_
      try simp only [Act.put, ptA, ptB, ptC]
      refine tt (i := 2) hHeld (some 88) ?_
      try simp only [Act.put, ptA, ptB, ptC]
      refine tt (i := 3) hHeld (some 89) ?_
      try simp only [Act.put, ptA, ptB, ptC]
      refine tt (i := 4) hHeld (some 90) ?_
      try simp only [Act.put, ptA, ptB, ptC]
      refine tt (i := 5) hHeld (some 91) ?_
      try simp only [Act.put, ptA, ptB, ptC]
      refine tt (i := 6) hHeld (some 92) ?_
      try simp only [Act.put, ptA, ptB, ptC]
      refine tt (i := 7) hHeld (some 93) ?_
      try simp only [Act.put, ptA, ptB, ptC]
      refine tt (i := 8) hHeld (some 94) ?_
      try simp only [Act.put, ptA, ptB, ptC]
      refine tt (i := 9) hHeld (some 95) ?_
      try simp only [Act.put, ptA, ptB, ptC]
      refine tt (i := 10) hHeld (some 96) ?_
      try simp only [Act.put, ptA, ptB, ptC]
      refine tt (i := 11) hHeld (some 97) ?_
      try simp only [Act.put, ptA, ptB, ptC]
      refine tt (i := 12) hHeld (some 98) ?_
      try simp only [Act.put, ptA, ptB, ptC]
      refine tt (i := 13) hHeld (some 99) ?_
      try simp only [Act.put, ptA, ptB, ptC]
      refine tt (i := 14) hHeld (some 100) ?_
      try simp only [Act.put, ptA, ptB, ptC]
      refine tt (i := 15) hHeld (some 101) ?_
      try simp only [Act.put, ptA, ptB, ptC]
      refine tt (i := 16) hHeld (some 102) ?_
      try simp only [Act.put, ptA, ptB, ptC]
      refine tt (i := 17) hHeld (some 103) ?_
      try simp only [Act.put, ptA, ptB, ptC]
      refine tt (i := 18) hHeld (some 104) ?_
      try simp only [Act.put, ptA, ptB, ptC]
      refine tt (i := 19) hHeld (some 105) ?_
      try simp only [Act.put, ptA, ptB, ptC]
      refine tt (i := 20) hHeld (some 106) ?_
      try simp only [Act.put, ptA, ptB, ptC]
      refine tt (i := 21) hHeld (some 107) ?_
      try simp only [Act.put, ptA, ptB, ptC]
      refine tt (i := 22) hHeld (some 108) ?_
      try simp only [Act.put, ptA, ptB, ptC]
      refine tt (i := 23) hHeld (some 109) ?_
      try simp only [Act.put, ptA, ptB, ptC]
      refine tt (i := 24) hHeld (some 110) ?_
      try simp only [Act.put, ptA, ptB, ptC]
      refine till_ready (rs := [25]) (by kernel_rfl) (by simp) ?_
      refine mem1 ?_
      refine till_step rfl (fun K hK => ?_)
      go_simp
      go_at_call 20
      refine (of_c _ 1 (by omega) (by omega)).mono ?_
      rintro e w1 ⟨v4, rfl, hr4, hd⟩
      replace hr4 : RatV w1 v4 1 3000 := hr4.more (by omega)
      obtain ⟨s4, A4, n4, c4, B4, m4, d4, rfl⟩ := hr4.shape
      have H4 := hide hr4
      clear hr4
      have hg1 : Below W104.heap.size W104 w1 := hdr.trans (hd.mono hdr.size)
      clear hd
      go_wp2_with fail
      refine hK.out _ _ (HSS.out _ hg1) (fun hHeld => ?_)
      clear hK K
      try simp only [Act.put, ptA, ptB, ptC]
      refine till_ready (rs := [26]) (by kernel_rfl) (by simp) ?_
      refine mem1 ?_
      refine till_step rfl (fun K hK => ?_)
      go_simp
      go_at_call 19
      refine (cmp_q _ _ _ (gN (ldF N R Ws) N 0) 1 3000 (HQS.out.1.below hg1) H4.out (by omega)).mono ?_
      rintro e w2 ⟨_, rfl, rfl, hd⟩
      rw [show sgnQ (gN (ldF N R Ws) N 0 - 1) = 0 by rw [gN_zero]; exact sgn_zero 1]
      have hg2 : Below W104.heap.size W104 w2 := hg1.trans (hd.mono hg1.size)
      clear hd
      go_wp2_with fail
      refine hK.out _ _ (HSS.out _ hg2) (fun hHeld => ?_)
      clear hK K
      try simp only [Act.put, ptA, ptB, ptC]
      refine tt (i := 27) hHeld (some 113) ?_
      try simp only [Act.put, ptA, ptB, ptC]
      refine tt (i := 28) hHeld (some 114) ?_
      try simp only [Act.put, ptA, ptB, ptC]
      refine till_done (by kernel_rfl) ?_ _
      clear hHeld
      go_wp2_with fail
      go_meet
      exact ⟨rfl, hg2⟩
  case rest =>
  obtain ⟨rfl, hd⟩ := hcut
  rename World => w106
  replace HX := hide (at_later HX.out hd)
  replace HO := hide (at_later HO.out hd)
  replace HSV := hide (HSV.out.below hd)
  replace HQR := hide (HQR.out.below hd)
  replace HGX := hide (HGX.out.below hd)
  replace HVX := hide (HVX.out.below hd)
  replace HBs := hide (HBs.out.below hd)
  replace HBa := hide (HBa.out.below hd)
  replace HW := hide (below_next HW.out hd)
  clear hd
  go_upto_region 12 with fail
  go_cut [20, 21] (fun s20 s21 wx => (∃ g : Nat, s20 = .pointer (some ⟨g, 0, none⟩) ∧ w106.heap.size ≤ g ∧ BoxR wx g (vF N Ws i * gN (ldF N R Ws) N (n - 1)) 3000 ∧ Below w106.heap.size w106 wx) ∧ s21 = .int .i64 0)
  case first =>
    as_aux_lemma =>
      have j1 : (i : Int) < (N : Int) := by omega
      have j2 : (n : Int) - 1 < (n : Int) + 1 := by omega
      have j3 : (0 : Int) ≤ (n : Int) - 1 := by omega
      have j4 : ((n : Int) - 1).toNat = n - 1 := by omega
      have j5 : IntKind.i64.wrap ((n : Int) - 1) = (n : Int) - 1 := IntWalk.i64_in _ (by omega)
      have j7 : (1 : Int) ≤ (n : Int) := by omega
      obtain ⟨s107, A107, n107, c107, B107, m107, d107, e107a, e107b, e107c, hq107⟩ := (HVX.out (i) hiN).rat
      obtain ⟨s108, A108, n108, c108, B108, m108, d108, e108a, e108b, e108c, hq108⟩ := (HGX.out (n - 1) (by omega)).rat
      have hS : ∀ w', Below w106.heap.size w106 w' → (w'.cell? ⟨bv, ov + (i) * 3, none⟩ = some (.bool s107) ∧ w'.cell? ⟨bv, ov + (i) * 3 + 1, none⟩ = some (.slice A107 n107 c107) ∧ w'.cell? ⟨bv, ov + (i) * 3 + 2, none⟩ = some (.slice B107 m107 d107)) ∧ (w'.cell? ⟨bg, og + (n - 1) * 3, none⟩ = some (.bool s108) ∧ w'.cell? ⟨bg, og + (n - 1) * 3 + 1, none⟩ = some (.slice A108 n108 c108) ∧ w'.cell? ⟨bg, og + (n - 1) * 3 + 2, none⟩ = some (.slice B108 m108 d108)) := fun w' h => by
        have eC : ∀ b o v, w106.cell? ⟨b, o, none⟩ = some v → w'.cell? ⟨b, o, none⟩ = some v := fun b o v hv => (h.cell (lt_of_cell hv)).trans hv
        exact ⟨⟨eC _ _ _ e107a, eC _ _ _ e107b, eC _ _ _ e107c⟩, ⟨eC _ _ _ e108a, eC _ _ _ e108b, eC _ _ _ e108c⟩⟩
      have hdr : Below w106.heap.size w106 w106.drew := (Below.refl _ _).drew
      have HSS := hide hS
      have HQS := hide (And.intro hq107 (And.intro hq108 trivial))
      clear hS e107a e107b e107c hq107 e108a e108b e108c hq108
      refine till_begin (fun w' => (w'.cell? ⟨bv, ov + (i) * 3, none⟩ = some (.bool s107) ∧ w'.cell? ⟨bv, ov + (i) * 3 + 1, none⟩ = some (.slice A107 n107 c107) ∧ w'.cell? ⟨bv, ov + (i) * 3 + 2, none⟩ = some (.slice B107 m107 d107)) ∧ (w'.cell? ⟨bg, og + (n - 1) * 3, none⟩ = some (.bool s108) ∧ w'.cell? ⟨bg, og + (n - 1) * 3 + 1, none⟩ = some (.slice A108 n108 c108) ∧ w'.cell? ⟨bg, og + (n - 1) * 3 + 2, none⟩ = some (.slice B108 m108 d108))) [0, 1, 2, 3, 4, 5, 6, 7, 8, 9, 10, 11, 12, 13, 14, 15] (by kernel_rfl) (HSS.out _ hdr) (fun hHeld => ?_)
      refine tt (i := 0) hHeld (some 116) ?_
      try simp only [Act.put, ptA, ptB, ptC]
      refine tt (i := 1) hHeld (some 117) ?_
      try simp only [Act.put, ptA, ptB, ptC]
      refine tt (i := 2) hHeld (some 118) ?_
      try simp only [Act.put, ptA, ptB, ptC]
      refine tt (i := 4) hHeld (some 120) ?_
      try simp only [Act.put, ptA, ptB, ptC]
      refine tt (i := 5) hHeld (some 121) ?_
      try simp only [Act.put, ptA, ptB, ptC]
      refine tt (i := 6) hHeld (some 122) ?_
      try simp only [Act.put, ptA, ptB, ptC]
      refine tt (i := 7) hHeld (some 123) ?_
      try simp only [Act.put, ptA, ptB, ptC]
      refine tt (i := 3) hHeld (some 119) ?_
      try simp only [Act.put, ptA, ptB, ptC]
      refine tt (i := 8) hHeld (some 124) ?_
      try simp only [Act.put, ptA, ptB, ptC]
      refine till_ready (rs := [9, 13]) (by kernel_rfl) (by simp) ?_
      refine List.forall_mem_cons.2 ⟨?_, List.forall_mem_cons.2 ⟨?_, fun _ h => absurd h List.not_mem_nil⟩⟩
      · refine till_step rfl (fun K hK => ?_)
        go_simp
        go_at_call 21
        refine (mul_q _ _ _ (vF N Ws i) (gN (ldF N R Ws) N (n - 1)) 3000 (HQS.out.1.below hdr) (HQS.out.2.1.below hdr) (by omega)).mono ?_
        rintro e w1 ⟨v5, rfl, hdn⟩
        obtain ⟨r5, rfl, hr5, hd⟩ := hdn.ok (((HS.out.v_fit i hiN).mulA (HS.out.ld.fitg N (n - 1) (Nat.le_refl _) (by omega))).smallQ (by omega))
        replace hr5 : RatV w1 r5 (vF N Ws i * gN (ldF N R Ws) N (n - 1)) 3000 := hr5.fit (((HS.out.v_fit i hiN).mulA (HS.out.ld.fitg N (n - 1) (Nat.le_refl _) (by omega))).more (by omega))
        obtain ⟨s5, A5, n5, c5, B5, m5, d5, rfl⟩ := hr5.shape
        have HR := hide hr5
        clear hr5 hdn
        try (replace kb := hide (at_later kb.out hd))
        have hg1 : Below w106.heap.size w106 w1 := hdr.trans (hd.mono hdr.size)
        clear hd
        go_wp2_with fail
        refine hK.out _ _ (HSS.out _ hg1) (fun hHeld => ?_)
        clear hK K
        try simp only [Act.put, ptA, ptB, ptC]
        refine tt (i := 10) hHeld (some 115) ?_
        try simp only [Act.put, ptA, ptB, ptC]
        refine tt (i := 11) hHeld (some 126) ?_
        try simp only [Act.put, ptA, ptB, ptC]
        refine tt (i := 12) hHeld (some 127) ?_
        try simp only [Act.put, ptA, ptB, ptC]
        refine till_ready (rs := [13]) (by kernel_rfl) (by simp) ?_
        refine mem1 ?_
        refine till_step rfl (fun K hK => ?_)
        go_simp
        have hg2 : Below w106.heap.size w106 (w1.alloc (.cells #[.bool false, .slice none 0 0, .slice none 0 0] 43)) := hg1.alloc hg1.size (.cells #[.bool false, .slice none 0 0, .slice none 0 0] 43)
        have kb := hide (show (w1.alloc (.cells #[.bool false, .slice none 0 0, .slice none 0 0] 43)).heap[w1.heap.size]? = some (.cells #[.bool false, .slice none 0 0, .slice none 0 0] 43) from at_new w1 (.cells #[.bool false, .slice none 0 0, .slice none 0 0] 43))
        have hge : w106.heap.size ≤ w1.heap.size := hg1.size
        have hstep : Below w1.heap.size w1 (w1.alloc (.cells #[.bool false, .slice none 0 0, .slice none 0 0] 43)) := below_al (Below.refl _ _) (.cells #[.bool false, .slice none 0 0, .slice none 0 0] 43)
        generalize w1.alloc (.cells #[.bool false, .slice none 0 0, .slice none 0 0] 43) = w2 at hg2 kb hstep ⊢
        try (replace HR := hide (HR.out.below hstep))
        try (replace H4 := hide (H4.out.below hstep))
        clear hstep
        refine hK.out _ _ (HSS.out _ hg2) (fun hHeld => ?_)
        clear hK K
        try simp only [Act.put, ptA, ptB, ptC]
        refine till_ready (rs := [14]) (by kernel_rfl) (by simp) ?_
        refine mem1 ?_
        refine till_step rfl (fun K hK => ?_)
        obtain ⟨k0, k1, k2⟩ := three_cells kb.out
        obtain ⟨f0, f1, f2⟩ := three_frozen kb.out
        have hlt := lt_of_block kb.out
        go_simp
        have HF := hide (BoxR.stored hge hg2 HR.out kb)
        have hg3 := HF.out.choose_spec.2.2.2
        clear k0 k1 k2 f0 f1 f2
        refine hK.out _ _ (HSS.out _ hg3) (fun hHeld => ?_)
        clear hK K
        try simp only [Act.put, ptA, ptB, ptC]
        refine tt (i := 15) hHeld (some 21) ?_
        try simp only [Act.put, ptA, ptB, ptC]
        refine till_done (by kernel_rfl) ?_ _
        clear hHeld
        go_wp2_with fail
        go_meet
        exact ⟨HF.out, rfl⟩
      · refine till_step rfl (fun K hK => ?_)
        go_simp
        have hg4 : Below w106.heap.size w106 ((w106.alloc (.cells #[.bool false, .slice none 0 0, .slice none 0 0] 43)).drew) := (below_al (Below.refl _ _) (.cells #[.bool false, .slice none 0 0, .slice none 0 0] 43)).drew
        have kb := hide (show ((w106.alloc (.cells #[.bool false, .slice none 0 0, .slice none 0 0] 43)).drew).heap[w106.heap.size]? = some (.cells #[.bool false, .slice none 0 0, .slice none 0 0] 43) from at_new w106 (.cells #[.bool false, .slice none 0 0, .slice none 0 0] 43))
        have hge : w106.heap.size ≤ w106.heap.size := Nat.le_refl _
        have hstep : Below w106.heap.size w106 ((w106.alloc (.cells #[.bool false, .slice none 0 0, .slice none 0 0] 43)).drew) := (below_al (Below.refl _ _) (.cells #[.bool false, .slice none 0 0, .slice none 0 0] 43)).drew
        generalize (w106.alloc (.cells #[.bool false, .slice none 0 0, .slice none 0 0] 43)).drew = w4 at hg4 kb hstep ⊢
        try (replace HR := hide (HR.out.below hstep))
        try (replace H4 := hide (H4.out.below hstep))
        clear hstep
        refine hK.out _ _ (HSS.out _ hg4) (fun hHeld => ?_)
        clear hK K
        try simp only [Act.put, ptA, ptB, ptC]
        refine till_ready (rs := [9]) (by kernel_rfl) (by simp) ?_
        refine mem1 ?_
        refine till_step rfl (fun K hK => ?_)
        go_simp
        go_at_call 21
        refine (mul_q _ _ _ (vF N Ws i) (gN (ldF N R Ws) N (n - 1)) 3000 (HQS.out.1.below hg4) (HQS.out.2.1.below hg4) (by omega)).mono ?_
        rintro e w5 ⟨v5, rfl, hdn⟩
        obtain ⟨r5, rfl, hr5, hd⟩ := hdn.ok (((HS.out.v_fit i hiN).mulA (HS.out.ld.fitg N (n - 1) (Nat.le_refl _) (by omega))).smallQ (by omega))
        replace hr5 : RatV w5 r5 (vF N Ws i * gN (ldF N R Ws) N (n - 1)) 3000 := hr5.fit (((HS.out.v_fit i hiN).mulA (HS.out.ld.fitg N (n - 1) (Nat.le_refl _) (by omega))).more (by omega))
        obtain ⟨s5, A5, n5, c5, B5, m5, d5, rfl⟩ := hr5.shape
        have HR := hide hr5
        clear hr5 hdn
        try (replace kb := hide (at_later kb.out hd))
        have hg5 : Below w106.heap.size w106 w5 := hg4.trans (hd.mono hg4.size)
        clear hd
        go_wp2_with fail
        refine hK.out _ _ (HSS.out _ hg5) (fun hHeld => ?_)
        clear hK K
        try simp only [Act.put, ptA, ptB, ptC]
        refine tt (i := 10) hHeld (some 115) ?_
        try simp only [Act.put, ptA, ptB, ptC]
        refine tt (i := 11) hHeld (some 126) ?_
        try simp only [Act.put, ptA, ptB, ptC]
        refine tt (i := 12) hHeld (some 127) ?_
        try simp only [Act.put, ptA, ptB, ptC]
        refine till_ready (rs := [14]) (by kernel_rfl) (by simp) ?_
        refine mem1 ?_
        refine till_step rfl (fun K hK => ?_)
        obtain ⟨k0, k1, k2⟩ := three_cells kb.out
        obtain ⟨f0, f1, f2⟩ := three_frozen kb.out
        have hlt := lt_of_block kb.out
        go_simp
        have HF := hide (BoxR.stored hge hg5 HR.out kb)
        have hg6 := HF.out.choose_spec.2.2.2
        clear k0 k1 k2 f0 f1 f2
        refine hK.out _ _ (HSS.out _ hg6) (fun hHeld => ?_)
        clear hK K
        try simp only [Act.put, ptA, ptB, ptC]
        refine tt (i := 15) hHeld (some 21) ?_
        try simp only [Act.put, ptA, ptB, ptC]
        refine till_done (by kernel_rfl) ?_ _
        clear hHeld
        go_wp2_with fail
        go_meet
        exact ⟨HF.out, rfl⟩
  case rest =>
  obtain ⟨⟨g20, rfl, hgl, hbx, hd⟩, rfl⟩ := hcut
  rename World => w109
  have HB20 := hide hbx
  replace HX := hide (at_later HX.out hd)
  replace HO := hide (at_later HO.out hd)
  replace HSV := hide (HSV.out.below hd)
  replace HQR := hide (HQR.out.below hd)
  replace HGX := hide (HGX.out.below hd)
  replace HVX := hide (HVX.out.below hd)
  replace HBs := hide (HBs.out.below hd)
  replace HBa := hide (HBa.out.below hd)
  replace HW := hide (below_next HW.out hd)
  clear hgl hbx hd
  go_upto_region 13 with fail
  go_cut [22, 23] (fun s22 s23 wx => (∃ g : Nat, s22 = .pointer (some ⟨g, 0, none⟩) ∧ w109.heap.size ≤ g ∧ BoxR wx g (vF N Ws i * gN (ldF N R Ws) N (n - 1) / gN (ldF N R Ws) N n) 3000 ∧ Below w109.heap.size w109 wx) ∧ s23 = .int .i64 0)
  case first =>
    as_aux_lemma =>
      have j2 : (n : Int) < (n : Int) + 1 := by omega
      obtain ⟨s110, A110, n110, c110, B110, m110, d110, hx110, hq110⟩ := HB20.out
      obtain ⟨s111, A111, n111, c111, B111, m111, d111, e111a, e111b, e111c, hq111⟩ := (HGX.out (n) (by omega)).rat
      have hS : ∀ w', Below w109.heap.size w109 w' → (w'.cell? ⟨g20, 0, none⟩ = some (.bool s110) ∧ w'.cell? ⟨g20, 1, none⟩ = some (.slice A110 n110 c110) ∧ w'.cell? ⟨g20, 2, none⟩ = some (.slice B110 m110 d110)) ∧ (w'.cell? ⟨bg, og + (n) * 3, none⟩ = some (.bool s111) ∧ w'.cell? ⟨bg, og + (n) * 3 + 1, none⟩ = some (.slice A111 n111 c111) ∧ w'.cell? ⟨bg, og + (n) * 3 + 2, none⟩ = some (.slice B111 m111 d111)) := fun w' h => by
        have eC : ∀ b o v, w109.cell? ⟨b, o, none⟩ = some v → w'.cell? ⟨b, o, none⟩ = some v := fun b o v hv => (h.cell (lt_of_cell hv)).trans hv
        exact ⟨three_cells (at_later hx110 h), ⟨eC _ _ _ e111a, eC _ _ _ e111b, eC _ _ _ e111c⟩⟩
      have hdr : Below w109.heap.size w109 w109.drew := (Below.refl _ _).drew
      have HSS := hide hS
      have HQS := hide (And.intro hq110 (And.intro hq111 trivial))
      clear hS hx110 hq110 e111a e111b e111c hq111
      refine till_begin (fun w' => (w'.cell? ⟨g20, 0, none⟩ = some (.bool s110) ∧ w'.cell? ⟨g20, 1, none⟩ = some (.slice A110 n110 c110) ∧ w'.cell? ⟨g20, 2, none⟩ = some (.slice B110 m110 d110)) ∧ (w'.cell? ⟨bg, og + (n) * 3, none⟩ = some (.bool s111) ∧ w'.cell? ⟨bg, og + (n) * 3 + 1, none⟩ = some (.slice A111 n111 c111) ∧ w'.cell? ⟨bg, og + (n) * 3 + 2, none⟩ = some (.slice B111 m111 d111))) [0, 1, 2, 3, 4, 5, 6, 7, 8, 9, 10, 11] (by kernel_rfl) (HSS.out _ hdr) (fun hHeld => ?_)
      refine tt (i := 1) hHeld (some 130) ?_
      try simp only [Act.put, ptA, ptB, ptC]
      refine tt (i := 2) hHeld (some 131) ?_
      try simp only [Act.put, ptA, ptB, ptC]
      refine tt (i := 3) hHeld (some 132) ?_
      try simp only [Act.put, ptA, ptB, ptC]
      refine tt (i := 0) hHeld (some 129) ?_
      try simp only [Act.put, ptA, ptB, ptC]
      refine tt (i := 4) hHeld (some 133) ?_
      try simp only [Act.put, ptA, ptB, ptC]
      refine till_ready (rs := [5, 9]) (by kernel_rfl) (by simp) ?_
      refine List.forall_mem_cons.2 ⟨?_, List.forall_mem_cons.2 ⟨?_, fun _ h => absurd h List.not_mem_nil⟩⟩
      · refine till_step rfl (fun K hK => ?_)
        go_simp
        go_at_call 22
        refine (quo_q _ _ _ (vF N Ws i * gN (ldF N R Ws) N (n - 1)) (gN (ldF N R Ws) N n) 3000 (HQS.out.1.below hdr) (HQS.out.2.1.below hdr) (by omega) (HS.out.ld.g_ne n)).mono ?_
        rintro e w1 ⟨v5, rfl, hdn⟩
        obtain ⟨r5, rfl, hr5, hd⟩ := hdn.ok ((((HS.out.v_fit i hiN).mulA (HS.out.ld.fitg N (n - 1) (Nat.le_refl _) (by omega))).divA (HS.out.ld.fitg N (n) (Nat.le_refl _) (by omega)) (HS.out.ld.g_ne n)).smallQ (by omega))
        replace hr5 : RatV w1 r5 (vF N Ws i * gN (ldF N R Ws) N (n - 1) / gN (ldF N R Ws) N n) 3000 := hr5.fit ((((HS.out.v_fit i hiN).mulA (HS.out.ld.fitg N (n - 1) (Nat.le_refl _) (by omega))).divA (HS.out.ld.fitg N (n) (Nat.le_refl _) (by omega)) (HS.out.ld.g_ne n)).more (by omega))
        obtain ⟨s5, A5, n5, c5, B5, m5, d5, rfl⟩ := hr5.shape
        have HR := hide hr5
        clear hr5 hdn
        try (replace kb := hide (at_later kb.out hd))
        have hg1 : Below w109.heap.size w109 w1 := hdr.trans (hd.mono hdr.size)
        clear hd
        go_wp2_with fail
        refine hK.out _ _ (HSS.out _ hg1) (fun hHeld => ?_)
        clear hK K
        try simp only [Act.put, ptA, ptB, ptC]
        refine tt (i := 6) hHeld (some 128) ?_
        try simp only [Act.put, ptA, ptB, ptC]
        refine tt (i := 7) hHeld (some 135) ?_
        try simp only [Act.put, ptA, ptB, ptC]
        refine tt (i := 8) hHeld (some 136) ?_
        try simp only [Act.put, ptA, ptB, ptC]
        refine till_ready (rs := [9]) (by kernel_rfl) (by simp) ?_
        refine mem1 ?_
        refine till_step rfl (fun K hK => ?_)
        go_simp
        have hg2 : Below w109.heap.size w109 (w1.alloc (.cells #[.bool false, .slice none 0 0, .slice none 0 0] 43)) := hg1.alloc hg1.size (.cells #[.bool false, .slice none 0 0, .slice none 0 0] 43)
        have kb := hide (show (w1.alloc (.cells #[.bool false, .slice none 0 0, .slice none 0 0] 43)).heap[w1.heap.size]? = some (.cells #[.bool false, .slice none 0 0, .slice none 0 0] 43) from at_new w1 (.cells #[.bool false, .slice none 0 0, .slice none 0 0] 43))
        have hge : w109.heap.size ≤ w1.heap.size := hg1.size
        have hstep : Below w1.heap.size w1 (w1.alloc (.cells #[.bool false, .slice none 0 0, .slice none 0 0] 43)) := below_al (Below.refl _ _) (.cells #[.bool false, .slice none 0 0, .slice none 0 0] 43)
        generalize w1.alloc (.cells #[.bool false, .slice none 0 0, .slice none 0 0] 43) = w2 at hg2 kb hstep ⊢
        try (replace HR := hide (HR.out.below hstep))
        try (replace H4 := hide (H4.out.below hstep))
        clear hstep
        refine hK.out _ _ (HSS.out _ hg2) (fun hHeld => ?_)
        clear hK K
        try simp only [Act.put, ptA, ptB, ptC]
        refine till_ready (rs := [10]) (by kernel_rfl) (by simp) ?_
        refine mem1 ?_
        refine till_step rfl (fun K hK => ?_)
        obtain ⟨k0, k1, k2⟩ := three_cells kb.out
        obtain ⟨f0, f1, f2⟩ := three_frozen kb.out
        have hlt := lt_of_block kb.out
        go_simp
        have HF := hide (BoxR.stored hge hg2 HR.out kb)
        have hg3 := HF.out.choose_spec.2.2.2
        clear k0 k1 k2 f0 f1 f2
        refine hK.out _ _ (HSS.out _ hg3) (fun hHeld => ?_)
        clear hK K
        try simp only [Act.put, ptA, ptB, ptC]
        refine tt (i := 11) hHeld (some 23) ?_
        try simp only [Act.put, ptA, ptB, ptC]
        refine till_done (by kernel_rfl) ?_ _
        clear hHeld
        go_wp2_with fail
        go_meet
        exact ⟨HF.out, rfl⟩
      · refine till_step rfl (fun K hK => ?_)
        go_simp
        have hg4 : Below w109.heap.size w109 ((w109.alloc (.cells #[.bool false, .slice none 0 0, .slice none 0 0] 43)).drew) := (below_al (Below.refl _ _) (.cells #[.bool false, .slice none 0 0, .slice none 0 0] 43)).drew
        have kb := hide (show ((w109.alloc (.cells #[.bool false, .slice none 0 0, .slice none 0 0] 43)).drew).heap[w109.heap.size]? = some (.cells #[.bool false, .slice none 0 0, .slice none 0 0] 43) from at_new w109 (.cells #[.bool false, .slice none 0 0, .slice none 0 0] 43))
        have hge : w109.heap.size ≤ w109.heap.size := Nat.le_refl _
        have hstep : Below w109.heap.size w109 ((w109.alloc (.cells #[.bool false, .slice none 0 0, .slice none 0 0] 43)).drew) := (below_al (Below.refl _ _) (.cells #[.bool false, .slice none 0 0, .slice none 0 0] 43)).drew
        generalize (w109.alloc (.cells #[.bool false, .slice none 0 0, .slice none 0 0] 43)).drew = w4 at hg4 kb hstep ⊢
        try (replace HR := hide (HR.out.below hstep))
        try (replace H4 := hide (H4.out.below hstep))
        clear hstep
        refine hK.out _ _ (HSS.out _ hg4) (fun hHeld => ?_)
        clear hK K
        try simp only [Act.put, ptA, ptB, ptC]
        refine till_ready (rs := [5]) (by kernel_rfl) (by simp) ?_
        refine mem1 ?_
        refine till_step rfl (fun K hK => ?_)
        go_simp
        go_at_call 22
        refine (quo_q _ _ _ (vF N Ws i * gN (ldF N R Ws) N (n - 1)) (gN (ldF N R Ws) N n) 3000 (HQS.out.1.below hg4) (HQS.out.2.1.below hg4) (by omega) (HS.out.ld.g_ne n)).mono ?_
        rintro e w5 ⟨v5, rfl, hdn⟩
        obtain ⟨r5, rfl, hr5, hd⟩ := hdn.ok ((((HS.out.v_fit i hiN).mulA (HS.out.ld.fitg N (n - 1) (Nat.le_refl _) (by omega))).divA (HS.out.ld.fitg N (n) (Nat.le_refl _) (by omega)) (HS.out.ld.g_ne n)).smallQ (by omega))
        replace hr5 : RatV w5 r5 (vF N Ws i * gN (ldF N R Ws) N (n - 1) / gN (ldF N R Ws) N n) 3000 := hr5.fit ((((HS.out.v_fit i hiN).mulA (HS.out.ld.fitg N (n - 1) (Nat.le_refl _) (by omega))).divA (HS.out.ld.fitg N (n) (Nat.le_refl _) (by omega)) (HS.out.ld.g_ne n)).more (by omega))
        obtain ⟨s5, A5, n5, c5, B5, m5, d5, rfl⟩ := hr5.shape
        have HR := hide hr5
        clear hr5 hdn
        try (replace kb := hide (at_later kb.out hd))
        have hg5 : Below w109.heap.size w109 w5 := hg4.trans (hd.mono hg4.size)
        clear hd
        go_wp2_with fail
        refine hK.out _ _ (HSS.out _ hg5) (fun hHeld => ?_)
        clear hK K
        try simp only [Act.put, ptA, ptB, ptC]
        refine tt (i := 6) hHeld (some 128) ?_
        try simp only [Act.put, ptA, ptB, ptC]
        refine tt (i := 7) hHeld (some 135) ?_
        try simp only [Act.put, ptA, ptB, ptC]
        refine tt (i := 8) hHeld (some 136) ?_
        try simp only [Act.put, ptA, ptB, ptC]
        refine till_ready (rs := [10]) (by kernel_rfl) (by simp) ?_
        refine mem1 ?_
        refine till_step rfl (fun K hK => ?_)
        obtain ⟨k0, k1, k2⟩ := three_cells kb.out
        obtain ⟨f0, f1, f2⟩ := three_frozen kb.out
        have hlt := lt_of_block kb.out
        go_simp
        have HF := hide (BoxR.stored hge hg5 HR.out kb)
        have hg6 := HF.out.choose_spec.2.2.2
        clear k0 k1 k2 f0 f1 f2
        refine hK.out _ _ (HSS.out _ hg6) (fun hHeld => ?_)
        clear hK K
        try simp only [Act.put, ptA, ptB, ptC]
        refine tt (i := 11) hHeld (some 23) ?_
        try simp only [Act.put, ptA, ptB, ptC]
        refine till_done (by kernel_rfl) ?_ _
        clear hHeld
        go_wp2_with fail
        go_meet
        exact ⟨HF.out, rfl⟩
  case rest =>
  obtain ⟨⟨g22, rfl, hgl, hbx, hd⟩, rfl⟩ := hcut
  rename World => w112
  have HB22 := hide hbx
  replace HX := hide (at_later HX.out hd)
  replace HO := hide (at_later HO.out hd)
  replace HSV := hide (HSV.out.below hd)
  replace HQR := hide (HQR.out.below hd)
  replace HGX := hide (HGX.out.below hd)
  replace HVX := hide (HVX.out.below hd)
  replace HBs := hide (HBs.out.below hd)
  replace HBa := hide (HBa.out.below hd)
  replace HB20 := hide (HB20.out.below hd)
  replace HW := hide (below_next HW.out hd)
  clear hgl hbx hd
  clear HB20
  have hf14 : FracQ 6 (R.getD i 0) := HGq.out _ (getD_memQ R i (by rw [HRl.out.1]; exact hiN))
  have HF14 := hide hf14
  clear hf14
  go_upto_region 14 with fail
  go_cut [24, 25] (fun s24 s25 wx => (∃ g : Nat, s24 = .pointer (some ⟨g, 0, none⟩) ∧ w112.heap.size ≤ g ∧ BoxR wx g (ldF N R Ws i) 3000 ∧ Below w112.heap.size w112 wx) ∧ s25 = .int .i64 0)
  case first =>
    as_aux_lemma =>
      have j1 : (i : Int) < (N : Int) := by omega
      obtain ⟨s113, A113, n113, c113, B113, m113, d113, e113a, e113b, e113c, hq113⟩ := (HVX.out (i) hiN).rat
      have e114a := (two_cells HO.out).1
      obtain ⟨s115, A115, n115, c115, B115, m115, d115, e115a, e115b, e115c, e115d, hq115⟩ := HQR.out (i) (by rw [HRl.out.1]; exact hiN)
      have hS : ∀ w', Below w112.heap.size w112 w' → (w'.cell? ⟨bv, ov + (i) * 3, none⟩ = some (.bool s113) ∧ w'.cell? ⟨bv, ov + (i) * 3 + 1, none⟩ = some (.slice A113 n113 c113) ∧ w'.cell? ⟨bv, ov + (i) * 3 + 2, none⟩ = some (.slice B113 m113 d113)) ∧ w'.cell? ⟨w1.heap.size, 0, none⟩ = some (.slice (some ⟨bq, oq, none⟩) N cr) ∧ (w'.cell? ⟨bq, oq + (i) * 4, none⟩ = some (.bool s115) ∧ w'.cell? ⟨bq, oq + (i) * 4 + 1, none⟩ = some (.slice A115 n115 c115) ∧ w'.cell? ⟨bq, oq + (i) * 4 + 2, none⟩ = some (.bool false) ∧ w'.cell? ⟨bq, oq + (i) * 4 + 3, none⟩ = some (.slice B115 m115 d115)) := fun w' h => by
        have eC : ∀ b o v, w112.cell? ⟨b, o, none⟩ = some v → w'.cell? ⟨b, o, none⟩ = some v := fun b o v hv => (h.cell (lt_of_cell hv)).trans hv
        exact ⟨⟨eC _ _ _ e113a, eC _ _ _ e113b, eC _ _ _ e113c⟩, eC _ _ _ e114a, ⟨eC _ _ _ e115a, eC _ _ _ e115b, eC _ _ _ e115c, eC _ _ _ e115d⟩⟩
      have hdr : Below w112.heap.size w112 w112.drew := (Below.refl _ _).drew
      have HSS := hide hS
      have HQS := hide (And.intro hq113 (And.intro hq115 trivial))
      clear hS e113a e113b e113c hq113 e114a e115a e115b e115c e115d hq115
      refine till_begin (fun w' => (w'.cell? ⟨bv, ov + (i) * 3, none⟩ = some (.bool s113) ∧ w'.cell? ⟨bv, ov + (i) * 3 + 1, none⟩ = some (.slice A113 n113 c113) ∧ w'.cell? ⟨bv, ov + (i) * 3 + 2, none⟩ = some (.slice B113 m113 d113)) ∧ w'.cell? ⟨w1.heap.size, 0, none⟩ = some (.slice (some ⟨bq, oq, none⟩) N cr) ∧ (w'.cell? ⟨bq, oq + (i) * 4, none⟩ = some (.bool s115) ∧ w'.cell? ⟨bq, oq + (i) * 4 + 1, none⟩ = some (.slice A115 n115 c115) ∧ w'.cell? ⟨bq, oq + (i) * 4 + 2, none⟩ = some (.bool false) ∧ w'.cell? ⟨bq, oq + (i) * 4 + 3, none⟩ = some (.slice B115 m115 d115))) [0, 1, 2, 3, 4, 5, 6, 7, 8, 9, 10, 11, 12, 13, 14, 15, 16] (by kernel_rfl) (HSS.out _ hdr) (fun hHeld => ?_)
      refine tt (i := 0) hHeld (some 138) ?_
      try simp only [Act.put, ptA, ptB, ptC]
      refine tt (i := 1) hHeld (some 139) ?_
      try simp only [Act.put, ptA, ptB, ptC]
      refine tt (i := 2) hHeld (some 140) ?_
      try simp only [Act.put, ptA, ptB, ptC]
      refine tt (i := 4) hHeld (some 142) ?_
      try simp only [Act.put, ptA, ptB, ptC]
      refine tt (i := 6) hHeld (some 144) ?_
      try simp only [Act.put, ptA, ptB, ptC]
      refine tt (i := 3) hHeld (some 141) ?_
      try simp only [Act.put, ptA, ptB, ptC]
      refine tt (i := 5) hHeld (some 143) ?_
      try simp only [Act.put, ptA, ptB, ptC]
      refine tt (i := 7) hHeld (some 145) ?_
      try simp only [Act.put, ptA, ptB, ptC]
      refine tt (i := 8) hHeld (some 146) ?_
      try simp only [Act.put, ptA, ptB, ptC]
      refine till_ready (rs := [9, 14]) (by kernel_rfl) (by simp) ?_
      refine List.forall_mem_cons.2 ⟨?_, List.forall_mem_cons.2 ⟨?_, fun _ h => absurd h List.not_mem_nil⟩⟩
      · refine till_step rfl (fun K hK => ?_)
        go_simp
        go_at_call 23
        refine (rat_c _ _ (R.getD i 0) 3 (HQS.out.2.1.below hdr) (by omega) HF14.out).mono ?_
        rintro e w1 ⟨v4, rfl, hr4, hd⟩
        replace hr4 : RatV w1 v4 (R.getD i 0) 3000 := hr4.more (by omega)
        obtain ⟨s4, A4, n4, c4, B4, m4, d4, rfl⟩ := hr4.shape
        have H4 := hide hr4
        clear hr4
        try (replace kb := hide (at_later kb.out hd))
        have hg1 : Below w112.heap.size w112 w1 := hdr.trans (hd.mono hdr.size)
        clear hd
        go_wp2_with fail
        refine hK.out _ _ (HSS.out _ hg1) (fun hHeld => ?_)
        clear hK K
        try simp only [Act.put, ptA, ptB, ptC]
        refine till_ready (rs := [10, 14]) (by kernel_rfl) (by simp) ?_
        refine List.forall_mem_cons.2 ⟨?_, List.forall_mem_cons.2 ⟨?_, fun _ h => absurd h List.not_mem_nil⟩⟩
        · refine till_step rfl (fun K hK => ?_)
          go_simp
          go_at_call 22
          refine (quo_q _ _ _ (vF N Ws i) (R.getD i 0) 3000 (HQS.out.1.below hg1) (by first | exact H4.out | exact H4.out.below (below_al (Below.refl _ _) _)) (by omega) (HS.out.r_ne i hiN)).mono ?_
          rintro e w2 ⟨v5, rfl, hdn⟩
          rw [HS.out.ld_def i hiN] at hdn
          obtain ⟨r5, rfl, hr5, hd⟩ := hdn.ok ((HS.out.ld.fitl i hiN).smallQ (by omega))
          replace hr5 : RatV w2 r5 (ldF N R Ws i) 3000 := hr5.fit ((HS.out.ld.fitl i hiN).more (by omega))
          obtain ⟨s5, A5, n5, c5, B5, m5, d5, rfl⟩ := hr5.shape
          have HR := hide hr5
          clear hr5 hdn
          try (replace kb := hide (at_later kb.out hd))
          have hg2 : Below w112.heap.size w112 w2 := hg1.trans (hd.mono hg1.size)
          clear hd
          go_wp2_with fail
          refine hK.out _ _ (HSS.out _ hg2) (fun hHeld => ?_)
          clear hK K
          try simp only [Act.put, ptA, ptB, ptC]
          refine tt (i := 11) hHeld (some 137) ?_
          try simp only [Act.put, ptA, ptB, ptC]
          refine tt (i := 12) hHeld (some 149) ?_
          try simp only [Act.put, ptA, ptB, ptC]
          refine tt (i := 13) hHeld (some 150) ?_
          try simp only [Act.put, ptA, ptB, ptC]
          refine till_ready (rs := [14]) (by kernel_rfl) (by simp) ?_
          refine mem1 ?_
          refine till_step rfl (fun K hK => ?_)
          go_simp
          have hg3 : Below w112.heap.size w112 (w2.alloc (.cells #[.bool false, .slice none 0 0, .slice none 0 0] 43)) := hg2.alloc hg2.size (.cells #[.bool false, .slice none 0 0, .slice none 0 0] 43)
          have kb := hide (show (w2.alloc (.cells #[.bool false, .slice none 0 0, .slice none 0 0] 43)).heap[w2.heap.size]? = some (.cells #[.bool false, .slice none 0 0, .slice none 0 0] 43) from at_new w2 (.cells #[.bool false, .slice none 0 0, .slice none 0 0] 43))
          have hge : w112.heap.size ≤ w2.heap.size := hg2.size
          have hstep : Below w2.heap.size w2 (w2.alloc (.cells #[.bool false, .slice none 0 0, .slice none 0 0] 43)) := below_al (Below.refl _ _) (.cells #[.bool false, .slice none 0 0, .slice none 0 0] 43)
          generalize w2.alloc (.cells #[.bool false, .slice none 0 0, .slice none 0 0] 43) = w3 at hg3 kb hstep ⊢
          try (replace HR := hide (HR.out.below hstep))
          try (replace H4 := hide (H4.out.below hstep))
          clear hstep
          refine hK.out _ _ (HSS.out _ hg3) (fun hHeld => ?_)
          clear hK K
          try simp only [Act.put, ptA, ptB, ptC]
          refine till_ready (rs := [15]) (by kernel_rfl) (by simp) ?_
          refine mem1 ?_
          refine till_step rfl (fun K hK => ?_)
          obtain ⟨k0, k1, k2⟩ := three_cells kb.out
          obtain ⟨f0, f1, f2⟩ := three_frozen kb.out
          have hlt := lt_of_block kb.out
          go_simp
          have HF := hide (BoxR.stored hge hg3 HR.out kb)
          have hg4 := HF.out.choose_spec.2.2.2
          clear k0 k1 k2 f0 f1 f2
          refine hK.out _ _ (HSS.out _ hg4) (fun hHeld => ?_)
          clear hK K
          try simp only [Act.put, ptA, ptB, ptC]
          refine tt (i := 16) hHeld (some 25) ?_
          try simp only [Act.put, ptA, ptB, ptC]
          refine till_done (by kernel_rfl) ?_ _
          clear hHeld
          go_wp2_with fail
          go_meet
          exact ⟨HF.out, rfl⟩
        · refine till_step rfl (fun K hK => ?_)
          go_simp
          have hg5 : Below w112.heap.size w112 (w1.alloc (.cells #[.bool false, .slice none 0 0, .slice none 0 0] 43)) := hg1.alloc hg1.size (.cells #[.bool false, .slice none 0 0, .slice none 0 0] 43)
          have kb := hide (show (w1.alloc (.cells #[.bool false, .slice none 0 0, .slice none 0 0] 43)).heap[w1.heap.size]? = some (.cells #[.bool false, .slice none 0 0, .slice none 0 0] 43) from at_new w1 (.cells #[.bool false, .slice none 0 0, .slice none 0 0] 43))
          have hge : w112.heap.size ≤ w1.heap.size := hg1.size
          have hstep : Below w1.heap.size w1 (w1.alloc (.cells #[.bool false, .slice none 0 0, .slice none 0 0] 43)) := below_al (Below.refl _ _) (.cells #[.bool false, .slice none 0 0, .slice none 0 0] 43)
          generalize w1.alloc (.cells #[.bool false, .slice none 0 0, .slice none 0 0] 43) = w5 at hg5 kb hstep ⊢
          try (replace HR := hide (HR.out.below hstep))
          try (replace H4 := hide (H4.out.below hstep))
          clear hstep
          refine hK.out _ _ (HSS.out _ hg5) (fun hHeld => ?_)
          clear hK K
          try simp only [Act.put, ptA, ptB, ptC]
          refine till_ready (rs := [10]) (by kernel_rfl) (by simp) ?_
          refine mem1 ?_
          refine till_step rfl (fun K hK => ?_)
          go_simp
          go_at_call 22
          refine (quo_q _ _ _ (vF N Ws i) (R.getD i 0) 3000 (HQS.out.1.below hg5) (by first | exact H4.out | exact H4.out.below (below_al (Below.refl _ _) _)) (by omega) (HS.out.r_ne i hiN)).mono ?_
          rintro e w6 ⟨v5, rfl, hdn⟩
          rw [HS.out.ld_def i hiN] at hdn
          obtain ⟨r5, rfl, hr5, hd⟩ := hdn.ok ((HS.out.ld.fitl i hiN).smallQ (by omega))
          replace hr5 : RatV w6 r5 (ldF N R Ws i) 3000 := hr5.fit ((HS.out.ld.fitl i hiN).more (by omega))
          obtain ⟨s5, A5, n5, c5, B5, m5, d5, rfl⟩ := hr5.shape
          have HR := hide hr5
          clear hr5 hdn
          try (replace kb := hide (at_later kb.out hd))
          have hg6 : Below w112.heap.size w112 w6 := hg5.trans (hd.mono hg5.size)
          clear hd
          go_wp2_with fail
          refine hK.out _ _ (HSS.out _ hg6) (fun hHeld => ?_)
          clear hK K
          try simp only [Act.put, ptA, ptB, ptC]
          refine tt (i := 11) hHeld (some 137) ?_
          try simp only [Act.put, ptA, ptB, ptC]
          refine tt (i := 12) hHeld (some 149) ?_
          try simp only [Act.put, ptA, ptB, ptC]
          refine tt (i := 13) hHeld (some 150) ?_
          try simp only [Act.put, ptA, ptB, ptC]
          refine till_ready (rs := [15]) (by kernel_rfl) (by simp) ?_
          refine mem1 ?_
          refine till_step rfl (fun K hK => ?_)
          obtain ⟨k0, k1, k2⟩ := three_cells kb.out
          obtain ⟨f0, f1, f2⟩ := three_frozen kb.out
          have hlt := lt_of_block kb.out
          go_simp
          have HF := hide (BoxR.stored hge hg6 HR.out kb)
          have hg7 := HF.out.choose_spec.2.2.2
          clear k0 k1 k2 f0 f1 f2
          refine hK.out _ _ (HSS.out _ hg7) (fun hHeld => ?_)
          clear hK K
          try simp only [Act.put, ptA, ptB, ptC]
          refine tt (i := 16) hHeld (some 25) ?_
          try simp only [Act.put, ptA, ptB, ptC]
          refine till_done (by kernel_rfl) ?_ _
          clear hHeld
          go_wp2_with fail
          go_meet
          exact ⟨HF.out, rfl⟩
      · refine till_step rfl (fun K hK => ?_)
        go_simp
        have hg8 : Below w112.heap.size w112 ((w112.alloc (.cells #[.bool false, .slice none 0 0, .slice none 0 0] 43)).drew) := (below_al (Below.refl _ _) (.cells #[.bool false, .slice none 0 0, .slice none 0 0] 43)).drew
        have kb := hide (show ((w112.alloc (.cells #[.bool false, .slice none 0 0, .slice none 0 0] 43)).drew).heap[w112.heap.size]? = some (.cells #[.bool false, .slice none 0 0, .slice none 0 0] 43) from at_new w112 (.cells #[.bool false, .slice none 0 0, .slice none 0 0] 43))
        have hge : w112.heap.size ≤ w112.heap.size := Nat.le_refl _
        have hstep : Below w112.heap.size w112 ((w112.alloc (.cells #[.bool false, .slice none 0 0, .slice none 0 0] 43)).drew) := (below_al (Below.refl _ _) (.cells #[.bool false, .slice none 0 0, .slice none 0 0] 43)).drew
        generalize (w112.alloc (.cells #[.bool false, .slice none 0 0, .slice none 0 0] 43)).drew = w8 at hg8 kb hstep ⊢
        try (replace HR := hide (HR.out.below hstep))
        try (replace H4 := hide (H4.out.below hstep))
        clear hstep
        refine hK.out _ _ (HSS.out _ hg8) (fun hHeld => ?_)
        clear hK K
        try simp only [Act.put, ptA, ptB, ptC]
        refine till_ready (rs := [9]) (by kernel_rfl) (by simp) ?_
        refine mem1 ?_
        refine till_step rfl (fun K hK => ?_)
        go_simp
        go_at_call 23
        refine (rat_c _ _ (R.getD i 0) 3 (HQS.out.2.1.below hg8) (by omega) HF14.out).mono ?_
        rintro e w9 ⟨v4, rfl, hr4, hd⟩
        replace hr4 : RatV w9 v4 (R.getD i 0) 3000 := hr4.more (by omega)
        obtain ⟨s4, A4, n4, c4, B4, m4, d4, rfl⟩ := hr4.shape
        have H4 := hide hr4
        clear hr4
        try (replace kb := hide (at_later kb.out hd))
        have hg9 : Below w112.heap.size w112 w9 := hg8.trans (hd.mono hg8.size)
        clear hd
        go_wp2_with fail
        refine hK.out _ _ (HSS.out _ hg9) (fun hHeld => ?_)
        clear hK K
        try simp only [Act.put, ptA, ptB, ptC]
        refine till_ready (rs := [10]) (by kernel_rfl) (by simp) ?_
        refine mem1 ?_
        refine till_step rfl (fun K hK => ?_)
        go_simp
        go_at_call 22
        refine (quo_q _ _ _ (vF N Ws i) (R.getD i 0) 3000 (HQS.out.1.below hg9) (by first | exact H4.out | exact H4.out.below (below_al (Below.refl _ _) _)) (by omega) (HS.out.r_ne i hiN)).mono ?_
        rintro e w10 ⟨v5, rfl, hdn⟩
        rw [HS.out.ld_def i hiN] at hdn
        obtain ⟨r5, rfl, hr5, hd⟩ := hdn.ok ((HS.out.ld.fitl i hiN).smallQ (by omega))
        replace hr5 : RatV w10 r5 (ldF N R Ws i) 3000 := hr5.fit ((HS.out.ld.fitl i hiN).more (by omega))
        obtain ⟨s5, A5, n5, c5, B5, m5, d5, rfl⟩ := hr5.shape
        have HR := hide hr5
        clear hr5 hdn
        try (replace kb := hide (at_later kb.out hd))
        have hg10 : Below w112.heap.size w112 w10 := hg9.trans (hd.mono hg9.size)
        clear hd
        go_wp2_with fail
        refine hK.out _ _ (HSS.out _ hg10) (fun hHeld => ?_)
        clear hK K
        try simp only [Act.put, ptA, ptB, ptC]
        refine tt (i := 11) hHeld (some 137) ?_
        try simp only [Act.put, ptA, ptB, ptC]
        refine tt (i := 12) hHeld (some 149) ?_
        try simp only [Act.put, ptA, ptB, ptC]
        refine tt (i := 13) hHeld (some 150) ?_
        try simp only [Act.put, ptA, ptB, ptC]
        refine till_ready (rs := [15]) (by kernel_rfl) (by simp) ?_
        refine mem1 ?_
        refine till_step rfl (fun K hK => ?_)
        obtain ⟨k0, k1, k2⟩ := three_cells kb.out
        obtain ⟨f0, f1, f2⟩ := three_frozen kb.out
        have hlt := lt_of_block kb.out
        go_simp
        have HF := hide (BoxR.stored hge hg10 HR.out kb)
        have hg11 := HF.out.choose_spec.2.2.2
        clear k0 k1 k2 f0 f1 f2
        refine hK.out _ _ (HSS.out _ hg11) (fun hHeld => ?_)
        clear hK K
        try simp only [Act.put, ptA, ptB, ptC]
        refine tt (i := 16) hHeld (some 25) ?_
        try simp only [Act.put, ptA, ptB, ptC]
        refine till_done (by kernel_rfl) ?_ _
        clear hHeld
        go_wp2_with fail
        go_meet
        exact ⟨HF.out, rfl⟩
  case rest =>
  obtain ⟨⟨g24, rfl, hgl, hbx, hd⟩, rfl⟩ := hcut
  rename World => w116
  have HB24 := hide hbx
  replace HX := hide (at_later HX.out hd)
  replace HO := hide (at_later HO.out hd)
  replace HSV := hide (HSV.out.below hd)
  replace HQR := hide (HQR.out.below hd)
  replace HGX := hide (HGX.out.below hd)
  replace HVX := hide (HVX.out.below hd)
  replace HBs := hide (HBs.out.below hd)
  replace HBa := hide (HBa.out.below hd)
  replace HB22 := hide (HB22.out.below hd)
  replace HW := hide (below_next HW.out hd)
  clear hgl hbx hd
  clear HF14 HGq
  clear HO
  clear HQR
  clear HVX
  clear HX
  clear HSV
  obtain ⟨s117, A117, n117, c117, B117, m117, d117, hx117, hq117⟩ := HB24.out
  obtain ⟨x0, x1, x2⟩ := three_cells hx117
  have hlx := lt_of_block hx117
  have hfp : ∀ t, t ≤ 1000 → FitQ 3000 (powN (ldF N R Ws i) t) ∧ SmallQ (powN (ldF N R Ws i) t) := fun t ht => by
    have := fit_pow (HS.out.ld.fitl i hiN) t
    exact ⟨this.more (by omega), this.smallQ (by omega)⟩
  have HFP := hide hfp
  have HQ117 := hide hq117
  clear hfp hx117 hq117
  go_wp2_with fail
  refine (pow_up _ _ (ldF N R Ws i) k 3000 HQ117.out (by omega) (by omega) (by omega) HFP.out).mono ?_
  rintro e w118 ⟨_, rfl, hdn⟩
  obtain ⟨r118, rfl, hr118, hd⟩ := hdn.ok ((HS.out.ld.p_fit i k hiN (by omega)).smallQ (by omega))
  clear hdn x0 x1 x2 hlx HFP HQ117
  obtain ⟨s118, A118, n118, c118, B118, m118, d118, rfl⟩ := hr118.shape
  obtain ⟨W118, hW118⟩ : ∃ W118, W118 = w118.alloc (.cells #[.bool s118, .slice A118 n118 c118, .slice B118 m118 d118] 43) := ⟨_, rfl⟩
  have hda : Below w118.heap.size w118 W118 := by rw [hW118]; exact below_al (Below.refl _ _) _
  have hdn := below_next hd hda
  have HB26 := hide (show BoxR W118 w118.heap.size (powN (ldF N R Ws i) k) 3000 from ⟨_, _, _, _, _, _, _, by rw [hW118]; exact at_new _ _, hr118.below hda⟩)
  have HL := hide hW118
  replace HGX := hide (HGX.out.below hdn)
  replace HBs := hide (HBs.out.below hdn)
  replace HBa := hide (HBa.out.below hdn)
  replace HB22 := hide (HB22.out.below hdn)
  replace HB24 := hide (HB24.out.below hdn)
  replace HW := hide (below_next HW.out hdn)
  clear hd hda hdn hr118 hW118
  clear HB24
  go_upto_region 16 with fail
  rw [← HL.out]
  clear HL
  go_cut [28, 29] (fun s28 s29 wx => (∃ g : Nat, s28 = .pointer (some ⟨g, 0, none⟩) ∧ W118.heap.size ≤ g ∧ BoxR wx g (powN (ldF N R Ws i) k * gN (ldF N R Ws) N (n - k)) 3000 ∧ Below W118.heap.size W118 wx) ∧ s29 = .int .i64 0)
  case first =>
    as_aux_lemma =>
      have j2 : (n : Int) - (k : Int) < (n : Int) + 1 := by omega
      have j3 : (0 : Int) ≤ (n : Int) - (k : Int) := by omega
      have j4 : ((n : Int) - (k : Int)).toNat = n - k := by omega
      have j5 : IntKind.i64.wrap ((n : Int) - (k : Int)) = (n : Int) - (k : Int) := IntWalk.i64_in _ (by omega)
      have j7 : (k : Int) ≤ (n : Int) := by omega
      obtain ⟨s119, A119, n119, c119, B119, m119, d119, hx119, hq119⟩ := HB26.out
      obtain ⟨s120, A120, n120, c120, B120, m120, d120, e120a, e120b, e120c, hq120⟩ := (HGX.out (n - k) (by omega)).rat
      have hS : ∀ w', Below W118.heap.size W118 w' → (w'.cell? ⟨w118.heap.size, 0, none⟩ = some (.bool s119) ∧ w'.cell? ⟨w118.heap.size, 1, none⟩ = some (.slice A119 n119 c119) ∧ w'.cell? ⟨w118.heap.size, 2, none⟩ = some (.slice B119 m119 d119)) ∧ (w'.cell? ⟨bg, og + (n - k) * 3, none⟩ = some (.bool s120) ∧ w'.cell? ⟨bg, og + (n - k) * 3 + 1, none⟩ = some (.slice A120 n120 c120) ∧ w'.cell? ⟨bg, og + (n - k) * 3 + 2, none⟩ = some (.slice B120 m120 d120)) := fun w' h => by
        have eC : ∀ b o v, W118.cell? ⟨b, o, none⟩ = some v → w'.cell? ⟨b, o, none⟩ = some v := fun b o v hv => (h.cell (lt_of_cell hv)).trans hv
        exact ⟨three_cells (at_later hx119 h), ⟨eC _ _ _ e120a, eC _ _ _ e120b, eC _ _ _ e120c⟩⟩
      have hdr : Below W118.heap.size W118 W118.drew := (Below.refl _ _).drew
      have HSS := hide hS
      have HQS := hide (And.intro hq119 (And.intro hq120 trivial))
      clear hS hx119 hq119 e120a e120b e120c hq120
      refine till_begin (fun w' => (w'.cell? ⟨w118.heap.size, 0, none⟩ = some (.bool s119) ∧ w'.cell? ⟨w118.heap.size, 1, none⟩ = some (.slice A119 n119 c119) ∧ w'.cell? ⟨w118.heap.size, 2, none⟩ = some (.slice B119 m119 d119)) ∧ (w'.cell? ⟨bg, og + (n - k) * 3, none⟩ = some (.bool s120) ∧ w'.cell? ⟨bg, og + (n - k) * 3 + 1, none⟩ = some (.slice A120 n120 c120) ∧ w'.cell? ⟨bg, og + (n - k) * 3 + 2, none⟩ = some (.slice B120 m120 d120))) [0, 1, 2, 3, 4, 5, 6, 7, 8, 9, 10, 11, 12, 13] (by kernel_rfl) (HSS.out _ hdr) (fun hHeld => ?_)
      refine tt (i := 1) hHeld (some 159) ?_
      try simp only [Act.put, ptA, ptB, ptC]
      refine tt (i := 2) hHeld (some 160) ?_
      try simp only [Act.put, ptA, ptB, ptC]
      refine tt (i := 3) hHeld (some 161) ?_
      try simp only [Act.put, ptA, ptB, ptC]
      refine tt (i := 4) hHeld (some 162) ?_
      try simp only [Act.put, ptA, ptB, ptC]
      refine tt (i := 5) hHeld (some 163) ?_
      try simp only [Act.put, ptA, ptB, ptC]
      refine tt (i := 0) hHeld (some 158) ?_
      try simp only [Act.put, ptA, ptB, ptC]
      refine tt (i := 6) hHeld (some 164) ?_
      try simp only [Act.put, ptA, ptB, ptC]
      refine till_ready (rs := [7, 11]) (by kernel_rfl) (by simp) ?_
      refine List.forall_mem_cons.2 ⟨?_, List.forall_mem_cons.2 ⟨?_, fun _ h => absurd h List.not_mem_nil⟩⟩
      · refine till_step rfl (fun K hK => ?_)
        go_simp
        go_at_call 21
        refine (mul_q _ _ _ (powN (ldF N R Ws i) k) (gN (ldF N R Ws) N (n - k)) 3000 (HQS.out.1.below hdr) (HQS.out.2.1.below hdr) (by omega)).mono ?_
        rintro e w1 ⟨v5, rfl, hdn⟩
        obtain ⟨r5, rfl, hr5, hd⟩ := hdn.ok ((HS.out.ld.pg_fit i k (n - k) hiN (by omega) (by omega)).smallQ (by omega))
        replace hr5 : RatV w1 r5 (powN (ldF N R Ws i) k * gN (ldF N R Ws) N (n - k)) 3000 := hr5.fit ((HS.out.ld.pg_fit i k (n - k) hiN (by omega) (by omega)).more (by omega))
        obtain ⟨s5, A5, n5, c5, B5, m5, d5, rfl⟩ := hr5.shape
        have HR := hide hr5
        clear hr5 hdn
        try (replace kb := hide (at_later kb.out hd))
        have hg1 : Below W118.heap.size W118 w1 := hdr.trans (hd.mono hdr.size)
        clear hd
        go_wp2_with fail
        refine hK.out _ _ (HSS.out _ hg1) (fun hHeld => ?_)
        clear hK K
        try simp only [Act.put, ptA, ptB, ptC]
        refine tt (i := 8) hHeld (some 157) ?_
        try simp only [Act.put, ptA, ptB, ptC]
        refine tt (i := 9) hHeld (some 166) ?_
        try simp only [Act.put, ptA, ptB, ptC]
        refine tt (i := 10) hHeld (some 167) ?_
        try simp only [Act.put, ptA, ptB, ptC]
        refine till_ready (rs := [11]) (by kernel_rfl) (by simp) ?_
        refine mem1 ?_
        refine till_step rfl (fun K hK => ?_)
        go_simp
        have hg2 : Below W118.heap.size W118 (w1.alloc (.cells #[.bool false, .slice none 0 0, .slice none 0 0] 43)) := hg1.alloc hg1.size (.cells #[.bool false, .slice none 0 0, .slice none 0 0] 43)
        have kb := hide (show (w1.alloc (.cells #[.bool false, .slice none 0 0, .slice none 0 0] 43)).heap[w1.heap.size]? = some (.cells #[.bool false, .slice none 0 0, .slice none 0 0] 43) from at_new w1 (.cells #[.bool false, .slice none 0 0, .slice none 0 0] 43))
        have hge : W118.heap.size ≤ w1.heap.size := hg1.size
        have hstep : Below w1.heap.size w1 (w1.alloc (.cells #[.bool false, .slice none 0 0, .slice none 0 0] 43)) := below_al (Below.refl _ _) (.cells #[.bool false, .slice none 0 0, .slice none 0 0] 43)
        generalize w1.alloc (.cells #[.bool false, .slice none 0 0, .slice none 0 0] 43) = w2 at hg2 kb hstep ⊢
        try (replace HR := hide (HR.out.below hstep))
        try (replace H4 := hide (H4.out.below hstep))
        clear hstep
        refine hK.out _ _ (HSS.out _ hg2) (fun hHeld => ?_)
        clear hK K
        try simp only [Act.put, ptA, ptB, ptC]
        refine till_ready (rs := [12]) (by kernel_rfl) (by simp) ?_
        refine mem1 ?_
        refine till_step rfl (fun K hK => ?_)
        obtain ⟨k0, k1, k2⟩ := three_cells kb.out
        obtain ⟨f0, f1, f2⟩ := three_frozen kb.out
        have hlt := lt_of_block kb.out
        go_simp
        have HF := hide (BoxR.stored hge hg2 HR.out kb)
        have hg3 := HF.out.choose_spec.2.2.2
        clear k0 k1 k2 f0 f1 f2
        refine hK.out _ _ (HSS.out _ hg3) (fun hHeld => ?_)
        clear hK K
        try simp only [Act.put, ptA, ptB, ptC]
        refine tt (i := 13) hHeld (some 29) ?_
        try simp only [Act.put, ptA, ptB, ptC]
        refine till_done (by kernel_rfl) ?_ _
        clear hHeld
        go_wp2_with fail
        go_meet
        exact ⟨HF.out, rfl⟩
      · refine till_step rfl (fun K hK => ?_)
        go_simp
        have hg4 : Below W118.heap.size W118 ((W118.alloc (.cells #[.bool false, .slice none 0 0, .slice none 0 0] 43)).drew) := (below_al (Below.refl _ _) (.cells #[.bool false, .slice none 0 0, .slice none 0 0] 43)).drew
        have kb := hide (show ((W118.alloc (.cells #[.bool false, .slice none 0 0, .slice none 0 0] 43)).drew).heap[W118.heap.size]? = some (.cells #[.bool false, .slice none 0 0, .slice none 0 0] 43) from at_new W118 (.cells #[.bool false, .slice none 0 0, .slice none 0 0] 43))
        have hge : W118.heap.size ≤ W118.heap.size := Nat.le_refl _
        have hstep : Below W118.heap.size W118 ((W118.alloc (.cells #[.bool false, .slice none 0 0, .slice none 0 0] 43)).drew) := (below_al (Below.refl _ _) (.cells #[.bool false, .slice none 0 0, .slice none 0 0] 43)).drew
        generalize (W118.alloc (.cells #[.bool false, .slice none 0 0, .slice none 0 0] 43)).drew = w4 at hg4 kb hstep ⊢
        try (replace HR := hide (HR.out.below hstep))
        try (replace H4 := hide (H4.out.below hstep))
        clear hstep
        refine hK.out _ _ (HSS.out _ hg4) (fun hHeld => ?_)
        clear hK K
        try simp only [Act.put, ptA, ptB, ptC]
        refine till_ready (rs := [7]) (by kernel_rfl) (by simp) ?_
        refine mem1 ?_
        refine till_step rfl (fun K hK => ?_)
        go_simp
        go_at_call 21
        refine (mul_q _ _ _ (powN (ldF N R Ws i) k) (gN (ldF N R Ws) N (n - k)) 3000 (HQS.out.1.below hg4) (HQS.out.2.1.below hg4) (by omega)).mono ?_
        rintro e w5 ⟨v5, rfl, hdn⟩
        obtain ⟨r5, rfl, hr5, hd⟩ := hdn.ok ((HS.out.ld.pg_fit i k (n - k) hiN (by omega) (by omega)).smallQ (by omega))
        replace hr5 : RatV w5 r5 (powN (ldF N R Ws i) k * gN (ldF N R Ws) N (n - k)) 3000 := hr5.fit ((HS.out.ld.pg_fit i k (n - k) hiN (by omega) (by omega)).more (by omega))
        obtain ⟨s5, A5, n5, c5, B5, m5, d5, rfl⟩ := hr5.shape
        have HR := hide hr5
        clear hr5 hdn
        try (replace kb := hide (at_later kb.out hd))
        have hg5 : Below W118.heap.size W118 w5 := hg4.trans (hd.mono hg4.size)
        clear hd
        go_wp2_with fail
        refine hK.out _ _ (HSS.out _ hg5) (fun hHeld => ?_)
        clear hK K
        try simp only [Act.put, ptA, ptB, ptC]
        refine tt (i := 8) hHeld (some 157) ?_
        try simp only [Act.put, ptA, ptB, ptC]
        refine tt (i := 9) hHeld (some 166) ?_
        try simp only [Act.put, ptA, ptB, ptC]
        refine tt (i := 10) hHeld (some 167) ?_
        try simp only [Act.put, ptA, ptB, ptC]
        refine till_ready (rs := [12]) (by kernel_rfl) (by simp) ?_
        refine mem1 ?_
        refine till_step rfl (fun K hK => ?_)
        obtain ⟨k0, k1, k2⟩ := three_cells kb.out
        obtain ⟨f0, f1, f2⟩ := three_frozen kb.out
        have hlt := lt_of_block kb.out
        go_simp
        have HF := hide (BoxR.stored hge hg5 HR.out kb)
        have hg6 := HF.out.choose_spec.2.2.2
        clear k0 k1 k2 f0 f1 f2
        refine hK.out _ _ (HSS.out _ hg6) (fun hHeld => ?_)
        clear hK K
        try simp only [Act.put, ptA, ptB, ptC]
        refine tt (i := 13) hHeld (some 29) ?_
        try simp only [Act.put, ptA, ptB, ptC]
        refine till_done (by kernel_rfl) ?_ _
        clear hHeld
        go_wp2_with fail
        go_meet
        exact ⟨HF.out, rfl⟩
  case rest =>
  obtain ⟨⟨g28, rfl, hgl, hbx, hd⟩, rfl⟩ := hcut
  rename World => w121
  have HB28 := hide hbx
  replace HGX := hide (HGX.out.below hd)
  replace HBs := hide (HBs.out.below hd)
  replace HBa := hide (HBa.out.below hd)
  replace HB22 := hide (HB22.out.below hd)
  replace HB26 := hide (HB26.out.below hd)
  replace HW := hide (below_next HW.out hd)
  clear hgl hbx hd
  clear HB26
  go_upto_region 17 with fail
  go_cut [30, 31] (fun s30 s31 wx => (∃ g : Nat, s30 = .pointer (some ⟨g, 0, none⟩) ∧ w121.heap.size ≤ g ∧ BoxR wx g (powN (ldF N R Ws i) k * gN (ldF N R Ws) N (n - k) / gN (ldF N R Ws) N n) 3000 ∧ Below w121.heap.size w121 wx) ∧ s31 = .int .i64 0)
  case first =>
    as_aux_lemma =>
      have j2 : (n : Int) < (n : Int) + 1 := by omega
      obtain ⟨s122, A122, n122, c122, B122, m122, d122, hx122, hq122⟩ := HB28.out
      obtain ⟨s123, A123, n123, c123, B123, m123, d123, e123a, e123b, e123c, hq123⟩ := (HGX.out (n) (by omega)).rat
      have hS : ∀ w', Below w121.heap.size w121 w' → (w'.cell? ⟨g28, 0, none⟩ = some (.bool s122) ∧ w'.cell? ⟨g28, 1, none⟩ = some (.slice A122 n122 c122) ∧ w'.cell? ⟨g28, 2, none⟩ = some (.slice B122 m122 d122)) ∧ (w'.cell? ⟨bg, og + (n) * 3, none⟩ = some (.bool s123) ∧ w'.cell? ⟨bg, og + (n) * 3 + 1, none⟩ = some (.slice A123 n123 c123) ∧ w'.cell? ⟨bg, og + (n) * 3 + 2, none⟩ = some (.slice B123 m123 d123)) := fun w' h => by
        have eC : ∀ b o v, w121.cell? ⟨b, o, none⟩ = some v → w'.cell? ⟨b, o, none⟩ = some v := fun b o v hv => (h.cell (lt_of_cell hv)).trans hv
        exact ⟨three_cells (at_later hx122 h), ⟨eC _ _ _ e123a, eC _ _ _ e123b, eC _ _ _ e123c⟩⟩
      have hdr : Below w121.heap.size w121 w121.drew := (Below.refl _ _).drew
      have HSS := hide hS
      have HQS := hide (And.intro hq122 (And.intro hq123 trivial))
      clear hS hx122 hq122 e123a e123b e123c hq123
      refine till_begin (fun w' => (w'.cell? ⟨g28, 0, none⟩ = some (.bool s122) ∧ w'.cell? ⟨g28, 1, none⟩ = some (.slice A122 n122 c122) ∧ w'.cell? ⟨g28, 2, none⟩ = some (.slice B122 m122 d122)) ∧ (w'.cell? ⟨bg, og + (n) * 3, none⟩ = some (.bool s123) ∧ w'.cell? ⟨bg, og + (n) * 3 + 1, none⟩ = some (.slice A123 n123 c123) ∧ w'.cell? ⟨bg, og + (n) * 3 + 2, none⟩ = some (.slice B123 m123 d123))) [0, 1, 2, 3, 4, 5, 6, 7, 8, 9, 10, 11] (by kernel_rfl) (HSS.out _ hdr) (fun hHeld => ?_)
      refine tt (i := 1) hHeld (some 170) ?_
      try simp only [Act.put, ptA, ptB, ptC]
      refine tt (i := 2) hHeld (some 171) ?_
      try simp only [Act.put, ptA, ptB, ptC]
      refine tt (i := 3) hHeld (some 172) ?_
      try simp only [Act.put, ptA, ptB, ptC]
      refine tt (i := 0) hHeld (some 169) ?_
      try simp only [Act.put, ptA, ptB, ptC]
      refine tt (i := 4) hHeld (some 173) ?_
      try simp only [Act.put, ptA, ptB, ptC]
      refine till_ready (rs := [5, 9]) (by kernel_rfl) (by simp) ?_
      refine List.forall_mem_cons.2 ⟨?_, List.forall_mem_cons.2 ⟨?_, fun _ h => absurd h List.not_mem_nil⟩⟩
      · refine till_step rfl (fun K hK => ?_)
        go_simp
        go_at_call 22
        refine (quo_q _ _ _ (powN (ldF N R Ws i) k * gN (ldF N R Ws) N (n - k)) (gN (ldF N R Ws) N n) 3000 (HQS.out.1.below hdr) (HQS.out.2.1.below hdr) (by omega) (HS.out.ld.g_ne n)).mono ?_
        rintro e w1 ⟨v5, rfl, hdn⟩
        obtain ⟨r5, rfl, hr5, hd⟩ := hdn.ok (((HS.out.ld.pg_fit i k (n - k) hiN (by omega) (by omega)).divA (HS.out.ld.fitg N (n) (Nat.le_refl _) (by omega)) (HS.out.ld.g_ne n)).smallQ (by omega))
        replace hr5 : RatV w1 r5 (powN (ldF N R Ws i) k * gN (ldF N R Ws) N (n - k) / gN (ldF N R Ws) N n) 3000 := hr5.fit (((HS.out.ld.pg_fit i k (n - k) hiN (by omega) (by omega)).divA (HS.out.ld.fitg N (n) (Nat.le_refl _) (by omega)) (HS.out.ld.g_ne n)).more (by omega))
        obtain ⟨s5, A5, n5, c5, B5, m5, d5, rfl⟩ := hr5.shape
        have HR := hide hr5
        clear hr5 hdn
        try (replace kb := hide (at_later kb.out hd))
        have hg1 : Below w121.heap.size w121 w1 := hdr.trans (hd.mono hdr.size)
        clear hd
        go_wp2_with fail
        refine hK.out _ _ (HSS.out _ hg1) (fun hHeld => ?_)
        clear hK K
        try simp only [Act.put, ptA, ptB, ptC]
        refine tt (i := 6) hHeld (some 168) ?_
        try simp only [Act.put, ptA, ptB, ptC]
        refine tt (i := 7) hHeld (some 175) ?_
        try simp only [Act.put, ptA, ptB, ptC]
        refine tt (i := 8) hHeld (some 176) ?_
        try simp only [Act.put, ptA, ptB, ptC]
        refine till_ready (rs := [9]) (by kernel_rfl) (by simp) ?_
        refine mem1 ?_
        refine till_step rfl (fun K hK => ?_)
        go_simp
        have hg2 : Below w121.heap.size w121 (w1.alloc (.cells #[.bool false, .slice none 0 0, .slice none 0 0] 43)) := hg1.alloc hg1.size (.cells #[.bool false, .slice none 0 0, .slice none 0 0] 43)
        have kb := hide (show (w1.alloc (.cells #[.bool false, .slice none 0 0, .slice none 0 0] 43)).heap[w1.heap.size]? = some (.cells #[.bool false, .slice none 0 0, .slice none 0 0] 43) from at_new w1 (.cells #[.bool false, .slice none 0 0, .slice none 0 0] 43))
        have hge : w121.heap.size ≤ w1.heap.size := hg1.size
        have hstep : Below w1.heap.size w1 (w1.alloc (.cells #[.bool false, .slice none 0 0, .slice none 0 0] 43)) := below_al (Below.refl _ _) (.cells #[.bool false, .slice none 0 0, .slice none 0 0] 43)
        generalize w1.alloc (.cells #[.bool false, .slice none 0 0, .slice none 0 0] 43) = w2 at hg2 kb hstep ⊢
        try (replace HR := hide (HR.out.below hstep))
        try (replace H4 := hide (H4.out.below hstep))
        clear hstep
        refine hK.out _ _ (HSS.out _ hg2) (fun hHeld => ?_)
        clear hK K
        try simp only [Act.put, ptA, ptB, ptC]
        refine till_ready (rs := [10]) (by kernel_rfl) (by simp) ?_
        refine mem1 ?_
        refine till_step rfl (fun K hK => ?_)
        obtain ⟨k0, k1, k2⟩ := three_cells kb.out
        obtain ⟨f0, f1, f2⟩ := three_frozen kb.out
        have hlt := lt_of_block kb.out
        go_simp
        have HF := hide (BoxR.stored hge hg2 HR.out kb)
        have hg3 := HF.out.choose_spec.2.2.2
        clear k0 k1 k2 f0 f1 f2
        refine hK.out _ _ (HSS.out _ hg3) (fun hHeld => ?_)
        clear hK K
        try simp only [Act.put, ptA, ptB, ptC]
        refine tt (i := 11) hHeld (some 31) ?_
        try simp only [Act.put, ptA, ptB, ptC]
        refine till_done (by kernel_rfl) ?_ _
        clear hHeld
        go_wp2_with fail
        go_meet
        exact ⟨HF.out, rfl⟩
      · refine till_step rfl (fun K hK => ?_)
        go_simp
        have hg4 : Below w121.heap.size w121 ((w121.alloc (.cells #[.bool false, .slice none 0 0, .slice none 0 0] 43)).drew) := (below_al (Below.refl _ _) (.cells #[.bool false, .slice none 0 0, .slice none 0 0] 43)).drew
        have kb := hide (show ((w121.alloc (.cells #[.bool false, .slice none 0 0, .slice none 0 0] 43)).drew).heap[w121.heap.size]? = some (.cells #[.bool false, .slice none 0 0, .slice none 0 0] 43) from at_new w121 (.cells #[.bool false, .slice none 0 0, .slice none 0 0] 43))
        have hge : w121.heap.size ≤ w121.heap.size := Nat.le_refl _
        have hstep : Below w121.heap.size w121 ((w121.alloc (.cells #[.bool false, .slice none 0 0, .slice none 0 0] 43)).drew) := (below_al (Below.refl _ _) (.cells #[.bool false, .slice none 0 0, .slice none 0 0] 43)).drew
        generalize (w121.alloc (.cells #[.bool false, .slice none 0 0, .slice none 0 0] 43)).drew = w4 at hg4 kb hstep ⊢
        try (replace HR := hide (HR.out.below hstep))
        try (replace H4 := hide (H4.out.below hstep))
        clear hstep
        refine hK.out _ _ (HSS.out _ hg4) (fun hHeld => ?_)
        clear hK K
        try simp only [Act.put, ptA, ptB, ptC]
        refine till_ready (rs := [5]) (by kernel_rfl) (by simp) ?_
        refine mem1 ?_
        refine till_step rfl (fun K hK => ?_)
        go_simp
        go_at_call 22
        refine (quo_q _ _ _ (powN (ldF N R Ws i) k * gN (ldF N R Ws) N (n - k)) (gN (ldF N R Ws) N n) 3000 (HQS.out.1.below hg4) (HQS.out.2.1.below hg4) (by omega) (HS.out.ld.g_ne n)).mono ?_
        rintro e w5 ⟨v5, rfl, hdn⟩
        obtain ⟨r5, rfl, hr5, hd⟩ := hdn.ok (((HS.out.ld.pg_fit i k (n - k) hiN (by omega) (by omega)).divA (HS.out.ld.fitg N (n) (Nat.le_refl _) (by omega)) (HS.out.ld.g_ne n)).smallQ (by omega))
        replace hr5 : RatV w5 r5 (powN (ldF N R Ws i) k * gN (ldF N R Ws) N (n - k) / gN (ldF N R Ws) N n) 3000 := hr5.fit (((HS.out.ld.pg_fit i k (n - k) hiN (by omega) (by omega)).divA (HS.out.ld.fitg N (n) (Nat.le_refl _) (by omega)) (HS.out.ld.g_ne n)).more (by omega))
        obtain ⟨s5, A5, n5, c5, B5, m5, d5, rfl⟩ := hr5.shape
        have HR := hide hr5
        clear hr5 hdn
        try (replace kb := hide (at_later kb.out hd))
        have hg5 : Below w121.heap.size w121 w5 := hg4.trans (hd.mono hg4.size)
        clear hd
        go_wp2_with fail
        refine hK.out _ _ (HSS.out _ hg5) (fun hHeld => ?_)
        clear hK K
        try simp only [Act.put, ptA, ptB, ptC]
        refine tt (i := 6) hHeld (some 168) ?_
        try simp only [Act.put, ptA, ptB, ptC]
        refine tt (i := 7) hHeld (some 175) ?_
        try simp only [Act.put, ptA, ptB, ptC]
        refine tt (i := 8) hHeld (some 176) ?_
        try simp only [Act.put, ptA, ptB, ptC]
        refine till_ready (rs := [10]) (by kernel_rfl) (by simp) ?_
        refine mem1 ?_
        refine till_step rfl (fun K hK => ?_)
        obtain ⟨k0, k1, k2⟩ := three_cells kb.out
        obtain ⟨f0, f1, f2⟩ := three_frozen kb.out
        have hlt := lt_of_block kb.out
        go_simp
        have HF := hide (BoxR.stored hge hg5 HR.out kb)
        have hg6 := HF.out.choose_spec.2.2.2
        clear k0 k1 k2 f0 f1 f2
        refine hK.out _ _ (HSS.out _ hg6) (fun hHeld => ?_)
        clear hK K
        try simp only [Act.put, ptA, ptB, ptC]
        refine tt (i := 11) hHeld (some 31) ?_
        try simp only [Act.put, ptA, ptB, ptC]
        refine till_done (by kernel_rfl) ?_ _
        clear hHeld
        go_wp2_with fail
        go_meet
        exact ⟨HF.out, rfl⟩
  case rest =>
  obtain ⟨⟨g30, rfl, hgl, hbx, hd⟩, rfl⟩ := hcut
  rename World => w124
  have HB30 := hide hbx
  replace HGX := hide (HGX.out.below hd)
  replace HBs := hide (HBs.out.below hd)
  replace HBa := hide (HBa.out.below hd)
  replace HB22 := hide (HB22.out.below hd)
  replace HB28 := hide (HB28.out.below hd)
  replace HW := hide (below_next HW.out hd)
  clear hgl hbx hd
  clear HB28
  clear HGX
  obtain ⟨s125, A125, n125, c125, B125, m125, d125, hx125, hq125⟩ := HBs.out
  obtain ⟨x0, x1, x2⟩ := three_cells hx125
  have hlx := lt_of_block hx125
  obtain ⟨s126, A126, n126, c126, B126, m126, d126, hx126, hq126⟩ := HB22.out
  obtain ⟨z0, z1, z2⟩ := three_cells hx126
  have hlz := lt_of_block hx126
  have HQa := hide hq125
  have HQb := hide hq126
  clear hx125 hx126 hq125 hq126
  go_wp2_with fail
  refine (cmp_q _ _ _ (spQ N R Ws i n) (vF N Ws i * gN (ldF N R Ws) N (n - 1) / gN (ldF N R Ws) N n) 3000 HQa.out HQb.out (by omega)).mono ?_
  rintro e w127 ⟨_, rfl, rfl, hd⟩
  rw [show sgnQ (spQ N R Ws i n - vF N Ws i * gN (ldF N R Ws) N (n - 1) / gN (ldF N R Ws) N n) = 0 by rw [HS.out.sp_eq i n hiN hn1]; exact sgn_zero _]
  clear x0 x1 x2 z0 z1 z2 hlx hlz HQa HQb
  replace HBs := hide (HBs.out.below hd)
  replace HBa := hide (HBa.out.below hd)
  replace HB22 := hide (HB22.out.below hd)
  replace HB30 := hide (HB30.out.below hd)
  replace HW := hide (below_next HW.out hd)
  clear hd
  clear HBs
  clear HB22
  obtain ⟨s128, A128, n128, c128, B128, m128, d128, hx128, hq128⟩ := HBa.out
  obtain ⟨x0, x1, x2⟩ := three_cells hx128
  have hlx := lt_of_block hx128
  obtain ⟨s129, A129, n129, c129, B129, m129, d129, hx129, hq129⟩ := HB30.out
  obtain ⟨z0, z1, z2⟩ := three_cells hx129
  have hlz := lt_of_block hx129
  have HQa := hide hq128
  have HQb := hide hq129
  clear hx128 hx129 hq128 hq129
  go_wp2_with fail
  refine (cmp_q _ _ _ (atQ (ldF N R Ws) N i k n) (powN (ldF N R Ws i) k * gN (ldF N R Ws) N (n - k) / gN (ldF N R Ws) N n) 3000 HQa.out HQb.out (by omega)).mono ?_
  rintro e w130 ⟨_, rfl, rfl, hd⟩
  rw [show sgnQ (atQ (ldF N R Ws) N i k n - powN (ldF N R Ws i) k * gN (ldF N R Ws) N (n - k) / gN (ldF N R Ws) N n) = 0 by rw [HS.out.at_eq i k n hkn]; exact sgn_zero _]
  clear x0 x1 x2 z0 z1 z2 hlx hlz HQa HQb
  replace HBa := hide (HBa.out.below hd)
  replace HB30 := hide (HB30.out.below hd)
  replace HW := hide (below_next HW.out hd)
  clear hd
  clear HBa
  clear HB30
  go_wp2_with fail
  refine (awake_q _).mono ?_
  rintro e w131 ⟨_, rfl, rfl, hd⟩
  replace HW := hide (below_next HW.out hd)
  clear hd
  go_wp2
  refine bodyPost_ret (v := .bool true) ?_ rfl ⟨_, rfl, rfl, HW.out⟩
  simp [results, Tryz.results3, go_sem]
end Go.Proofs.YtpoahodnakhmiaaGreat
