/- Walks: Seen of a shop that is one. What the shop's laws share: slices by address; tame shops. No walk. Walks: the law QueueArrives. -/
import Derived.Test.YtpoahodnakhmiaaGreatQSeen
import Derived.Test.YtpoahodnakhmiaaGreatQAwake
import Derived.Test.YtpoahodnakhmiaaGreatTameW
import Derived.Test.YtpoahodnakhmiaaGreatQWeight
namespace Go.Proofs.YtpoahodnakhmiaaGreat
set_option linter.unusedVariables false
set_option linter.unusedSimpArgs false
open Go.RowKit
set_option maxRecDepth 100000 in
theorem Seen_c (w : World) (v : Value) (m st c : Nat) (A : Option Addr) (ks : List Int) (R : List Rat) (Ws : List (List Rat)) (hv : ShopV w v R Ws 3000) (hs : ShopG m R Ws) (hwf : ∀ i j, i < m → j < m → FitQ 10 (ent Ws i j)) (hst : st < m) (hk : Arr w A .i64 ks) (hc : ks.length ≤ c) (hm : c ≤ maxLen) (hl : ks.length = m) (h0 : ∀ x ∈ ks, 0 ≤ x) (hsum : ks.sum ≤ 11) :
    Calls Tryz.prog 26 #[v, .int .i64 (st : Int), .slice A ks.length c] w (Ret (okR w (seeQ m R Ws st (stOf ks)) 3000)) := by
  have hmf : ∀ (fn : Fn) (first cap : Array Value) (w : World), (Instr.makeFunc fn first cap).run Tryz.prog w = .ok (.func fn first cap) w := fun _ _ _ _ => rfl
  have HV := hide hv
  obtain ⟨va, vb, rfl, hR, hW⟩ := hv
  obtain ⟨A1, c1, rfl, -, -, -⟩ := id hR
  obtain ⟨A2, c2, rfl, -, -, -⟩ := id hW
  generalize hq : seeQ m R Ws st (stOf ks) = q
  have HQ2 := hide hq
  clear hq
  obtain ⟨W, hWW⟩ : ∃ W, W = (((w.alloc (.cells #[.slice A1 R.length c1, .slice A2 Ws.length c2] 33)).alloc (.cells #[.int .i64 (st : Int)] 3)).alloc (.cells #[.slice A ks.length c] 22)).alloc (.cells #[.bool false, .slice none 0 0, .slice none 0 0] 43) := ⟨_, rfl⟩
  have hb0 : Below w.heap.size w W := by rw [hWW]; exact below_al (below_al (below_al (below_al (Below.refl _ _) _) _) _) _
  have hbst : W.heap[w.heap.size + 1]? = some (.cells #[.int .i64 (st : Int)] 3 (0, 0)) := by
    have h1 := at_later (at_new (w.alloc (.cells #[.slice A1 R.length c1, .slice A2 Ws.length c2] 33)) (.cells #[.int .i64 (st : Int)] 3)) (below_al (below_al (Below.refl _ _) (.cells #[.slice A ks.length c] 22)) (.cells #[.bool false, .slice none 0 0, .slice none 0 0] 43))
    rw [hWW]; simpa using h1
  have hbl : W.heap[w.heap.size + 2]? = some (.cells #[.slice A ks.length c] 22 (0, 0)) := by
    have h1 := at_later (at_new ((w.alloc (.cells #[.slice A1 R.length c1, .slice A2 Ws.length c2] 33)).alloc (.cells #[.int .i64 (st : Int)] 3)) (.cells #[.slice A ks.length c] 22)) (below_al (Below.refl _ _) (.cells #[.bool false, .slice none 0 0, .slice none 0 0] 43))
    rw [hWW]; simpa using h1
  have hbr : W.heap[w.heap.size + 3]? = some (.cells #[.bool false, .slice none 0 0, .slice none 0 0] 43) := by
    have h1 := at_new (((w.alloc (.cells #[.slice A1 R.length c1, .slice A2 Ws.length c2] 33)).alloc (.cells #[.int .i64 (st : Int)] 3)).alloc (.cells #[.slice A ks.length c] 22)) (.cells #[.bool false, .slice none 0 0, .slice none 0 0] 43)
    rw [hWW]; simpa using h1
  have hbs : W.heap[w.heap.size]? = some (.cells #[.slice A1 R.length c1, .slice A2 Ws.length c2] 33) := by
    have h1 := at_later (at_new w (.cells #[.slice A1 R.length c1, .slice A2 Ws.length c2] 33)) (below_al (below_al (below_al (Below.refl _ _) (.cells #[.int .i64 (st : Int)] 3)) (.cells #[.slice A ks.length c] 22)) (.cells #[.bool false, .slice none 0 0, .slice none 0 0] 43))
    rw [hWW]; exact h1
  obtain ⟨u0, u1, -, -⟩ := two_cells hbs
  obtain ⟨y0, -⟩ := one_cell hbst
  have H0 := hide (And.intro hb0 (And.intro hbst (And.intro hbl (And.intro hbr (And.intro (hk.below hb0) (HV.out.below hb0))))))
  have HH := hide (And.intro hl h0)
  have HL := hide hWW
  clear hR hW hb0 hWW hbst hbl hbr hbs hk hl h0
  go_enter Tryz.func26, Tryz.ntmps26
  go_upto_region 1 with fail
  rw [← HL.out]
  go_wp2_with fail
  refine (at_c W _ 81 m st 0 #[.pointer (some ⟨w.heap.size + 2, 0, none⟩), .pointer (some ⟨w.heap.size + 1, 0, none⟩)] q R Ws H0.out.2.2.2.2.2 hs hst (by omega) (by omega) (fun _ _ => by simp [go_sem]) (fun gx w' hb hx => by rw [← HQ2.out]; exact Seen1_c w' _ _ gx m st c A ks R Ws hs hwf hx (at_later H0.out.2.2.1 hb) (at_later H0.out.2.1 hb) hst (H0.out.2.2.2.2.1.below hb) hc hm HH.out.1 HH.out.2 hsum)).mono ?_
  rintro e w4 ⟨_, rfl, r, rfl, hr6, hd⟩
  obtain ⟨s6, A6, n6, c6, B6, m6, d6, rfl⟩ := hr6.shape
  have hrb := at_later H0.out.2.2.2.1 hd
  clear y0 u0 u1
  obtain ⟨x0, x1, x2⟩ := three_cells hrb
  obtain ⟨f0, f1, f2⟩ := three_frozen hrb
  have hlt := lt_of_block hrb
  have HU := hide (And.intro hr6 (below_next H0.out.1 hd))
  clear hrb hr6 hd
  go_wp2
  refine bodyPost_ret (v := .tuple #[.agg #[.bool s6, .slice A6 n6 c6, .slice B6 m6 d6], .int .i64 0]) ?_ rfl ?_
  · simp [results, Tryz.results26, go_sem, x0, x1, x2, hlt]
  have hr := HU.out.1
  obtain ⟨rn, rl, e, r1, r2⟩ := hr
  injection e with e
  simp only [Array.mk.injEq, List.cons.injEq, Value.bool.injEq, and_true] at e
  obtain ⟨rfl, rfl, rfl⟩ := e
  exact ⟨_, rfl, _, rfl, ⟨_, _, rfl, r1.set3 x0 x1 x2, r2.set3 x0 x1 x2⟩, below_set3 HU.out.2 (by omega) _ _ _⟩
/-- the theorem of arrivals: what a job sees is the chance of the state -/
theorem wtQ_congr (l : Nat → Rat) (xs ys : List Int) : ∀ s, (∀ i, i < s → xs.getD i 0 = ys.getD i 0) → wtQ l xs s = wtQ l ys s
  | 0, _ => rfl
  | s + 1, h => by rw [wtQ_step, wtQ_step, wtQ_congr l xs ys s (fun i hi => h i (by omega)), wfQ, wfQ, h s (by omega)]
theorem wtQ_more (l : Nat → Rat) (xs : List Int) (h0 : ∀ j, 0 ≤ xs.getD j 0) (i : Nat) (hi : i < xs.length) : ∀ s, i < s → wtQ l (moreV xs i) s = wtQ l xs s * l i
  | 0, h => by omega
  | s + 1, h => by
    rw [wtQ_step, wtQ_step]
    by_cases e : i = s
    · subst e
      rw [wtQ_congr l (moreV xs i) xs i (fun j hj => by unfold moreV; rw [getD_setI _ _ _ _ hi, if_neg (by omega)])]
      have h1 : wfQ l (moreV xs i) i = wfQ l xs i * l i := by
        unfold wfQ moreV
        rw [getD_setI _ _ _ _ hi, if_pos rfl, show (xs.getD i 0 + 1).toNat = (xs.getD i 0).toNat + 1 by have := h0 i; omega]
        rfl
      rw [h1]; grind
    · rw [wtQ_more l xs h0 i hi s (by omega)]
      have h1 : wfQ l (moreV xs i) s = wfQ l xs s := by unfold wfQ moreV; rw [getD_setI _ _ _ _ hi, if_neg e]
      rw [h1]; grind
theorem ShopG.see_eq {m : Nat} {R : List Rat} {Ws : List (List Rat)} (h : ShopG m R Ws) (hinv : Inv m (ent Ws) (fun i => (visV m (ent Ws)).getD i 0)) (hv : ∀ i, i < m → 0 < (visV m (ent Ws)).getD i 0) (st : Nat) (hst : st < m) (xs : List Int) (hx : ∀ x ∈ xs, 0 ≤ x ∧ x ≤ 11) (hl : m ≤ xs.length) : seeQ m R Ws st xs = chQ (ldF m R Ws) m xs := by
  have hn0 := sum_nn (ks := xs) (fun x hx' => (hx x hx').1)
  obtain ⟨n, hn⟩ : ∃ n : Nat, xs.sum = (n : Int) := ⟨xs.sum.toNat, by omega⟩
  have hg1 := h.ld.g_pos n
  have hg2 := h.ld.g_pos (n + 1)
  have hld : ∀ i, i < m → R.getD i 0 * ldF m R Ws i = (visV m (ent Ws)).getD i 0 := fun i hi => by
    have hr := h.ok.r0 i hi
    unfold ldF ldV
    rw [loadsV_get _ _ _ (by rw [h.vlen]; exact hi), Rat.mul_comm, Rat.div_mul_cancel hr]
  have h0 : ∀ j, 0 ≤ xs.getD j 0 := fun j => by
    by_cases hj : j < xs.length
    · exact (hx _ (by rw [show xs.getD j 0 = xs[j] by simp [List.getD, hj]]; exact List.getElem_mem hj)).1
    · rw [show xs.getD j 0 = 0 by simp [List.getD, show xs[j]? = none from List.getElem?_eq_none (by omega)]]; omega
  have hterm : ∀ i, i < m → seeN m R Ws st xs i = (wtQ (ldF m R Ws) xs m / gN (ldF m R Ws) m (n + 1)) * ((visV m (ent Ws)).getD i 0 * ent Ws i st) := fun i hi => by
    unfold seeN chQ
    rw [wtQ_more _ xs h0 i (by omega) m hi, moreV_sum xs i (by omega), hn, show ((n : Int) + 1).toNat = n + 1 by omega, ← hld i hi, Rat.div_def, Rat.div_def]
    grind
  have hsum : sumN (seeN m R Ws st xs) m = (wtQ (ldF m R Ws) xs m / gN (ldF m R Ws) m (n + 1)) * (visV m (ent Ws)).getD st 0 := by
    rw [sumN_eq m hterm, sumN_mul (fun k => (visV m (ent Ws)).getD k 0 * ent Ws k st) _]
    exact congrArg (fun z => (wtQ (ldF m R Ws) xs m / gN (ldF m R Ws) m (n + 1)) * z) (hinv st hst).symm
  have hsp : spQ m R Ws st ((n : Int) + 1) = (visV m (ent Ws)).getD st 0 * gN (ldF m R Ws) m n / gN (ldF m R Ws) m (n + 1) := by
    unfold spQ atQ
    rw [if_neg (by omega), if_neg (by omega), show ((n : Int) + 1 - 1).toNat = n by omega, show ((n : Int) + 1).toNat = n + 1 by omega, show (1 : Int).toNat = 1 from rfl, ← hld st hst, Rat.div_def, Rat.div_def]
    show _ * (1 * ldF m R Ws st * _ * _) = _
    grind
  have hvs := hv st hst
  unfold seeQ chQ
  rw [hn, hsum, hsp, Int.toNat_natCast]
  have a1 : gN (ldF m R Ws) m n ≠ 0 := by grind
  have a2 : gN (ldF m R Ws) m (n + 1) ≠ 0 := by grind
  have a3 : (visV m (ent Ws)).getD st 0 ≠ 0 := by grind
  generalize wtQ (ldF m R Ws) xs m = a at *
  generalize gN (ldF m R Ws) m n = g at *
  generalize gN (ldF m R Ws) m (n + 1) = g' at *
  generalize (visV m (ent Ws)).getD st 0 = v at *
  grind
end Go.Proofs.YtpoahodnakhmiaaGreat
namespace Go.Proofs.YtpoahodnakhmiaaGreat
set_option linter.unusedVariables false
set_option linter.unusedSimpArgs false
open Go.RowKit
/-- the fractions of a slice, by its address -/
def RowX (w : World) (b o n : Nat) (f : Nat → Rat) (L : Nat) : Prop := ∀ i, i < n → At3 w b (o + i * 3) (f i) L
theorem RowX.below {w w' : World} {b o n : Nat} {f : Nat → Rat} {L : Nat} (h : RowX w b o n f L) (hb : Below w.heap.size w w') : RowX w' b o n f L := fun i hi => (h i hi).below hb
/-- the reference's fractions of a slice, by its address -/
def QRowX (w : World) (b o : Nat) (qs : List Rat) (L : Nat) : Prop := ∀ i, i < qs.length → ∃ s A n c B m d, w.cell? ⟨b, o + i * 4, none⟩ = some (.bool s) ∧ w.cell? ⟨b, o + i * 4 + 1, none⟩ = some (.slice A n c) ∧ w.cell? ⟨b, o + i * 4 + 2, none⟩ = some (.bool false) ∧ w.cell? ⟨b, o + i * 4 + 3, none⟩ = some (.slice B m d) ∧ QV w (.agg #[.bool s, .slice A n c, .bool false, .slice B m d]) (qs.getD i 0) L
theorem QRowX.below {w w' : World} {b o : Nat} {qs : List Rat} {L : Nat} (h : QRowX w b o qs L) (hb : Below w.heap.size w w') : QRowX w' b o qs L := fun i hi => by
  obtain ⟨s, A, n, c, B, m, d, h0, h1, h2, h3, h4⟩ := h i hi
  exact ⟨s, A, n, c, B, m, d, (hb.cell (lt_of_cell h0)).trans h0, (hb.cell (lt_of_cell h1)).trans h1, (hb.cell (lt_of_cell h2)).trans h2, (hb.cell (lt_of_cell h3)).trans h3, h4.below hb⟩
/-- the rows of a tame shop are as long as they should be, of small numbers -/
theorem TameS.give {n : Nat} {a b : Nat → Nat} {c : Nat → Nat → Nat} (h : TameS n a b c) : (tR n a b).length ≤ 100 ∧ (tW n c).length ≤ 100 ∧ (∀ r ∈ tW n c, r.length ≤ 100) ∧ (∀ q ∈ tR n a b, FracQ 6 q) ∧ (∀ r ∈ tW n c, ∀ q ∈ r, FracQ 6 q) := by
  have h6 := h.n6
  refine ⟨by rw [tR_length]; omega, by rw [tW_length]; omega, fun r hr => ?_, fun q hq => ?_, fun r hr q hq => ?_⟩
  · unfold tW at hr
    obtain ⟨i, -, rfl⟩ := List.mem_map.1 hr
    simp; omega
  · unfold tR at hq
    obtain ⟨i, -, rfl⟩ := List.mem_map.1 hq
    exact h.rate_small i
  · unfold tW at hr
    obtain ⟨i, hi, rfl⟩ := List.mem_map.1 hr
    obtain ⟨j, hj, rfl⟩ := List.mem_map.1 hq
    exact h.way_small i j (List.mem_range.1 hi) (List.mem_range.1 hj)
theorem ShopV.upS {w : World} {v : Value} {R : List Rat} {Ws : List (List Rat)} {L L' : Nat} (h : ShopV w v R Ws L) (hL : L ≤ L') : ShopV w v R Ws L' := by
  obtain ⟨a, b, rfl, h1, h2⟩ := h
  exact ⟨a, b, rfl, h1.upS hL, h2.upS hL⟩
namespace ShopG
variable {m : Nat} {R : List Rat} {Ws : List (List Rat)}
end ShopG
theorem sgn_zero (q : Rat) : sgnQ (q - q) = 0 := by
  rw [show q - q = 0 by grind]; rfl
end Go.Proofs.YtpoahodnakhmiaaGreat
namespace Go.Proofs.YtpoahodnakhmiaaGreat
set_option linter.unusedVariables false
set_option linter.unusedSimpArgs false
open Go.RowKit
set_option maxRecDepth 100000 in
set_option maxHeartbeats 8000000 in
theorem arrives_law (w : World) (va vb vc : Value) (rs : List Int) (ws : List (List Int)) (T : TypeId) (ls : List Int) (ha : IntsE w va rs) (hb : LstV T 1 IntsE w vb ws) (hc : IntsE w vc ls) :
    Calls Tryz.prog 5 #[va, vb, vc] w (Ret (fun v w' => v = .bool true ∧ Below w.heap.size w w')) := by
  obtain ⟨A1, c1, rfl, hl1, hm1, -⟩ := ha.at_
  obtain ⟨A2, c2, rfl, hl2, hm2, -⟩ := id hb
  obtain ⟨A3, c3, rfl, hl3, hm3, -⟩ := hc.at_
  obtain ⟨N, hN⟩ : ∃ N, N = max 1 (min rs.length 5) := ⟨_, rfl⟩
  have hN1 : 1 ≤ N := by omega
  have hN6 : N ≤ 6 := by omega
  have hTS := tameT N rs ws (by omega) hN6
  have hSG := hTS.shopG
  have hinv := (hTS.ringE.sol (by rw [hTS.rowsE]; exact hTS.sys)).1
  have hvp := hTS.ringE.vis_pos (by rw [hTS.rowsE]; exact hTS.sys)
  have hwf : ∀ i j, i < N → j < N → FitQ 10 (ent (tW N (cT N ws)) i j) := fun i j hi hj => by
    rw [tW_ent N _ i j hi hj]; exact (hTS.way_small i j hi hj).fit.more (by omega)
  obtain ⟨R, hR⟩ : ∃ R, R = tR N (aT rs) (bT rs) := ⟨_, rfl⟩
  obtain ⟨Ws, hWs⟩ : ∃ Ws, Ws = tW N (cT N ws) := ⟨_, rfl⟩
  have hgv := hTS.give
  rw [← hWs] at hinv hvp hwf
  rw [← hR, ← hWs] at hSG hgv
  have hRl : R.length = N := by rw [hR]; exact tR_length _ _ _
  have HRl := hide hRl
  have H0 := hide (And.intro ha (And.intro hb hc))
  have HG := hide hgv
  have HS := hide hSG
  have HM := hide (And.intro hinv (And.intro hvp hwf))
  have HT := hide (And.intro hN (And.intro hR hWs))
  clear ha hb hc hgv hSG hTS hRl hN hR hWs hinv hvp hwf
  go_enter Tryz.func5, Tryz.ntmps5
  go_wp2_with fail
  refine (tame_c _ _ _ rs ws T 5 N H0.out.1 H0.out.2.1 (by omega) HT.out.1).mono ?_
  rintro e w1 ⟨v1, rfl, hv1, hd1⟩
  rw [← HT.out.2.1, ← HT.out.2.2] at hv1
  have HV1 := hide hv1
  obtain ⟨ra, wa, rfl, hra, hwa⟩ := hv1
  obtain ⟨Ar, cr, rfl, hcr, hmr, -⟩ := id hra
  obtain ⟨Aw, cw, rfl, -, -, -⟩ := id hwa
  obtain ⟨W1, hW1⟩ : ∃ W1, W1 = w1.alloc (.cells #[.slice Ar R.length cr, .slice Aw Ws.length cw] 28) := ⟨_, rfl⟩
  have hb1 : Below w1.heap.size w1 W1 := by rw [hW1]; exact below_al (Below.refl _ _) _
  have hx1 : W1.heap[w1.heap.size]? = some (.cells #[.slice Ar R.length cr, .slice Aw Ws.length cw] 28 (0, 0)) := by rw [hW1]; exact at_new _ _
  have hd2 := below_next hd1 hb1
  have H1 := hide (And.intro (H0.out.2.2.below hd2) (And.intro hx1 (And.intro (HV1.out.below hb1) hd2)))
  have HL1 := hide hW1
  obtain ⟨x0, x1, -, -⟩ := two_cells hx1
  have hl1x := lt_of_block hx1
  clear hra hwa hd1 hb1 hx1 hd2 hW1 HV1
  go_upto_region 2 with fail
  rw [← HL1.out]
  go_wp2_with fail
  refine (give_c _ _ R Ws 3 H1.out.2.2.1 (by omega) HG.out.1 HG.out.2.1 HG.out.2.2.1 HG.out.2.2.2.1 HG.out.2.2.2.2).mono ?_
  rintro e w2 ⟨v2, rfl, hv2, hd3⟩
  replace hv2 := hv2.upS (show 1 ≤ 3000 by omega)
  have HV2 := hide hv2
  obtain ⟨rb, wb, rfl, hrb, hwb⟩ := hv2
  obtain ⟨Ab, cb, rfl, -, -, -⟩ := id hrb
  obtain ⟨Ac, cc, rfl, -, -, -⟩ := id hwb
  obtain ⟨W2, hW2⟩ : ∃ W2, W2 = w2.alloc (.cells #[.slice Ab R.length cb, .slice Ac Ws.length cc] 33) := ⟨_, rfl⟩
  have hb2 : Below w2.heap.size w2 W2 := by rw [hW2]; exact below_al (Below.refl _ _) _
  have hx2 : W2.heap[w2.heap.size]? = some (.cells #[.slice Ab R.length cb, .slice Ac Ws.length cc] 33 (0, 0)) := by rw [hW2]; exact at_new _ _
  have hd4 := below_next hd3 hb2
  have hxo := at_later H1.out.2.1 hd4
  have H2 := hide (And.intro (H1.out.1.below hd4) (And.intro hxo (And.intro hx2 (And.intro (HV2.out.below hb2) (below_next H1.out.2.2.2 hd4)))))
  have HL2 := hide hW2
  clear x0 x1 hl1x
  obtain ⟨x0, x1, -, -⟩ := two_cells hxo
  have hl1x := lt_of_block hxo
  clear hrb hwb hd3 hb2 hx2 hd4 hxo hW2 HV2
  go_upto_region 3 with fail
  rw [← HL2.out]
  rw [HRl.out] at x0 H1 H2 HL2 hcr ⊢
  go_wp2_with fail
  refine (state_c _ _ ls N 7 H2.out.1 (by omega) (by omega) (by omega)).mono ?_
  rintro e w3 ⟨_, rfl, ks, Ak, ck, rfl, hkl, hkc, hkm, hka, hk0, hks, hd⟩
  have HX := hide H2.out.2.2.1
  have HO := hide H2.out.2.1
  have HSV := hide H2.out.2.2.2.1
  have HW := hide H2.out.2.2.2.2
  have HK := hide (And.intro hkl (And.intro hk0 hks))
  replace HX := hide (at_later HX.out hd)
  replace HO := hide (at_later HO.out hd)
  replace HSV := hide (HSV.out.below hd)
  replace HW := hide (below_next HW.out hd)
  have HA := hide hka
  clear hkl hka hk0 hks hd H0 H1 H2 HL1 HL2 HT x0 x1 hl1x HG
  obtain ⟨y0, y1, -, -⟩ := two_cells HX.out
  have hly := lt_of_block HX.out
  go_wp2_with fail
  refine (Chance_c _ _ N ck Ak ks R Ws HSV.out HS.out HA.out hkc hkm HK.out.1 HK.out.2.1 (by have := HK.out.2.2; omega)).mono ?_
  rintro e w4 ⟨_, rfl, r4, rfl, hr4, hd⟩
  obtain ⟨s4, A4, n4, c4, B4, m4, d4, rfl⟩ := hr4.shape
  obtain ⟨W4, hW4⟩ : ∃ W4, W4 = w4.alloc (.cells #[.bool s4, .slice A4 n4 c4, .slice B4 m4 d4] 43) := ⟨_, rfl⟩
  have hda : Below w4.heap.size w4 W4 := by rw [hW4]; exact below_al (Below.refl _ _) _
  have hdn := below_next hd hda
  have HBc := hide (show BoxR W4 w4.heap.size (chQ (ldF N R Ws) N (stOf ks)) 3000 from ⟨_, _, _, _, _, _, _, by rw [hW4]; exact at_new _ _, hr4.below hda⟩)
  replace HX := hide (at_later HX.out hdn)
  replace HO := hide (at_later HO.out hdn)
  replace HSV := hide (HSV.out.below hdn)
  replace HA := hide (HA.out.below hdn)
  replace HW := hide (below_next HW.out hdn)
  have HL := hide hW4
  clear hd hda hdn hr4 hW4 y0 y1 hly
  go_upto_region 5 with fail
  rw [← HL.out]
  go_wp2_with fail
  go_loopw [12] (fun s12 wr => ∃ i : Nat, i ≤ N ∧ s12 = .int .i64 i ∧ Below W4.heap.size W4 wr) (fun s12 _ => N - (intOf s12).toNat)
  case atStart => exact ⟨0, Nat.zero_le _, rfl, Below.refl _ _⟩
  case round =>
    obtain ⟨i, hi, rfl, hbel⟩ := hrel
    obtain ⟨x0, x1, -, -⟩ := two_cells (at_later HO.out hbel)
    have hlx := lt_of_block (at_later HO.out hbel)
    by_cases hin : i < N
    · have i1 : (i : Int) < (N : Int) := by omega
      obtain ⟨y0, y1, -, -⟩ := two_cells (at_later HX.out hbel)
      have hly := lt_of_block (at_later HX.out hbel)
      have HB := hide hbel
      clear hbel
      go_wp2_with fail
      refine (Seen_c _ _ N i ck Ak ks R Ws (HSV.out.below HB.out) HS.out HM.out.2.2 hin (HA.out.below HB.out) hkc hkm HK.out.1 HK.out.2.1 (by have := HK.out.2.2; omega)).mono ?_
      rintro e w5 ⟨_, rfl, r5, rfl, hr5, hd⟩
      rw [HS.out.see_eq HM.out.1 HM.out.2.1 i hin (stOf ks) (stOf_bound11 HK.out.2.1 (by have := HK.out.2.2; omega)) (by rw [stOf_length]; omega)] at hr5
      obtain ⟨s5, A5, n5, c5, B5, m5, d5, rfl⟩ := hr5.shape
      obtain ⟨W5, hW5⟩ : ∃ W5, W5 = w5.alloc (.cells #[.bool s5, .slice A5 n5 c5, .slice B5 m5 d5] 43) := ⟨_, rfl⟩
      have hda : Below w5.heap.size w5 W5 := by rw [hW5]; exact below_al (Below.refl _ _) _
      have hbx5 : W5.heap[w5.heap.size]? = some (.cells #[.bool s5, .slice A5 n5 c5, .slice B5 m5 d5] 43) := by rw [hW5]; exact at_new _ _
      have hdn := below_next (below_next HB.out hd) hda
      obtain ⟨s6, A6, n6, c6, B6, m6, d6, hx6, hq6⟩ := HBc.out.below hdn
      obtain ⟨z0, z1, z2⟩ := three_cells hbx5
      obtain ⟨t0, t1, t2⟩ := three_cells hx6
      have hlz := lt_of_block hbx5
      have hlt := lt_of_block hx6
      have HQ := hide (And.intro (hr5.below hda) (And.intro hq6 hdn))
      have HL5 := hide hW5
      clear hr5 hd hda hbx5 hdn hx6 hq6 hW5 x0 x1 y0 y1 hlx hly
      go_upto_region 9 with fail
      rw [← HL5.out]
      go_wp2_with fail
      refine (cmp_q _ _ _ (chQ (ldF N R Ws) N (stOf ks)) (chQ (ldF N R Ws) N (stOf ks)) 3000 HQ.out.1 HQ.out.2.1 (by omega)).mono ?_
      rintro e w6 ⟨_, rfl, rfl, hd⟩
      rw [show sgnQ (chQ (ldF N R Ws) N (stOf ks) - chQ (ldF N R Ws) N (stOf ks)) = 0 from sgn_zero _]
      have HE := hide (below_next HQ.out.2.2 hd)
      clear hd z0 z1 z2 t0 t1 t2
      go_wp2
      case roundEnd => exact ⟨⟨i + 1, by omega, by go_num, HE.out⟩, by simp [intOf]; omega⟩
    · obtain rfl : i = N := by omega
      have i1 : ¬ (i : Int) < (i : Int) := by omega
      have HB := hide (below_next HW.out hbel)
      clear hbel
      go_wp2_with fail
      refine (awake_q _).mono ?_
      rintro e w7 ⟨_, rfl, rfl, hd⟩
      have HE := hide (below_next HB.out hd)
      clear hd
      go_wp2
      refine bodyPost_ret (v := .bool true) ?_ rfl ⟨_, rfl, rfl, HE.out⟩
      simp [results, Tryz.results5, go_sem]
end Go.Proofs.YtpoahodnakhmiaaGreat
