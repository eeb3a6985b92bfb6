/- Walks: the chance of a state, of a shop that is one. -/
import Derived.Test.YtpoahodnakhmiaaGreatQWeight
namespace Go.Proofs.YtpoahodnakhmiaaGreat
set_option linter.unusedVariables false
set_option linter.unusedSimpArgs false
open Go.RowKit
/-- the chance of a state -/
def chQ (l : Nat → Rat) (s : Nat) (xs : List Int) : Rat := wtQ l xs s / gN l s xs.sum.toNat
theorem getD_bound {xs : List Int} (h : ∀ x ∈ xs, 0 ≤ x ∧ x ≤ 12) (j : Nat) : 0 ≤ xs.getD j 0 ∧ xs.getD j 0 ≤ 12 := by
  by_cases hj : j < xs.length
  · refine h _ ?_
    rw [show xs.getD j 0 = xs[j] by simp [List.getD, hj]]
    exact List.getElem_mem hj
  · rw [show xs.getD j 0 = 0 by simp [List.getD, show xs[j]? = none from List.getElem?_eq_none (by omega)]]
    omega
theorem sum_nn8 {xs : List Int} (h : ∀ x ∈ xs, 0 ≤ x ∧ x ≤ 12) : 0 ≤ xs.sum := sum_nn (fun x hx => (h x hx).1)
theorem stOf_bound {ks : List Int} (h : ∀ x ∈ ks, 0 ≤ x) (hs : ks.sum ≤ 12) : ∀ x ∈ stOf ks, 0 ≤ x ∧ x ≤ 12 := by
  intro x hx
  unfold stOf at hx
  obtain ⟨j, -, rfl⟩ := List.mem_map.1 hx
  by_cases hj : j < ks.length
  · have h1 := sum_take_step ks j hj
    have h2 := sum_take_le h j
    have h3 := sum_take_le h (j + 1)
    have h4 : 0 ≤ ks.getD j 0 := h _ (by rw [show ks.getD j 0 = ks[j] by simp [List.getD, hj]]; exact List.getElem_mem hj)
    omega
  · rw [show ks.getD j 0 = 0 by simp [List.getD, show ks[j]? = none from List.getElem?_eq_none (by omega)]]
    omega
theorem sum_map_take (ks : List Int) : ∀ n, ((List.range n).map fun j => ks.getD j 0).sum = (ks.take n).sum
  | 0 => by simp
  | n + 1 => by
    rw [List.range_succ, List.map_append, List.sum_append, sum_map_take ks n]
    by_cases hj : n < ks.length
    · rw [sum_take_step ks n hj]; simp
    · rw [List.take_of_length_le (show ks.length ≤ n by omega), List.take_of_length_le (show ks.length ≤ n + 1 by omega)]
      simp [List.getD, show ks[n]? = none from List.getElem?_eq_none (by omega)]
theorem stOf_sum (ks : List Int) (h : ks.length ≤ 8) : (stOf ks).sum = ks.sum := by
  unfold stOf
  rw [sum_map_take, List.take_of_length_le h]
theorem LdOK.ch_fit {s : Nat} {l : Nat → Rat} (h : LdOK s l) (xs : List Int) (hx : ∀ x ∈ xs, 0 ≤ x ∧ x ≤ 12) (hs : xs.sum ≤ 12) : FitQ 260 (chQ l s xs) := by
  have h8 := h.s8
  have h1 := (h.wt_fit xs (fun j => (getD_bound hx j).2) s (Nat.le_refl _)).divA (h.fitg s xs.sum.toNat (Nat.le_refl _) (by omega)) (h.g_ne _)
  exact h1.more (by omega)
set_option maxRecDepth 100000 in
set_option maxHeartbeats 4000000 in
theorem chance_c (w : World) (gx : Nat) (xs : List Int) (h8 : xs.length = 8) (hx0 : ∀ x ∈ xs, 0 ≤ x ∧ x ≤ 12) (hsum : xs.sum ≤ 12) (R V Ld : List Rat) (Ws : List (List Rat)) (hx : OpenS w gx R Ws V Ld 3000) (hld : LdOK Ld.length (fun i => Ld.getD i 0)) :
    Calls Tryz.prog 85 #[.pointer (some ⟨gx, 0, none⟩), stV xs] w (Ret (ratR w (chQ (fun i => Ld.getD i 0) Ld.length xs) 3000)) := by
  generalize hq : chQ (fun i => Ld.getD i 0) Ld.length xs = q
  have hsn := sum_nn8 hx0
  have HF := hide (hld.ch_fit xs hx0 hsum)
  obtain ⟨n, hn⟩ : ∃ n : Nat, xs.sum = (n : Int) := ⟨xs.sum.toNat, by omega⟩
  have hn12 : n ≤ 12 := by omega
  have HQ := hide (show wtQ (fun i => Ld.getD i 0) xs Ld.length / gN (fun i => Ld.getD i 0) Ld.length n = q by rw [← hq, chQ, hn, Int.toNat_natCast])
  have HXN := hide hn
  clear hq hn hsn
  obtain ⟨x0, x1, x2, x3, x4, x5, x6, x7, rfl⟩ := eight h8
  obtain ⟨W, hW⟩ : ∃ W, W = (w.alloc (.cells #[.int .i64 x0, .int .i64 x1, .int .i64 x2, .int .i64 x3, .int .i64 x4, .int .i64 x5, .int .i64 x6, .int .i64 x7] 116)).alloc (.cells #[.bool false, .slice none 0 0, .slice none 0 0] 43) := ⟨_, rfl⟩
  have hb0 : Below w.heap.size w W := by rw [hW]; exact below_al (below_al (Below.refl _ _) _) _
  have hbs : Blk W w.heap.size 116 .i64 [x0, x1, x2, x3, x4, x5, x6, x7] := by rw [hW]; exact (Blk.new w 116 .i64 [x0, x1, x2, x3, x4, x5, x6, x7]).keep (below_al (Below.refl _ _) _)
  have hbr : W.heap[w.heap.size + 1]? = some (.cells #[.bool false, .slice none 0 0, .slice none 0 0] 43) := by rw [hW]; exact at_new' _ (by simp)
  have y0 : W.cell? ⟨w.heap.size, 0, none⟩ = some (.int .i64 x0) := hbs.cell (j := 0) (by simp)
  have y1 : W.cell? ⟨w.heap.size, 1, none⟩ = some (.int .i64 x1) := hbs.cell (j := 1) (by simp)
  have y2 : W.cell? ⟨w.heap.size, 2, none⟩ = some (.int .i64 x2) := hbs.cell (j := 2) (by simp)
  have y3 : W.cell? ⟨w.heap.size, 3, none⟩ = some (.int .i64 x3) := hbs.cell (j := 3) (by simp)
  have y4 : W.cell? ⟨w.heap.size, 4, none⟩ = some (.int .i64 x4) := hbs.cell (j := 4) (by simp)
  have y5 : W.cell? ⟨w.heap.size, 5, none⟩ = some (.int .i64 x5) := hbs.cell (j := 5) (by simp)
  have y6 : W.cell? ⟨w.heap.size, 6, none⟩ = some (.int .i64 x6) := hbs.cell (j := 6) (by simp)
  have y7 : W.cell? ⟨w.heap.size, 7, none⟩ = some (.int .i64 x7) := hbs.cell (j := 7) (by simp)
  have hz := hbs.lt
  have H0 := hide (And.intro hb0 (And.intro hbs (And.intro hbr (And.intro (hx.below hb0) hx0))))
  have HL := hide hW
  rw [show stV [x0, x1, x2, x3, x4, x5, x6, x7] = .agg #[.int .i64 x0, .int .i64 x1, .int .i64 x2, .int .i64 x3, .int .i64 x4, .int .i64 x5, .int .i64 x6, .int .i64 x7] from rfl]
  clear hx hb0 hbs hbr hW hx0
  go_enter Tryz.func85, Tryz.ntmps85
  go_upto_region 1 with fail
  rw [← HL.out]
  go_wp2_with fail
  refine (jobs_c _ [x0, x1, x2, x3, x4, x5, x6, x7] h8 (fun x hx => ⟨(H0.out.2.2.2.2 x hx).1, by have := (H0.out.2.2.2.2 x hx).2; omega⟩)).mono ?_
  rintro e w1 ⟨_, rfl, rfl, hd1⟩
  rw [HXN.out]
  have hbs1 := H0.out.2.1.keep hd1
  clear y0 y1 y2 y3 y4 y5 y6 y7
  have y0 : w1.cell? ⟨w.heap.size, 0, none⟩ = some (.int .i64 x0) := hbs1.cell (j := 0) (by simp)
  have y1 : w1.cell? ⟨w.heap.size, 1, none⟩ = some (.int .i64 x1) := hbs1.cell (j := 1) (by simp)
  have y2 : w1.cell? ⟨w.heap.size, 2, none⟩ = some (.int .i64 x2) := hbs1.cell (j := 2) (by simp)
  have y3 : w1.cell? ⟨w.heap.size, 3, none⟩ = some (.int .i64 x3) := hbs1.cell (j := 3) (by simp)
  have y4 : w1.cell? ⟨w.heap.size, 4, none⟩ = some (.int .i64 x4) := hbs1.cell (j := 4) (by simp)
  have y5 : w1.cell? ⟨w.heap.size, 5, none⟩ = some (.int .i64 x5) := hbs1.cell (j := 5) (by simp)
  have y6 : w1.cell? ⟨w.heap.size, 6, none⟩ = some (.int .i64 x6) := hbs1.cell (j := 6) (by simp)
  have y7 : w1.cell? ⟨w.heap.size, 7, none⟩ = some (.int .i64 x7) := hbs1.cell (j := 7) (by simp)
  have H1 := hide (And.intro hd1 True.intro)
  clear hd1 hbs1
  go_wp2_with fail
  refine (weight_c _ gx [x0, x1, x2, x3, x4, x5, x6, x7] h8 (getD_bound H0.out.2.2.2.2) R V Ld Ws (H0.out.2.2.2.1.below H1.out.1) hld).mono ?_
  rintro e w2 ⟨v2, rfl, hr2, hd2⟩
  obtain ⟨s2, A2, n2, c2, B2, m2, d2, rfl⟩ := hr2.shape
  have H2 := hide (And.intro hr2 (below_next H1.out.1 hd2))
  clear hr2 hd2 y0 y1 y2 y3 y4 y5 y6 y7
  go_wp2_with fail
  refine (constants_c _ gx n 3000 R V Ld Ws (H0.out.2.2.2.1.below H2.out.2) hld hn12 (by omega) (by omega)).mono ?_
  rintro e w3 ⟨vg, rfl, hvg, hd3⟩
  obtain ⟨Ag, cg, rfl, hcg, hmg, -⟩ := id hvg
  obtain ⟨-, -, -, hcg1⟩ := hvg.at_
  rw [gL_length] at hcg hcg1 ⊢
  obtain ⟨bg, og, rfl, hcg2⟩ := hcg1 (by omega)
  obtain ⟨s3, A3, n3, c3, B3, m3, d3, e6, e7, e8, hq3⟩ := (hcg2 n (by omega)).rat
  rw [gL_get _ _ _ _ (by omega)] at hq3
  unfold maxLen at hmg
  have i2 : (n : Int) < (n : Int) + 1 := by omega
  have H3 := hide (And.intro (H2.out.1.below hd3) (And.intro hq3 (below_next H2.out.2 hd3)))
  clear hvg hd3 hq3 hcg1 hcg2
  go_wp2_with fail
  refine (over_c' _ _ _ (wtQ (fun i => Ld.getD i 0) [x0, x1, x2, x3, x4, x5, x6, x7] Ld.length) (gN (fun i => Ld.getD i 0) Ld.length n) 3000 3000 H3.out.1 H3.out.2.1 (by omega) (hld.g_ne n) (by rw [HQ.out]; have h1 := HF.out; rw [chQ, HXN.out, Int.toNat_natCast, HQ.out] at h1; exact h1.more (by omega)) (by omega)).mono ?_
  rintro e w4 ⟨v6, rfl, hr6, hd4⟩
  replace hr6 : RatV w4 v6 q 3000 := by rw [← HQ.out]; exact hr6
  obtain ⟨s6, A6, n6, c6, B6, m6, d6, rfl⟩ := hr6.shape
  have hd5 := below_next H3.out.2.2 hd4
  have hrb := at_later H0.out.2.2.1 hd5
  clear e6 e7 e8
  obtain ⟨w0x, w1x, w2x⟩ := three_cells hrb
  obtain ⟨f0, f1, f2⟩ := three_frozen hrb
  have hlt := lt_of_block hrb
  have HU := hide (And.intro hr6 (below_next H0.out.1 hd5))
  clear hrb hr6 hd4 hd5
  go_wp2
  refine bodyPost_ret (v := .agg #[.bool s6, .slice A6 n6 c6, .slice B6 m6 d6]) ?_ rfl ?_
  · simp [results, Tryz.results85, go_sem, w0x, w1x, w2x, hlt]
  have hr := HU.out.1
  obtain ⟨rn, rl, e, r1, r2⟩ := hr
  injection e with e
  simp only [Array.mk.injEq, List.cons.injEq, Value.bool.injEq, and_true] at e
  obtain ⟨rfl, rfl, rfl⟩ := e
  exact ⟨_, rfl, ⟨_, _, rfl, r1.set3 w0x w1x w2x, r2.set3 w0x w1x w2x⟩, below_set3 HU.out.2 (by omega) _ _ _⟩
set_option maxRecDepth 100000 in
theorem Chance1_c (w : World) (bx bs gx m : Nat) (xs : List Int) (h8 : xs.length = 8) (hx0 : ∀ x ∈ xs, 0 ≤ x ∧ x ≤ 12) (hsum : xs.sum ≤ 12) (R : List Rat) (Ws : List (List Rat)) (hs : ShopG m R Ws) (hx : OpenG w gx m R Ws) (hb1 : w.heap[bx]? = some (.cells #[.pointer (some ⟨gx, 0, none⟩)] 95 (0, 0))) (hb2 : Blk w bs 116 .i64 xs) :
    Calls Tryz.prog 92 #[.pointer (some ⟨bx, 0, none⟩), .pointer (some ⟨bs, 0, none⟩)] w (Ret (ratR w (chQ (ldF m R Ws) m xs) 3000)) := by
  generalize hq : chQ (ldF m R Ws) m xs = q
  obtain ⟨x0, x1, x2, x3, x4, x5, x6, x7, rfl⟩ := eight h8
  obtain ⟨W, hW⟩ : ∃ W, W = w.alloc (.cells #[.bool false, .slice none 0 0, .slice none 0 0] 43) := ⟨_, rfl⟩
  have hb0 : Below w.heap.size w W := by rw [hW]; exact below_al (Below.refl _ _) _
  have hbr : W.heap[w.heap.size]? = some (.cells #[.bool false, .slice none 0 0, .slice none 0 0] 43) := by rw [hW]; exact at_new _ _
  have hb2' := hb2.keep hb0
  obtain ⟨z0, -⟩ := one_cell (at_later hb1 hb0)
  have y0 : W.cell? ⟨bs, 0, none⟩ = some (.int .i64 x0) := hb2'.cell (j := 0) (by simp)
  have y1 : W.cell? ⟨bs, 1, none⟩ = some (.int .i64 x1) := hb2'.cell (j := 1) (by simp)
  have y2 : W.cell? ⟨bs, 2, none⟩ = some (.int .i64 x2) := hb2'.cell (j := 2) (by simp)
  have y3 : W.cell? ⟨bs, 3, none⟩ = some (.int .i64 x3) := hb2'.cell (j := 3) (by simp)
  have y4 : W.cell? ⟨bs, 4, none⟩ = some (.int .i64 x4) := hb2'.cell (j := 4) (by simp)
  have y5 : W.cell? ⟨bs, 5, none⟩ = some (.int .i64 x5) := hb2'.cell (j := 5) (by simp)
  have y6 : W.cell? ⟨bs, 6, none⟩ = some (.int .i64 x6) := hb2'.cell (j := 6) (by simp)
  have y7 : W.cell? ⟨bs, 7, none⟩ = some (.int .i64 x7) := hb2'.cell (j := 7) (by simp)
  have H0 := hide (And.intro hb0 (And.intro hbr (And.intro (OpenG.below hx hb0) (And.intro hq hx0))))
  have HL := hide hW
  have hlen := hide hs.len
  clear hx hb0 hbr hW hq hb1 hb2 hb2' hx0
  go_enter Tryz.func92, Tryz.ntmps92
  go_upto_region 1 with fail
  rw [← HL.out]
  go_wp2_with fail
  refine (chance_c _ gx [x0, x1, x2, x3, x4, x5, x6, x7] h8 H0.out.2.2.2.2 hsum R _ (ldV m R Ws) Ws H0.out.2.2.1 hs.ld').mono ?_
  rintro e w1 ⟨v6, rfl, hr6, hd⟩
  replace hr6 : RatV w1 v6 q 3000 := by rw [← H0.out.2.2.2.1]; rw [hs.len] at hr6; exact hr6
  obtain ⟨s6, A6, n6, c6, B6, m6, d6, rfl⟩ := hr6.shape
  have hrb := at_later H0.out.2.1 hd
  clear z0 y0 y1 y2 y3 y4 y5 y6 y7
  obtain ⟨w0x, w1x, w2x⟩ := three_cells hrb
  obtain ⟨f0, f1, f2⟩ := three_frozen hrb
  have hlt := lt_of_block hrb
  have HU := hide (And.intro hr6 (below_next H0.out.1 hd))
  clear hrb hr6 hd
  go_wp2
  refine bodyPost_ret (v := .agg #[.bool s6, .slice A6 n6 c6, .slice B6 m6 d6]) ?_ rfl ?_
  · simp [results, Tryz.results92, go_sem, w0x, w1x, w2x, hlt]
  have hr := HU.out.1
  obtain ⟨rn, rl, e, r1, r2⟩ := hr
  injection e with e
  simp only [Array.mk.injEq, List.cons.injEq, Value.bool.injEq, and_true] at e
  obtain ⟨rfl, rfl, rfl⟩ := e
  exact ⟨_, rfl, ⟨_, _, rfl, r1.set3 w0x w1x w2x, r2.set3 w0x w1x w2x⟩, below_set3 HU.out.2 (by omega) _ _ _⟩
set_option maxRecDepth 100000 in
set_option maxHeartbeats 4000000 in
theorem Chance_c (w : World) (v : Value) (m c : Nat) (A : Option Addr) (ks : List Int) (R : List Rat) (Ws : List (List Rat)) (hv : ShopV w v R Ws 3000) (hs : ShopG m R Ws) (hk : Arr w A .i64 ks) (hc : ks.length ≤ c) (hm : c ≤ maxLen) (hl : ks.length = m) (h0 : ∀ x ∈ ks, 0 ≤ x) (hsum : ks.sum ≤ 12) :
    Calls Tryz.prog 33 #[v, .slice A ks.length c] w (Ret (okR w (chQ (ldF m R Ws) m (stOf ks)) 3000)) := by
  have hmf : ∀ (fn : Fn) (first cap : Array Value) (w : World), (Instr.makeFunc fn first cap).run Tryz.prog w = .ok (.func fn first cap) w := fun _ _ _ _ => rfl
  have HV := hide hv
  obtain ⟨va, vb, rfl, hR, hWs⟩ := hv
  obtain ⟨A1, c1, rfl, -, -, -⟩ := id hR
  obtain ⟨A2, c2, rfl, -, -, -⟩ := id hWs
  have hrl := hide hs.ok.shop.rl
  have hm8 := hs.ok.shop.n8
  have hlh := hide hl
  obtain ⟨W, hWW⟩ : ∃ W, W = (w.alloc (.cells #[.slice A1 R.length c1, .slice A2 Ws.length c2] 33)).alloc (.cells #[.bool false, .slice none 0 0, .slice none 0 0] 43) := ⟨_, rfl⟩
  have hb0 : Below w.heap.size w W := by rw [hWW]; exact below_al (below_al (Below.refl _ _) _) _
  have hbr : W.heap[w.heap.size + 1]? = some (.cells #[.bool false, .slice none 0 0, .slice none 0 0] 43) := by rw [hWW]; exact at_new' _ (by simp)
  have H0 := hide (And.intro hb0 (And.intro hbr (And.intro (hk.below hb0) h0)))
  have HL := hide hWW
  clear hR hWs hb0 hbr hWW hk h0 hl
  go_enter Tryz.func33, Tryz.ntmps33
  go_wp2_with fail
  rw [← HL.out]
  refine (open_c _ _ R Ws 3000 m (HV.out.below H0.out.1) hs.ok).mono ?_
  rintro e w1 ⟨_, rfl, gx, rfl, hg, hx, hd1⟩
  obtain ⟨W2, hW2⟩ : ∃ W2, W2 = w1.alloc (.cells #[.pointer (some ⟨gx, 0, none⟩)] 95) := ⟨_, rfl⟩
  have hb2 : Below w1.heap.size w1 W2 := by rw [hW2]; exact below_al (Below.refl _ _) _
  have hbx : W2.heap[w1.heap.size]? = some (.cells #[.pointer (some ⟨gx, 0, none⟩)] 95 (0, 0)) := by rw [hW2]; exact at_new _ _
  have hd2 := below_next hd1 hb2
  obtain ⟨y0, -⟩ := one_cell hbx
  have H2 := hide (And.intro hbx (And.intro (OpenG.below hx hb2) (And.intro hd2 (below_next H0.out.1 hd2))))
  have HL2 := hide hW2
  clear hd1 hx hbx hb2 hd2 hW2
  go_upto_region 4 with fail
  rw [← HL2.out]
  go_wp2_with fail
  refine (stateOf_c W2 gx 3000 c A 12 ks R _ _ Ws H2.out.2.1 (H0.out.2.2.1.below H2.out.2.2.1) hc hm (by rw [hlh.out, hrl.out]) (by rw [hrl.out]; exact hm8) H0.out.2.2.2 hsum (by omega)).mono ?_
  rintro e w3 ⟨_, rfl, rfl, hd3⟩
  have h8 := stOf_length ks
  have hxb : ∀ x ∈ stOf ks, 0 ≤ x ∧ x ≤ 12 := stOf_bound H0.out.2.2.2 hsum
  have hxs : (stOf ks).sum ≤ 12 := by rw [stOf_sum ks (by rw [hlh.out]; exact hm8)]; exact hsum
  generalize hq : chQ (ldF m R Ws) m (stOf ks) = q
  have hqr : ∀ w, ratR w q 3000 = ratR w (chQ (ldF m R Ws) m (stOf ks)) 3000 := fun w => by rw [hq]
  have HQR := hide hqr
  have HQE := hide hq
  clear hq hqr
  generalize stOf ks = xs at *
  obtain ⟨x0, x1, x2, x3, x4, x5, x6, x7, rfl⟩ := eight h8
  rw [show stV [x0, x1, x2, x3, x4, x5, x6, x7] = .agg #[.int .i64 x0, .int .i64 x1, .int .i64 x2, .int .i64 x3, .int .i64 x4, .int .i64 x5, .int .i64 x6, .int .i64 x7] from rfl]
  obtain ⟨W4, hW4⟩ : ∃ W4, W4 = w3.alloc (.cells #[.int .i64 x0, .int .i64 x1, .int .i64 x2, .int .i64 x3, .int .i64 x4, .int .i64 x5, .int .i64 x6, .int .i64 x7] 116) := ⟨_, rfl⟩
  have hb4 : Below w3.heap.size w3 W4 := by rw [hW4]; exact below_al (Below.refl _ _) _
  have hbs : Blk W4 w3.heap.size 116 .i64 [x0, x1, x2, x3, x4, x5, x6, x7] := by rw [hW4]; exact Blk.new w3 116 .i64 [x0, x1, x2, x3, x4, x5, x6, x7]
  have hd4 := below_next hd3 hb4
  have H4 := hide (And.intro (at_later H2.out.1 hd4) (And.intro (OpenG.below H2.out.2.1 hd4) (And.intro hbs (And.intro (below_next H2.out.2.2.2 hd4) (And.intro (at_later H0.out.2.1 (below_next H2.out.2.2.1 hd4)) hxb)))))
  have HL4 := hide hW4
  clear hd3 hb4 hbs hd4 hW4 y0 hxb
  go_upto_region 7 with fail
  rw [← HL4.out]
  go_wp2_with fail
  refine (tryR_c _ 92 #[.pointer (some ⟨w1.heap.size, 0, none⟩), .pointer (some ⟨w3.heap.size, 0, none⟩)] q 3000 (fun _ _ => by simp [go_sem]) (fun w' hb => by rw [HQR.out]; exact Chance1_c w' _ _ gx m [x0, x1, x2, x3, x4, x5, x6, x7] h8 H4.out.2.2.2.2.2 hxs R Ws hs (OpenG.below H4.out.2.1 hb) (at_later H4.out.1 hb) (H4.out.2.2.1.keep hb))).mono ?_
  rintro e w5 ⟨_, rfl, r, rfl, hr6, hd⟩
  obtain ⟨s6, A6, n6, c6, B6, m6, d6, rfl⟩ := hr6.shape
  have hrb := at_later H4.out.2.2.2.2.1 hd
  obtain ⟨w0x, w1x, w2x⟩ := three_cells hrb
  obtain ⟨f0, f1, f2⟩ := three_frozen hrb
  have hlt := lt_of_block hrb
  have HU := hide (And.intro hr6 (below_next H4.out.2.2.2.1 hd))
  clear hrb hr6 hd
  go_wp2
  refine bodyPost_ret (v := .tuple #[.agg #[.bool s6, .slice A6 n6 c6, .slice B6 m6 d6], .int .i64 0]) ?_ rfl ?_
  · simp [results, Tryz.results33, go_sem, w0x, w1x, w2x, hlt]
  have hr := HU.out.1
  obtain ⟨rn, rl, e, r1, r2⟩ := hr
  injection e with e
  simp only [Array.mk.injEq, List.cons.injEq, Value.bool.injEq, and_true] at e
  obtain ⟨rfl, rfl, rfl⟩ := e
  exact ⟨_, rfl, _, rfl, by rw [HQE.out]; exact ⟨_, _, rfl, r1.set3 w0x w1x w2x, r2.set3 w0x w1x w2x⟩, below_set3 HU.out.2 (by omega) _ _ _⟩
end Go.Proofs.YtpoahodnakhmiaaGreat
