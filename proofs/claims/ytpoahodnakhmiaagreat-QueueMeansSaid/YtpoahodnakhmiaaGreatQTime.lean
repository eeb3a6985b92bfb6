/- Walks: the length and the time of a station, of a shop that is one. -/
import Derived.Test.YtpoahodnakhmiaaGreatQLength
namespace Go.Proofs.YtpoahodnakhmiaaGreat
set_option linter.unusedVariables false
set_option linter.unusedSimpArgs false
open Go.RowKit
theorem length_i (w : World) (gx i : Nat) (n : Int) (R V Ld : List Rat) (Ws : List (List Rat)) (hx : OpenS w gx R Ws V Ld 3000) (hld : LdOK Ld.length (fun i => Ld.getD i 0)) (hi : i < Ld.length) (hn0 : 0 ≤ n) (hn : n ≤ 12) :
    Calls Tryz.prog 94 #[.pointer (some ⟨gx, 0, none⟩), .int .i64 (i : Int), .int .i64 n] w (Ret (ratR w (lnQ (fun i => Ld.getD i 0) Ld.length i n.toNat) 3000)) := by
  obtain ⟨k, rfl⟩ : ∃ k : Nat, n = (k : Int) := ⟨n.toNat, by omega⟩
  rw [Int.toNat_natCast]
  exact length_c w gx i k R V Ld Ws hx hld hi (by omega)
/-- the time of a station -/
def tmQ (m : Nat) (R : List Rat) (Ws : List (List Rat)) (st : Nat) (n : Int) : Rat := if n = 0 then 0 else lnQ (ldF m R Ws) m st n.toNat / spQ m R Ws st n
theorem ShopG.sp_ne2 {m : Nat} {R : List Rat} {Ws : List (List Rat)} (h : ShopG m R Ws) (st : Nat) (hst : st < m) (n : Int) (h1 : 1 ≤ n) (h2 : n ≤ 12) : spQ m R Ws st n ≠ 0 := by
  have ha : R.getD st 0 ≠ 0 := h.ok.r0 st hst
  have hb : 0 < atQ (ldF m R Ws) m st 1 n := by
    unfold atQ
    rw [if_neg (by omega), if_neg (by omega)]
    have hp : 0 < powN (ldF m R Ws st) (1 : Int).toNat := by
      show 0 < 1 * ldF m R Ws st
      rw [Rat.one_mul]; exact h.ld.pos st hst
    exact divR_pos (Rat.mul_pos hp (h.ld.g_pos _)) (h.ld.g_pos _)
  unfold spQ
  grind
set_option maxRecDepth 100000 in
theorem Length1_c (w : World) (bst bn gx m : Nat) (st : Nat) (n : Int) (R : List Rat) (Ws : List (List Rat)) (hs : ShopG m R Ws) (hx : OpenG w gx m R Ws) (hbst : w.heap[bst]? = some (.cells #[.int .i64 (st : Int)] 3 (0, 0))) (hbn : w.heap[bn]? = some (.cells #[.int .i64 n] 3 (0, 0))) (hst : st < m) (hn0 : 0 ≤ n) (hn : n ≤ 12) :
    Calls Tryz.prog 93 (#[.pointer (some ⟨gx, 0, none⟩)] ++ #[.pointer (some ⟨bst, 0, none⟩), .pointer (some ⟨bn, 0, none⟩)]) w (Ret (ratR w (lnQ (ldF m R Ws) m st n.toNat) 3000)) := by
  generalize hq : lnQ (ldF m R Ws) m st n.toNat = q
  obtain ⟨W, hW⟩ : ∃ W, W = w.alloc (.cells #[.bool false, .slice none 0 0, .slice none 0 0] 43) := ⟨_, rfl⟩
  have hb0 : Below w.heap.size w W := by rw [hW]; exact below_al (Below.refl _ _) _
  have hbr : W.heap[w.heap.size]? = some (.cells #[.bool false, .slice none 0 0, .slice none 0 0] 43) := by rw [hW]; exact at_new _ _
  obtain ⟨z0, -⟩ := one_cell hbst
  obtain ⟨y0, -⟩ := one_cell (at_later hbst hb0)
  have l0 := lt_of_block hbst
  obtain ⟨z1, -⟩ := one_cell hbn
  obtain ⟨y1, -⟩ := one_cell (at_later hbn hb0)
  have l1 := lt_of_block hbn
  have H0 := hide (And.intro hb0 (And.intro hbr (And.intro (OpenG.below hx hb0) hq)))
  have HL := hide hW
  have hlen := hide hs.len
  have h8 := hs.ld.s8
  clear hx hb0 hbr hW hq hbst hbn
  rw [show #[Value.pointer (some ⟨gx, 0, none⟩)] ++ #[.pointer (some ⟨bst, 0, none⟩), .pointer (some ⟨bn, 0, none⟩)] = #[Value.pointer (some ⟨gx, 0, none⟩), .pointer (some ⟨bst, 0, none⟩), .pointer (some ⟨bn, 0, none⟩)] from rfl]
  go_enter Tryz.func93, Tryz.ntmps93
  go_upto_region 1 with fail
  rw [← HL.out]
  go_wp2_with fail
  refine (length_i _ gx st n R _ (ldV m R Ws) Ws H0.out.2.2.1 hs.ld' (by rw [hs.len]; exact hst) hn0 hn).mono ?_
  rintro e w1 ⟨v6, rfl, hr6, hd⟩
  replace hr6 : RatV w1 v6 q 3000 := by rw [← H0.out.2.2.2]; rw [hs.len] at hr6; exact hr6
  obtain ⟨s6, A6, n6, c6, B6, m6, d6, rfl⟩ := hr6.shape
  have hrb := at_later H0.out.2.1 hd
  clear z0 y0 z1 y1
  obtain ⟨x0, x1, x2⟩ := three_cells hrb
  obtain ⟨f0, f1, f2⟩ := three_frozen hrb
  have hlt := lt_of_block hrb
  have HU := hide (And.intro hr6 (below_next H0.out.1 hd))
  clear hrb hr6 hd
  go_wp2
  refine bodyPost_ret (v := .agg #[.bool s6, .slice A6 n6 c6, .slice B6 m6 d6]) ?_ rfl ?_
  · simp [results, Tryz.results93, go_sem, x0, x1, x2, hlt]
  have hr := HU.out.1
  obtain ⟨rn, rl, e, r1, r2⟩ := hr
  injection e with e
  simp only [Array.mk.injEq, List.cons.injEq, Value.bool.injEq, and_true] at e
  obtain ⟨rfl, rfl, rfl⟩ := e
  exact ⟨_, rfl, ⟨_, _, rfl, r1.set3 x0 x1 x2, r2.set3 x0 x1 x2⟩, below_set3 HU.out.2 (by omega) _ _ _⟩
set_option maxRecDepth 100000 in
theorem Length_c (w : World) (v : Value) (m : Nat) (st : Nat) (n : Int) (R : List Rat) (Ws : List (List Rat)) (hv : ShopV w v R Ws 3000) (hs : ShopG m R Ws) (hst : st < m) (hn0 : 0 ≤ n) (hn : n ≤ 12) :
    Calls Tryz.prog 34 #[v, .int .i64 (st : Int), .int .i64 n] w (Ret (okR w (lnQ (ldF m R Ws) m st n.toNat) 3000)) := by
  have hmf : ∀ (fn : Fn) (first cap : Array Value) (w : World), (Instr.makeFunc fn first cap).run Tryz.prog w = .ok (.func fn first cap) w := fun _ _ _ _ => rfl
  have HV := hide hv
  obtain ⟨va, vb, rfl, hR, hW⟩ := hv
  obtain ⟨A1, c1, rfl, -, -, -⟩ := id hR
  obtain ⟨A2, c2, rfl, -, -, -⟩ := id hW
  generalize hq : lnQ (ldF m R Ws) m st n.toNat = q
  have hq2 : ∀ w, ratR w q 3000 = ratR w (lnQ (ldF m R Ws) m st n.toNat) 3000 := fun w => by rw [hq]
  have HQ2 := hide hq2
  clear hq hq2
  obtain ⟨W, hWW⟩ : ∃ W, W = (((w.alloc (.cells #[.slice A1 R.length c1, .slice A2 Ws.length c2] 33)).alloc (.cells #[.int .i64 (st : Int)] 3)).alloc (.cells #[.int .i64 n] 3)).alloc (.cells #[.bool false, .slice none 0 0, .slice none 0 0] 43) := ⟨_, rfl⟩
  have hb0 : Below w.heap.size w W := by rw [hWW]; exact (below_al (below_al (below_al (below_al (Below.refl _ _) _) _) _) _)
  have hbst : W.heap[w.heap.size + 1]? = some (.cells #[.int .i64 (st : Int)] 3 (0, 0)) := by
    have h1 := at_later (at_new (w.alloc (.cells #[.slice A1 R.length c1, .slice A2 Ws.length c2] 33)) (.cells #[.int .i64 (st : Int)] 3)) (below_al (below_al (Below.refl _ _) (.cells #[.int .i64 n] 3)) (.cells #[.bool false, .slice none 0 0, .slice none 0 0] 43))
    rw [hWW]; simpa using h1
  have hbn : W.heap[w.heap.size + 2]? = some (.cells #[.int .i64 n] 3 (0, 0)) := by
    have h1 := at_later (at_new ((w.alloc (.cells #[.slice A1 R.length c1, .slice A2 Ws.length c2] 33)).alloc (.cells #[.int .i64 (st : Int)] 3)) (.cells #[.int .i64 n] 3)) (below_al (Below.refl _ _) (.cells #[.bool false, .slice none 0 0, .slice none 0 0] 43))
    rw [hWW]; simpa using h1
  have hbr : W.heap[w.heap.size + 3]? = some (.cells #[.bool false, .slice none 0 0, .slice none 0 0] 43) := by
    have h1 := at_later (at_new (((w.alloc (.cells #[.slice A1 R.length c1, .slice A2 Ws.length c2] 33)).alloc (.cells #[.int .i64 (st : Int)] 3)).alloc (.cells #[.int .i64 n] 3)) (.cells #[.bool false, .slice none 0 0, .slice none 0 0] 43)) (Below.refl _ _)
    rw [hWW]; simpa using h1
  have hbs : W.heap[w.heap.size]? = some (.cells #[.slice A1 R.length c1, .slice A2 Ws.length c2] 33) := by
    have h1 := at_later (at_new w (.cells #[.slice A1 R.length c1, .slice A2 Ws.length c2] 33)) (below_al (below_al (below_al (Below.refl _ _) (.cells #[.int .i64 (st : Int)] 3)) (.cells #[.int .i64 n] 3)) (.cells #[.bool false, .slice none 0 0, .slice none 0 0] 43))
    rw [hWW]; simpa using h1
  obtain ⟨u0, u1, -, -⟩ := two_cells hbs
  clear hbs
  have H0 := hide (And.intro hb0 (And.intro hbst (And.intro hbn hbr)))
  obtain ⟨y0, -⟩ := one_cell hbst
  obtain ⟨y1, -⟩ := one_cell hbn
  have HL := hide hWW
  have ha := HV.out.below hb0
  have HA := hide ha
  clear hR hW hb0 hWW ha hbst hbn hbr
  go_enter Tryz.func34, Tryz.ntmps34
  go_upto_region 1 with fail
  rw [← HL.out]
  go_wp2_with fail
  refine (at_c W _ 93 m st n #[.pointer (some ⟨w.heap.size + 1, 0, none⟩), .pointer (some ⟨w.heap.size + 2, 0, none⟩)] q R Ws HA.out hs hst hn0 hn (fun _ _ => by simp [go_sem]) (fun gx w' hb hx => by rw [HQ2.out]; exact Length1_c w' _ _ gx m st n  R Ws hs hx (at_later H0.out.2.1 hb) (at_later H0.out.2.2.1 hb) hst hn0 hn)).mono ?_
  rintro e w4 ⟨_, rfl, r, rfl, hr6, hd⟩
  obtain ⟨s6, A6, n6, c6, B6, m6, d6, rfl⟩ := hr6.shape
  have hrb := at_later H0.out.2.2.2 hd
  clear y0 y1 u0 u1
  obtain ⟨x0, x1, x2⟩ := three_cells hrb
  obtain ⟨f0, f1, f2⟩ := three_frozen hrb
  have hlt := lt_of_block hrb
  have HU := hide (And.intro hr6 (below_next H0.out.1 hd))
  clear hrb hr6 hd
  go_wp2
  refine bodyPost_ret (v := .tuple #[.agg #[.bool s6, .slice A6 n6 c6, .slice B6 m6 d6], .int .i64 0]) ?_ rfl ?_
  · simp [results, Tryz.results34, go_sem, x0, x1, x2, hlt]
  have hr := HU.out.1
  obtain ⟨rn, rl, e, r1, r2⟩ := hr
  injection e with e
  simp only [Array.mk.injEq, List.cons.injEq, Value.bool.injEq, and_true] at e
  obtain ⟨rfl, rfl, rfl⟩ := e
  exact ⟨_, rfl, _, rfl, ⟨_, _, rfl, r1.set3 x0 x1 x2, r2.set3 x0 x1 x2⟩, below_set3 HU.out.2 (by omega) _ _ _⟩
set_option maxRecDepth 100000 in
set_option maxHeartbeats 4000000 in
theorem Time1_c (w : World) (bst bn gx m : Nat) (st : Nat) (n : Int) (R : List Rat) (Ws : List (List Rat)) (hs : ShopG m R Ws) (hx : OpenG w gx m R Ws) (hbst : w.heap[bst]? = some (.cells #[.int .i64 (st : Int)] 3 (0, 0))) (hbn : w.heap[bn]? = some (.cells #[.int .i64 n] 3 (0, 0))) (hst : st < m) (hn0 : 0 ≤ n) (hn : n ≤ 12) :
    Calls Tryz.prog 95 (#[.pointer (some ⟨gx, 0, none⟩)] ++ #[.pointer (some ⟨bn, 0, none⟩), .pointer (some ⟨bst, 0, none⟩)]) w (Ret (ratR w (tmQ m R Ws st n) 3000)) := by
  generalize hq : tmQ m R Ws st n = q
  obtain ⟨W, hW⟩ : ∃ W, W = w.alloc (.cells #[.bool false, .slice none 0 0, .slice none 0 0] 43) := ⟨_, rfl⟩
  have hb0 : Below w.heap.size w W := by rw [hW]; exact below_al (Below.refl _ _) _
  have hbr : W.heap[w.heap.size]? = some (.cells #[.bool false, .slice none 0 0, .slice none 0 0] 43) := by rw [hW]; exact at_new _ _
  obtain ⟨z0, -⟩ := one_cell (at_later hbst hb0)
  obtain ⟨z1, -⟩ := one_cell (at_later hbn hb0)
  have hl0 := lt_of_block hbst
  have hl1 := lt_of_block hbn
  have HX := hide (OpenG.below hx hb0)
  have HB := hide (And.intro hbr hb0)
  have HL := hide hW
  have h8 := hs.ld.s8
  rw [show #[Value.pointer (some ⟨gx, 0, none⟩)] ++ #[.pointer (some ⟨bn, 0, none⟩), .pointer (some ⟨bst, 0, none⟩)] = #[Value.pointer (some ⟨gx, 0, none⟩), .pointer (some ⟨bn, 0, none⟩), .pointer (some ⟨bst, 0, none⟩)] from rfl]
  by_cases hz : n = 0
  · obtain rfl : q = 0 := by rw [← hq, tmQ, if_pos hz]
    obtain ⟨x0, x1, x2⟩ := three_cells hbr
    obtain ⟨f0, f1, f2⟩ := three_frozen hbr
    have hlt := lt_of_block hbr
    subst hz
    clear hx hb0 hbr hbst hbn hW hq
    go_enter Tryz.func95, Tryz.ntmps95
    go_upto_region 1 with fail
    rw [← HL.out]
    go_wp2
    refine bodyPost_ret (v := .agg #[.bool false, .slice none 0 0, .slice none 0 0]) ?_ rfl ?_
    · simp [results, Tryz.results95, go_sem, x0, x1, x2, hlt]
    exact ⟨_, rfl, ⟨_, _, rfl, NatV.nil _ _, NatV.nil _ _⟩, below_set3 HB.out.2 (by omega) _ _ _⟩
  · have HQE := hide (show lnQ (ldF m R Ws) m st n.toNat / spQ m R Ws st n = q by rw [← hq, tmQ, if_neg hz])
    have hne := hs.sp_ne2 st hst n (by omega) hn
    have HF := hide (And.intro hne (((hs.ld.ln_fit st n.toNat n.toNat hst (by omega) (Nat.le_refl _)).divA ((hs.rf st hst).mulA (hs.ld.at_fit st 1 n hst hn)) hne).more (show 901 + (10 + 74) + 1 ≤ 3000 by omega)))
    have hz2 : (n == 0) = false := by simp [hz]
    have hS : ∀ w', Below W.heap.size W w' → w'.cell? ⟨bn, 0, none⟩ = some (.int .i64 n) ∧ w'.cell? ⟨bst, 0, none⟩ = some (.int .i64 (st : Int)) := fun w' h => by
      have e : ∀ b o v, W.cell? ⟨b, o, none⟩ = some v → w'.cell? ⟨b, o, none⟩ = some v := fun b o v hv => (h.cell (lt_of_cell hv)).trans hv
      exact ⟨e _ _ _ z1, e _ _ _ z0⟩
    have hdr : Below W.heap.size W W.drew := (Below.refl _ _).drew
    have HSS := hide hS
    clear hx hb0 hbr hbst hbn hW hq hS hne
    go_enter Tryz.func95, Tryz.ntmps95
    go_upto_region 1 with fail
    rw [← HL.out]
    go_upto_region 3 with fail
    clear z0 z1
    refine till_begin (fun w' => w'.cell? ⟨bn, 0, none⟩ = some (.int .i64 n) ∧ w'.cell? ⟨bst, 0, none⟩ = some (.int .i64 (st : Int))) [0, 1, 2, 3, 4, 5, 6, 7, 8] (by kernel_rfl) (HSS.out _ hdr) (fun hHeld => ?_)
    refine tt (i := 0) hHeld (some 8) ?_
    try simp only [Act.put, ptA, ptB, ptC]
    refine tt (i := 4) hHeld (some 12) ?_
    try simp only [Act.put, ptA, ptB, ptC]
    refine tt (i := 1) hHeld (some 9) ?_
    try simp only [Act.put, ptA, ptB, ptC]
    refine tt (i := 2) hHeld (some 10) ?_
    try simp only [Act.put, ptA, ptB, ptC]
    refine tt (i := 5) hHeld (some 13) ?_
    try simp only [Act.put, ptA, ptB, ptC]
    refine tt (i := 6) hHeld (some 14) ?_
    try simp only [Act.put, ptA, ptB, ptC]
    refine till_ready (rs := [3]) (by kernel_rfl) (by simp) ?_
    refine mem1 ?_
    refine till_step rfl (fun K hK => ?_)
    go_simp
    go_at_call 94
    refine (length_i _ gx st n R _ (ldV m R Ws) Ws (OpenG.below HX.out hdr) hs.ld' (by rw [hs.len]; exact hst) hn0 hn).mono ?_
    rintro e w1 ⟨v4, rfl, hr4, hd⟩
    replace hr4 : RatV w1 v4 (lnQ (ldF m R Ws) m st n.toNat) 3000 := by rw [hs.len] at hr4; exact hr4
    obtain ⟨s4, A4, n4, c4, B4, m4, d4, rfl⟩ := hr4.shape
    have H4 := hide hr4
    clear hr4
    try (replace H5 := hide (H5.out.below hd))
    have hg1 : Below W.heap.size W w1 := hdr.trans (hd.mono hdr.size)
    clear hd
    go_wp2_with fail
    refine hK.out _ _ (HSS.out _ hg1) (fun hHeld => ?_)
    clear hK K
    try simp only [Act.put, ptA, ptB, ptC]
    refine till_ready (rs := [7]) (by kernel_rfl) (by simp) ?_
    refine mem1 ?_
    refine till_step rfl (fun K hK => ?_)
    go_simp
    go_at_call 67
    refine (speed_c _ gx st 3000 n R _ (ldV m R Ws) Ws (OpenG.below HX.out hg1) hs.ld' (by rw [hs.ok.shop.rl, hs.len]) (hs.rf st hst) (by rw [hs.len]; exact hst) hn0 hn (by omega) (by omega)).mono ?_
    rintro e w2 ⟨v5, rfl, hr5, hd⟩
    replace hr5 : RatV w2 v5 (spQ m R Ws st n) 3000 := by rw [hs.len] at hr5; exact hr5
    obtain ⟨s5, A5, n5, c5, B5, m5, d5, rfl⟩ := hr5.shape
    have H5 := hide hr5
    clear hr5
    try (replace H4 := hide (H4.out.below hd))
    have hg2 : Below W.heap.size W w2 := hg1.trans (hd.mono hg1.size)
    clear hd
    go_wp2_with fail
    refine hK.out _ _ (HSS.out _ hg2) (fun hHeld => ?_)
    clear hK K
    try simp only [Act.put, ptA, ptB, ptC]
    refine till_ready (rs := [8]) (by kernel_rfl) (by simp) ?_
    refine mem1 ?_
    refine till_step rfl (fun K hK => ?_)
    go_simp
    go_at_call 86
    refine (over_c' _ _ _ (lnQ (ldF m R Ws) m st n.toNat) (spQ m R Ws st n) 3000 3000 H4.out H5.out (by omega) HF.out.1 HF.out.2 (by omega)).mono ?_
    rintro e w3 ⟨v6, rfl, hr6, hd⟩
    replace hr6 : RatV w3 v6 q 3000 := by rw [← HQE.out]; exact hr6
    obtain ⟨s6, A6, n6, c6, B6, m6, d6, rfl⟩ := hr6.shape
    have H6 := hide hr6
    clear hr6
    have hg3 : Below W.heap.size W w3 := hg2.trans (hd.mono hg2.size)
    clear hd
    go_wp2_with fail
    refine hK.out _ _ (HSS.out _ hg3) (fun hHeld => ?_)
    clear hK K
    try simp only [Act.put, ptA, ptB, ptC]
    refine till_end (k := 9) (by rfl) (by rfl) (by kernel_rfl) ?_
    simp only [List.drop_succ_cons, List.drop_zero]
    clear hHeld
    have hrb := at_later HB.out.1 hg3
    obtain ⟨x0, x1, x2⟩ := three_cells hrb
    obtain ⟨f0, f1, f2⟩ := three_frozen hrb
    have hlt := lt_of_block hrb
    have HU := hide (And.intro H6.out (HB.out.2.trans (hg3.mono HB.out.2.size)))
    clear hrb
    go_wp2
    refine bodyPost_ret (v := .agg #[.bool s6, .slice A6 n6 c6, .slice B6 m6 d6]) ?_ rfl ?_
    · simp [results, Tryz.results95, go_sem, x0, x1, x2, hlt]
    have hr := HU.out.1
    obtain ⟨rn, rl, e, r1, r2⟩ := hr
    injection e with e
    simp only [Array.mk.injEq, List.cons.injEq, Value.bool.injEq, and_true] at e
    obtain ⟨rfl, rfl, rfl⟩ := e
    exact ⟨_, rfl, ⟨_, _, rfl, r1.set3 x0 x1 x2, r2.set3 x0 x1 x2⟩, below_set3 HU.out.2 (by omega) _ _ _⟩
set_option maxRecDepth 100000 in
theorem Time_c (w : World) (v : Value) (m : Nat) (st : Nat) (n : Int) (R : List Rat) (Ws : List (List Rat)) (hv : ShopV w v R Ws 3000) (hs : ShopG m R Ws) (hst : st < m) (hn0 : 0 ≤ n) (hn : n ≤ 12) :
    Calls Tryz.prog 35 #[v, .int .i64 (st : Int), .int .i64 n] w (Ret (okR w (tmQ m R Ws st n) 3000)) := by
  have hmf : ∀ (fn : Fn) (first cap : Array Value) (w : World), (Instr.makeFunc fn first cap).run Tryz.prog w = .ok (.func fn first cap) w := fun _ _ _ _ => rfl
  have HV := hide hv
  obtain ⟨va, vb, rfl, hR, hW⟩ := hv
  obtain ⟨A1, c1, rfl, -, -, -⟩ := id hR
  obtain ⟨A2, c2, rfl, -, -, -⟩ := id hW
  generalize hq : tmQ m R Ws st n = q
  have hq2 : ∀ w, ratR w q 3000 = ratR w (tmQ m R Ws st n) 3000 := fun w => by rw [hq]
  have HQ2 := hide hq2
  clear hq hq2
  obtain ⟨W, hWW⟩ : ∃ W, W = (((w.alloc (.cells #[.slice A1 R.length c1, .slice A2 Ws.length c2] 33)).alloc (.cells #[.int .i64 (st : Int)] 3)).alloc (.cells #[.int .i64 n] 3)).alloc (.cells #[.bool false, .slice none 0 0, .slice none 0 0] 43) := ⟨_, rfl⟩
  have hb0 : Below w.heap.size w W := by rw [hWW]; exact (below_al (below_al (below_al (below_al (Below.refl _ _) _) _) _) _)
  have hbst : W.heap[w.heap.size + 1]? = some (.cells #[.int .i64 (st : Int)] 3 (0, 0)) := by
    have h1 := at_later (at_new (w.alloc (.cells #[.slice A1 R.length c1, .slice A2 Ws.length c2] 33)) (.cells #[.int .i64 (st : Int)] 3)) (below_al (below_al (Below.refl _ _) (.cells #[.int .i64 n] 3)) (.cells #[.bool false, .slice none 0 0, .slice none 0 0] 43))
    rw [hWW]; simpa using h1
  have hbn : W.heap[w.heap.size + 2]? = some (.cells #[.int .i64 n] 3 (0, 0)) := by
    have h1 := at_later (at_new ((w.alloc (.cells #[.slice A1 R.length c1, .slice A2 Ws.length c2] 33)).alloc (.cells #[.int .i64 (st : Int)] 3)) (.cells #[.int .i64 n] 3)) (below_al (Below.refl _ _) (.cells #[.bool false, .slice none 0 0, .slice none 0 0] 43))
    rw [hWW]; simpa using h1
  have hbr : W.heap[w.heap.size + 3]? = some (.cells #[.bool false, .slice none 0 0, .slice none 0 0] 43) := by
    have h1 := at_later (at_new (((w.alloc (.cells #[.slice A1 R.length c1, .slice A2 Ws.length c2] 33)).alloc (.cells #[.int .i64 (st : Int)] 3)).alloc (.cells #[.int .i64 n] 3)) (.cells #[.bool false, .slice none 0 0, .slice none 0 0] 43)) (Below.refl _ _)
    rw [hWW]; simpa using h1
  have hbs : W.heap[w.heap.size]? = some (.cells #[.slice A1 R.length c1, .slice A2 Ws.length c2] 33) := by
    have h1 := at_later (at_new w (.cells #[.slice A1 R.length c1, .slice A2 Ws.length c2] 33)) (below_al (below_al (below_al (Below.refl _ _) (.cells #[.int .i64 (st : Int)] 3)) (.cells #[.int .i64 n] 3)) (.cells #[.bool false, .slice none 0 0, .slice none 0 0] 43))
    rw [hWW]; simpa using h1
  obtain ⟨u0, u1, -, -⟩ := two_cells hbs
  clear hbs
  have H0 := hide (And.intro hb0 (And.intro hbst (And.intro hbn hbr)))
  obtain ⟨y0, -⟩ := one_cell hbst
  obtain ⟨y1, -⟩ := one_cell hbn
  have HL := hide hWW
  have ha := HV.out.below hb0
  have HA := hide ha
  clear hR hW hb0 hWW ha hbst hbn hbr
  go_enter Tryz.func35, Tryz.ntmps35
  go_upto_region 1 with fail
  rw [← HL.out]
  go_wp2_with fail
  refine (at_c W _ 95 m st n #[.pointer (some ⟨w.heap.size + 2, 0, none⟩), .pointer (some ⟨w.heap.size + 1, 0, none⟩)] q R Ws HA.out hs hst hn0 hn (fun _ _ => by simp [go_sem]) (fun gx w' hb hx => by rw [HQ2.out]; exact Time1_c w' _ _ gx m st n  R Ws hs hx (at_later H0.out.2.1 hb) (at_later H0.out.2.2.1 hb) hst hn0 hn)).mono ?_
  rintro e w4 ⟨_, rfl, r, rfl, hr6, hd⟩
  obtain ⟨s6, A6, n6, c6, B6, m6, d6, rfl⟩ := hr6.shape
  have hrb := at_later H0.out.2.2.2 hd
  clear y0 y1 u0 u1
  obtain ⟨x0, x1, x2⟩ := three_cells hrb
  obtain ⟨f0, f1, f2⟩ := three_frozen hrb
  have hlt := lt_of_block hrb
  have HU := hide (And.intro hr6 (below_next H0.out.1 hd))
  clear hrb hr6 hd
  go_wp2
  refine bodyPost_ret (v := .tuple #[.agg #[.bool s6, .slice A6 n6 c6, .slice B6 m6 d6], .int .i64 0]) ?_ rfl ?_
  · simp [results, Tryz.results35, go_sem, x0, x1, x2, hlt]
  have hr := HU.out.1
  obtain ⟨rn, rl, e, r1, r2⟩ := hr
  injection e with e
  simp only [Array.mk.injEq, List.cons.injEq, Value.bool.injEq, and_true] at e
  obtain ⟨rfl, rfl, rfl⟩ := e
  exact ⟨_, rfl, _, rfl, ⟨_, _, rfl, r1.set3 x0 x1 x2, r2.set3 x0 x1 x2⟩, below_set3 HU.out.2 (by omega) _ _ _⟩
end Go.Proofs.YtpoahodnakhmiaaGreat
