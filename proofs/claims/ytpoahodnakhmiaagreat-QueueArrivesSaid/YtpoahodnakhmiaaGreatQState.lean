/- Walks: AtLeast and Speed of a shop that is one. Walks: the speed of a station, and the chance that it has at least so many jobs, of a shop that is one. Walks: states: how many jobs one has; a list as one. -/
import Derived.Test.YtpoahodnakhmiaaGreatQTop
namespace Go.Proofs.YtpoahodnakhmiaaGreat
set_option linter.unusedVariables false
set_option linter.unusedSimpArgs false
open Go.RowKit
set_option maxRecDepth 100000 in
theorem at_c (w : World) (v : Value) (k m st : Nat) (n : Int) (caps : Array Value) (q : Rat) (R : List Rat) (Ws : List (List Rat)) (hv : ShopV w v R Ws 3000) (hs : ShopG m R Ws) (hst : st < m) (hn0 : 0 ≤ n) (hn : n ≤ 12)
    (hk : ∀ args w, (callFunc k args).run Tryz.prog w = .ok (.enter k args) w) (hc : ∀ gx w', Below w.heap.size w w' → OpenG w' gx m R Ws → Calls Tryz.prog k (#[.pointer (some ⟨gx, 0, none⟩)] ++ caps) w' (Ret (ratR w' q 3000))) :
    Calls Tryz.prog 65 #[v, .int .i64 (st : Int), .int .i64 n, .func (.func k) #[] caps] w (Ret (okR w q 3000)) := by
  have hmf : ∀ (fn : Fn) (first cap : Array Value) (w : World), (Instr.makeFunc fn first cap).run Tryz.prog w = .ok (.func fn first cap) w := fun _ _ _ _ => rfl
  have HV := hide hv
  obtain ⟨va, vb, rfl, hR, hW⟩ := hv
  obtain ⟨A1, c1, rfl, -, -, -⟩ := id hR
  obtain ⟨A2, c2, rfl, -, -, -⟩ := id hW
  have hrl := hide hs.ok.shop.rl
  have h8 := hs.ok.shop.n8
  obtain ⟨W, hWW⟩ : ∃ W, W = ((w.alloc (.cells #[.slice A1 R.length c1, .slice A2 Ws.length c2] 33)).alloc (.cells #[.func (.func k) #[] caps] 106)).alloc (.cells #[.bool false, .slice none 0 0, .slice none 0 0] 43) := ⟨_, rfl⟩
  have hb0 : Below w.heap.size w W := by rw [hWW]; exact below_al (below_al (below_al (Below.refl _ _) _) _) _
  have hbs : W.heap[w.heap.size]? = some (.cells #[.slice A1 R.length c1, .slice A2 Ws.length c2] 33) := by
    rw [hWW]; exact at_later (at_new w _) (below_al (below_al (Below.refl _ _) _) _)
  have hbf : W.heap[w.heap.size + 1]? = some (.cells #[.func (.func k) #[] caps] 106 (0, 0)) := by
    have h1 := at_later (at_new (w.alloc (.cells #[.slice A1 R.length c1, .slice A2 Ws.length c2] 33)) (.cells #[.func (.func k) #[] caps] 106)) (below_al (Below.refl _ _) (.cells #[.bool false, .slice none 0 0, .slice none 0 0] 43))
    rw [hWW]; simpa using h1
  have hbr : W.heap[w.heap.size + 2]? = some (.cells #[.bool false, .slice none 0 0, .slice none 0 0] 43) := by rw [hWW]; exact at_new' _ (by simp)
  have H0 := hide (And.intro hb0 (And.intro hbs (And.intro hbf (And.intro hbr hc))))
  have HL := hide hWW
  clear hR hW hb0 hbs hbf hbr hWW hc
  go_enter Tryz.func65, Tryz.ntmps65
  go_wp2_with fail
  rw [← HL.out]
  refine (open_c _ _ R Ws 3000 m (HV.out.below H0.out.1) hs.ok).mono ?_
  rintro e w1 ⟨_, rfl, gx, rfl, hg, hx, hd1⟩
  obtain ⟨W2, hW2⟩ : ∃ W2, W2 = w1.alloc (.cells #[.pointer (some ⟨gx, 0, none⟩)] 95) := ⟨_, rfl⟩
  have hb2 : Below w1.heap.size w1 W2 := by rw [hW2]; exact below_al (Below.refl _ _) _
  have hbx : W2.heap[w1.heap.size]? = some (.cells #[.pointer (some ⟨gx, 0, none⟩)] 95 (0, 0)) := by rw [hW2]; exact at_new _ _
  have hd2 := below_next hd1 hb2
  obtain ⟨y0, y1, -, -⟩ := two_cells (at_later H0.out.2.1 hd2)
  have H2 := hide (And.intro hbx (And.intro (OpenG.below hx hb2) (And.intro hd2 (below_next H0.out.1 hd2))))
  have HL2 := hide hW2
  have i1 : ¬ ((R.length : Int) ≤ (st : Int)) := by have := hrl.out; omega
  have i2 : ¬ ((st : Int) < 0) := by omega
  have i3 : ((st : Int) < (R.length : Int)) := by have := hrl.out; omega
  clear hd1 hx hbx hb2 hd2 hW2
  go_upto_region 4 with fail
  rw [← HL2.out]
  go_wp2_with fail
  refine (isJobs_c _ n (by omega) (by omega)).mono ?_
  rintro e w3 ⟨_, rfl, rfl, rfl⟩
  go_wp2_with fail
  refine (tryR_c _ 123 #[.pointer (some ⟨w.heap.size + 1, 0, none⟩), .pointer (some ⟨w1.heap.size, 0, none⟩)] q 3000 (fun _ _ => by simp [go_sem]) (fun w' hb => at1_c w' _ _ gx k m caps q R Ws (OpenG.below H2.out.2.1 hb) (at_later (at_later H0.out.2.2.1 H2.out.2.2.1) hb) (at_later H2.out.1 hb) hk (fun w'' hb2 hx2 => H0.out.2.2.2.2 gx w'' (H2.out.2.2.2.trans ((below_next hb hb2).mono H2.out.2.2.2.size)) hx2))).mono ?_
  rintro e w4 ⟨_, rfl, r, rfl, hr6, hd⟩
  obtain ⟨s6, A6, n6, c6, B6, m6, d6, rfl⟩ := hr6.shape
  have hrb := at_later (at_later H0.out.2.2.2.1 H2.out.2.2.1) hd
  clear y0 y1
  obtain ⟨x0, x1, x2⟩ := three_cells hrb
  obtain ⟨f0, f1, f2⟩ := three_frozen hrb
  have hlt := lt_of_block hrb
  have HU := hide (And.intro hr6 (below_next H2.out.2.2.2 hd))
  clear hrb hr6 hd
  go_wp2
  refine bodyPost_ret (v := .tuple #[.agg #[.bool s6, .slice A6 n6 c6, .slice B6 m6 d6], .int .i64 0]) ?_ rfl ?_
  · simp [results, Tryz.results65, go_sem, x0, x1, x2, hlt]
  have hr := HU.out.1
  obtain ⟨rn, rl, e, r1, r2⟩ := hr
  injection e with e
  simp only [Array.mk.injEq, List.cons.injEq, Value.bool.injEq, and_true] at e
  obtain ⟨rfl, rfl, rfl⟩ := e
  exact ⟨_, rfl, _, rfl, ⟨_, _, rfl, r1.set3 x0 x1 x2, r2.set3 x0 x1 x2⟩, below_set3 HU.out.2 (by omega) _ _ _⟩
end Go.Proofs.YtpoahodnakhmiaaGreat
namespace Go.Proofs.YtpoahodnakhmiaaGreat
set_option linter.unusedVariables false
set_option linter.unusedSimpArgs false
open Go.RowKit
/-- the speed of a station with n jobs -/
def spQ (m : Nat) (R : List Rat) (Ws : List (List Rat)) (st : Nat) (n : Int) : Rat := R.getD st 0 * atQ (ldF m R Ws) m st 1 n
set_option maxRecDepth 100000 in
theorem Speed1_c (w : World) (bst bn gx m : Nat) (st : Nat) (n : Int) (R : List Rat) (Ws : List (List Rat)) (hs : ShopG m R Ws) (hx : OpenG w gx m R Ws) (hbst : w.heap[bst]? = some (.cells #[.int .i64 (st : Int)] 3 (0, 0))) (hbn : w.heap[bn]? = some (.cells #[.int .i64 n] 3 (0, 0))) (hst : st < m) (hn0 : 0 ≤ n) (hn : n ≤ 12) :
    Calls Tryz.prog 66 (#[.pointer (some ⟨gx, 0, none⟩)] ++ #[.pointer (some ⟨bst, 0, none⟩), .pointer (some ⟨bn, 0, none⟩)]) w (Ret (ratR w (spQ m R Ws st n) 3000)) := by
  generalize hq : spQ m R Ws st n = q
  obtain ⟨W, hW⟩ : ∃ W, W = w.alloc (.cells #[.bool false, .slice none 0 0, .slice none 0 0] 43) := ⟨_, rfl⟩
  have hb0 : Below w.heap.size w W := by rw [hW]; exact below_al (Below.refl _ _) _
  have hbr : W.heap[w.heap.size]? = some (.cells #[.bool false, .slice none 0 0, .slice none 0 0] 43) := by rw [hW]; exact at_new _ _
  obtain ⟨z0, -⟩ := one_cell hbst
  obtain ⟨y0, -⟩ := one_cell (at_later hbst hb0)
  have l0 := lt_of_block hbst
  obtain ⟨z1, -⟩ := one_cell hbn
  obtain ⟨y1, -⟩ := one_cell (at_later hbn hb0)
  have l1 := lt_of_block hbn
  have H0 := hide (And.intro hb0 (And.intro hbr (And.intro (OpenG.below hx hb0) hq)))
  have HL := hide hW
  have hlen := hide hs.len
  have h8 := hs.ld.s8
  clear hx hb0 hbr hW hq hbst hbn
  rw [show #[Value.pointer (some ⟨gx, 0, none⟩)] ++ #[.pointer (some ⟨bst, 0, none⟩), .pointer (some ⟨bn, 0, none⟩)] = #[Value.pointer (some ⟨gx, 0, none⟩), .pointer (some ⟨bst, 0, none⟩), .pointer (some ⟨bn, 0, none⟩)] from rfl]
  go_enter Tryz.func66, Tryz.ntmps66
  go_upto_region 1 with fail
  rw [← HL.out]
  go_wp2_with fail
  refine (speed_c _ gx st 3000 n R _ (ldV m R Ws) Ws H0.out.2.2.1 hs.ld' (by rw [hs.ok.shop.rl, hs.len]) (hs.rf st hst) (by rw [hs.len]; exact hst) hn0 hn (by omega) (by omega)).mono ?_
  rintro e w1 ⟨v6, rfl, hr6, hd⟩
  replace hr6 : RatV w1 v6 q 3000 := by rw [← H0.out.2.2.2]; rw [hs.len] at hr6; exact hr6
  obtain ⟨s6, A6, n6, c6, B6, m6, d6, rfl⟩ := hr6.shape
  have hrb := at_later H0.out.2.1 hd
  clear z0 y0 z1 y1
  obtain ⟨x0, x1, x2⟩ := three_cells hrb
  obtain ⟨f0, f1, f2⟩ := three_frozen hrb
  have hlt := lt_of_block hrb
  have HU := hide (And.intro hr6 (below_next H0.out.1 hd))
  clear hrb hr6 hd
  go_wp2
  refine bodyPost_ret (v := .agg #[.bool s6, .slice A6 n6 c6, .slice B6 m6 d6]) ?_ rfl ?_
  · simp [results, Tryz.results66, go_sem, x0, x1, x2, hlt]
  have hr := HU.out.1
  obtain ⟨rn, rl, e, r1, r2⟩ := hr
  injection e with e
  simp only [Array.mk.injEq, List.cons.injEq, Value.bool.injEq, and_true] at e
  obtain ⟨rfl, rfl, rfl⟩ := e
  exact ⟨_, rfl, ⟨_, _, rfl, r1.set3 x0 x1 x2, r2.set3 x0 x1 x2⟩, below_set3 HU.out.2 (by omega) _ _ _⟩
set_option maxRecDepth 100000 in
theorem Speed_c (w : World) (v : Value) (m : Nat) (st : Nat) (n : Int) (R : List Rat) (Ws : List (List Rat)) (hv : ShopV w v R Ws 3000) (hs : ShopG m R Ws) (hst : st < m) (hn0 : 0 ≤ n) (hn : n ≤ 12) :
    Calls Tryz.prog 17 #[v, .int .i64 (st : Int), .int .i64 n] w (Ret (okR w (spQ m R Ws st n) 3000)) := by
  have hmf : ∀ (fn : Fn) (first cap : Array Value) (w : World), (Instr.makeFunc fn first cap).run Tryz.prog w = .ok (.func fn first cap) w := fun _ _ _ _ => rfl
  have HV := hide hv
  obtain ⟨va, vb, rfl, hR, hW⟩ := hv
  obtain ⟨A1, c1, rfl, -, -, -⟩ := id hR
  obtain ⟨A2, c2, rfl, -, -, -⟩ := id hW
  generalize hq : spQ m R Ws st n = q
  have hq2 : ∀ w, ratR w q 3000 = ratR w (spQ m R Ws st n) 3000 := fun w => by rw [hq]
  have HQ2 := hide hq2
  clear hq hq2
  obtain ⟨W, hWW⟩ : ∃ W, W = (((w.alloc (.cells #[.slice A1 R.length c1, .slice A2 Ws.length c2] 33)).alloc (.cells #[.int .i64 (st : Int)] 3)).alloc (.cells #[.int .i64 n] 3)).alloc (.cells #[.bool false, .slice none 0 0, .slice none 0 0] 43) := ⟨_, rfl⟩
  have hb0 : Below w.heap.size w W := by rw [hWW]; exact (below_al (below_al (below_al (below_al (Below.refl _ _) _) _) _) _)
  have hbst : W.heap[w.heap.size + 1]? = some (.cells #[.int .i64 (st : Int)] 3 (0, 0)) := by
    have h1 := at_later (at_new (w.alloc (.cells #[.slice A1 R.length c1, .slice A2 Ws.length c2] 33)) (.cells #[.int .i64 (st : Int)] 3)) (below_al (below_al (Below.refl _ _) (.cells #[.int .i64 n] 3)) (.cells #[.bool false, .slice none 0 0, .slice none 0 0] 43))
    rw [hWW]; simpa using h1
  have hbn : W.heap[w.heap.size + 2]? = some (.cells #[.int .i64 n] 3 (0, 0)) := by
    have h1 := at_later (at_new ((w.alloc (.cells #[.slice A1 R.length c1, .slice A2 Ws.length c2] 33)).alloc (.cells #[.int .i64 (st : Int)] 3)) (.cells #[.int .i64 n] 3)) (below_al (Below.refl _ _) (.cells #[.bool false, .slice none 0 0, .slice none 0 0] 43))
    rw [hWW]; simpa using h1
  have hbr : W.heap[w.heap.size + 3]? = some (.cells #[.bool false, .slice none 0 0, .slice none 0 0] 43) := by
    have h1 := at_later (at_new (((w.alloc (.cells #[.slice A1 R.length c1, .slice A2 Ws.length c2] 33)).alloc (.cells #[.int .i64 (st : Int)] 3)).alloc (.cells #[.int .i64 n] 3)) (.cells #[.bool false, .slice none 0 0, .slice none 0 0] 43)) (Below.refl _ _)
    rw [hWW]; simpa using h1
  have hbs : W.heap[w.heap.size]? = some (.cells #[.slice A1 R.length c1, .slice A2 Ws.length c2] 33) := by
    have h1 := at_later (at_new w (.cells #[.slice A1 R.length c1, .slice A2 Ws.length c2] 33)) (below_al (below_al (below_al (Below.refl _ _) (.cells #[.int .i64 (st : Int)] 3)) (.cells #[.int .i64 n] 3)) (.cells #[.bool false, .slice none 0 0, .slice none 0 0] 43))
    rw [hWW]; simpa using h1
  obtain ⟨u0, u1, -, -⟩ := two_cells hbs
  clear hbs
  have H0 := hide (And.intro hb0 (And.intro hbst (And.intro hbn hbr)))
  obtain ⟨y0, -⟩ := one_cell hbst
  obtain ⟨y1, -⟩ := one_cell hbn
  have HL := hide hWW
  have ha := HV.out.below hb0
  have HA := hide ha
  clear hR hW hb0 hWW ha hbst hbn hbr
  go_enter Tryz.func17, Tryz.ntmps17
  go_upto_region 1 with fail
  rw [← HL.out]
  go_wp2_with fail
  refine (at_c W _ 66 m st n #[.pointer (some ⟨w.heap.size + 1, 0, none⟩), .pointer (some ⟨w.heap.size + 2, 0, none⟩)] q R Ws HA.out hs hst hn0 hn (fun _ _ => by simp [go_sem]) (fun gx w' hb hx => by rw [HQ2.out]; exact Speed1_c w' _ _ gx m st n  R Ws hs hx (at_later H0.out.2.1 hb) (at_later H0.out.2.2.1 hb) hst hn0 hn)).mono ?_
  rintro e w4 ⟨_, rfl, r, rfl, hr6, hd⟩
  obtain ⟨s6, A6, n6, c6, B6, m6, d6, rfl⟩ := hr6.shape
  have hrb := at_later H0.out.2.2.2 hd
  clear y0 y1 u0 u1
  obtain ⟨x0, x1, x2⟩ := three_cells hrb
  obtain ⟨f0, f1, f2⟩ := three_frozen hrb
  have hlt := lt_of_block hrb
  have HU := hide (And.intro hr6 (below_next H0.out.1 hd))
  clear hrb hr6 hd
  go_wp2
  refine bodyPost_ret (v := .tuple #[.agg #[.bool s6, .slice A6 n6 c6, .slice B6 m6 d6], .int .i64 0]) ?_ rfl ?_
  · simp [results, Tryz.results17, go_sem, x0, x1, x2, hlt]
  have hr := HU.out.1
  obtain ⟨rn, rl, e, r1, r2⟩ := hr
  injection e with e
  simp only [Array.mk.injEq, List.cons.injEq, Value.bool.injEq, and_true] at e
  obtain ⟨rfl, rfl, rfl⟩ := e
  exact ⟨_, rfl, _, rfl, ⟨_, _, rfl, r1.set3 x0 x1 x2, r2.set3 x0 x1 x2⟩, below_set3 HU.out.2 (by omega) _ _ _⟩
end Go.Proofs.YtpoahodnakhmiaaGreat
namespace Go.Proofs.YtpoahodnakhmiaaGreat
set_option linter.unusedVariables false
set_option linter.unusedSimpArgs false
open Go.RowKit
/-- a state -/
def stV (xs : List Int) : Value := .agg (mk .i64 xs)
theorem eight {xs : List Int} (h : xs.length = 8) : ∃ x0 x1 x2 x3 x4 x5 x6 x7, xs = [x0, x1, x2, x3, x4, x5, x6, x7] := by
  match xs, h with
  | [a, b, c, d, e, f, g, i], _ => exact ⟨a, b, c, d, e, f, g, i, rfl⟩
set_option maxRecDepth 100000 in
theorem jobs_c (w : World) (xs : List Int) (h8 : xs.length = 8) (h : ∀ x ∈ xs, 0 ≤ x ∧ x ≤ 100) :
    Calls Tryz.prog 87 #[stV xs] w (Ret (fun v w' => v = .int .i64 xs.sum ∧ Below w.heap.size w w')) := by
  obtain ⟨x0, x1, x2, x3, x4, x5, x6, x7, rfl⟩ := eight h8
  obtain ⟨l0, u0⟩ := h x0 (by simp)
  obtain ⟨l1, u1⟩ := h x1 (by simp)
  obtain ⟨l2, u2⟩ := h x2 (by simp)
  obtain ⟨l3, u3⟩ := h x3 (by simp)
  obtain ⟨l4, u4⟩ := h x4 (by simp)
  obtain ⟨l5, u5⟩ := h x5 (by simp)
  obtain ⟨l6, u6⟩ := h x6 (by simp)
  obtain ⟨l7, u7⟩ := h x7 (by simp)
  clear h h8
  rw [show stV [x0, x1, x2, x3, x4, x5, x6, x7] = .agg #[.int .i64 x0, .int .i64 x1, .int .i64 x2, .int .i64 x3, .int .i64 x4, .int .i64 x5, .int .i64 x6, .int .i64 x7] from rfl]
  obtain ⟨W, hW⟩ : ∃ W, W = w.alloc (.cells #[.int .i64 x0, .int .i64 x1, .int .i64 x2, .int .i64 x3, .int .i64 x4, .int .i64 x5, .int .i64 x6, .int .i64 x7] 116) := ⟨_, rfl⟩
  have hb0 : Below w.heap.size w W := by rw [hW]; exact below_al (Below.refl _ _) _
  have hbx : Blk W w.heap.size 116 .i64 [x0, x1, x2, x3, x4, x5, x6, x7] := by rw [hW]; exact Blk.new w _ _ [x0, x1, x2, x3, x4, x5, x6, x7]
  have y0 : W.cell? ⟨w.heap.size, 0, none⟩ = some (.int .i64 x0) := hbx.cell (j := 0) (by simp)
  have y1 : W.cell? ⟨w.heap.size, 1, none⟩ = some (.int .i64 x1) := hbx.cell (j := 1) (by simp)
  have y2 : W.cell? ⟨w.heap.size, 2, none⟩ = some (.int .i64 x2) := hbx.cell (j := 2) (by simp)
  have y3 : W.cell? ⟨w.heap.size, 3, none⟩ = some (.int .i64 x3) := hbx.cell (j := 3) (by simp)
  have y4 : W.cell? ⟨w.heap.size, 4, none⟩ = some (.int .i64 x4) := hbx.cell (j := 4) (by simp)
  have y5 : W.cell? ⟨w.heap.size, 5, none⟩ = some (.int .i64 x5) := hbx.cell (j := 5) (by simp)
  have y6 : W.cell? ⟨w.heap.size, 6, none⟩ = some (.int .i64 x6) := hbx.cell (j := 6) (by simp)
  have y7 : W.cell? ⟨w.heap.size, 7, none⟩ = some (.int .i64 x7) := hbx.cell (j := 7) (by simp)
  have hix0 : ∀ w, (Instr.index 116 (.agg #[.int .i64 x0, .int .i64 x1, .int .i64 x2, .int .i64 x3, .int .i64 x4, .int .i64 x5, .int .i64 x6, .int .i64 x7]) (.int .i64 0)).run Tryz.prog w = .ok (.int .i64 x0) w := fun w => by simp [Instr.index, run_underlying Tryz.underlying116, asIntOf, go_sem]
  have hix1 : ∀ w, (Instr.index 116 (.agg #[.int .i64 x0, .int .i64 x1, .int .i64 x2, .int .i64 x3, .int .i64 x4, .int .i64 x5, .int .i64 x6, .int .i64 x7]) (.int .i64 1)).run Tryz.prog w = .ok (.int .i64 x1) w := fun w => by simp [Instr.index, run_underlying Tryz.underlying116, asIntOf, go_sem]
  have hix2 : ∀ w, (Instr.index 116 (.agg #[.int .i64 x0, .int .i64 x1, .int .i64 x2, .int .i64 x3, .int .i64 x4, .int .i64 x5, .int .i64 x6, .int .i64 x7]) (.int .i64 2)).run Tryz.prog w = .ok (.int .i64 x2) w := fun w => by simp [Instr.index, run_underlying Tryz.underlying116, asIntOf, go_sem]
  have hix3 : ∀ w, (Instr.index 116 (.agg #[.int .i64 x0, .int .i64 x1, .int .i64 x2, .int .i64 x3, .int .i64 x4, .int .i64 x5, .int .i64 x6, .int .i64 x7]) (.int .i64 3)).run Tryz.prog w = .ok (.int .i64 x3) w := fun w => by simp [Instr.index, run_underlying Tryz.underlying116, asIntOf, go_sem]
  have hix4 : ∀ w, (Instr.index 116 (.agg #[.int .i64 x0, .int .i64 x1, .int .i64 x2, .int .i64 x3, .int .i64 x4, .int .i64 x5, .int .i64 x6, .int .i64 x7]) (.int .i64 4)).run Tryz.prog w = .ok (.int .i64 x4) w := fun w => by simp [Instr.index, run_underlying Tryz.underlying116, asIntOf, go_sem]
  have hix5 : ∀ w, (Instr.index 116 (.agg #[.int .i64 x0, .int .i64 x1, .int .i64 x2, .int .i64 x3, .int .i64 x4, .int .i64 x5, .int .i64 x6, .int .i64 x7]) (.int .i64 5)).run Tryz.prog w = .ok (.int .i64 x5) w := fun w => by simp [Instr.index, run_underlying Tryz.underlying116, asIntOf, go_sem]
  have hix6 : ∀ w, (Instr.index 116 (.agg #[.int .i64 x0, .int .i64 x1, .int .i64 x2, .int .i64 x3, .int .i64 x4, .int .i64 x5, .int .i64 x6, .int .i64 x7]) (.int .i64 6)).run Tryz.prog w = .ok (.int .i64 x6) w := fun w => by simp [Instr.index, run_underlying Tryz.underlying116, asIntOf, go_sem]
  have hix7 : ∀ w, (Instr.index 116 (.agg #[.int .i64 x0, .int .i64 x1, .int .i64 x2, .int .i64 x3, .int .i64 x4, .int .i64 x5, .int .i64 x6, .int .i64 x7]) (.int .i64 7)).run Tryz.prog w = .ok (.int .i64 x7) w := fun w => by simp [Instr.index, run_underlying Tryz.underlying116, asIntOf, go_sem]
  have H0 := hide hb0
  have HL := hide hW
  have hz := hbx.lt
  clear hb0 hW hbx
  go_enter Tryz.func87, Tryz.ntmps87
  go_upto_region 2 with fail
  rw [← HL.out]
  go_wp2_with fail
  go_loopw [7, 3] (fun s7 s3 wr => ∃ i : Int, (0 ≤ i ∧ i ≤ 8) ∧ s7 = .int .i64 i ∧ s3 = .int .i64 ([x0, x1, x2, x3, x4, x5, x6, x7].take i.toNat).sum ∧ Below w.heap.size w wr) (fun s7 _ _ => 8 - (intOf s7).toNat)
  case atStart => exact ⟨0, by omega, rfl, rfl, H0.out⟩
  case round =>
    obtain ⟨i, hi, rfl, rfl, hbel⟩ := hrel
    have HB := hide hbel
    clear hbel
    rcases (show i = 0 ∨ i = 1 ∨ i = 2 ∨ i = 3 ∨ i = 4 ∨ i = 5 ∨ i = 6 ∨ i = 7 ∨ i = 8 by omega) with rfl | rfl | rfl | rfl | rfl | rfl | rfl | rfl | rfl
    · rw [show ([x0, x1, x2, x3, x4, x5, x6, x7].take (0 : Int).toNat).sum = 0 by simp <;> omega]
      go_wp2
      case roundEnd => exact ⟨⟨1, by omega, rfl, by rw [show ([x0, x1, x2, x3, x4, x5, x6, x7].take (1 : Int).toNat).sum = x0 by simp <;> omega], HB.out⟩, by simp [intOf]⟩
    · rw [show ([x0, x1, x2, x3, x4, x5, x6, x7].take (1 : Int).toNat).sum = x0 by simp <;> omega]
      go_wp2
      case roundEnd => exact ⟨⟨2, by omega, rfl, by rw [show ([x0, x1, x2, x3, x4, x5, x6, x7].take (2 : Int).toNat).sum = x0 + x1 by simp <;> omega], HB.out⟩, by simp [intOf]⟩
    · rw [show ([x0, x1, x2, x3, x4, x5, x6, x7].take (2 : Int).toNat).sum = x0 + x1 by simp <;> omega]
      go_wp2
      case roundEnd => exact ⟨⟨3, by omega, rfl, by rw [show ([x0, x1, x2, x3, x4, x5, x6, x7].take (3 : Int).toNat).sum = x0 + x1 + x2 by simp <;> omega], HB.out⟩, by simp [intOf]⟩
    · rw [show ([x0, x1, x2, x3, x4, x5, x6, x7].take (3 : Int).toNat).sum = x0 + x1 + x2 by simp <;> omega]
      go_wp2
      case roundEnd => exact ⟨⟨4, by omega, rfl, by rw [show ([x0, x1, x2, x3, x4, x5, x6, x7].take (4 : Int).toNat).sum = x0 + x1 + x2 + x3 by simp <;> omega], HB.out⟩, by simp [intOf]⟩
    · rw [show ([x0, x1, x2, x3, x4, x5, x6, x7].take (4 : Int).toNat).sum = x0 + x1 + x2 + x3 by simp <;> omega]
      go_wp2
      case roundEnd => exact ⟨⟨5, by omega, rfl, by rw [show ([x0, x1, x2, x3, x4, x5, x6, x7].take (5 : Int).toNat).sum = x0 + x1 + x2 + x3 + x4 by simp <;> omega], HB.out⟩, by simp [intOf]⟩
    · rw [show ([x0, x1, x2, x3, x4, x5, x6, x7].take (5 : Int).toNat).sum = x0 + x1 + x2 + x3 + x4 by simp <;> omega]
      go_wp2
      case roundEnd => exact ⟨⟨6, by omega, rfl, by rw [show ([x0, x1, x2, x3, x4, x5, x6, x7].take (6 : Int).toNat).sum = x0 + x1 + x2 + x3 + x4 + x5 by simp <;> omega], HB.out⟩, by simp [intOf]⟩
    · rw [show ([x0, x1, x2, x3, x4, x5, x6, x7].take (6 : Int).toNat).sum = x0 + x1 + x2 + x3 + x4 + x5 by simp <;> omega]
      go_wp2
      case roundEnd => exact ⟨⟨7, by omega, rfl, by rw [show ([x0, x1, x2, x3, x4, x5, x6, x7].take (7 : Int).toNat).sum = x0 + x1 + x2 + x3 + x4 + x5 + x6 by simp <;> omega], HB.out⟩, by simp [intOf]⟩
    · rw [show ([x0, x1, x2, x3, x4, x5, x6, x7].take (7 : Int).toNat).sum = x0 + x1 + x2 + x3 + x4 + x5 + x6 by simp <;> omega]
      go_wp2
      case roundEnd => exact ⟨⟨8, by omega, rfl, by rw [show ([x0, x1, x2, x3, x4, x5, x6, x7].take (8 : Int).toNat).sum = x0 + x1 + x2 + x3 + x4 + x5 + x6 + x7 by simp <;> omega], HB.out⟩, by simp [intOf]⟩
    · rw [show ([x0, x1, x2, x3, x4, x5, x6, x7].take (8 : Int).toNat).sum = x0 + x1 + x2 + x3 + x4 + x5 + x6 + x7 by simp <;> omega]
      go_wp2
      refine bodyPost_ret (v := .int .i64 [x0, x1, x2, x3, x4, x5, x6, x7].sum) ?_ rfl ⟨_, rfl, rfl, HB.out⟩
      have e : [x0, x1, x2, x3, x4, x5, x6, x7].sum = x0 + x1 + x2 + x3 + x4 + x5 + x6 + x7 := by simp <;> omega
      rw [e]
      simp [results, Tryz.results87, go_sem]
end Go.Proofs.YtpoahodnakhmiaaGreat
