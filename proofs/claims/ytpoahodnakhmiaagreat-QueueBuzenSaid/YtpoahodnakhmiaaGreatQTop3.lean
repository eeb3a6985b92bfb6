/- Walks: the speed of a station, and the chance that it has at least so many jobs, of a shop that is one. -/
import Derived.Test.YtpoahodnakhmiaaGreatQTop2
namespace Go.Proofs.YtpoahodnakhmiaaGreat
set_option linter.unusedVariables false
set_option linter.unusedSimpArgs false
open Go.RowKit
/-- the speed of a station with n jobs -/
def spQ (m : Nat) (R : List Rat) (Ws : List (List Rat)) (st : Nat) (n : Int) : Rat := R.getD st 0 * atQ (ldF m R Ws) m st 1 n
set_option maxRecDepth 100000 in
theorem Speed1_c (w : World) (bst bn gx m : Nat) (st : Nat) (n : Int) (R : List Rat) (Ws : List (List Rat)) (hs : ShopG m R Ws) (hx : OpenG w gx m R Ws) (hbst : w.heap[bst]? = some (.cells #[.int .i64 (st : Int)] 3 (0, 0))) (hbn : w.heap[bn]? = some (.cells #[.int .i64 n] 3 (0, 0))) (hst : st < m) (hn0 : 0 ≤ n) (hn : n ≤ 12) :
    Calls Tryz.prog 66 (#[.pointer (some ⟨gx, 0, none⟩)] ++ #[.pointer (some ⟨bst, 0, none⟩), .pointer (some ⟨bn, 0, none⟩)]) w (Ret (ratR w (spQ m R Ws st n) 3000)) := by
  generalize hq : spQ m R Ws st n = q
  obtain ⟨W, hW⟩ : ∃ W, W = w.alloc (.cells #[.bool false, .slice none 0 0, .slice none 0 0] 43) := ⟨_, rfl⟩
  have hb0 : Below w.heap.size w W := by rw [hW]; exact below_al (Below.refl _ _) _
  have hbr : W.heap[w.heap.size]? = some (.cells #[.bool false, .slice none 0 0, .slice none 0 0] 43) := by rw [hW]; exact at_new _ _
  obtain ⟨z0, -⟩ := one_cell hbst
  obtain ⟨y0, -⟩ := one_cell (at_later hbst hb0)
  have l0 := lt_of_block hbst
  obtain ⟨z1, -⟩ := one_cell hbn
  obtain ⟨y1, -⟩ := one_cell (at_later hbn hb0)
  have l1 := lt_of_block hbn
  have H0 := hide (And.intro hb0 (And.intro hbr (And.intro (OpenG.below hx hb0) hq)))
  have HL := hide hW
  have hlen := hide hs.len
  have h8 := hs.ld.s8
  clear hx hb0 hbr hW hq hbst hbn
  rw [show #[Value.pointer (some ⟨gx, 0, none⟩)] ++ #[.pointer (some ⟨bst, 0, none⟩), .pointer (some ⟨bn, 0, none⟩)] = #[Value.pointer (some ⟨gx, 0, none⟩), .pointer (some ⟨bst, 0, none⟩), .pointer (some ⟨bn, 0, none⟩)] from rfl]
  go_enter Tryz.func66, Tryz.ntmps66
  go_upto_region 1 with fail
  rw [← HL.out]
  go_wp2_with fail
  refine (speed_c _ gx st 3000 n R _ (ldV m R Ws) Ws H0.out.2.2.1 hs.ld' (by rw [hs.ok.shop.rl, hs.len]) (hs.rf st hst) (by rw [hs.len]; exact hst) hn0 hn (by omega) (by omega)).mono ?_
  rintro e w1 ⟨v6, rfl, hr6, hd⟩
  replace hr6 : RatV w1 v6 q 3000 := by rw [← H0.out.2.2.2]; rw [hs.len] at hr6; exact hr6
  obtain ⟨s6, A6, n6, c6, B6, m6, d6, rfl⟩ := hr6.shape
  have hrb := at_later H0.out.2.1 hd
  clear z0 y0 z1 y1
  obtain ⟨x0, x1, x2⟩ := three_cells hrb
  obtain ⟨f0, f1, f2⟩ := three_frozen hrb
  have hlt := lt_of_block hrb
  have HU := hide (And.intro hr6 (below_next H0.out.1 hd))
  clear hrb hr6 hd
  go_wp2
  refine bodyPost_ret (v := .agg #[.bool s6, .slice A6 n6 c6, .slice B6 m6 d6]) ?_ rfl ?_
  · simp [results, Tryz.results66, go_sem, x0, x1, x2, hlt]
  have hr := HU.out.1
  obtain ⟨rn, rl, e, r1, r2⟩ := hr
  injection e with e
  simp only [Array.mk.injEq, List.cons.injEq, Value.bool.injEq, and_true] at e
  obtain ⟨rfl, rfl, rfl⟩ := e
  exact ⟨_, rfl, ⟨_, _, rfl, r1.set3 x0 x1 x2, r2.set3 x0 x1 x2⟩, below_set3 HU.out.2 (by omega) _ _ _⟩
set_option maxRecDepth 100000 in
theorem Speed_c (w : World) (v : Value) (m : Nat) (st : Nat) (n : Int) (R : List Rat) (Ws : List (List Rat)) (hv : ShopV w v R Ws 3000) (hs : ShopG m R Ws) (hst : st < m) (hn0 : 0 ≤ n) (hn : n ≤ 12) :
    Calls Tryz.prog 17 #[v, .int .i64 (st : Int), .int .i64 n] w (Ret (okR w (spQ m R Ws st n) 3000)) := by
  have hmf : ∀ (fn : Fn) (first cap : Array Value) (w : World), (Instr.makeFunc fn first cap).run Tryz.prog w = .ok (.func fn first cap) w := fun _ _ _ _ => rfl
  have HV := hide hv
  obtain ⟨va, vb, rfl, hR, hW⟩ := hv
  obtain ⟨A1, c1, rfl, -, -, -⟩ := id hR
  obtain ⟨A2, c2, rfl, -, -, -⟩ := id hW
  generalize hq : spQ m R Ws st n = q
  have hq2 : ∀ w, ratR w q 3000 = ratR w (spQ m R Ws st n) 3000 := fun w => by rw [hq]
  have HQ2 := hide hq2
  clear hq hq2
  obtain ⟨W, hWW⟩ : ∃ W, W = (((w.alloc (.cells #[.slice A1 R.length c1, .slice A2 Ws.length c2] 33)).alloc (.cells #[.int .i64 (st : Int)] 3)).alloc (.cells #[.int .i64 n] 3)).alloc (.cells #[.bool false, .slice none 0 0, .slice none 0 0] 43) := ⟨_, rfl⟩
  have hb0 : Below w.heap.size w W := by rw [hWW]; exact (below_al (below_al (below_al (below_al (Below.refl _ _) _) _) _) _)
  have hbst : W.heap[w.heap.size + 1]? = some (.cells #[.int .i64 (st : Int)] 3 (0, 0)) := by
    have h1 := at_later (at_new (w.alloc (.cells #[.slice A1 R.length c1, .slice A2 Ws.length c2] 33)) (.cells #[.int .i64 (st : Int)] 3)) (below_al (below_al (Below.refl _ _) (.cells #[.int .i64 n] 3)) (.cells #[.bool false, .slice none 0 0, .slice none 0 0] 43))
    rw [hWW]; simpa using h1
  have hbn : W.heap[w.heap.size + 2]? = some (.cells #[.int .i64 n] 3 (0, 0)) := by
    have h1 := at_later (at_new ((w.alloc (.cells #[.slice A1 R.length c1, .slice A2 Ws.length c2] 33)).alloc (.cells #[.int .i64 (st : Int)] 3)) (.cells #[.int .i64 n] 3)) (below_al (Below.refl _ _) (.cells #[.bool false, .slice none 0 0, .slice none 0 0] 43))
    rw [hWW]; simpa using h1
  have hbr : W.heap[w.heap.size + 3]? = some (.cells #[.bool false, .slice none 0 0, .slice none 0 0] 43) := by
    have h1 := at_later (at_new (((w.alloc (.cells #[.slice A1 R.length c1, .slice A2 Ws.length c2] 33)).alloc (.cells #[.int .i64 (st : Int)] 3)).alloc (.cells #[.int .i64 n] 3)) (.cells #[.bool false, .slice none 0 0, .slice none 0 0] 43)) (Below.refl _ _)
    rw [hWW]; simpa using h1
  have hbs : W.heap[w.heap.size]? = some (.cells #[.slice A1 R.length c1, .slice A2 Ws.length c2] 33) := by
    have h1 := at_later (at_new w (.cells #[.slice A1 R.length c1, .slice A2 Ws.length c2] 33)) (below_al (below_al (below_al (Below.refl _ _) (.cells #[.int .i64 (st : Int)] 3)) (.cells #[.int .i64 n] 3)) (.cells #[.bool false, .slice none 0 0, .slice none 0 0] 43))
    rw [hWW]; simpa using h1
  obtain ⟨u0, u1, -, -⟩ := two_cells hbs
  clear hbs
  have H0 := hide (And.intro hb0 (And.intro hbst (And.intro hbn hbr)))
  obtain ⟨y0, -⟩ := one_cell hbst
  obtain ⟨y1, -⟩ := one_cell hbn
  have HL := hide hWW
  have ha := HV.out.below hb0
  have HA := hide ha
  clear hR hW hb0 hWW ha hbst hbn hbr
  go_enter Tryz.func17, Tryz.ntmps17
  go_upto_region 1 with fail
  rw [← HL.out]
  go_wp2_with fail
  refine (at_c W _ 66 m st n #[.pointer (some ⟨w.heap.size + 1, 0, none⟩), .pointer (some ⟨w.heap.size + 2, 0, none⟩)] q R Ws HA.out hs hst hn0 hn (fun _ _ => by simp [go_sem]) (fun gx w' hb hx => by rw [HQ2.out]; exact Speed1_c w' _ _ gx m st n  R Ws hs hx (at_later H0.out.2.1 hb) (at_later H0.out.2.2.1 hb) hst hn0 hn)).mono ?_
  rintro e w4 ⟨_, rfl, r, rfl, hr6, hd⟩
  obtain ⟨s6, A6, n6, c6, B6, m6, d6, rfl⟩ := hr6.shape
  have hrb := at_later H0.out.2.2.2 hd
  clear y0 y1 u0 u1
  obtain ⟨x0, x1, x2⟩ := three_cells hrb
  obtain ⟨f0, f1, f2⟩ := three_frozen hrb
  have hlt := lt_of_block hrb
  have HU := hide (And.intro hr6 (below_next H0.out.1 hd))
  clear hrb hr6 hd
  go_wp2
  refine bodyPost_ret (v := .tuple #[.agg #[.bool s6, .slice A6 n6 c6, .slice B6 m6 d6], .int .i64 0]) ?_ rfl ?_
  · simp [results, Tryz.results17, go_sem, x0, x1, x2, hlt]
  have hr := HU.out.1
  obtain ⟨rn, rl, e, r1, r2⟩ := hr
  injection e with e
  simp only [Array.mk.injEq, List.cons.injEq, Value.bool.injEq, and_true] at e
  obtain ⟨rfl, rfl, rfl⟩ := e
  exact ⟨_, rfl, _, rfl, ⟨_, _, rfl, r1.set3 x0 x1 x2, r2.set3 x0 x1 x2⟩, below_set3 HU.out.2 (by omega) _ _ _⟩
set_option maxRecDepth 100000 in
theorem AtLeast1_c (w : World) (bst bk bn gx m : Nat) (st : Nat) (n : Int) (k : Int) (R : List Rat) (Ws : List (List Rat)) (hs : ShopG m R Ws) (hx : OpenG w gx m R Ws) (hbst : w.heap[bst]? = some (.cells #[.int .i64 (st : Int)] 3 (0, 0))) (hbk : w.heap[bk]? = some (.cells #[.int .i64 k] 3 (0, 0))) (hbn : w.heap[bn]? = some (.cells #[.int .i64 n] 3 (0, 0))) (hst : st < m) (hn0 : 0 ≤ n) (hn : n ≤ 12) (hk1 : -9223372036854775808 ≤ k) (hk2 : k < 9223372036854775808) :
    Calls Tryz.prog 68 (#[.pointer (some ⟨gx, 0, none⟩)] ++ #[.pointer (some ⟨bst, 0, none⟩), .pointer (some ⟨bk, 0, none⟩), .pointer (some ⟨bn, 0, none⟩)]) w (Ret (ratR w (atQ (ldF m R Ws) m st k n) 3000)) := by
  generalize hq : atQ (ldF m R Ws) m st k n = q
  obtain ⟨W, hW⟩ : ∃ W, W = w.alloc (.cells #[.bool false, .slice none 0 0, .slice none 0 0] 43) := ⟨_, rfl⟩
  have hb0 : Below w.heap.size w W := by rw [hW]; exact below_al (Below.refl _ _) _
  have hbr : W.heap[w.heap.size]? = some (.cells #[.bool false, .slice none 0 0, .slice none 0 0] 43) := by rw [hW]; exact at_new _ _
  obtain ⟨z0, -⟩ := one_cell hbst
  obtain ⟨y0, -⟩ := one_cell (at_later hbst hb0)
  have l0 := lt_of_block hbst
  obtain ⟨z1, -⟩ := one_cell hbk
  obtain ⟨y1, -⟩ := one_cell (at_later hbk hb0)
  have l1 := lt_of_block hbk
  obtain ⟨z2, -⟩ := one_cell hbn
  obtain ⟨y2, -⟩ := one_cell (at_later hbn hb0)
  have l2 := lt_of_block hbn
  have H0 := hide (And.intro hb0 (And.intro hbr (And.intro (OpenG.below hx hb0) hq)))
  have HL := hide hW
  have hlen := hide hs.len
  have h8 := hs.ld.s8
  clear hx hb0 hbr hW hq hbst hbk hbn
  rw [show #[Value.pointer (some ⟨gx, 0, none⟩)] ++ #[.pointer (some ⟨bst, 0, none⟩), .pointer (some ⟨bk, 0, none⟩), .pointer (some ⟨bn, 0, none⟩)] = #[Value.pointer (some ⟨gx, 0, none⟩), .pointer (some ⟨bst, 0, none⟩), .pointer (some ⟨bk, 0, none⟩), .pointer (some ⟨bn, 0, none⟩)] from rfl]
  go_enter Tryz.func68, Tryz.ntmps68
  go_upto_region 1 with fail
  rw [← HL.out]
  go_wp2_with fail
  refine (atLeast_c _ gx st 3000 k n R _ (ldV m R Ws) Ws H0.out.2.2.1 hs.ld' (by rw [hs.len]; exact hst) hn0 hn hk1 hk2 (by omega) (by omega)).mono ?_
  rintro e w1 ⟨v6, rfl, hr6, hd⟩
  replace hr6 : RatV w1 v6 q 3000 := by rw [← H0.out.2.2.2]; rw [hs.len] at hr6; exact hr6
  obtain ⟨s6, A6, n6, c6, B6, m6, d6, rfl⟩ := hr6.shape
  have hrb := at_later H0.out.2.1 hd
  clear z0 y0 z1 y1 z2 y2
  obtain ⟨x0, x1, x2⟩ := three_cells hrb
  obtain ⟨f0, f1, f2⟩ := three_frozen hrb
  have hlt := lt_of_block hrb
  have HU := hide (And.intro hr6 (below_next H0.out.1 hd))
  clear hrb hr6 hd
  go_wp2
  refine bodyPost_ret (v := .agg #[.bool s6, .slice A6 n6 c6, .slice B6 m6 d6]) ?_ rfl ?_
  · simp [results, Tryz.results68, go_sem, x0, x1, x2, hlt]
  have hr := HU.out.1
  obtain ⟨rn, rl, e, r1, r2⟩ := hr
  injection e with e
  simp only [Array.mk.injEq, List.cons.injEq, Value.bool.injEq, and_true] at e
  obtain ⟨rfl, rfl, rfl⟩ := e
  exact ⟨_, rfl, ⟨_, _, rfl, r1.set3 x0 x1 x2, r2.set3 x0 x1 x2⟩, below_set3 HU.out.2 (by omega) _ _ _⟩
set_option maxRecDepth 100000 in
theorem AtLeast_c (w : World) (v : Value) (m : Nat) (st : Nat) (n : Int) (k : Int) (R : List Rat) (Ws : List (List Rat)) (hv : ShopV w v R Ws 3000) (hs : ShopG m R Ws) (hst : st < m) (hn0 : 0 ≤ n) (hn : n ≤ 12) (hk1 : -9223372036854775808 ≤ k) (hk2 : k < 9223372036854775808) :
    Calls Tryz.prog 18 #[v, .int .i64 (st : Int), .int .i64 k, .int .i64 n] w (Ret (okR w (atQ (ldF m R Ws) m st k n) 3000)) := by
  have hmf : ∀ (fn : Fn) (first cap : Array Value) (w : World), (Instr.makeFunc fn first cap).run Tryz.prog w = .ok (.func fn first cap) w := fun _ _ _ _ => rfl
  have HV := hide hv
  obtain ⟨va, vb, rfl, hR, hW⟩ := hv
  obtain ⟨A1, c1, rfl, -, -, -⟩ := id hR
  obtain ⟨A2, c2, rfl, -, -, -⟩ := id hW
  generalize hq : atQ (ldF m R Ws) m st k n = q
  have hq2 : ∀ w, ratR w q 3000 = ratR w (atQ (ldF m R Ws) m st k n) 3000 := fun w => by rw [hq]
  have HQ2 := hide hq2
  clear hq hq2
  obtain ⟨W, hWW⟩ : ∃ W, W = ((((w.alloc (.cells #[.slice A1 R.length c1, .slice A2 Ws.length c2] 33)).alloc (.cells #[.int .i64 (st : Int)] 3)).alloc (.cells #[.int .i64 k] 3)).alloc (.cells #[.int .i64 n] 3)).alloc (.cells #[.bool false, .slice none 0 0, .slice none 0 0] 43) := ⟨_, rfl⟩
  have hb0 : Below w.heap.size w W := by rw [hWW]; exact (below_al (below_al (below_al (below_al (below_al (Below.refl _ _) _) _) _) _) _)
  have hbst : W.heap[w.heap.size + 1]? = some (.cells #[.int .i64 (st : Int)] 3 (0, 0)) := by
    have h1 := at_later (at_new (w.alloc (.cells #[.slice A1 R.length c1, .slice A2 Ws.length c2] 33)) (.cells #[.int .i64 (st : Int)] 3)) (below_al (below_al (below_al (Below.refl _ _) (.cells #[.int .i64 k] 3)) (.cells #[.int .i64 n] 3)) (.cells #[.bool false, .slice none 0 0, .slice none 0 0] 43))
    rw [hWW]; simpa using h1
  have hbk : W.heap[w.heap.size + 2]? = some (.cells #[.int .i64 k] 3 (0, 0)) := by
    have h1 := at_later (at_new ((w.alloc (.cells #[.slice A1 R.length c1, .slice A2 Ws.length c2] 33)).alloc (.cells #[.int .i64 (st : Int)] 3)) (.cells #[.int .i64 k] 3)) (below_al (below_al (Below.refl _ _) (.cells #[.int .i64 n] 3)) (.cells #[.bool false, .slice none 0 0, .slice none 0 0] 43))
    rw [hWW]; simpa using h1
  have hbn : W.heap[w.heap.size + 3]? = some (.cells #[.int .i64 n] 3 (0, 0)) := by
    have h1 := at_later (at_new (((w.alloc (.cells #[.slice A1 R.length c1, .slice A2 Ws.length c2] 33)).alloc (.cells #[.int .i64 (st : Int)] 3)).alloc (.cells #[.int .i64 k] 3)) (.cells #[.int .i64 n] 3)) (below_al (Below.refl _ _) (.cells #[.bool false, .slice none 0 0, .slice none 0 0] 43))
    rw [hWW]; simpa using h1
  have hbr : W.heap[w.heap.size + 4]? = some (.cells #[.bool false, .slice none 0 0, .slice none 0 0] 43) := by
    have h1 := at_later (at_new ((((w.alloc (.cells #[.slice A1 R.length c1, .slice A2 Ws.length c2] 33)).alloc (.cells #[.int .i64 (st : Int)] 3)).alloc (.cells #[.int .i64 k] 3)).alloc (.cells #[.int .i64 n] 3)) (.cells #[.bool false, .slice none 0 0, .slice none 0 0] 43)) (Below.refl _ _)
    rw [hWW]; simpa using h1
  have hbs : W.heap[w.heap.size]? = some (.cells #[.slice A1 R.length c1, .slice A2 Ws.length c2] 33) := by
    have h1 := at_later (at_new w (.cells #[.slice A1 R.length c1, .slice A2 Ws.length c2] 33)) (below_al (below_al (below_al (below_al (Below.refl _ _) (.cells #[.int .i64 (st : Int)] 3)) (.cells #[.int .i64 k] 3)) (.cells #[.int .i64 n] 3)) (.cells #[.bool false, .slice none 0 0, .slice none 0 0] 43))
    rw [hWW]; simpa using h1
  obtain ⟨u0, u1, -, -⟩ := two_cells hbs
  clear hbs
  have H0 := hide (And.intro hb0 (And.intro hbst (And.intro hbk (And.intro hbn hbr))))
  obtain ⟨y0, -⟩ := one_cell hbst
  obtain ⟨y1, -⟩ := one_cell hbk
  obtain ⟨y2, -⟩ := one_cell hbn
  have HL := hide hWW
  have ha := HV.out.below hb0
  have HA := hide ha
  clear hR hW hb0 hWW ha hbst hbk hbn hbr
  go_enter Tryz.func18, Tryz.ntmps18
  go_upto_region 1 with fail
  rw [← HL.out]
  go_wp2_with fail
  refine (at_c W _ 68 m st n #[.pointer (some ⟨w.heap.size + 1, 0, none⟩), .pointer (some ⟨w.heap.size + 2, 0, none⟩), .pointer (some ⟨w.heap.size + 3, 0, none⟩)] q R Ws HA.out hs hst hn0 hn (fun _ _ => by simp [go_sem]) (fun gx w' hb hx => by rw [HQ2.out]; exact AtLeast1_c w' _ _ _ gx m st n k R Ws hs hx (at_later H0.out.2.1 hb) (at_later H0.out.2.2.1 hb) (at_later H0.out.2.2.2.1 hb) hst hn0 hn hk1 hk2)).mono ?_
  rintro e w4 ⟨_, rfl, r, rfl, hr6, hd⟩
  obtain ⟨s6, A6, n6, c6, B6, m6, d6, rfl⟩ := hr6.shape
  have hrb := at_later H0.out.2.2.2.2 hd
  clear y0 y1 y2 u0 u1
  obtain ⟨x0, x1, x2⟩ := three_cells hrb
  obtain ⟨f0, f1, f2⟩ := three_frozen hrb
  have hlt := lt_of_block hrb
  have HU := hide (And.intro hr6 (below_next H0.out.1 hd))
  clear hrb hr6 hd
  go_wp2
  refine bodyPost_ret (v := .tuple #[.agg #[.bool s6, .slice A6 n6 c6, .slice B6 m6 d6], .int .i64 0]) ?_ rfl ?_
  · simp [results, Tryz.results18, go_sem, x0, x1, x2, hlt]
  have hr := HU.out.1
  obtain ⟨rn, rl, e, r1, r2⟩ := hr
  injection e with e
  simp only [Array.mk.injEq, List.cons.injEq, Value.bool.injEq, and_true] at e
  obtain ⟨rfl, rfl, rfl⟩ := e
  exact ⟨_, rfl, _, rfl, ⟨_, _, rfl, r1.set3 x0 x1 x2, r2.set3 x0 x1 x2⟩, below_set3 HU.out.2 (by omega) _ _ _⟩
end Go.Proofs.YtpoahodnakhmiaaGreat
