/- Walks: AtLeast and Speed of a shop that is one. Walks: the speed of a station, and the chance that it has at least so many jobs, of a shop that is one. Walks: the length of a station. -/
import Derived.Test.YtpoahodnakhmiaaGreatQTop
namespace Go.Proofs.YtpoahodnakhmiaaGreat
set_option linter.unusedVariables false
set_option linter.unusedSimpArgs false
open Go.RowKit
set_option maxRecDepth 100000 in
theorem at_c (w : World) (v : Value) (k m st : Nat) (n : Int) (caps : Array Value) (q : Rat) (R : List Rat) (Ws : List (List Rat)) (hv : ShopV w v R Ws 3000) (hs : ShopG m R Ws) (hst : st < m) (hn0 : 0 ≤ n) (hn : n ≤ 12)
    (hk : ∀ args w, (callFunc k args).run Tryz.prog w = .ok (.enter k args) w) (hc : ∀ gx w', Below w.heap.size w w' → OpenG w' gx m R Ws → Calls Tryz.prog k (#[.pointer (some ⟨gx, 0, none⟩)] ++ caps) w' (Ret (ratR w' q 3000))) :
    Calls Tryz.prog 65 #[v, .int .i64 (st : Int), .int .i64 n, .func (.func k) #[] caps] w (Ret (okR w q 3000)) := by
  have hmf : ∀ (fn : Fn) (first cap : Array Value) (w : World), (Instr.makeFunc fn first cap).run Tryz.prog w = .ok (.func fn first cap) w := fun _ _ _ _ => rfl
  have HV := hide hv
  obtain ⟨va, vb, rfl, hR, hW⟩ := hv
  obtain ⟨A1, c1, rfl, -, -, -⟩ := id hR
  obtain ⟨A2, c2, rfl, -, -, -⟩ := id hW
  have hrl := hide hs.ok.shop.rl
  have h8 := hs.ok.shop.n8
  obtain ⟨W, hWW⟩ : ∃ W, W = ((w.alloc (.cells #[.slice A1 R.length c1, .slice A2 Ws.length c2] 33)).alloc (.cells #[.func (.func k) #[] caps] 106)).alloc (.cells #[.bool false, .slice none 0 0, .slice none 0 0] 43) := ⟨_, rfl⟩
  have hb0 : Below w.heap.size w W := by rw [hWW]; exact below_al (below_al (below_al (Below.refl _ _) _) _) _
  have hbs : W.heap[w.heap.size]? = some (.cells #[.slice A1 R.length c1, .slice A2 Ws.length c2] 33) := by
    rw [hWW]; exact at_later (at_new w _) (below_al (below_al (Below.refl _ _) _) _)
  have hbf : W.heap[w.heap.size + 1]? = some (.cells #[.func (.func k) #[] caps] 106 (0, 0)) := by
    have h1 := at_later (at_new (w.alloc (.cells #[.slice A1 R.length c1, .slice A2 Ws.length c2] 33)) (.cells #[.func (.func k) #[] caps] 106)) (below_al (Below.refl _ _) (.cells #[.bool false, .slice none 0 0, .slice none 0 0] 43))
    rw [hWW]; simpa using h1
  have hbr : W.heap[w.heap.size + 2]? = some (.cells #[.bool false, .slice none 0 0, .slice none 0 0] 43) := by rw [hWW]; exact at_new' _ (by simp)
  have H0 := hide (And.intro hb0 (And.intro hbs (And.intro hbf (And.intro hbr hc))))
  have HL := hide hWW
  clear hR hW hb0 hbs hbf hbr hWW hc
  go_enter Tryz.func65, Tryz.ntmps65
  go_wp2_with fail
  rw [← HL.out]
  refine (open_c _ _ R Ws 3000 m (HV.out.below H0.out.1) hs.ok).mono ?_
  rintro e w1 ⟨_, rfl, gx, rfl, hg, hx, hd1⟩
  obtain ⟨W2, hW2⟩ : ∃ W2, W2 = w1.alloc (.cells #[.pointer (some ⟨gx, 0, none⟩)] 95) := ⟨_, rfl⟩
  have hb2 : Below w1.heap.size w1 W2 := by rw [hW2]; exact below_al (Below.refl _ _) _
  have hbx : W2.heap[w1.heap.size]? = some (.cells #[.pointer (some ⟨gx, 0, none⟩)] 95 (0, 0)) := by rw [hW2]; exact at_new _ _
  have hd2 := below_next hd1 hb2
  obtain ⟨y0, y1, -, -⟩ := two_cells (at_later H0.out.2.1 hd2)
  have H2 := hide (And.intro hbx (And.intro (OpenG.below hx hb2) (And.intro hd2 (below_next H0.out.1 hd2))))
  have HL2 := hide hW2
  have i1 : ¬ ((R.length : Int) ≤ (st : Int)) := by have := hrl.out; omega
  have i2 : ¬ ((st : Int) < 0) := by omega
  have i3 : ((st : Int) < (R.length : Int)) := by have := hrl.out; omega
  clear hd1 hx hbx hb2 hd2 hW2
  go_upto_region 4 with fail
  rw [← HL2.out]
  go_wp2_with fail
  refine (isJobs_c _ n (by omega) (by omega)).mono ?_
  rintro e w3 ⟨_, rfl, rfl, rfl⟩
  go_wp2_with fail
  refine (tryR_c _ 123 #[.pointer (some ⟨w.heap.size + 1, 0, none⟩), .pointer (some ⟨w1.heap.size, 0, none⟩)] q 3000 (fun _ _ => by simp [go_sem]) (fun w' hb => at1_c w' _ _ gx k m caps q R Ws (OpenG.below H2.out.2.1 hb) (at_later (at_later H0.out.2.2.1 H2.out.2.2.1) hb) (at_later H2.out.1 hb) hk (fun w'' hb2 hx2 => H0.out.2.2.2.2 gx w'' (H2.out.2.2.2.trans ((below_next hb hb2).mono H2.out.2.2.2.size)) hx2))).mono ?_
  rintro e w4 ⟨_, rfl, r, rfl, hr6, hd⟩
  obtain ⟨s6, A6, n6, c6, B6, m6, d6, rfl⟩ := hr6.shape
  have hrb := at_later (at_later H0.out.2.2.2.1 H2.out.2.2.1) hd
  clear y0 y1
  obtain ⟨x0, x1, x2⟩ := three_cells hrb
  obtain ⟨f0, f1, f2⟩ := three_frozen hrb
  have hlt := lt_of_block hrb
  have HU := hide (And.intro hr6 (below_next H2.out.2.2.2 hd))
  clear hrb hr6 hd
  go_wp2
  refine bodyPost_ret (v := .tuple #[.agg #[.bool s6, .slice A6 n6 c6, .slice B6 m6 d6], .int .i64 0]) ?_ rfl ?_
  · simp [results, Tryz.results65, go_sem, x0, x1, x2, hlt]
  have hr := HU.out.1
  obtain ⟨rn, rl, e, r1, r2⟩ := hr
  injection e with e
  simp only [Array.mk.injEq, List.cons.injEq, Value.bool.injEq, and_true] at e
  obtain ⟨rfl, rfl, rfl⟩ := e
  exact ⟨_, rfl, _, rfl, ⟨_, _, rfl, r1.set3 x0 x1 x2, r2.set3 x0 x1 x2⟩, below_set3 HU.out.2 (by omega) _ _ _⟩
end Go.Proofs.YtpoahodnakhmiaaGreat
namespace Go.Proofs.YtpoahodnakhmiaaGreat
set_option linter.unusedVariables false
set_option linter.unusedSimpArgs false
open Go.RowKit
/-- the speed of a station with n jobs -/
def spQ (m : Nat) (R : List Rat) (Ws : List (List Rat)) (st : Nat) (n : Int) : Rat := R.getD st 0 * atQ (ldF m R Ws) m st 1 n
set_option maxRecDepth 100000 in
theorem Speed1_c (w : World) (bst bn gx m : Nat) (st : Nat) (n : Int) (R : List Rat) (Ws : List (List Rat)) (hs : ShopG m R Ws) (hx : OpenG w gx m R Ws) (hbst : w.heap[bst]? = some (.cells #[.int .i64 (st : Int)] 3 (0, 0))) (hbn : w.heap[bn]? = some (.cells #[.int .i64 n] 3 (0, 0))) (hst : st < m) (hn0 : 0 ≤ n) (hn : n ≤ 12) :
    Calls Tryz.prog 66 (#[.pointer (some ⟨gx, 0, none⟩)] ++ #[.pointer (some ⟨bst, 0, none⟩), .pointer (some ⟨bn, 0, none⟩)]) w (Ret (ratR w (spQ m R Ws st n) 3000)) := by
  generalize hq : spQ m R Ws st n = q
  obtain ⟨W, hW⟩ : ∃ W, W = w.alloc (.cells #[.bool false, .slice none 0 0, .slice none 0 0] 43) := ⟨_, rfl⟩
  have hb0 : Below w.heap.size w W := by rw [hW]; exact below_al (Below.refl _ _) _
  have hbr : W.heap[w.heap.size]? = some (.cells #[.bool false, .slice none 0 0, .slice none 0 0] 43) := by rw [hW]; exact at_new _ _
  obtain ⟨z0, -⟩ := one_cell hbst
  obtain ⟨y0, -⟩ := one_cell (at_later hbst hb0)
  have l0 := lt_of_block hbst
  obtain ⟨z1, -⟩ := one_cell hbn
  obtain ⟨y1, -⟩ := one_cell (at_later hbn hb0)
  have l1 := lt_of_block hbn
  have H0 := hide (And.intro hb0 (And.intro hbr (And.intro (OpenG.below hx hb0) hq)))
  have HL := hide hW
  have hlen := hide hs.len
  have h8 := hs.ld.s8
  clear hx hb0 hbr hW hq hbst hbn
  rw [show #[Value.pointer (some ⟨gx, 0, none⟩)] ++ #[.pointer (some ⟨bst, 0, none⟩), .pointer (some ⟨bn, 0, none⟩)] = #[Value.pointer (some ⟨gx, 0, none⟩), .pointer (some ⟨bst, 0, none⟩), .pointer (some ⟨bn, 0, none⟩)] from rfl]
  go_enter Tryz.func66, Tryz.ntmps66
  go_upto_region 1 with fail
  rw [← HL.out]
  go_wp2_with fail
  refine (speed_c _ gx st 3000 n R _ (ldV m R Ws) Ws H0.out.2.2.1 hs.ld' (by rw [hs.ok.shop.rl, hs.len]) (hs.rf st hst) (by rw [hs.len]; exact hst) hn0 hn (by omega) (by omega)).mono ?_
  rintro e w1 ⟨v6, rfl, hr6, hd⟩
  replace hr6 : RatV w1 v6 q 3000 := by rw [← H0.out.2.2.2]; rw [hs.len] at hr6; exact hr6
  obtain ⟨s6, A6, n6, c6, B6, m6, d6, rfl⟩ := hr6.shape
  have hrb := at_later H0.out.2.1 hd
  clear z0 y0 z1 y1
  obtain ⟨x0, x1, x2⟩ := three_cells hrb
  obtain ⟨f0, f1, f2⟩ := three_frozen hrb
  have hlt := lt_of_block hrb
  have HU := hide (And.intro hr6 (below_next H0.out.1 hd))
  clear hrb hr6 hd
  go_wp2
  refine bodyPost_ret (v := .agg #[.bool s6, .slice A6 n6 c6, .slice B6 m6 d6]) ?_ rfl ?_
  · simp [results, Tryz.results66, go_sem, x0, x1, x2, hlt]
  have hr := HU.out.1
  obtain ⟨rn, rl, e, r1, r2⟩ := hr
  injection e with e
  simp only [Array.mk.injEq, List.cons.injEq, Value.bool.injEq, and_true] at e
  obtain ⟨rfl, rfl, rfl⟩ := e
  exact ⟨_, rfl, ⟨_, _, rfl, r1.set3 x0 x1 x2, r2.set3 x0 x1 x2⟩, below_set3 HU.out.2 (by omega) _ _ _⟩
set_option maxRecDepth 100000 in
theorem Speed_c (w : World) (v : Value) (m : Nat) (st : Nat) (n : Int) (R : List Rat) (Ws : List (List Rat)) (hv : ShopV w v R Ws 3000) (hs : ShopG m R Ws) (hst : st < m) (hn0 : 0 ≤ n) (hn : n ≤ 12) :
    Calls Tryz.prog 17 #[v, .int .i64 (st : Int), .int .i64 n] w (Ret (okR w (spQ m R Ws st n) 3000)) := by
  have hmf : ∀ (fn : Fn) (first cap : Array Value) (w : World), (Instr.makeFunc fn first cap).run Tryz.prog w = .ok (.func fn first cap) w := fun _ _ _ _ => rfl
  have HV := hide hv
  obtain ⟨va, vb, rfl, hR, hW⟩ := hv
  obtain ⟨A1, c1, rfl, -, -, -⟩ := id hR
  obtain ⟨A2, c2, rfl, -, -, -⟩ := id hW
  generalize hq : spQ m R Ws st n = q
  have hq2 : ∀ w, ratR w q 3000 = ratR w (spQ m R Ws st n) 3000 := fun w => by rw [hq]
  have HQ2 := hide hq2
  clear hq hq2
  obtain ⟨W, hWW⟩ : ∃ W, W = (((w.alloc (.cells #[.slice A1 R.length c1, .slice A2 Ws.length c2] 33)).alloc (.cells #[.int .i64 (st : Int)] 3)).alloc (.cells #[.int .i64 n] 3)).alloc (.cells #[.bool false, .slice none 0 0, .slice none 0 0] 43) := ⟨_, rfl⟩
  have hb0 : Below w.heap.size w W := by rw [hWW]; exact (below_al (below_al (below_al (below_al (Below.refl _ _) _) _) _) _)
  have hbst : W.heap[w.heap.size + 1]? = some (.cells #[.int .i64 (st : Int)] 3 (0, 0)) := by
    have h1 := at_later (at_new (w.alloc (.cells #[.slice A1 R.length c1, .slice A2 Ws.length c2] 33)) (.cells #[.int .i64 (st : Int)] 3)) (below_al (below_al (Below.refl _ _) (.cells #[.int .i64 n] 3)) (.cells #[.bool false, .slice none 0 0, .slice none 0 0] 43))
    rw [hWW]; simpa using h1
  have hbn : W.heap[w.heap.size + 2]? = some (.cells #[.int .i64 n] 3 (0, 0)) := by
    have h1 := at_later (at_new ((w.alloc (.cells #[.slice A1 R.length c1, .slice A2 Ws.length c2] 33)).alloc (.cells #[.int .i64 (st : Int)] 3)) (.cells #[.int .i64 n] 3)) (below_al (Below.refl _ _) (.cells #[.bool false, .slice none 0 0, .slice none 0 0] 43))
    rw [hWW]; simpa using h1
  have hbr : W.heap[w.heap.size + 3]? = some (.cells #[.bool false, .slice none 0 0, .slice none 0 0] 43) := by
    have h1 := at_later (at_new (((w.alloc (.cells #[.slice A1 R.length c1, .slice A2 Ws.length c2] 33)).alloc (.cells #[.int .i64 (st : Int)] 3)).alloc (.cells #[.int .i64 n] 3)) (.cells #[.bool false, .slice none 0 0, .slice none 0 0] 43)) (Below.refl _ _)
    rw [hWW]; simpa using h1
  have hbs : W.heap[w.heap.size]? = some (.cells #[.slice A1 R.length c1, .slice A2 Ws.length c2] 33) := by
    have h1 := at_later (at_new w (.cells #[.slice A1 R.length c1, .slice A2 Ws.length c2] 33)) (below_al (below_al (below_al (Below.refl _ _) (.cells #[.int .i64 (st : Int)] 3)) (.cells #[.int .i64 n] 3)) (.cells #[.bool false, .slice none 0 0, .slice none 0 0] 43))
    rw [hWW]; simpa using h1
  obtain ⟨u0, u1, -, -⟩ := two_cells hbs
  clear hbs
  have H0 := hide (And.intro hb0 (And.intro hbst (And.intro hbn hbr)))
  obtain ⟨y0, -⟩ := one_cell hbst
  obtain ⟨y1, -⟩ := one_cell hbn
  have HL := hide hWW
  have ha := HV.out.below hb0
  have HA := hide ha
  clear hR hW hb0 hWW ha hbst hbn hbr
  go_enter Tryz.func17, Tryz.ntmps17
  go_upto_region 1 with fail
  rw [← HL.out]
  go_wp2_with fail
  refine (at_c W _ 66 m st n #[.pointer (some ⟨w.heap.size + 1, 0, none⟩), .pointer (some ⟨w.heap.size + 2, 0, none⟩)] q R Ws HA.out hs hst hn0 hn (fun _ _ => by simp [go_sem]) (fun gx w' hb hx => by rw [HQ2.out]; exact Speed1_c w' _ _ gx m st n  R Ws hs hx (at_later H0.out.2.1 hb) (at_later H0.out.2.2.1 hb) hst hn0 hn)).mono ?_
  rintro e w4 ⟨_, rfl, r, rfl, hr6, hd⟩
  obtain ⟨s6, A6, n6, c6, B6, m6, d6, rfl⟩ := hr6.shape
  have hrb := at_later H0.out.2.2.2 hd
  clear y0 y1 u0 u1
  obtain ⟨x0, x1, x2⟩ := three_cells hrb
  obtain ⟨f0, f1, f2⟩ := three_frozen hrb
  have hlt := lt_of_block hrb
  have HU := hide (And.intro hr6 (below_next H0.out.1 hd))
  clear hrb hr6 hd
  go_wp2
  refine bodyPost_ret (v := .tuple #[.agg #[.bool s6, .slice A6 n6 c6, .slice B6 m6 d6], .int .i64 0]) ?_ rfl ?_
  · simp [results, Tryz.results17, go_sem, x0, x1, x2, hlt]
  have hr := HU.out.1
  obtain ⟨rn, rl, e, r1, r2⟩ := hr
  injection e with e
  simp only [Array.mk.injEq, List.cons.injEq, Value.bool.injEq, and_true] at e
  obtain ⟨rfl, rfl, rfl⟩ := e
  exact ⟨_, rfl, _, rfl, ⟨_, _, rfl, r1.set3 x0 x1 x2, r2.set3 x0 x1 x2⟩, below_set3 HU.out.2 (by omega) _ _ _⟩
end Go.Proofs.YtpoahodnakhmiaaGreat
namespace Go.Proofs.YtpoahodnakhmiaaGreat
set_option linter.unusedVariables false
set_option linter.unusedSimpArgs false
open Go.RowKit
/-- the chances that a station has at least 1, 2, .. jobs: their sum is its length -/
def lnF (l : Nat → Rat) (s i : Nat) (n : Int) (t : Nat) : Rat := atQ l s i ((t : Int) + 1) n
def lnQ (l : Nat → Rat) (s i n : Nat) : Rat := sumN (lnF l s i n) n
theorem LdOK.ln_fit {s : Nat} {l : Nat → Rat} (h : LdOK s l) (i n k : Nat) (hi : i < s) (hn : n ≤ 12) (hk : k ≤ n) : FitQ 901 (sumN (lnF l s i n) k) := (fit_sum (L := 74) k (fun j _ => h.at_fit i _ n hi (by omega))).more (by omega)
set_option maxRecDepth 100000 in
set_option maxHeartbeats 4000000 in
theorem length_c (w : World) (gx i n : Nat) (R V Ld : List Rat) (Ws : List (List Rat)) (hx : OpenS w gx R Ws V Ld 3000) (hld : LdOK Ld.length (fun i => Ld.getD i 0)) (hi : i < Ld.length) (hn : n ≤ 12) :
    Calls Tryz.prog 94 #[.pointer (some ⟨gx, 0, none⟩), .int .i64 (i : Int), .int .i64 (n : Int)] w (Ret (ratR w (lnQ (fun i => Ld.getD i 0) Ld.length i n) 3000)) := by
  generalize hq : lnQ (fun i => Ld.getD i 0) Ld.length i n = q
  have h8 := hld.s8
  obtain ⟨W, hW⟩ : ∃ W, W = (w.alloc (.cells #[.bool false, .slice none 0 0, .slice none 0 0] 43)).alloc (.cells #[.bool false, .slice none 0 0, .slice none 0 0] 43) := ⟨_, rfl⟩
  have hb0 : Below w.heap.size w W := by rw [hW]; exact below_al (below_al (Below.refl _ _) _) _
  have hres : RowC W w.heap.size [0] 3000 := by rw [hW]; exact (row_zero w 3000).below (below_al (Below.refl _ _) _)
  have hout : RowC W (w.heap.size + 1) [0] 3000 := by
    have := row_zero (w.alloc (.cells #[.bool false, .slice none 0 0, .slice none 0 0] 43)) 3000
    rw [show (w.alloc (.cells #[.bool false, .slice none 0 0, .slice none 0 0] 43)).heap.size = w.heap.size + 1 by simp] at this
    rw [hW]; exact this
  have HX := hide hx
  have H0 := hide (And.intro hout (And.intro hres hb0))
  have HL := hide hW
  have HE := hide hq
  clear hx hb0 hres hout hW hq
  go_enter Tryz.func94, Tryz.ntmps94
  go_upto_region 2 with fail
  rw [← HL.out]
  go_wp2_with fail
  go_loopw [8] (fun s8 wr => ∃ j : Nat, j ≤ n ∧ s8 = .int .i64 ((j : Int) + 1) ∧ RowC wr (w.heap.size + 1) [sumN (lnF (fun i => Ld.getD i 0) Ld.length i n) j] 3000 ∧ RowC wr w.heap.size [0] 3000 ∧ Below w.heap.size w wr) (fun s8 _ => n + 1 - (intOf s8).toNat)
  case atStart => exact ⟨0, Nat.zero_le _, rfl, H0.out.1, H0.out.2.1, H0.out.2.2⟩
  case round =>
    obtain ⟨j, hj, rfl, hacc, hres, hbel⟩ := hrel
    obtain ⟨s1, A1, n1, c1, B1, m1, d1, e0, e1, e2, hq1⟩ := (hacc.2 0 (by simp)).rat
    simp only [Nat.zero_mul, Nat.zero_add] at e0 e1 e2
    simp only [List.getD_cons_zero] at hq1
    by_cases hjn : j < n
    · have i1 : (j : Int) + 1 ≤ (n : Int) := by omega
      have hS : ∀ w', Below wr.heap.size wr w' → (w'.cell? ⟨w.heap.size + 1, 0, none⟩ = some (.bool s1) ∧ w'.cell? ⟨w.heap.size + 1, 1, none⟩ = some (.slice A1 n1 c1) ∧ w'.cell? ⟨w.heap.size + 1, 2, none⟩ = some (.slice B1 m1 d1)) := fun w' h => by
        have e : ∀ b o v, wr.cell? ⟨b, o, none⟩ = some v → w'.cell? ⟨b, o, none⟩ = some v := fun b o v hv => (h.cell (lt_of_cell hv)).trans hv
        exact ⟨e _ _ _ e0, e _ _ _ e1, e _ _ _ e2⟩
      have hdr : Below wr.heap.size wr wr.drew := (Below.refl _ _).drew
      have HSS := hide hS
      have HQ := hide hq1
      have HI := hide (And.intro hacc (And.intro hres hbel))
      have HF := hide (And.intro ((hld.ln_fit i n j hi hn (by omega)).more (show 901 ≤ 3000 by omega)) (show FitQ 3000 (sumN (lnF (fun i => Ld.getD i 0) Ld.length i n) j + atQ (fun i => Ld.getD i 0) Ld.length i ((j : Int) + 1) n) from (hld.ln_fit i n (j + 1) hi hn (by omega)).more (show 901 ≤ 3000 by omega)))
      clear hS hacc hres hbel hq1 e0 e1 e2
      go_upto_region 5 with fail
      refine till_begin (fun w' => (w'.cell? ⟨w.heap.size + 1, 0, none⟩ = some (.bool s1) ∧ w'.cell? ⟨w.heap.size + 1, 1, none⟩ = some (.slice A1 n1 c1) ∧ w'.cell? ⟨w.heap.size + 1, 2, none⟩ = some (.slice B1 m1 d1))) [0, 1, 2, 3, 4, 5, 6, 7] (by kernel_rfl) (HSS.out _ hdr) (fun hHeld => ?_)
      refine tt (i := 1) hHeld (some 15) ?_
      try simp only [Act.put, ptA, ptB, ptC]
      refine tt (i := 2) hHeld (some 16) ?_
      try simp only [Act.put, ptA, ptB, ptC]
      refine tt (i := 3) hHeld (some 17) ?_
      try simp only [Act.put, ptA, ptB, ptC]
      refine tt (i := 4) hHeld (some 18) ?_
      try simp only [Act.put, ptA, ptB, ptC]
      refine tt (i := 0) hHeld (some 14) ?_
      try simp only [Act.put, ptA, ptB, ptC]
      refine till_ready (rs := [5]) (by kernel_rfl) (by simp) ?_
      refine mem1 ?_
      refine till_step rfl (fun K hK => ?_)
      go_simp
      go_at_call 69
      refine (atLeast_c _ gx i 3000 ((j : Int) + 1) (n : Int) R V Ld Ws ((HX.out.below HI.out.2.2).below hdr) hld hi (by omega) (by omega) (by omega) (by omega) (by omega) (by omega)).mono ?_
      rintro e w1 ⟨v4, rfl, hr4, hd⟩
      obtain ⟨s4, A4, n4, c4, B4, m4, d4, rfl⟩ := hr4.shape
      have H4 := hide hr4
      clear hr4
      have hg1 : Below wr.heap.size wr w1 := hdr.trans (hd.mono hdr.size)
      clear hd
      go_wp2_with fail
      refine hK.out _ _ (HSS.out _ hg1) (fun hHeld => ?_)
      clear hK K
      try simp only [Act.put, ptA, ptB, ptC]
      refine till_ready (rs := [6]) (by kernel_rfl) (by simp) ?_
      refine mem1 ?_
      refine till_step rfl (fun K hK => ?_)
      go_simp
      have HP2 := row_pair (HQ.out.below hg1) (H4.out)
      have hg2 := below_al hg1 (.cells #[.bool s1, .slice A1 n1 c1, .slice B1 m1 d1, .bool s4, .slice A4 n4 c4, .slice B4 m4 d4] 43)
      have HP := hide HP2
      clear HP2
      refine hK.out _ _ (HSS.out _ hg2) (fun hHeld => ?_)
      clear hK K
      try simp only [Act.put, ptA, ptB, ptC]
      refine till_ready (rs := [7]) (by kernel_rfl) (by simp) ?_
      refine mem1 ?_
      refine till_step rfl (fun K hK => ?_)
      go_simp
      go_at_call 83
      refine (sum_c _ _ [sumN (lnF (fun i => Ld.getD i 0) Ld.length i n) j, atQ (fun i => Ld.getD i 0) Ld.length i ((j : Int) + 1) n] 3000 HP.out (by omega) (sum2_fit HF.out.1 HF.out.2)).mono ?_
      rintro e w3 ⟨v5, rfl, hr5, hd⟩
      replace hr5 : RatV w3 v5 (sumN (lnF (fun i => Ld.getD i 0) Ld.length i n) (j + 1)) 3000 := by rw [sumN, lnF, ← sum2]; exact hr5
      obtain ⟨s5, A5, n5, c5, B5, m5, d5, rfl⟩ := hr5.shape
      have H5 := hide hr5
      clear hr5
      have hg3 : Below wr.heap.size wr w3 := hg2.trans (hd.mono hg2.size)
      clear hd
      go_wp2_with fail
      refine hK.out _ _ (HSS.out _ hg3) (fun hHeld => ?_)
      clear hK K
      try simp only [Act.put, ptA, ptB, ptC]
      refine till_end (k := 8) (by rfl) (by rfl) (by kernel_rfl) ?_
      simp only [List.drop_succ_cons, List.drop_zero]
      clear hHeld
      have hoE := HI.out.1.below hg3
      obtain ⟨s', B1', m1', d1', B2', m2', d2', e0', e1', e2', -⟩ := (hoE.2 0 (by simp)).rat
      simp only [Nat.zero_mul, Nat.zero_add] at e0' e1' e2'
      have f0 := hoE.frozen 0
      have f1 := hoE.frozen 1
      have f2 := hoE.frozen 2
      have HG := hide (And.intro hoE hg3)
      clear hoE
      go_wp2
      case roundEnd =>
        obtain ⟨t1, t2, t3⟩ := HG.out.1.set3 (i := 0) (by simp) H5.out
        simp only [Nat.zero_mul, Nat.zero_add] at t1 t2 t3
        have hs3 := HI.out.2.2.size
        have hsG := HG.out.2.size
        have hbl := only_below (HI.out.2.2.trans (HG.out.2.mono hs3)) t3 (by omega) (by omega)
        refine ⟨⟨j + 1, by omega, by go_num, t1, ?_, hbl⟩, by simp [intOf]; omega⟩
        exact (HI.out.2.1.below HG.out.2).same t2 (t3.block _ (by have := HI.out.2.1.lt; omega) (by intro e; injection e with e; omega))
    · obtain rfl : j = n := by omega
      have i1 : ¬ (j : Int) + 1 ≤ (j : Int) := by omega
      obtain ⟨_, _, _, _, _, _, _, x0, x1, x2, -⟩ := (hres.2 0 (by simp)).rat
      simp only [Nat.zero_mul, Nat.zero_add] at x0 x1 x2
      have f0 := hres.frozen 0
      have f1 := hres.frozen 1
      have f2 := hres.frozen 2
      have hlt := hres.lt
      have HU := hide (And.intro (show RatV wr _ q 3000 by rw [← HE.out]; exact hq1) hbel)
      clear hacc hres hbel hq1
      go_wp2
      refine bodyPost_ret (v := .agg #[.bool s1, .slice A1 n1 c1, .slice B1 m1 d1]) ?_ rfl ?_
      · simp [results, Tryz.results94, go_sem, x0, x1, x2, hlt]
      have hr := HU.out.1
      obtain ⟨rn, rl, e, r1, r2⟩ := hr
      injection e with e
      simp only [Array.mk.injEq, List.cons.injEq, Value.bool.injEq, and_true] at e
      obtain ⟨rfl, rfl, rfl⟩ := e
      exact ⟨_, rfl, ⟨_, _, rfl, r1.set3 x0 x1 x2, r2.set3 x0 x1 x2⟩, below_set3 HU.out.2 (by omega) _ _ _⟩
end Go.Proofs.YtpoahodnakhmiaaGreat
