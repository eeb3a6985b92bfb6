/- Walks: the shop's sums, products and quotients (they do not fail here). -/
import Derived.Test.YtpoahodnakhmiaaGreatCalc2
import Derived.Test.YtpoahodnakhmiaaGreatLong
import Derived.Test.YtpoahodnakhmiaaGreatSieg
namespace Go.Proofs.YtpoahodnakhmiaaGreat
set_option linter.unusedVariables false
set_option linter.unusedSimpArgs false
open Go.RowKit
theorem doneR.ok {w w' : World} {q : Rat} {L : Nat} {v : Value} (h : doneR w q L v w') (hs : SmallQ q) : ∃ r, v = .tuple #[r, .int .i64 0] ∧ RatV w' r q L ∧ Below w.heap.size w w' := by
  obtain ⟨hb, h | h⟩ := h
  · obtain ⟨_, r, e, hr⟩ := h; exact ⟨r, e, hr, hb⟩
  · exact absurd hs h.1
theorem must_c (w : World) (s : Bool) (A : Option Addr) (n c : Nat) (B : Option Addr) (m d : Nat) :
    Calls Tryz.prog 119 #[.agg #[.bool s, .slice A n c, .slice B m d], .int .i64 0] w (Ret (fun v w' => v = .agg #[.bool s, .slice A n c, .slice B m d] ∧ Below w.heap.size w w')) := by
  go_enter Tryz.func119, Tryz.ntmps119
  go_wp2
  have hb : Below w.heap.size w ((w.alloc (.cells #[.bool s, .slice A n c, .slice B m d] 43)).alloc (.cells #[.bool s, .slice A n c, .slice B m d] 43)) := ((Below.refl _ _).alloc (Nat.le_refl _) _).alloc (by simp) _
  refine bodyPost_ret (v := .agg #[.bool s, .slice A n c, .slice B m d]) ?_ rfl ?_
  · simp [results, Tryz.results119, go_sem]
  exact ⟨_, rfl, rfl, hb⟩
/-- products of the first numbers -/
def prodN (f : Nat → Rat) : Nat → Rat
  | 0 => 1
  | k + 1 => prodN f k * f k
/-- a number in a box of its own -/
theorem row_oneQ {w : World} {s : Bool} {A : Option Addr} {n c : Nat} {B : Option Addr} {m d : Nat} {q : Rat} {L : Nat} (h : RatV w (.agg #[.bool s, .slice A n c, .slice B m d]) q L) :
    RowC (w.alloc (.cells #[.bool s, .slice A n c, .slice B m d] 43)) w.heap.size [q] L := by
  have hh := heap_alloc_new w (.cells #[.bool s, .slice A n c, .slice B m d] 43)
  refine ⟨⟨_, hh⟩, fun i hi => ?_⟩
  obtain rfl : i = 0 := by simpa using hi
  obtain ⟨k0, k1, k2, _⟩ := box3 (below_start w (.cells #[.bool s, .slice A n c, .slice B m d] 43))
  have hb : Below w.heap.size w (w.alloc (.cells #[.bool s, .slice A n c, .slice B m d] 43)) := (Below.refl _ _).alloc (Nat.le_refl _) _
  obtain ⟨rn, rl, e, r1, r2⟩ := h
  injection e with e
  simp only [Array.mk.injEq, List.cons.injEq, Value.bool.injEq, and_true] at e
  obtain ⟨rfl, rfl, rfl⟩ := e
  exact ⟨_, _, _, _, _, _, k0, k1, k2, r1.below hb, r2.below hb⟩
set_option maxRecDepth 100000 in
theorem sum_c (w : World) (va : Value) (ps : List Rat) (L : Nat) (ha : RowV w va ps L) (hL : L ≤ 3000) (hfit : ∀ k, k ≤ ps.length → FitQ L (sumN (fun i => ps.getD i 0) k)) :
    Calls Tryz.prog 83 #[va] w (Ret (ratR w (sumN (fun i => ps.getD i 0) ps.length) L)) := by
  have HA := hide (And.intro ha hfit)
  obtain ⟨A1, c1, rfl, hc1, hm1, _⟩ := ha
  clear hfit
  unfold maxLen at hm1
  have hb0 : Below w.heap.size w ((w.alloc (.cells #[.bool false, .slice none 0 0, .slice none 0 0] 43)).alloc (.cells #[.bool false, .slice none 0 0, .slice none 0 0] 43)) := ((Below.refl _ _).alloc (Nat.le_refl _) _).alloc (by simp) _
  go_enter Tryz.func83, Tryz.ntmps83
  go_wp2
  go_loopw [8] (fun s8 wr => ∃ (k : Nat), k ≤ ps.length ∧ s8 = .int .i64 k ∧ RowC wr (w.heap.size + 1) [(sumN (fun i => ps.getD i 0) k)] L ∧ RowC wr w.heap.size [0] L ∧ Below w.heap.size w wr) (fun s8 _ => ps.length - (intOf s8).toNat)
  case atStart =>
    refine ⟨0, Nat.zero_le _, rfl, ?_, ?_, hb0⟩
    · have := row_zero (w.alloc (.cells #[.bool false, .slice none 0 0, .slice none 0 0] 43)) L
      rw [show (w.alloc (.cells #[.bool false, .slice none 0 0, .slice none 0 0] 43)).heap.size = w.heap.size + 1 by simp] at this
      exact this
    · exact (row_zero w L).below ((Below.refl _ _).alloc (Nat.le_refl _) _)
  case round =>
    obtain ⟨k, hk, rfl, hacc, hres, hbel⟩ := hrel
    by_cases hkl : k < ps.length
    · obtain ⟨_, _, _, hcell⟩ := (HA.out.1.below hbel).at_
      obtain ⟨g1, o1, rfl, hcl1⟩ := hcell (by omega)
      obtain ⟨s, B1, m1, d1, B2, m2, d2, e0, e1, e2, hr⟩ := (hcl1 k hkl).rat
      obtain ⟨s5, B5, m5, d5, B6, m6, d6, e6, e7, e8, hr3⟩ := (hacc.2 0 (by simp)).rat
      simp only [Nat.zero_mul, Nat.zero_add] at e6 e7 e8
      have hba : Below wr.heap.size wr (wr.alloc (.cells #[.bool s, .slice B1 m1 d1, .slice B2 m2 d2] 43)) := (Below.refl _ _).alloc (Nat.le_refl _) _
      have l1 := lt_of_cell e6
      simp only at l1
      have p0 := (hba.cell (p := ⟨w.heap.size + 1, 0, none⟩) (by exact l1)).trans e6
      have p1 := (hba.cell (p := ⟨w.heap.size + 1, 1, none⟩) (by exact l1)).trans e7
      have p2 := (hba.cell (p := ⟨w.heap.size + 1, 2, none⟩) (by exact l1)).trans e8
      obtain ⟨k0, k1, k2, _, _, _, _⟩ := box3 (below_start wr (.cells #[.bool s, .slice B1 m1 d1, .slice B2 m2 d2] 43))
      have HH := hide (And.intro hacc (And.intro hres (And.intro hbel (And.intro hr (And.intro hr3 hba))))); clear hacc hres hbel hr hr3 hcell hcl1 hba e6 e7 e8
      go_wp2_with fail
      refine (add_q _ _ _ (sumN (fun i => ps.getD i 0) k) (ps.getD k 0) L (HH.out.2.2.2.2.1.below HH.out.2.2.2.2.2) (HH.out.2.2.2.1.below HH.out.2.2.2.2.2) (by omega)).mono ?_
      rintro e w1 ⟨v1, rfl, hdn⟩
      have hf := HA.out.2 (k + 1) (by omega)
      obtain ⟨r, rfl, hr1, hd1⟩ := hdn.ok (by rw [show (sumN (fun i => ps.getD i 0) k) + ps.getD k 0 = (sumN (fun i => ps.getD i 0) (k + 1)) from rfl]; exact hf.smallQ (by omega))
      replace hr1 : RatV w1 r (sumN (fun i => ps.getD i 0) (k + 1)) L := hr1.fit hf
      obtain ⟨s7, B7, m7, d7, B8, m8, d8, rfl⟩ := hr1.shape
      have H1 := hide (And.intro hr1 (below_next HH.out.2.2.2.2.2 hd1))
      clear hr1 hd1 hdn p0 p1 p2 k0 k1 k2 hf
      go_wp2_with fail
      refine (must_c _ _ _ _ _ _ _ _).mono ?_
      rintro e w2 ⟨_, rfl, rfl, hd2⟩
      have hb2 := below_next H1.out.2 hd2
      have hrow2 := HH.out.1.below hb2
      have hu2 := H1.out.1.below hd2
      obtain ⟨s', B1', m1', d1', B2', m2', d2', e0', e1', e2', _⟩ := (hrow2.2 0 (by simp)).rat
      simp only [Nat.zero_mul, Nat.zero_add] at e0' e1' e2'
      have f0 := hrow2.frozen 0
      have f1 := hrow2.frozen 1
      have f2 := hrow2.frozen 2
      have HU := hide (And.intro hu2 (And.intro hrow2 hb2))
      clear hu2 hrow2 hb2 hd2
      go_wp2
      go_roundw
      case rel =>
        obtain ⟨hacc, hres, hbel, _⟩ := HH.out
        obtain ⟨hu, hrow2, hb2⟩ := HU.out
        obtain ⟨t1, t2, t3⟩ := hrow2.set3 (i := 0) (by simp) hu
        simp only [Nat.zero_mul, Nat.zero_add] at t1 t2 t3
        refine ⟨k + 1, by omega, by go_num, t1, ?_, ?_⟩
        · exact (hres.below hb2).same t2 (t3.block _ (by have := hb2.size; have := lt_of_block hres.1.choose_spec; omega) (by intro e; injection e with e; omega))
        · exact only_below (below_next hbel hb2) t3 (by have := hbel.size; have := hb2.size; omega) (by omega)
      case measure => simp [intOf]; omega
    · obtain rfl : k = ps.length := by omega
      obtain ⟨s5, B5, m5, d5, B6, m6, d6, e6, e7, e8, hr3⟩ := (hacc.2 0 (by simp)).rat
      obtain ⟨_, _, _, _, _, _, _, e9, e10, e11, _⟩ := (hres.2 0 (by simp)).rat
      simp only [Nat.zero_mul, Nat.zero_add] at e6 e7 e8 e9 e10 e11
      have f0 := hres.frozen 0
      have f1 := hres.frozen 1
      have f2 := hres.frozen 2
      have HH := hide (And.intro hacc (And.intro hres (And.intro hbel hr3))); clear hacc hres hbel hr3
      go_wp2
      have hsz := lt_of_cell e9
      refine bodyPost_ret (v := .agg #[.bool s5, .slice B5 m5 d5, .slice B6 m6 d6]) ?_ rfl ?_
      · simp [results, Tryz.results83, go_sem, e9, e10, e11]
      have hr := HH.out.2.2.2
      simp only [List.getD_cons_zero] at hr
      obtain ⟨rn, rl, e, r1, r2⟩ := hr
      injection e with e
      simp only [Array.mk.injEq, List.cons.injEq, Value.bool.injEq, and_true] at e
      obtain ⟨rfl, rfl, rfl⟩ := e
      exact ⟨_, rfl, ⟨_, _, rfl, r1.set3 e9 e10 e11, r2.set3 e9 e10 e11⟩, below_set3 HH.out.2.2.1 (Nat.le_refl _) _ _ _⟩
set_option maxRecDepth 100000 in
theorem product_c (w : World) (va : Value) (ps : List Rat) (L : Nat) (ha : RowV w va ps L) (hL : L ≤ 3000) (hL2 : 2 ≤ L) (hfit : ∀ k, k ≤ ps.length → FitQ L (prodN (fun i => ps.getD i 0) k)) :
    Calls Tryz.prog 84 #[va] w (Ret (ratR w (prodN (fun i => ps.getD i 0) ps.length) L)) := by
  have HA := hide (And.intro ha hfit)
  obtain ⟨A1, c1, rfl, hc1, hm1, _⟩ := ha
  clear hfit
  unfold maxLen at hm1
  have hb0 : Below w.heap.size w (w.alloc (.cells #[.bool false, .slice none 0 0, .slice none 0 0] 43)) := (Below.refl _ _).alloc (Nat.le_refl _) _
  have hz0 := row_zero w L
  go_enter Tryz.func84, Tryz.ntmps84
  go_wp2_with fail
  refine (of_c _ 1 (by omega) (by omega)).mono ?_
  rintro e w0 ⟨v1, rfl, hv1, hd1⟩
  replace hv1 : RatV w0 v1 1 L := hv1.more hL2
  obtain ⟨s1, B1, m1, d1, B2, m2, d2, rfl⟩ := hv1.shape
  have hgw : w.heap.size < w0.heap.size := by have := hd1.size; simp at this; omega
  have hacc0 := row_oneQ hv1
  have hba : Below w0.heap.size w0 (w0.alloc (.cells #[.bool s1, .slice B1 m1 d1, .slice B2 m2 d2] 43)) := (Below.refl _ _).alloc (Nat.le_refl _) _
  have hb1 := below_next (below_next hb0 hd1) hba
  have hz1 := (hz0.below hd1).below hba
  have H0 := hide (And.intro hacc0 (And.intro hz1 hb1))
  clear hv1 hd1 hba hb0 hz0 hacc0 hz1 hb1
  go_wp2
  go_loopw [9] (fun s8 wr => ∃ (k : Nat), k ≤ ps.length ∧ s8 = .int .i64 k ∧ RowC wr (w0.heap.size) [(prodN (fun i => ps.getD i 0) k)] L ∧ RowC wr w.heap.size [0] L ∧ Below w.heap.size w wr) (fun s8 _ => ps.length - (intOf s8).toNat)
  case atStart =>
    exact ⟨0, Nat.zero_le _, rfl, H0.out.1, H0.out.2.1, H0.out.2.2⟩
  case round =>
    obtain ⟨k, hk, rfl, hacc, hres, hbel⟩ := hrel
    by_cases hkl : k < ps.length
    · obtain ⟨_, _, _, hcell⟩ := (HA.out.1.below hbel).at_
      obtain ⟨g1, o1, rfl, hcl1⟩ := hcell (by omega)
      obtain ⟨s, B1, m1, d1, B2, m2, d2, e0, e1, e2, hr⟩ := (hcl1 k hkl).rat
      obtain ⟨s5, B5, m5, d5, B6, m6, d6, e6, e7, e8, hr3⟩ := (hacc.2 0 (by simp)).rat
      simp only [Nat.zero_mul, Nat.zero_add] at e6 e7 e8
      have hba : Below wr.heap.size wr (wr.alloc (.cells #[.bool s, .slice B1 m1 d1, .slice B2 m2 d2] 43)) := (Below.refl _ _).alloc (Nat.le_refl _) _
      have l1 := lt_of_cell e6
      simp only at l1
      have p0 := (hba.cell (p := ⟨w0.heap.size, 0, none⟩) (by exact l1)).trans e6
      have p1 := (hba.cell (p := ⟨w0.heap.size, 1, none⟩) (by exact l1)).trans e7
      have p2 := (hba.cell (p := ⟨w0.heap.size, 2, none⟩) (by exact l1)).trans e8
      obtain ⟨k0, k1, k2, _, _, _, _⟩ := box3 (below_start wr (.cells #[.bool s, .slice B1 m1 d1, .slice B2 m2 d2] 43))
      have HH := hide (And.intro hacc (And.intro hres (And.intro hbel (And.intro hr (And.intro hr3 hba))))); clear hacc hres hbel hr hr3 hcell hcl1 hba e6 e7 e8
      go_wp2_with fail
      refine (mul_q _ _ _ (prodN (fun i => ps.getD i 0) k) (ps.getD k 0) L (HH.out.2.2.2.2.1.below HH.out.2.2.2.2.2) (HH.out.2.2.2.1.below HH.out.2.2.2.2.2) (by omega)).mono ?_
      rintro e w1 ⟨v1, rfl, hdn⟩
      have hf := HA.out.2 (k + 1) (by omega)
      obtain ⟨r, rfl, hr1, hd1⟩ := hdn.ok (by rw [show (prodN (fun i => ps.getD i 0) k) * ps.getD k 0 = (prodN (fun i => ps.getD i 0) (k + 1)) from rfl]; exact hf.smallQ (by omega))
      replace hr1 : RatV w1 r (prodN (fun i => ps.getD i 0) (k + 1)) L := hr1.fit hf
      obtain ⟨s7, B7, m7, d7, B8, m8, d8, rfl⟩ := hr1.shape
      have H1 := hide (And.intro hr1 (below_next HH.out.2.2.2.2.2 hd1))
      clear hr1 hd1 hdn p0 p1 p2 k0 k1 k2 hf
      go_wp2_with fail
      refine (must_c _ _ _ _ _ _ _ _).mono ?_
      rintro e w2 ⟨_, rfl, rfl, hd2⟩
      have hb2 := below_next H1.out.2 hd2
      have hrow2 := HH.out.1.below hb2
      have hu2 := H1.out.1.below hd2
      obtain ⟨s', B1', m1', d1', B2', m2', d2', e0', e1', e2', _⟩ := (hrow2.2 0 (by simp)).rat
      simp only [Nat.zero_mul, Nat.zero_add] at e0' e1' e2'
      have f0 := hrow2.frozen 0
      have f1 := hrow2.frozen 1
      have f2 := hrow2.frozen 2
      have HU := hide (And.intro hu2 (And.intro hrow2 hb2))
      clear hu2 hrow2 hb2 hd2
      go_wp2
      go_roundw
      case rel =>
        obtain ⟨hacc, hres, hbel, _⟩ := HH.out
        obtain ⟨hu, hrow2, hb2⟩ := HU.out
        obtain ⟨t1, t2, t3⟩ := hrow2.set3 (i := 0) (by simp) hu
        simp only [Nat.zero_mul, Nat.zero_add] at t1 t2 t3
        refine ⟨k + 1, by omega, by go_num, t1, ?_, ?_⟩
        · exact (hres.below hb2).same t2 (t3.block _ (by have := hb2.size; have := lt_of_block hres.1.choose_spec; omega) (by intro e; injection e with e; omega))
        · exact only_below (below_next hbel hb2) t3 (by have := hbel.size; have := hb2.size; omega) (by omega)
      case measure => simp [intOf]; omega
    · obtain rfl : k = ps.length := by omega
      obtain ⟨s5, B5, m5, d5, B6, m6, d6, e6, e7, e8, hr3⟩ := (hacc.2 0 (by simp)).rat
      obtain ⟨_, _, _, _, _, _, _, e9, e10, e11, _⟩ := (hres.2 0 (by simp)).rat
      simp only [Nat.zero_mul, Nat.zero_add] at e6 e7 e8 e9 e10 e11
      have f0 := hres.frozen 0
      have f1 := hres.frozen 1
      have f2 := hres.frozen 2
      have HH := hide (And.intro hacc (And.intro hres (And.intro hbel hr3))); clear hacc hres hbel hr3
      go_wp2
      have hsz := lt_of_cell e9
      refine bodyPost_ret (v := .agg #[.bool s5, .slice B5 m5 d5, .slice B6 m6 d6]) ?_ rfl ?_
      · simp [results, Tryz.results84, go_sem, e9, e10, e11]
      have hr := HH.out.2.2.2
      simp only [List.getD_cons_zero] at hr
      obtain ⟨rn, rl, e, r1, r2⟩ := hr
      injection e with e
      simp only [Array.mk.injEq, List.cons.injEq, Value.bool.injEq, and_true] at e
      obtain ⟨rfl, rfl, rfl⟩ := e
      exact ⟨_, rfl, ⟨_, _, rfl, r1.set3 e9 e10 e11, r2.set3 e9 e10 e11⟩, below_set3 HH.out.2.2.1 (Nat.le_refl _) _ _ _⟩
theorem over_c' (w : World) (a b : Value) (p q : Rat) (L M : Nat) (ha : RatV w a p L) (hb : RatV w b q L) (hL : L ≤ 268435456) (hq : q ≠ 0) (hf : FitQ M (p / q)) (hM : M ≤ 3000) :
    Calls Tryz.prog 86 #[a, b] w (Ret (ratR w (p / q) M)) := by
  have HA := hide (And.intro ha hb)
  obtain ⟨s1, A1, n1, c1, B1, m1, d1, rfl⟩ := ha.shape
  obtain ⟨s2, A2, n2, c2, B2, m2, d2, rfl⟩ := hb.shape
  clear ha hb
  obtain ⟨W, hW⟩ : ∃ W, W = (((w.alloc (.cells #[.bool s1, .slice A1 n1 c1, .slice B1 m1 d1] 43)).alloc (.cells #[.bool s2, .slice A2 n2 c2, .slice B2 m2 d2] 43)).alloc (.cells #[.bool false, .slice none 0 0, .slice none 0 0] 43)) := ⟨_, rfl⟩
  have hb0 : Below w.heap.size w W := by rw [hW]; exact (((Below.refl _ _).alloc (Nat.le_refl _) _).alloc (by simp) _).alloc (by simp; omega) _
  have hr : W.heap[w.heap.size + 2]? = some (.cells #[.bool false, .slice none 0 0, .slice none 0 0] 43) := by rw [hW]; exact at_new' _ (by simp)
  have H0 := hide (And.intro hb0 hr)
  have HL := hide hW
  clear hW hb0 hr
  go_enter Tryz.func86, Tryz.ntmps86
  go_wp2_with fail
  rw [← HL.out]
  refine (quo_q _ _ _ p q L (HA.out.1.below H0.out.1) (HA.out.2.below H0.out.1) hL hq).mono ?_
  rintro e w1 ⟨v1, rfl, hdn⟩
  obtain ⟨r, rfl, hr1, hd1⟩ := hdn.ok (hf.smallQ hM)
  replace hr1 : RatV w1 r (p / q) M := hr1.fit hf
  obtain ⟨s7, B7, m7, d7, B8, m8, d8, rfl⟩ := hr1.shape
  have H1 := hide (And.intro hr1 (And.intro (below_next H0.out.1 hd1) (at_later H0.out.2 hd1)))
  clear hr1 hd1 hdn
  go_wp2_with fail
  refine (must_c _ _ _ _ _ _ _ _).mono ?_
  rintro e w2 ⟨_, rfl, rfl, hd2⟩
  have hr2 := at_later H1.out.2.2 hd2
  have hu2 := H1.out.1.below hd2
  obtain ⟨x0, x1, x2⟩ := three_cells hr2
  obtain ⟨f0, f1, f2⟩ := three_frozen hr2
  have hlt := lt_of_block hr2
  have HU := hide (And.intro hu2 (below_next H1.out.2.1 hd2))
  clear hu2 hr2 hd2
  go_wp2
  refine bodyPost_ret (v := .agg #[.bool s7, .slice B7 m7 d7, .slice B8 m8 d8]) ?_ rfl ?_
  · simp [results, Tryz.results86, go_sem, x0, x1, x2, hlt]
  have hr := HU.out.1
  obtain ⟨rn, rl, e, r1, r2⟩ := hr
  injection e with e
  simp only [Array.mk.injEq, List.cons.injEq, Value.bool.injEq, and_true] at e
  obtain ⟨rfl, rfl, rfl⟩ := e
  exact ⟨_, rfl, ⟨_, _, rfl, r1.set3 x0 x1 x2, r2.set3 x0 x1 x2⟩, below_set3 HU.out.2 (by omega) _ _ _⟩
end Go.Proofs.YtpoahodnakhmiaaGreat
