/- Walks: the weight of a state, and its chance. -/
import Derived.Test.YtpoahodnakhmiaaGreatQStOf
namespace Go.Proofs.YtpoahodnakhmiaaGreat
set_option linter.unusedVariables false
set_option linter.unusedSimpArgs false
open Go.RowKit
/-- the weight of a state -/
def wfQ (l : Nat → Rat) (xs : List Int) (i : Nat) : Rat := powN (l i) (xs.getD i 0).toNat
def wtQ (l : Nat → Rat) (xs : List Int) (s : Nat) : Rat := prodN (wfQ l xs) s
theorem wtQ_step (l : Nat → Rat) (xs : List Int) (s : Nat) : wtQ l xs (s + 1) = wtQ l xs s * wfQ l xs s := rfl
theorem LdOK.wf_fit {s : Nat} {l : Nat → Rat} (h : LdOK s l) (xs : List Int) (hx : ∀ j, xs.getD j 0 ≤ 12) (i : Nat) (hi : i < s) : FitQ 25 (wfQ l xs i) := h.p_fit i _ hi (by have := hx i; omega)
theorem LdOK.wt_fit {s : Nat} {l : Nat → Rat} (h : LdOK s l) (xs : List Int) (hx : ∀ j, xs.getD j 0 ≤ 12) : ∀ k, k ≤ s → FitQ (25 * k + 1) (wtQ l xs k)
  | 0, _ => fit_one1 (by omega)
  | k + 1, hk => by
    rw [wtQ_step]
    exact ((LdOK.wt_fit h xs hx k (by omega)).mulA (h.wf_fit xs hx k (by omega))).more (by rw [Nat.mul_succ]; omega)
set_option maxRecDepth 100000 in
set_option maxHeartbeats 4000000 in
theorem weight_c (w : World) (gx : Nat) (xs : List Int) (h8 : xs.length = 8) (hx0 : ∀ j, 0 ≤ xs.getD j 0 ∧ xs.getD j 0 ≤ 12) (R V Ld : List Rat) (Ws : List (List Rat)) (hx : OpenS w gx R Ws V Ld 3000) (hld : LdOK Ld.length (fun i => Ld.getD i 0)) :
    Calls Tryz.prog 138 #[.pointer (some ⟨gx, 0, none⟩), stV xs] w (Ret (ratR w (wtQ (fun i => Ld.getD i 0) xs Ld.length) 3000)) := by
  have hs8 := hld.s8
  have hs0 := hld.s0
  generalize hq : wtQ (fun i => Ld.getD i 0) xs Ld.length = q
  obtain ⟨x0, x1, x2, x3, x4, x5, x6, x7, hxs⟩ := eight h8
  obtain ⟨W, hW⟩ : ∃ W, W = (w.alloc (.cells #[.int .i64 x0, .int .i64 x1, .int .i64 x2, .int .i64 x3, .int .i64 x4, .int .i64 x5, .int .i64 x6, .int .i64 x7] 116)).alloc (.cells #[.bool false, .slice none 0 0, .slice none 0 0] 43) := ⟨_, rfl⟩
  have hb0 : Below w.heap.size w W := by rw [hW]; exact below_al (below_al (Below.refl _ _) _) _
  have hbs : Blk W w.heap.size 116 .i64 xs := by rw [hW, hxs]; exact (Blk.new w 116 .i64 [x0, x1, x2, x3, x4, x5, x6, x7]).keep (below_al (Below.refl _ _) _)
  have hbr : RowC W (w.heap.size + 1) [0] 3000 := by
    have := row_zero (w.alloc (.cells #[.int .i64 x0, .int .i64 x1, .int .i64 x2, .int .i64 x3, .int .i64 x4, .int .i64 x5, .int .i64 x6, .int .i64 x7] 116)) 3000
    rw [show (w.alloc (.cells #[.int .i64 x0, .int .i64 x1, .int .i64 x2, .int .i64 x3, .int .i64 x4, .int .i64 x5, .int .i64 x6, .int .i64 x7] 116)).heap.size = w.heap.size + 1 by simp] at this
    rw [hW]; exact this
  obtain ⟨va, vb, vc, vd, hbox, -, -, -, hvL⟩ := hx.box
  obtain ⟨A4, c4, rfl, hc4, hm4, -⟩ := id hvL
  unfold maxLen at hm4
  have H0 := hide (And.intro hb0 (And.intro hbs (And.intro hbr (And.intro hbox (And.intro hvL (And.intro hx0 hq))))))
  have HL := hide hW
  have HX8 := hide h8
  rw [show stV xs = .agg #[.int .i64 x0, .int .i64 x1, .int .i64 x2, .int .i64 x3, .int .i64 x4, .int .i64 x5, .int .i64 x6, .int .i64 x7] by rw [hxs]; rfl]
  clear hx hb0 hbs hbr hbox hvL hW hx0 hq hxs h8
  go_enter Tryz.func138, Tryz.ntmps138
  go_wp2_with fail
  rw [← HL.out]
  refine (of_c _ 1 (by omega) (by omega)).mono ?_
  rintro e w1 ⟨v1, rfl, hv1, hd1⟩
  replace hv1 : RatV w1 v1 1 3000 := hv1.more (by omega)
  obtain ⟨s0, B1, m1, d1, B2, m2, d2, rfl⟩ := hv1.shape
  obtain ⟨W2, hW2⟩ : ∃ W2, W2 = w1.alloc (.cells #[.bool s0, .slice B1 m1 d1, .slice B2 m2 d2] 43) := ⟨_, rfl⟩
  have hb2 : Below w1.heap.size w1 W2 := by rw [hW2]; exact below_al (Below.refl _ _) _
  have hacc0 : RowC W2 w1.heap.size [1] 3000 := by rw [hW2]; exact row_oneQ hv1
  have hd2 := below_next hd1 hb2
  obtain ⟨y0, y1, y2, y3, -⟩ := four_cells (at_later H0.out.2.2.2.1 (below_next H0.out.1 hd2))
  have hgl := lt_of_block (at_later H0.out.2.2.2.1 (below_next H0.out.1 hd2))
  have H2 := hide (And.intro hacc0 (And.intro (H0.out.2.2.1.below hd2) (And.intro (H0.out.2.1.keep hd2) (below_next H0.out.1 hd2))))
  have HL2 := hide hW2
  have hsz : w.heap.size + 2 ≤ w1.heap.size := by have h1 := H0.out.2.2.1.lt; have h2 := hd1.size; omega
  clear hv1 hd1 hb2 hacc0 hd2 hW2
  go_upto_region 2 with fail
  rw [← HL2.out]
  go_wp2_with fail
  go_loopw [14] (fun s14 wr => ∃ i : Nat, i ≤ Ld.length ∧ s14 = .int .i64 i ∧ RowC wr w1.heap.size [wtQ (fun i => Ld.getD i 0) xs i] 3000 ∧ RowC wr (w.heap.size + 1) [0] 3000 ∧ Blk wr w.heap.size 116 .i64 xs ∧ Below w.heap.size w wr) (fun s14 _ => Ld.length - (intOf s14).toNat)
  case atStart => exact ⟨0, Nat.zero_le _, rfl, H2.out.1, H2.out.2.1, H2.out.2.2.1, H2.out.2.2.2⟩
  case round =>
    obtain ⟨i, hi, rfl, hacc, hres, hst, hbel⟩ := hrel
    have hlw := hacc.lt
    by_cases hlt : i < Ld.length
    · obtain ⟨-, -, -, hcl⟩ := (H0.out.2.2.2.2.1.below hbel).at_
      obtain ⟨bl, ol, rfl, hcl1⟩ := hcl (by omega)
      obtain ⟨s2, A2, n2, c2, B2, m2, d2, e0, e1, e2, hq1⟩ := (hcl1 i hlt).rat
      obtain ⟨s1, A1, n1, c1, B1, m1, d1, e3, e4, e5, hq0⟩ := (hacc.2 0 (by simp)).rat
      simp only [Nat.zero_mul, Nat.zero_add] at e3 e4 e5
      simp only [List.getD_cons_zero] at hq0
      have hh8 := HX8.out
      have z1 := hst.cell (j := i) (by omega)
      have hx12 := fun j => (H0.out.2.2.2.2.2.1 j).2
      obtain ⟨xn, hxn⟩ : ∃ xn : Nat, xs.getD i 0 = (xn : Int) := ⟨(xs.getD i 0).toNat, by have := (H0.out.2.2.2.2.2.1 i).1; omega⟩
      have hxb : xn ≤ 12 := by have := hx12 i; omega
      rw [hxn] at z1
      have hfp : ∀ t, t ≤ 1000 → FitQ 3000 (powN (Ld.getD i 0) t) ∧ SmallQ (powN (Ld.getD i 0) t) := fun t ht => by
        have := fit_pow (hld.fitl i hlt) t
        exact ⟨this.more (by omega), this.smallQ (by omega)⟩
      have hf2 : FitQ 3000 (wtQ (fun i => Ld.getD i 0) xs i * powN (Ld.getD i 0) xn) := by
        have h1 := hld.wt_fit xs hx12 (i + 1) (by omega)
        rw [wtQ_step, wfQ, hxn, Int.toNat_natCast] at h1
        exact h1.more (by omega)
      have HF := hide (And.intro hfp (And.intro ((hld.wt_fit xs hx12 i (by omega)).more (show 25 * i + 1 ≤ 3000 by omega)) hf2))
      have HXI := hide hxn
      obtain ⟨W3, hW3⟩ : ∃ W3, W3 = wr.alloc (.cells #[.bool s2, .slice A2 n2 c2, .slice B2 m2 d2] 43) := ⟨_, rfl⟩
      have hb3 : Below wr.heap.size wr W3 := by rw [hW3]; exact below_al (Below.refl _ _) _
      have hbx : W3.heap[wr.heap.size]? = some (.cells #[.bool s2, .slice A2 n2 c2, .slice B2 m2 d2] 43) := by rw [hW3]; exact at_new _ _
      have hS : ∀ w', Below W3.heap.size W3 w' → (w'.cell? ⟨w1.heap.size, 0, none⟩ = some (.bool s1) ∧ w'.cell? ⟨w1.heap.size, 1, none⟩ = some (.slice A1 n1 c1) ∧ w'.cell? ⟨w1.heap.size, 2, none⟩ = some (.slice B1 m1 d1)) ∧ (w'.cell? ⟨wr.heap.size, 0, none⟩ = some (.bool s2) ∧ w'.cell? ⟨wr.heap.size, 1, none⟩ = some (.slice A2 n2 c2) ∧ w'.cell? ⟨wr.heap.size, 2, none⟩ = some (.slice B2 m2 d2)) ∧ w'.cell? ⟨w.heap.size, i, none⟩ = some (.int .i64 (xn : Int)) := fun w' h => by
        have e : ∀ b o v, wr.cell? ⟨b, o, none⟩ = some v → w'.cell? ⟨b, o, none⟩ = some v := fun b o v hv => ((below_next hb3 h).cell (lt_of_cell hv)).trans hv
        obtain ⟨x0, x1, x2⟩ := three_cells (at_later hbx h)
        exact ⟨⟨e _ _ _ e3, e _ _ _ e4, e _ _ _ e5⟩, ⟨x0, x1, x2⟩, e _ _ _ z1⟩
      have hdr : Below W3.heap.size W3 W3.drew := (Below.refl _ _).drew
      have HSS := hide hS
      have HQ := hide (And.intro (hq0.below hb3) (hq1.below hb3))
      have HI := hide (And.intro (hacc.below hb3) (And.intro (hres.below hb3) (And.intro (hst.keep hb3) (hbel.trans (hb3.mono hbel.size)))))
      have HLr := hide hW3
      have i1 : (i : Int) < (Ld.length : Int) := by omega
      have i2 : (i : Int) < 8 := by omega
      clear hS hacc hres hst hbel hq0 hq1 hcl hcl1 e3 e4 e5 z1 hb3 hbx hW3 hfp hf2 hxn hx12 hh8
      go_upto_region 5 with fail
      rw [← HLr.out]
      clear e0 e1 e2
      refine till_begin (fun w' => (w'.cell? ⟨w1.heap.size, 0, none⟩ = some (.bool s1) ∧ w'.cell? ⟨w1.heap.size, 1, none⟩ = some (.slice A1 n1 c1) ∧ w'.cell? ⟨w1.heap.size, 2, none⟩ = some (.slice B1 m1 d1)) ∧ (w'.cell? ⟨wr.heap.size, 0, none⟩ = some (.bool s2) ∧ w'.cell? ⟨wr.heap.size, 1, none⟩ = some (.slice A2 n2 c2) ∧ w'.cell? ⟨wr.heap.size, 2, none⟩ = some (.slice B2 m2 d2)) ∧ w'.cell? ⟨w.heap.size, i, none⟩ = some (.int .i64 (xn : Int))) [0, 1, 2, 3, 4, 5, 6, 7, 8, 9, 10] (by kernel_rfl) (HSS.out _ hdr) (fun hHeld => ?_)
      refine tt (i := 2) hHeld (some 21) ?_
      try simp only [Act.put, ptA, ptB, ptC]
      refine tt (i := 3) hHeld (some 22) ?_
      try simp only [Act.put, ptA, ptB, ptC]
      refine tt (i := 0) hHeld (some 19) ?_
      try simp only [Act.put, ptA, ptB, ptC]
      refine tt (i := 1) hHeld (some 20) ?_
      try simp only [Act.put, ptA, ptB, ptC]
      refine tt (i := 4) hHeld (some 23) ?_
      try simp only [Act.put, ptA, ptB, ptC]
      refine till_ready (rs := [5]) (by kernel_rfl) (by simp) ?_
      refine mem1 ?_
      refine till_step rfl (fun K hK => ?_)
      go_simp
      go_at_call 24
      refine (pow_up _ _ (Ld.getD i 0) xn 3000 (HQ.out.2.below hdr) (by omega) (by omega) (by omega) HF.out.1).mono ?_
      rintro e w1 ⟨v4, rfl, hdn⟩
      obtain ⟨r4, rfl, hr4, hd⟩ := hdn.ok (HF.out.1 xn (by omega)).2
      obtain ⟨s4, A4, n4, c4, B4, m4, d4, rfl⟩ := hr4.shape
      have H4 := hide hr4
      clear hr4 hdn
      have hg1 : Below W3.heap.size W3 w1 := hdr.trans (hd.mono hdr.size)
      clear hd
      go_wp2_with fail
      refine hK.out _ _ (HSS.out _ hg1) (fun hHeld => ?_)
      clear hK K
      try simp only [Act.put, ptA, ptB, ptC]
      refine tt (i := 6) hHeld (some 25) ?_
      try simp only [Act.put, ptA, ptB, ptC]
      refine tt (i := 7) hHeld (some 26) ?_
      try simp only [Act.put, ptA, ptB, ptC]
      refine till_ready (rs := [8]) (by kernel_rfl) (by simp) ?_
      refine mem1 ?_
      refine till_step rfl (fun K hK => ?_)
      go_simp
      go_at_call 119
      refine (must_c _ _ _ _ _ _ _ _).mono ?_
      rintro e w2 ⟨_, rfl, rfl, hd⟩
      replace H4 := hide (H4.out.below hd)
      have hg2 : Below W3.heap.size W3 w2 := hg1.trans (hd.mono hg1.size)
      clear hd
      go_wp2_with fail
      refine hK.out _ _ (HSS.out _ hg2) (fun hHeld => ?_)
      clear hK K
      try simp only [Act.put, ptA, ptB, ptC]
      refine till_ready (rs := [9]) (by kernel_rfl) (by simp) ?_
      refine mem1 ?_
      refine till_step rfl (fun K hK => ?_)
      go_simp
      have HP3 := row_pair (HQ.out.1.below hg2) (H4.out)
      have hg3 := below_al hg2 (.cells #[.bool s1, .slice A1 n1 c1, .slice B1 m1 d1, .bool s4, .slice A4 n4 c4, .slice B4 m4 d4] 43)
      have HP := hide HP3
      clear HP3
      refine hK.out _ _ (HSS.out _ hg3) (fun hHeld => ?_)
      clear hK K
      try simp only [Act.put, ptA, ptB, ptC]
      refine till_ready (rs := [10]) (by kernel_rfl) (by simp) ?_
      refine mem1 ?_
      refine till_step rfl (fun K hK => ?_)
      go_simp
      go_at_call 84
      refine (product_c _ _ [wtQ (fun i => Ld.getD i 0) xs i, powN (Ld.getD i 0) xn] 3000 HP.out (by omega) (by omega) (prod2_fit (by omega) HF.out.2.1 HF.out.2.2)).mono ?_
      rintro e w4 ⟨v5, rfl, hr5, hd⟩
      replace hr5 : RatV w4 v5 (wtQ (fun i => Ld.getD i 0) xs (i + 1)) 3000 := by rw [wtQ_step, wfQ, HXI.out, Int.toNat_natCast, ← prod2]; exact hr5
      obtain ⟨s5, A5, n5, c5, B5, m5, d5, rfl⟩ := hr5.shape
      have H5 := hide hr5
      clear hr5
      have hg4 : Below W3.heap.size W3 w4 := hg3.trans (hd.mono hg3.size)
      clear hd
      go_wp2_with fail
      refine hK.out _ _ (HSS.out _ hg4) (fun hHeld => ?_)
      clear hK K
      try simp only [Act.put, ptA, ptB, ptC]
      refine till_end (k := 11) (by rfl) (by rfl) (by kernel_rfl) ?_
      simp only [List.drop_succ_cons, List.drop_zero]
      clear hHeld
      have hoE := HI.out.1.below hg4
      obtain ⟨s', B1', m1', d1', B2', m2', d2', e0', e1', e2', -⟩ := (hoE.2 0 (by simp)).rat
      simp only [Nat.zero_mul, Nat.zero_add] at e0' e1' e2'
      have f0 := hoE.frozen 0
      have f1 := hoE.frozen 1
      have f2 := hoE.frozen 2
      have HG := hide (And.intro hoE hg4)
      clear hoE
      go_wp2
      case roundEnd =>
        obtain ⟨t1, t2, t3⟩ := HG.out.1.set3 (i := 0) (by simp) H5.out
        simp only [Nat.zero_mul, Nat.zero_add] at t1 t2 t3
        have hs3 := HI.out.2.2.2.size
        have hsG := HG.out.2.size
        have hbl := only_below (HI.out.2.2.2.trans (HG.out.2.mono hs3)) t3 (by omega) (by omega)
        refine ⟨⟨i + 1, by omega, by go_num, t1, ?_, ?_, hbl⟩, by simp [intOf]; omega⟩
        · exact (HI.out.2.1.below HG.out.2).same t2 (t3.block _ (by have := HI.out.2.1.lt; omega) (by intro e; injection e with e; omega))
        · exact (HI.out.2.2.1.keep HG.out.2).only t3 (by omega)
    · obtain rfl : i = Ld.length := by omega
      obtain ⟨s5, A5, n5, c5, B5, m5, d5, e6, e7, e8, hr3⟩ := (hacc.2 0 (by simp)).rat
      obtain ⟨_, _, _, _, _, _, _, x0, x1, x2, _⟩ := (hres.2 0 (by simp)).rat
      simp only [Nat.zero_mul, Nat.zero_add] at e6 e7 e8 x0 x1 x2
      simp only [List.getD_cons_zero] at hr3
      have f0 := hres.frozen 0
      have f1 := hres.frozen 1
      have f2 := hres.frozen 2
      have hlt2 := hres.lt
      have HH := hide (And.intro (show RatV wr _ q 3000 by rw [← H0.out.2.2.2.2.2.2]; exact hr3) hbel)
      clear hacc hres hst hbel hr3
      go_wp2
      refine bodyPost_ret (v := .agg #[.bool s5, .slice A5 n5 c5, .slice B5 m5 d5]) ?_ rfl ?_
      · simp [results, Tryz.results138, go_sem, x0, x1, x2, hlt2]
      have hr := HH.out.1
      obtain ⟨rn, rl, e, r1, r2⟩ := hr
      injection e with e
      simp only [Array.mk.injEq, List.cons.injEq, Value.bool.injEq, and_true] at e
      obtain ⟨rfl, rfl, rfl⟩ := e
      exact ⟨_, rfl, ⟨_, _, rfl, r1.set3 x0 x1 x2, r2.set3 x0 x1 x2⟩, below_set3 HH.out.2 (by omega) _ _ _⟩
end Go.Proofs.YtpoahodnakhmiaaGreat
