/- Walks: the reference's whole numbers as int64s. -/
import Derived.Test.YthnnbpnocefmgaaGreatInt64
namespace Go.Proofs.YthnnbpnocefmgaaGreat
set_option linter.unusedVariables false
set_option linter.unusedSimpArgs false
open Go.RowKit
def int9R (w : World) (z : Int) (v : Value) (w' : World) : Prop :=
  ((-9223372036854775808 ≤ z ∧ z ≤ 9223372036854775807 ∧ v = .tuple #[.int .i64 z, .bool true]) ∨ (¬ (-9223372036854775808 ≤ z ∧ z ≤ 9223372036854775807) ∧ v = .tuple #[.int .i64 0, .bool false])) ∧ Below w.heap.size w w'
set_option maxRecDepth 100000 in
set_option maxHeartbeats 4000000 in
theorem int649_c (w : World) (v : Value) (z : Int) (L : Nat) (hz : ZV w v z L) (hL : L ≤ 17592185000000) :
    Calls Tryz.prog 41 #[v] w (Ret (int9R w z)) := by
  obtain ⟨s, A, n, c, rfl, hs, hm⟩ := hz.parts
  obtain ⟨W, hW⟩ : ∃ W, W = w.alloc (.cells #[.bool s, .slice A n c] 39) := ⟨_, rfl⟩
  have hb0 : Below w.heap.size w W := by rw [hW]; exact (Below.refl _ _).alloc (Nat.le_refl _) _
  have hr : W.heap[w.heap.size]? = some (.cells #[.bool s, .slice A n c] 39) := by rw [hW]; exact at_new _ _
  have HX := hide (And.intro hr (And.intro (hz.below hb0) (And.intro (And.intro hs (hm.below hb0)) hb0)))
  have HSS := hide (fun w' (h : Below W.heap.size W w') => And.intro (two_cells (at_later hr h)).1 (two_cells (at_later hr h)).2.1)
  have HL := hide hW
  clear hz hs hm hW hb0 hr
  obtain ⟨c1, hc1⟩ : ∃ x, sgn z 9223372036854775807 = x := ⟨_, rfl⟩
  obtain ⟨c2, hc2⟩ : ∃ x, sgn z (-9223372036854775808) = x := ⟨_, rfl⟩
  have HC := hide (And.intro hc1 hc2)
  go_enter Tryz.func41, Tryz.ntmps41
  go_upto_region 1 with fail
  rw [← HL.out]
  by_cases hhi : 9223372036854775807 < z
  · have d1 : decide (0 < c1) = true := by apply decide_eq_true; rw [← hc1, sgn_gt hhi]; omega
    clear hc1 hc2
    go_cut [15] (fun s15 wx => s15 = .bool true ∧ Below W.heap.size W wx)
    case first =>
      have hdr : Below W.heap.size W W.drew := (Below.refl _ _).drew
      refine till_begin (fun w' => w'.cell? ⟨w.heap.size, 0, none⟩ = some (.bool s) ∧ w'.cell? ⟨w.heap.size, 1, none⟩ = some (.slice A n c)) [0, 1, 2, 3, 4, 5, 6, 7, 8, 9] (by kernel_rfl) (HSS.out _ hdr) (fun hHeld => ?_)
      refine tt (i := 0) hHeld (some 6) ?_
      try simp only [Act.put, ptA, ptB, ptC]
      refine till_ready (rs := [1]) (by kernel_rfl) (by simp) ?_
      refine mem1 ?_
      refine till_step rfl (fun K hK => ?_)
      go_simp
      go_at_call 31
      refine (of9_c _ 9223372036854775807 (by omega) (by omega)).mono ?_
      rintro e w1 ⟨va, rfl, hv, hd⟩
      have hg1 : Below W.heap.size W w1 := hdr.trans (hd.mono hdr.size)
      try (replace HVb := hide (HVb.out.below hd))
      obtain ⟨sa, Aa, na, ca, rfl, hs1, _⟩ := hv.parts
      clear hs1
      have HVa := hide hv
      clear hv
      clear hd
      go_wp2_with fail
      refine hK.out _ _ (HSS.out _ hg1) (fun hHeld => ?_)
      clear hK K
      try simp only [Act.put, ptA, ptB, ptC]
      refine till_ready (rs := [2]) (by kernel_rfl) (by simp) ?_
      refine mem1 ?_
      refine till_step rfl (fun K hK => ?_)
      go_simp
      go_at_call 40
      refine (cmp9_any _ _ _ z 9223372036854775807 L 3 (HX.out.2.1.below hg1) HVa.out (by omega) (by omega)).mono ?_
      rintro e w2 ⟨_, rfl, rfl, hd⟩
      have hg2 : Below W.heap.size W w2 := hg1.trans (hd.mono hg1.size)
      try (replace HVa := hide (HVa.out.below hd))
      try (replace HVb := hide (HVb.out.below hd))
      rw [HC.out.1]
      clear hd
      go_wp2_with fail
      refine hK.out _ _ (HSS.out _ hg2) (fun hHeld => ?_)
      clear hK K
      try simp only [Act.put, ptA, ptB, ptC]
      refine tt (i := 3) hHeld (some 9) ?_
      try simp only [Act.put, ptA, ptB, ptC]
      refine tt (i := 4) hHeld (some 10) ?_
      try simp only [Act.put, ptA, ptB, ptC]
      refine till_skip (i := 5) rfl (by kernel_rfl) (by kernel_rfl) (by kernel_rfl) (by kernel_rfl) (fun _ _ _ h => h) (by rfl) hHeld (some 11) rfl ?_
      try simp only [Act.put, ptA, ptB, ptC]
      refine till_skip (i := 6) rfl (by kernel_rfl) (by kernel_rfl) (by kernel_rfl) (by kernel_rfl) (fun _ _ _ h => h) (by rfl) hHeld (some 12) rfl ?_
      try simp only [Act.put, ptA, ptB, ptC]
      refine till_skip (i := 7) rfl (by kernel_rfl) (by kernel_rfl) (by kernel_rfl) (by kernel_rfl) (fun _ _ _ h => h) (by rfl) hHeld (some 13) rfl ?_
      try simp only [Act.put, ptA, ptB, ptC]
      refine till_skip (i := 8) rfl (by kernel_rfl) (by kernel_rfl) (by kernel_rfl) (by kernel_rfl) (fun _ _ _ h => h) (by rfl) hHeld (some 14) rfl ?_
      try simp only [Act.put, ptA, ptB, ptC]
      refine tt (i := 9) hHeld (some 15) ?_
      try simp only [Act.put, ptA, ptB, ptC]
      refine till_done (by kernel_rfl) ?_ _
      clear hHeld
      go_wp2_with fail
      go_meet
      exact ⟨rfl, hg2⟩
    case rest =>
      obtain ⟨rfl, hbel⟩ := hcut
      have HB := hide (below_next HX.out.2.2.2 hbel)
      clear hbel
      go_wp2
      refine bodyPost_ret (v := .tuple #[.int .i64 0, .bool false]) ?_ rfl ?_
      · simp [results, Tryz.results41, go_sem]
      exact ⟨_, rfl, .inr ⟨by omega, rfl⟩, HB.out⟩
  · have d1 : decide (0 < c1) = false := by apply decide_eq_false; rw [← hc1]; unfold sgn; split <;> (try split) <;> omega
    obtain ⟨b2, hb2⟩ : ∃ b, b = decide (c2 < 0) := ⟨_, rfl⟩
    have d2 : decide (c2 < 0) = b2 := hb2.symm
    have hlo : b2 = true ↔ z < -9223372036854775808 := by
      rw [hb2, decide_eq_true_iff, ← hc2]; unfold sgn; split <;> (try split) <;> omega
    clear hc1 hc2 hb2
    go_cut [15] (fun s15 wx => s15 = .bool b2 ∧ Below W.heap.size W wx)
    case first =>
      have hdr : Below W.heap.size W W.drew := (Below.refl _ _).drew
      refine till_begin (fun w' => w'.cell? ⟨w.heap.size, 0, none⟩ = some (.bool s) ∧ w'.cell? ⟨w.heap.size, 1, none⟩ = some (.slice A n c)) [0, 1, 2, 3, 4, 5, 6, 7, 8, 9] (by kernel_rfl) (HSS.out _ hdr) (fun hHeld => ?_)
      refine tt (i := 0) hHeld (some 6) ?_
      try simp only [Act.put, ptA, ptB, ptC]
      refine till_ready (rs := [1]) (by kernel_rfl) (by simp) ?_
      refine mem1 ?_
      refine till_step rfl (fun K hK => ?_)
      go_simp
      go_at_call 31
      refine (of9_c _ 9223372036854775807 (by omega) (by omega)).mono ?_
      rintro e w1 ⟨va, rfl, hv, hd⟩
      have hg1 : Below W.heap.size W w1 := hdr.trans (hd.mono hdr.size)
      try (replace HVb := hide (HVb.out.below hd))
      obtain ⟨sa, Aa, na, ca, rfl, hs1, _⟩ := hv.parts
      clear hs1
      have HVa := hide hv
      clear hv
      clear hd
      go_wp2_with fail
      refine hK.out _ _ (HSS.out _ hg1) (fun hHeld => ?_)
      clear hK K
      try simp only [Act.put, ptA, ptB, ptC]
      refine till_ready (rs := [2]) (by kernel_rfl) (by simp) ?_
      refine mem1 ?_
      refine till_step rfl (fun K hK => ?_)
      go_simp
      go_at_call 40
      refine (cmp9_any _ _ _ z 9223372036854775807 L 3 (HX.out.2.1.below hg1) HVa.out (by omega) (by omega)).mono ?_
      rintro e w2 ⟨_, rfl, rfl, hd⟩
      have hg2 : Below W.heap.size W w2 := hg1.trans (hd.mono hg1.size)
      try (replace HVa := hide (HVa.out.below hd))
      try (replace HVb := hide (HVb.out.below hd))
      rw [HC.out.1]
      clear hd
      go_wp2_with fail
      refine hK.out _ _ (HSS.out _ hg2) (fun hHeld => ?_)
      clear hK K
      try simp only [Act.put, ptA, ptB, ptC]
      refine tt (i := 3) hHeld (some 9) ?_
      try simp only [Act.put, ptA, ptB, ptC]
      refine tt (i := 4) hHeld (some 10) ?_
      try simp only [Act.put, ptA, ptB, ptC]
      refine tt (i := 5) hHeld (some 11) ?_
      try simp only [Act.put, ptA, ptB, ptC]
      refine till_ready (rs := [6]) (by kernel_rfl) (by simp) ?_
      refine mem1 ?_
      refine till_step rfl (fun K hK => ?_)
      go_simp
      go_at_call 31
      refine (of9_c _ (-9223372036854775808) (by omega) (by omega)).mono ?_
      rintro e w3 ⟨vb, rfl, hv, hd⟩
      have hg3 : Below W.heap.size W w3 := hg2.trans (hd.mono hg2.size)
      try (replace HVa := hide (HVa.out.below hd))
      obtain ⟨sb, Ab, nb, cb, rfl, hs1, _⟩ := hv.parts
      clear hs1
      have HVb := hide hv
      clear hv
      clear hd
      go_wp2_with fail
      refine hK.out _ _ (HSS.out _ hg3) (fun hHeld => ?_)
      clear hK K
      try simp only [Act.put, ptA, ptB, ptC]
      refine till_ready (rs := [7]) (by kernel_rfl) (by simp) ?_
      refine mem1 ?_
      refine till_step rfl (fun K hK => ?_)
      go_simp
      go_at_call 40
      refine (cmp9_any _ _ _ z (-9223372036854775808) L 3 (HX.out.2.1.below hg3) HVb.out (by omega) (by omega)).mono ?_
      rintro e w4 ⟨_, rfl, rfl, hd⟩
      have hg4 : Below W.heap.size W w4 := hg3.trans (hd.mono hg3.size)
      try (replace HVa := hide (HVa.out.below hd))
      try (replace HVb := hide (HVb.out.below hd))
      rw [HC.out.2]
      clear hd
      go_wp2_with fail
      refine hK.out _ _ (HSS.out _ hg4) (fun hHeld => ?_)
      clear hK K
      try simp only [Act.put, ptA, ptB, ptC]
      refine tt (i := 8) hHeld (some 14) ?_
      try simp only [Act.put, ptA, ptB, ptC]
      refine tt (i := 9) hHeld (some 15) ?_
      try simp only [Act.put, ptA, ptB, ptC]
      refine till_done (by kernel_rfl) ?_ _
      clear hHeld
      go_wp2_with fail
      go_meet
      exact ⟨rfl, hg4⟩
    case rest =>
      obtain ⟨rfl, hbel⟩ := hcut
      rename World => wx
      have HB := hide (below_next HX.out.2.2.2 hbel)
      cases b2 with
      | true =>
        have hz2 := hlo.1 rfl
        clear hbel d2
        go_wp2
        refine bodyPost_ret (v := .tuple #[.int .i64 0, .bool false]) ?_ rfl ?_
        · simp [results, Tryz.results41, go_sem]
        exact ⟨_, rfl, .inr ⟨by omega, rfl⟩, HB.out⟩
      | false =>
        have hz2 : ¬ z < -9223372036854775808 := fun h => absurd (hlo.2 h) (by simp)
        obtain ⟨A', c', xs, e, hc1, hm1, hax, hdx, hnx, hvx, -⟩ := (HX.out.2.2.1.2.below hbel).open_
        injection e with e1 e2 e3
        subst e1 e2 e3
        unfold maxLen at hm1
        have hbx := at_later HX.out.1 hbel
        have hsb := HX.out.2.2.1.1
        have HY := hide (And.intro hbx (And.intro hax (And.intro hdx (And.intro hvx trivial))))
        obtain ⟨k0, k1⟩ := two_cells hbx
        clear hax hdx hnx hvx hbx hbel d2 hlo
        by_cases hzn : z < 0
        · rw [decide_eq_true hzn] at hsb
          obtain rfl : s = true := hsb
          go_wp2
          go_loopw [4, 5] (fun s4 s5 wr => ∃ k : Nat, k ≤ xs.length ∧ s5 = .int .i64 ((k : Int) - 1) ∧ s4 = .int .i64 (-(val 1000000000 (xs.drop k))) ∧ wr = wx) (fun _ s5 _ => (intOf s5 + 1).toNat)
          case atStart => exact ⟨xs.length, Nat.le_refl _, rfl, by simp [val], rfl⟩
          case round =>
            obtain ⟨k, hk, rfl, rfl, rfl⟩ := hrel
            obtain ⟨k0, k1⟩ := two_cells HY.out.1
            obtain ⟨r, hr⟩ : ∃ r, r = val 1000000000 (xs.drop k) := ⟨_, rfl⟩
            have hr0 : 0 ≤ r := by rw [hr]; exact val_nonneg (by omega) (HY.out.2.2.1.drop k)
            rw [← hr]
            by_cases hk0 : 0 < k
            · obtain ⟨j, rfl⟩ : ∃ j, k = j + 1 := ⟨k - 1, by omega⟩
              obtain ⟨b, o, e, -, hcl⟩ := HY.out.2.1 (by omega)
              obtain rfl := e
              have hc := hcl j (by omega)
              obtain ⟨x, hx3⟩ : ∃ x, x = xs.getD j 0 := ⟨_, rfl⟩
              obtain ⟨hx0, hx1⟩ := HY.out.2.2.1.at_ (k := j) (by omega)
              have hv1 := val_dropS (B := 1000000000) (xs := xs) (k := j) (by omega)
              have hv2 := val_drop_le (B := 1000000000) (by omega) HY.out.2.2.1 j
              rw [HY.out.2.2.2.1] at hv2
              rw [← hr, ← hx3] at hv1
              rw [← hx3] at hc hx0 hx1
              have hb1 : r * 1000000000 + x ≤ (z.natAbs : Int) := by omega
              have e1 : (((j + 1 : Nat) : Int) - 1) = (j : Int) := by omega
              rw [e1]
              have HR := hide (And.intro hv1 hx3)
              have d3 : decide ((0 : Int) ≤ (j : Int)) = true := by apply decide_eq_true; omega
              clear hr hx3 hcl e1 hv1 hv2
              go_wp2
              refine ⟨⟨j, by omega, rfl, ?_, trivial⟩, by simp [intOf]⟩
              rw [HR.out.1]
              congr 1; omega
            · obtain rfl : k = 0 := by omega
              rw [List.drop_zero, HY.out.2.2.2.1] at hr
              have HR := hide hr
              clear hr
              go_wp2
              refine bodyPost_ret (v := .tuple #[.int .i64 (-r), .bool true]) ?_ rfl ?_
              · simp [results, Tryz.results41, go_sem]
              have hz2 : z = -r := by have := HR.out; omega
              exact ⟨_, rfl, .inl ⟨by omega, by omega, by rw [hz2]⟩, HB.out⟩
        · rw [decide_eq_false hzn] at hsb
          obtain rfl : s = false := hsb
          go_wp2
          go_loopw [4, 5] (fun s4 s5 wr => ∃ k : Nat, k ≤ xs.length ∧ s5 = .int .i64 ((k : Int) - 1) ∧ s4 = .int .i64 ((val 1000000000 (xs.drop k))) ∧ wr = wx) (fun _ s5 _ => (intOf s5 + 1).toNat)
          case atStart => exact ⟨xs.length, Nat.le_refl _, rfl, by simp [val], rfl⟩
          case round =>
            obtain ⟨k, hk, rfl, rfl, rfl⟩ := hrel
            obtain ⟨k0, k1⟩ := two_cells HY.out.1
            obtain ⟨r, hr⟩ : ∃ r, r = val 1000000000 (xs.drop k) := ⟨_, rfl⟩
            have hr0 : 0 ≤ r := by rw [hr]; exact val_nonneg (by omega) (HY.out.2.2.1.drop k)
            rw [← hr]
            by_cases hk0 : 0 < k
            · obtain ⟨j, rfl⟩ : ∃ j, k = j + 1 := ⟨k - 1, by omega⟩
              obtain ⟨b, o, e, -, hcl⟩ := HY.out.2.1 (by omega)
              obtain rfl := e
              have hc := hcl j (by omega)
              obtain ⟨x, hx3⟩ : ∃ x, x = xs.getD j 0 := ⟨_, rfl⟩
              obtain ⟨hx0, hx1⟩ := HY.out.2.2.1.at_ (k := j) (by omega)
              have hv1 := val_dropS (B := 1000000000) (xs := xs) (k := j) (by omega)
              have hv2 := val_drop_le (B := 1000000000) (by omega) HY.out.2.2.1 j
              rw [HY.out.2.2.2.1] at hv2
              rw [← hr, ← hx3] at hv1
              rw [← hx3] at hc hx0 hx1
              have hb1 : r * 1000000000 + x ≤ (z.natAbs : Int) := by omega
              have e1 : (((j + 1 : Nat) : Int) - 1) = (j : Int) := by omega
              rw [e1]
              have HR := hide (And.intro hv1 hx3)
              have d3 : decide ((0 : Int) ≤ (j : Int)) = true := by apply decide_eq_true; omega
              clear hr hx3 hcl e1 hv1 hv2
              go_wp2
              refine ⟨⟨j, by omega, rfl, ?_, trivial⟩, by simp [intOf]⟩
              rw [HR.out.1]
            · obtain rfl : k = 0 := by omega
              rw [List.drop_zero, HY.out.2.2.2.1] at hr
              have HR := hide hr
              clear hr
              go_wp2
              refine bodyPost_ret (v := .tuple #[.int .i64 (r), .bool true]) ?_ rfl ?_
              · simp [results, Tryz.results41, go_sem]
              have hz2 : z = r := by have := HR.out; omega
              exact ⟨_, rfl, .inl ⟨by omega, by omega, by rw [hz2]⟩, HB.out⟩
end Go.Proofs.YthnnbpnocefmgaaGreat
