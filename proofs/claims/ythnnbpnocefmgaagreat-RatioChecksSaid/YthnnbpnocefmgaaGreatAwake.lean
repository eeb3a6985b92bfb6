import Derived.Test.YthnnbpnocefmgaaGreatDeny
import Derived.Test.YthnnbpnocefmgaaGreatApp
import Derived.Deep.Cut
import Derived.Deep.CutRange
namespace Go.Proofs.YthnnbpnocefmgaaGreat
set_option linter.unusedVariables false
set_option linter.unusedSimpArgs false
open Go.RowKit
theorem deny_aw (w : World) (va vb : Value) (ha : RowsV w va awRows 1) (hb : RowV w vb awB 1) :
  Calls Tryz.prog 16 #[va, vb] w (Ret (fun v w' => ∃ g c, v = .tuple #[.slice (some ⟨g, 0, none⟩) 2 c, .bool true] ∧ Below w.heap.size w w')) := by
 refine (deny_c w va vb awRows awB 1 2 ha hb (by omega) (by omega) (by decide) (by decide) ?_ (by omega) (by omega) rfl awFit awCheck).mono ?_
 ·intro i hi
  have hi' : i = 0 ∨ i = 1 := by simp only [awRows, List.length_cons, List.length_nil] at hi; omega
  rcases hi' with rfl | rfl <;> rfl
 ·rintro e w1 ⟨_, rfl, hd, h | h⟩
  ·obtain ⟨_, u, g, rfl, c, rfl, _⟩ := h
   rw [awRow]
   exact ⟨_, rfl, g, c, rfl, hd⟩
  ·exact absurd awDenied h.1
def TrueR (w : World) (v : Value) (w' : World) : Prop := v = .bool true ∧ Below w.heap.size w w'
set_option maxRecDepth 100000 in
set_option maxHeartbeats 4000000 in
theorem awake_c (w : World) : Calls Tryz.prog 17 #[] w (Ret (TrueR w)) := by
 go_enter Tryz.func17, Tryz.ntmps17
 go_wp2_with fail
 refine (make_c _ 1 3 (by omega) (by omega) (by omega) (by omega)).mono ?_
 rintro e w1 ⟨_, rfl, hb, v1, rfl, q1⟩
 rw [if_neg (by omega)] at q1 ⊢
 replace q1 := q1.fit (L' := 1) (fit_of (by decide +kernel))
 obtain ⟨N, l, rfl, h1, h2⟩ := id q1
 obtain ⟨A11, c11, xs, rfl, _⟩ := h1.open_
 generalize xs.length = n11 at *
 obtain ⟨B11, d11, ys, rfl, _⟩ := h2.open_
 generalize ys.length = m11 at *
 generalize decide ((Rat.divInt 1 3 : Rat).num < 0) = s11 at *
 clear h1 h2
 go_wp2_with fail
 have hbx := box3 (below_start w1 (.cells #[.bool s11, .slice A11 n11 c11, .slice B11 m11 d11] 35))
 obtain ⟨x0, x1, x2, _, _, _, xs⟩ := hbx
 have hda : Below w1.heap.size w1 (w1.alloc (.cells #[.bool s11, .slice A11 n11 c11, .slice B11 m11 d11] 35)) := (Below.refl _ _).alloc (nr _) _
 have hbn := bnx hb hda
 replace q1 := q1.below hda
 generalize (w1.alloc (.cells #[.bool s11, .slice A11 n11 c11, .slice B11 m11 d11] 35)) = W1 at *
 generalize w1.heap.size = b1 at x0 x1 x2 xs ⊢
 clear hb hda
 refine (make_c _ 1 6 (by omega) (by omega) (by omega) (by omega)).mono ?_
 rintro e w2 ⟨_, rfl, hd, v2, rfl, q2⟩
 rw [if_neg (by omega)] at q2 ⊢
 replace q2 := q2.fit (L' := 1) (fit_of (by decide +kernel))
 replace q1 := q1.below hd
 replace x0 := (hd.cell (lt_of_cell x0)).trans x0
 replace x1 := (hd.cell (lt_of_cell x1)).trans x1
 replace x2 := (hd.cell (lt_of_cell x2)).trans x2
 have hb := bnx hbn hd
 clear hbn
 obtain ⟨N, l, rfl, h1, h2⟩ := id q2
 obtain ⟨A12, c12, xs, rfl, _⟩ := h1.open_
 generalize xs.length = n12 at *
 obtain ⟨B12, d12, ys, rfl, _⟩ := h2.open_
 generalize ys.length = m12 at *
 generalize decide ((Rat.divInt 1 6 : Rat).num < 0) = s12 at *
 clear h1 h2
 clear hd
 have hbx := box3 (below_start w2 (.cells #[.bool s12, .slice A12 n12 c12, .slice B12 m12 d12] 35))
 obtain ⟨y0, y1, y2, _, _, _, ys⟩ := hbx
 have hda : Below w2.heap.size w2 (w2.alloc (.cells #[.bool s12, .slice A12 n12 c12, .slice B12 m12 d12] 35)) := (Below.refl _ _).alloc (nr _) _
 have hbn := bnx hb hda
 replace q1 := q1.below hda
 replace q2 := q2.below hda
 replace x0 := (hda.cell (lt_of_cell x0)).trans x0
 replace x1 := (hda.cell (lt_of_cell x1)).trans x1
 replace x2 := (hda.cell (lt_of_cell x2)).trans x2
 go_wp2_with fail
 generalize (w2.alloc (.cells #[.bool s12, .slice A12 n12 c12, .slice B12 m12 d12] 35)) = W2 at *
 generalize w2.heap.size = b3 at y0 y1 y2 ys ⊢
 clear hb hda
 refine (add_q _ _ _ (Rat.divInt 1 3) (Rat.divInt 1 6) 1 q1 q2 (by omega)).mono ?_
 rintro e w3 ⟨_, rfl, hd, hcase⟩
 have hb := bnx hbn hd
 clear hbn x0 x1 x2 y0 y1 y2 hd
 rcases hcase with ⟨_, r, rfl, q3⟩ | ⟨hns, _⟩
 case inr => exact absurd awSmall hns
 clear q1 q2
 obtain ⟨N, l, rfl, h1, h2⟩ := id q3
 obtain ⟨A13, c13, xs, rfl, _⟩ := h1.open_
 generalize xs.length = n13 at *
 obtain ⟨B13, d13, ys, rfl, _⟩ := h2.open_
 generalize ys.length = m13 at *
 generalize decide (((Rat.divInt 1 3 + Rat.divInt 1 6) : Rat).num < 0) = s13 at *
 clear h1 h2
 have hbx := box3 (below_start w3 (.cells #[.bool s13, .slice A13 n13 c13, .slice B13 m13 d13] 35))
 obtain ⟨z0, z1, z2, _, _, _, zs⟩ := hbx
 have hda : Below w3.heap.size w3 (w3.alloc (.cells #[.bool s13, .slice A13 n13 c13, .slice B13 m13 d13] 35)) := (Below.refl _ _).alloc (nr _) _
 have hbn := bnx hb hda
 replace q3 := q3.below hda
 go_wp2_with fail
 generalize (w3.alloc (.cells #[.bool s13, .slice A13 n13 c13, .slice B13 m13 d13] 35)) = W3 at *
 generalize w3.heap.size = b5 at z0 z1 z2 zs ⊢
 clear hb hda
 refine (of_c _ 1 (by omega) (by omega)).mono ?_
 rintro e w4 ⟨v, rfl, r1, hd⟩
 replace r1 := r1.fit (L' := 1) (fit_of (by decide +kernel))
 rw [show ((1 : Int) : Rat) = 1 from rfl] at r1
 replace q3 := q3.below hd
 replace z0 := (hd.cell (lt_of_cell z0)).trans z0
 replace z1 := (hd.cell (lt_of_cell z1)).trans z1
 replace z2 := (hd.cell (lt_of_cell z2)).trans z2
 have hb := bnx hbn hd
 clear hbn hd zs
 obtain ⟨N, l, rfl, h1, h2⟩ := id r1
 obtain ⟨A1, c1, xs, rfl, _⟩ := h1.open_
 generalize xs.length = n1 at *
 obtain ⟨B1, d1, ys, rfl, _⟩ := h2.open_
 generalize ys.length = m1 at *
 generalize decide ((((1 : Int) : Rat) : Rat).num < 0) = s1 at *
 clear h1 h2
 go_wp2_with fail
 refine (of_c _ 2 (by omega) (by omega)).mono ?_
 rintro e w5 ⟨v, rfl, r2, hd⟩
 replace r2 := r2.fit (L' := 1) (fit_of (by decide +kernel))
 rw [show ((2 : Int) : Rat) = 2 from rfl] at r2
 replace q3 := q3.below hd
 replace z0 := (hd.cell (lt_of_cell z0)).trans z0
 replace z1 := (hd.cell (lt_of_cell z1)).trans z1
 replace z2 := (hd.cell (lt_of_cell z2)).trans z2
 replace r1 := r1.below hd
 replace hb := bnx hb hd
 clear hd
 obtain ⟨N, l, rfl, h1, h2⟩ := id r2
 obtain ⟨A2, c2, xs, rfl, _⟩ := h1.open_
 generalize xs.length = n2 at *
 obtain ⟨B2, d2, ys, rfl, _⟩ := h2.open_
 generalize ys.length = m2 at *
 generalize decide ((((2 : Int) : Rat) : Rat).num < 0) = s2 at *
 clear h1 h2
 go_wp2_with fail
 have hbx := boxes2 (Below.refl (w5.heap.size + 2) ((w5.alloc (.cells #[.bool s1, .slice A1 n1 c1, .slice B1 m1 d1] 35)).alloc (.cells #[.bool s2, .slice A2 n2 c2, .slice B2 m2 d2] 35)))
 have hda : Below w5.heap.size w5 ((w5.alloc (.cells #[.bool s1, .slice A1 n1 c1, .slice B1 m1 d1] 35)).alloc (.cells #[.bool s2, .slice A2 n2 c2, .slice B2 m2 d2] 35)) := ((Below.refl _ _).alloc (nr _) _).alloc (by simp) _
 replace hb := bnx hb hda
 replace q3 := q3.below hda
 replace r1 := r1.below hda
 replace r2 := r2.below hda
 replace z0 := (hda.cell (lt_of_cell z0)).trans z0
 replace z1 := (hda.cell (lt_of_cell z1)).trans z1
 replace z2 := (hda.cell (lt_of_cell z2)).trans z2
 clear hda
 generalize (w5.alloc (.cells #[.bool s1, .slice A1 n1 c1, .slice B1 m1 d1] 35)).alloc (.cells #[.bool s2, .slice A2 n2 c2, .slice B2 m2 d2] 35) = W at *
 generalize w5.heap.size + 1 = b8 at *
 generalize w5.heap.size = b7 at hbx ⊢
 obtain ⟨⟨k0, k1, k2⟩, ⟨m0, m1', m2'⟩, _, _⟩ := hbx
 have hbW := hb
 have hSall : ∀ w', Below W.heap.size W w' → w'.cell? ⟨b7, 0, none⟩ = some (.bool s1) ∧ w'.cell? ⟨b7, 1, none⟩ = some (.slice A1 n1 c1) ∧ w'.cell? ⟨b7, 2, none⟩ = some (.slice B1 m1 d1) ∧ w'.cell? ⟨b8, 0, none⟩ = some (.bool s2) ∧ w'.cell? ⟨b8, 1, none⟩ = some (.slice A2 n2 c2) ∧ w'.cell? ⟨b8, 2, none⟩ = some (.slice B2 m2 d2) := fun w' h => ⟨(h.cell (lt_of_cell k0)).trans k0, (h.cell (lt_of_cell k1)).trans k1, (h.cell (lt_of_cell k2)).trans k2, (h.cell (lt_of_cell m0)).trans m0, (h.cell (lt_of_cell m1')).trans m1', (h.cell (lt_of_cell m2')).trans m2'⟩
 have HS := hide hSall; clear hSall
 clear hb
 go_cut [9, 10] from 27 to 40 (fun s9 s10 w' => ∃ g c, s9 = .slice (some ⟨g, 0, none⟩) 2 c ∧ s10 = .bool true ∧ Below W.heap.size W w')
 case first =>
  have hSall := HS.out; clear HS
  clear z0 z1 z2 q3 k0 k1 k2 m0 m1' m2' hbW
  refine till_begin (fun w' => w'.cell? ⟨b7, 0, none⟩ = some (.bool s1) ∧ w'.cell? ⟨b7, 1, none⟩ = some (.slice A1 n1 c1) ∧ w'.cell? ⟨b7, 2, none⟩ = some (.slice B1 m1 d1) ∧ w'.cell? ⟨b8, 0, none⟩ = some (.bool s2) ∧ w'.cell? ⟨b8, 1, none⟩ = some (.slice A2 n2 c2) ∧ w'.cell? ⟨b8, 2, none⟩ = some (.slice B2 m2 d2)) [0, 1, 2, 3, 4, 5, 6, 7, 8, 9, 10, 11, 12, 13, 14, 15] (by kernel_rfl) (hSall _ (Below.refl _ _).drew) (fun hh => ?_)
  refine tt (i := 0) hh (some 28) ?_
  try simp only [Act.put, ptA, ptB, ptC]
  refine tt (i := 1) hh (some 29) ?_
  try simp only [Act.put, ptA, ptB, ptC]
  refine tt (i := 3) hh (some 31) ?_
  try simp only [Act.put, ptA, ptB, ptC]
  refine tt (i := 7) hh (some 35) ?_
  try simp only [Act.put, ptA, ptB, ptC]
  have hb : Below W.heap.size W W.drew := (Below.refl _ _).drew
  replace r1 := r1.below hb
  replace r2 := r2.below hb
  generalize W.drew = X0 at *
  refine till_ready (rs := [2, 4]) (by kernel_rfl) (by simp) ?_
  refine List.forall_mem_cons.2 ⟨?_, List.forall_mem_cons.2 ⟨?_, fun _ h => absurd h List.not_mem_nil⟩⟩
  ·refine till_step rfl (fun K hK => ?_)
   go_simp
   have p2 := row2_new X0 r1 r2
   have hd : Below X0.heap.size X0 (X0.alloc (.cells #[.bool s1, .slice A1 n1 c1, .slice B1 m1 d1, .bool s2, .slice A2 n2 c2, .slice B2 m2 d2] 35)) := (Below.refl _ _).alloc (nr _) _
   generalize (X0.alloc (.cells #[.bool s1, .slice A1 n1 c1, .slice B1 m1 d1, .bool s2, .slice A2 n2 c2, .slice B2 m2 d2] 35)) = X1 at *
   generalize X0.heap.size = g2 at p2 ⊢
   clear hh
   replace hb := bnx hb hd
   replace r1 := r1.below hd
   replace r2 := r2.below hd
   clear hd
   refine hK.out _ _ (hSall _ hb) (fun hh => ?_)
   clear hK K
   try simp only [Act.put, ptA, ptB, ptC]
   refine till_ready (rs := [4]) (by kernel_rfl) (by simp) ?_
   refine mem1 ?_
   refine till_step rfl (fun K hK => ?_)
   go_simp
   refine (of_c _ 4 (by omega) (by omega)).mono ?_
   rintro e X2 ⟨v, rfl, r3, hd⟩
   replace r3 := r3.fit (L' := 1) (fit_of (by decide +kernel))
   obtain ⟨N, l, rfl, q1, q2⟩ := id r3
   obtain ⟨A3, c3, xs, rfl, _⟩ := q1.open_
   generalize xs.length = n3 at *
   obtain ⟨B3, d3, ys, rfl, _⟩ := q2.open_
   generalize ys.length = m3 at *
   generalize decide (((4 : Int) : Rat).num < 0) = s3 at *
   clear q1 q2
   go_wp2_with fail
   clear hh
   replace hb := bnx hb hd
   replace p2 := p2.below hd
   replace r1 := r1.below hd
   replace r2 := r2.below hd
   clear hd
   refine hK.out _ _ (hSall _ hb) (fun hh => ?_)
   clear hK K
   try simp only [Act.put, ptA, ptB, ptC]
   refine till_ready (rs := [5, 8]) (by kernel_rfl) (by simp) ?_
   refine List.forall_mem_cons.2 ⟨?_, List.forall_mem_cons.2 ⟨?_, fun _ h => absurd h List.not_mem_nil⟩⟩
   ·refine till_step rfl (fun K hK => ?_)
    go_simp
    have p5 := row2_new X2 r2 r3
    have hd : Below X2.heap.size X2 (X2.alloc (.cells #[.bool s2, .slice A2 n2 c2, .slice B2 m2 d2, .bool s3, .slice A3 n3 c3, .slice B3 m3 d3] 35)) := (Below.refl _ _).alloc (nr _) _
    generalize (X2.alloc (.cells #[.bool s2, .slice A2 n2 c2, .slice B2 m2 d2, .bool s3, .slice A3 n3 c3, .slice B3 m3 d3] 35)) = X3 at *
    generalize X2.heap.size = g5 at p5 ⊢
    clear hh
    replace hb := bnx hb hd
    replace p2 := p2.below hd
    replace r1 := r1.below hd
    replace r2 := r2.below hd
    replace r3 := r3.below hd
    clear hd
    refine hK.out _ _ (hSall _ hb) (fun hh => ?_)
    clear hK K
    try simp only [Act.put, ptA, ptB, ptC]
    refine till_ready (rs := [6, 8]) (by kernel_rfl) (by simp) ?_
    refine List.forall_mem_cons.2 ⟨?_, List.forall_mem_cons.2 ⟨?_, fun _ h => absurd h List.not_mem_nil⟩⟩
    ·refine till_step rfl (fun K hK => ?_)
     go_simp
     have p6 := rows2_new X3 p2 p5
     have hd : Below X3.heap.size X3 (X3.alloc (.cells #[.slice (some ⟨g2, 0, none⟩) 2 2, .slice (some ⟨g5, 0, none⟩) 2 2] 26)) := (Below.refl _ _).alloc (nr _) _
     generalize (X3.alloc (.cells #[.slice (some ⟨g2, 0, none⟩) 2 2, .slice (some ⟨g5, 0, none⟩) 2 2] 26)) = X4 at *
     generalize X3.heap.size = g6 at p6 ⊢
     clear hh
     replace hb := bnx hb hd
     replace p2 := p2.below hd
     replace p5 := p5.below hd
     replace r1 := r1.below hd
     replace r2 := r2.below hd
     replace r3 := r3.below hd
     clear hd
     refine hK.out _ _ (hSall _ hb) (fun hh => ?_)
     clear hK K
     try simp only [Act.put, ptA, ptB, ptC]
     refine till_ready (rs := [8]) (by kernel_rfl) (by simp) ?_
     refine mem1 ?_
     refine till_step rfl (fun K hK => ?_)
     go_simp
     refine (of_c _ 3 (by omega) (by omega)).mono ?_
     rintro e X5 ⟨v, rfl, r4, hd⟩
     replace r4 := r4.fit (L' := 1) (fit_of (by decide +kernel))
     obtain ⟨N, l, rfl, q1, q2⟩ := id r4
     obtain ⟨A4, c4, xs, rfl, _⟩ := q1.open_
     generalize xs.length = n4 at *
     obtain ⟨B4, d4, ys, rfl, _⟩ := q2.open_
     generalize ys.length = m4 at *
     generalize decide (((3 : Int) : Rat).num < 0) = s4 at *
     clear q1 q2
     go_wp2_with fail
     clear hh
     replace hb := bnx hb hd
     replace p2 := p2.below hd
     replace p5 := p5.below hd
     replace p6 := p6.below hd
     replace r1 := r1.below hd
     replace r2 := r2.below hd
     replace r3 := r3.below hd
     clear hd
     refine hK.out _ _ (hSall _ hb) (fun hh => ?_)
     clear hK K
     try simp only [Act.put, ptA, ptB, ptC]
     refine till_ready (rs := [9]) (by kernel_rfl) (by simp) ?_
     refine mem1 ?_
     refine till_step rfl (fun K hK => ?_)
     go_simp
     have p9 := row2_new X5 r1 r4
     have hd : Below X5.heap.size X5 (X5.alloc (.cells #[.bool s1, .slice A1 n1 c1, .slice B1 m1 d1, .bool s4, .slice A4 n4 c4, .slice B4 m4 d4] 35)) := (Below.refl _ _).alloc (nr _) _
     generalize (X5.alloc (.cells #[.bool s1, .slice A1 n1 c1, .slice B1 m1 d1, .bool s4, .slice A4 n4 c4, .slice B4 m4 d4] 35)) = X6 at *
     generalize X5.heap.size = g9 at p9 ⊢
     clear hh
     replace hb := bnx hb hd
     replace p2 := p2.below hd
     replace p5 := p5.below hd
     replace p6 := p6.below hd
     replace r1 := r1.below hd
     replace r2 := r2.below hd
     replace r3 := r3.below hd
     replace r4 := r4.below hd
     clear hd
     refine hK.out _ _ (hSall _ hb) (fun hh => ?_)
     clear hK K
     try simp only [Act.put, ptA, ptB, ptC]
     refine till_ready (rs := [10]) (by kernel_rfl) (by simp) ?_
     refine mem1 ?_
     refine till_step rfl (fun K hK => ?_)
     go_simp
     refine (deny_aw _ _ _ p6 p9).mono ?_
     rintro e X7 ⟨_, rfl, g, c, rfl, hd⟩
     go_wp2_with fail
     clear hh
     replace hb := bnx hb hd
     replace p2 := p2.below hd
     replace p5 := p5.below hd
     replace p6 := p6.below hd
     replace p9 := p9.below hd
     replace r1 := r1.below hd
     replace r2 := r2.below hd
     replace r3 := r3.below hd
     replace r4 := r4.below hd
     clear hd
     refine hK.out _ _ (hSall _ hb) (fun hh => ?_)
     clear hK K
     try simp only [Act.put, ptA, ptB, ptC]
     refine tt (i := 11) hh (some 27) ?_
     try simp only [Act.put, ptA, ptB, ptC]
     refine tt (i := 12) hh (some 39) ?_
     try simp only [Act.put, ptA, ptB, ptC]
     refine tt (i := 13) hh (some 40) ?_
     try simp only [Act.put, ptA, ptB, ptC]
     refine tt (i := 14) hh (some 9) ?_
     try simp only [Act.put, ptA, ptB, ptC]
     refine tt (i := 15) hh (some 10) ?_
     try simp only [Act.put, ptA, ptB, ptC]
     refine till_done (by kernel_rfl) ?_ _
     clear hh
     go_wp2
     go_meet
     exact ⟨g, c, rfl, rfl, hb⟩
    ·refine till_step rfl (fun K hK => ?_)
     go_simp
     refine (of_c _ 3 (by omega) (by omega)).mono ?_
     rintro e X8 ⟨v, rfl, r4, hd⟩
     replace r4 := r4.fit (L' := 1) (fit_of (by decide +kernel))
     obtain ⟨N, l, rfl, q1, q2⟩ := id r4
     obtain ⟨A4, c4, xs, rfl, _⟩ := q1.open_
     generalize xs.length = n4 at *
     obtain ⟨B4, d4, ys, rfl, _⟩ := q2.open_
     generalize ys.length = m4 at *
     generalize decide (((3 : Int) : Rat).num < 0) = s4 at *
     clear q1 q2
     go_wp2_with fail
     clear hh
     replace hb := bnx hb hd
     replace p2 := p2.below hd
     replace p5 := p5.below hd
     replace r1 := r1.below hd
     replace r2 := r2.below hd
     replace r3 := r3.below hd
     clear hd
     refine hK.out _ _ (hSall _ hb) (fun hh => ?_)
     clear hK K
     try simp only [Act.put, ptA, ptB, ptC]
     refine till_ready (rs := [6, 9]) (by kernel_rfl) (by simp) ?_
     refine List.forall_mem_cons.2 ⟨?_, List.forall_mem_cons.2 ⟨?_, fun _ h => absurd h List.not_mem_nil⟩⟩
     ·refine till_step rfl (fun K hK => ?_)
      go_simp
      have p6 := rows2_new X8 p2 p5
      have hd : Below X8.heap.size X8 (X8.alloc (.cells #[.slice (some ⟨g2, 0, none⟩) 2 2, .slice (some ⟨g5, 0, none⟩) 2 2] 26)) := (Below.refl _ _).alloc (nr _) _
      generalize (X8.alloc (.cells #[.slice (some ⟨g2, 0, none⟩) 2 2, .slice (some ⟨g5, 0, none⟩) 2 2] 26)) = X9 at *
      generalize X8.heap.size = g6 at p6 ⊢
      clear hh
      replace hb := bnx hb hd
      replace p2 := p2.below hd
      replace p5 := p5.below hd
      replace r1 := r1.below hd
      replace r2 := r2.below hd
      replace r3 := r3.below hd
      replace r4 := r4.below hd
      clear hd
      refine hK.out _ _ (hSall _ hb) (fun hh => ?_)
      clear hK K
      try simp only [Act.put, ptA, ptB, ptC]
      refine till_ready (rs := [9]) (by kernel_rfl) (by simp) ?_
      refine mem1 ?_
      refine till_step rfl (fun K hK => ?_)
      go_simp
      have p9 := row2_new X9 r1 r4
      have hd : Below X9.heap.size X9 (X9.alloc (.cells #[.bool s1, .slice A1 n1 c1, .slice B1 m1 d1, .bool s4, .slice A4 n4 c4, .slice B4 m4 d4] 35)) := (Below.refl _ _).alloc (nr _) _
      generalize (X9.alloc (.cells #[.bool s1, .slice A1 n1 c1, .slice B1 m1 d1, .bool s4, .slice A4 n4 c4, .slice B4 m4 d4] 35)) = X10 at *
      generalize X9.heap.size = g9 at p9 ⊢
      clear hh
      replace hb := bnx hb hd
      replace p2 := p2.below hd
      replace p5 := p5.below hd
      replace p6 := p6.below hd
      replace r1 := r1.below hd
      replace r2 := r2.below hd
      replace r3 := r3.below hd
      replace r4 := r4.below hd
      clear hd
      refine hK.out _ _ (hSall _ hb) (fun hh => ?_)
      clear hK K
      try simp only [Act.put, ptA, ptB, ptC]
      refine till_ready (rs := [10]) (by kernel_rfl) (by simp) ?_
      refine mem1 ?_
      refine till_step rfl (fun K hK => ?_)
      go_simp
      refine (deny_aw _ _ _ p6 p9).mono ?_
      rintro e X11 ⟨_, rfl, g, c, rfl, hd⟩
      go_wp2_with fail
      clear hh
      replace hb := bnx hb hd
      replace p2 := p2.below hd
      replace p5 := p5.below hd
      replace p6 := p6.below hd
      replace p9 := p9.below hd
      replace r1 := r1.below hd
      replace r2 := r2.below hd
      replace r3 := r3.below hd
      replace r4 := r4.below hd
      clear hd
      refine hK.out _ _ (hSall _ hb) (fun hh => ?_)
      clear hK K
      try simp only [Act.put, ptA, ptB, ptC]
      refine tt (i := 11) hh (some 27) ?_
      try simp only [Act.put, ptA, ptB, ptC]
      refine tt (i := 12) hh (some 39) ?_
      try simp only [Act.put, ptA, ptB, ptC]
      refine tt (i := 13) hh (some 40) ?_
      try simp only [Act.put, ptA, ptB, ptC]
      refine tt (i := 14) hh (some 9) ?_
      try simp only [Act.put, ptA, ptB, ptC]
      refine tt (i := 15) hh (some 10) ?_
      try simp only [Act.put, ptA, ptB, ptC]
      refine till_done (by kernel_rfl) ?_ _
      clear hh
      go_wp2
      go_meet
      exact ⟨g, c, rfl, rfl, hb⟩
     ·refine till_step rfl (fun K hK => ?_)
      go_simp
      have p9 := row2_new X8 r1 r4
      have hd : Below X8.heap.size X8 (X8.alloc (.cells #[.bool s1, .slice A1 n1 c1, .slice B1 m1 d1, .bool s4, .slice A4 n4 c4, .slice B4 m4 d4] 35)) := (Below.refl _ _).alloc (nr _) _
      generalize (X8.alloc (.cells #[.bool s1, .slice A1 n1 c1, .slice B1 m1 d1, .bool s4, .slice A4 n4 c4, .slice B4 m4 d4] 35)) = X12 at *
      generalize X8.heap.size = g9 at p9 ⊢
      clear hh
      replace hb := bnx hb hd
      replace p2 := p2.below hd
      replace p5 := p5.below hd
      replace r1 := r1.below hd
      replace r2 := r2.below hd
      replace r3 := r3.below hd
      replace r4 := r4.below hd
      clear hd
      refine hK.out _ _ (hSall _ hb) (fun hh => ?_)
      clear hK K
      try simp only [Act.put, ptA, ptB, ptC]
      refine till_ready (rs := [6]) (by kernel_rfl) (by simp) ?_
      refine mem1 ?_
      refine till_step rfl (fun K hK => ?_)
      go_simp
      have p6 := rows2_new X12 p2 p5
      have hd : Below X12.heap.size X12 (X12.alloc (.cells #[.slice (some ⟨g2, 0, none⟩) 2 2, .slice (some ⟨g5, 0, none⟩) 2 2] 26)) := (Below.refl _ _).alloc (nr _) _
      generalize (X12.alloc (.cells #[.slice (some ⟨g2, 0, none⟩) 2 2, .slice (some ⟨g5, 0, none⟩) 2 2] 26)) = X13 at *
      generalize X12.heap.size = g6 at p6 ⊢
      clear hh
      replace hb := bnx hb hd
      replace p2 := p2.below hd
      replace p5 := p5.below hd
      replace p9 := p9.below hd
      replace r1 := r1.below hd
      replace r2 := r2.below hd
      replace r3 := r3.below hd
      replace r4 := r4.below hd
      clear hd
      refine hK.out _ _ (hSall _ hb) (fun hh => ?_)
      clear hK K
      try simp only [Act.put, ptA, ptB, ptC]
      refine till_ready (rs := [10]) (by kernel_rfl) (by simp) ?_
      refine mem1 ?_
      refine till_step rfl (fun K hK => ?_)
      go_simp
      refine (deny_aw _ _ _ p6 p9).mono ?_
      rintro e X14 ⟨_, rfl, g, c, rfl, hd⟩
      go_wp2_with fail
      clear hh
      replace hb := bnx hb hd
      replace p2 := p2.below hd
      replace p5 := p5.below hd
      replace p6 := p6.below hd
      replace p9 := p9.below hd
      replace r1 := r1.below hd
      replace r2 := r2.below hd
      replace r3 := r3.below hd
      replace r4 := r4.below hd
      clear hd
      refine hK.out _ _ (hSall _ hb) (fun hh => ?_)
      clear hK K
      try simp only [Act.put, ptA, ptB, ptC]
      refine tt (i := 11) hh (some 27) ?_
      try simp only [Act.put, ptA, ptB, ptC]
      refine tt (i := 12) hh (some 39) ?_
      try simp only [Act.put, ptA, ptB, ptC]
      refine tt (i := 13) hh (some 40) ?_
      try simp only [Act.put, ptA, ptB, ptC]
      refine tt (i := 14) hh (some 9) ?_
      try simp only [Act.put, ptA, ptB, ptC]
      refine tt (i := 15) hh (some 10) ?_
      try simp only [Act.put, ptA, ptB, ptC]
      refine till_done (by kernel_rfl) ?_ _
      clear hh
      go_wp2
      go_meet
      exact ⟨g, c, rfl, rfl, hb⟩
   ·refine till_step rfl (fun K hK => ?_)
    go_simp
    refine (of_c _ 3 (by omega) (by omega)).mono ?_
    rintro e X15 ⟨v, rfl, r4, hd⟩
    replace r4 := r4.fit (L' := 1) (fit_of (by decide +kernel))
    obtain ⟨N, l, rfl, q1, q2⟩ := id r4
    obtain ⟨A4, c4, xs, rfl, _⟩ := q1.open_
    generalize xs.length = n4 at *
    obtain ⟨B4, d4, ys, rfl, _⟩ := q2.open_
    generalize ys.length = m4 at *
    generalize decide (((3 : Int) : Rat).num < 0) = s4 at *
    clear q1 q2
    go_wp2_with fail
    clear hh
    replace hb := bnx hb hd
    replace p2 := p2.below hd
    replace r1 := r1.below hd
    replace r2 := r2.below hd
    replace r3 := r3.below hd
    clear hd
    refine hK.out _ _ (hSall _ hb) (fun hh => ?_)
    clear hK K
    try simp only [Act.put, ptA, ptB, ptC]
    refine till_ready (rs := [5, 9]) (by kernel_rfl) (by simp) ?_
    refine List.forall_mem_cons.2 ⟨?_, List.forall_mem_cons.2 ⟨?_, fun _ h => absurd h List.not_mem_nil⟩⟩
    ·refine till_step rfl (fun K hK => ?_)
     go_simp
     have p5 := row2_new X15 r2 r3
     have hd : Below X15.heap.size X15 (X15.alloc (.cells #[.bool s2, .slice A2 n2 c2, .slice B2 m2 d2, .bool s3, .slice A3 n3 c3, .slice B3 m3 d3] 35)) := (Below.refl _ _).alloc (nr _) _
     generalize (X15.alloc (.cells #[.bool s2, .slice A2 n2 c2, .slice B2 m2 d2, .bool s3, .slice A3 n3 c3, .slice B3 m3 d3] 35)) = X16 at *
     generalize X15.heap.size = g5 at p5 ⊢
     clear hh
     replace hb := bnx hb hd
     replace p2 := p2.below hd
     replace r1 := r1.below hd
     replace r2 := r2.below hd
     replace r3 := r3.below hd
     replace r4 := r4.below hd
     clear hd
     refine hK.out _ _ (hSall _ hb) (fun hh => ?_)
     clear hK K
     try simp only [Act.put, ptA, ptB, ptC]
     refine till_ready (rs := [6, 9]) (by kernel_rfl) (by simp) ?_
     refine List.forall_mem_cons.2 ⟨?_, List.forall_mem_cons.2 ⟨?_, fun _ h => absurd h List.not_mem_nil⟩⟩
     ·refine till_step rfl (fun K hK => ?_)
      go_simp
      have p6 := rows2_new X16 p2 p5
      have hd : Below X16.heap.size X16 (X16.alloc (.cells #[.slice (some ⟨g2, 0, none⟩) 2 2, .slice (some ⟨g5, 0, none⟩) 2 2] 26)) := (Below.refl _ _).alloc (nr _) _
      generalize (X16.alloc (.cells #[.slice (some ⟨g2, 0, none⟩) 2 2, .slice (some ⟨g5, 0, none⟩) 2 2] 26)) = X17 at *
      generalize X16.heap.size = g6 at p6 ⊢
      clear hh
      replace hb := bnx hb hd
      replace p2 := p2.below hd
      replace p5 := p5.below hd
      replace r1 := r1.below hd
      replace r2 := r2.below hd
      replace r3 := r3.below hd
      replace r4 := r4.below hd
      clear hd
      refine hK.out _ _ (hSall _ hb) (fun hh => ?_)
      clear hK K
      try simp only [Act.put, ptA, ptB, ptC]
      refine till_ready (rs := [9]) (by kernel_rfl) (by simp) ?_
      refine mem1 ?_
      refine till_step rfl (fun K hK => ?_)
      go_simp
      have p9 := row2_new X17 r1 r4
      have hd : Below X17.heap.size X17 (X17.alloc (.cells #[.bool s1, .slice A1 n1 c1, .slice B1 m1 d1, .bool s4, .slice A4 n4 c4, .slice B4 m4 d4] 35)) := (Below.refl _ _).alloc (nr _) _
      generalize (X17.alloc (.cells #[.bool s1, .slice A1 n1 c1, .slice B1 m1 d1, .bool s4, .slice A4 n4 c4, .slice B4 m4 d4] 35)) = X18 at *
      generalize X17.heap.size = g9 at p9 ⊢
      clear hh
      replace hb := bnx hb hd
      replace p2 := p2.below hd
      replace p5 := p5.below hd
      replace p6 := p6.below hd
      replace r1 := r1.below hd
      replace r2 := r2.below hd
      replace r3 := r3.below hd
      replace r4 := r4.below hd
      clear hd
      refine hK.out _ _ (hSall _ hb) (fun hh => ?_)
      clear hK K
      try simp only [Act.put, ptA, ptB, ptC]
      refine till_ready (rs := [10]) (by kernel_rfl) (by simp) ?_
      refine mem1 ?_
      refine till_step rfl (fun K hK => ?_)
      go_simp
      refine (deny_aw _ _ _ p6 p9).mono ?_
      rintro e X19 ⟨_, rfl, g, c, rfl, hd⟩
      go_wp2_with fail
      clear hh
      replace hb := bnx hb hd
      replace p2 := p2.below hd
      replace p5 := p5.below hd
      replace p6 := p6.below hd
      replace p9 := p9.below hd
      replace r1 := r1.below hd
      replace r2 := r2.below hd
      replace r3 := r3.below hd
      replace r4 := r4.below hd
      clear hd
      refine hK.out _ _ (hSall _ hb) (fun hh => ?_)
      clear hK K
      try simp only [Act.put, ptA, ptB, ptC]
      refine tt (i := 11) hh (some 27) ?_
      try simp only [Act.put, ptA, ptB, ptC]
      refine tt (i := 12) hh (some 39) ?_
      try simp only [Act.put, ptA, ptB, ptC]
      refine tt (i := 13) hh (some 40) ?_
      try simp only [Act.put, ptA, ptB, ptC]
      refine tt (i := 14) hh (some 9) ?_
      try simp only [Act.put, ptA, ptB, ptC]
      refine tt (i := 15) hh (some 10) ?_
      try simp only [Act.put, ptA, ptB, ptC]
      refine till_done (by kernel_rfl) ?_ _
      clear hh
      go_wp2
      go_meet
      exact ⟨g, c, rfl, rfl, hb⟩
     ·refine till_step rfl (fun K hK => ?_)
      go_simp
      have p9 := row2_new X16 r1 r4
      have hd : Below X16.heap.size X16 (X16.alloc (.cells #[.bool s1, .slice A1 n1 c1, .slice B1 m1 d1, .bool s4, .slice A4 n4 c4, .slice B4 m4 d4] 35)) := (Below.refl _ _).alloc (nr _) _
      generalize (X16.alloc (.cells #[.bool s1, .slice A1 n1 c1, .slice B1 m1 d1, .bool s4, .slice A4 n4 c4, .slice B4 m4 d4] 35)) = X20 at *
      generalize X16.heap.size = g9 at p9 ⊢
      clear hh
      replace hb := bnx hb hd
      replace p2 := p2.below hd
      replace p5 := p5.below hd
      replace r1 := r1.below hd
      replace r2 := r2.below hd
      replace r3 := r3.below hd
      replace r4 := r4.below hd
      clear hd
      refine hK.out _ _ (hSall _ hb) (fun hh => ?_)
      clear hK K
      try simp only [Act.put, ptA, ptB, ptC]
      refine till_ready (rs := [6]) (by kernel_rfl) (by simp) ?_
      refine mem1 ?_
      refine till_step rfl (fun K hK => ?_)
      go_simp
      have p6 := rows2_new X20 p2 p5
      have hd : Below X20.heap.size X20 (X20.alloc (.cells #[.slice (some ⟨g2, 0, none⟩) 2 2, .slice (some ⟨g5, 0, none⟩) 2 2] 26)) := (Below.refl _ _).alloc (nr _) _
      generalize (X20.alloc (.cells #[.slice (some ⟨g2, 0, none⟩) 2 2, .slice (some ⟨g5, 0, none⟩) 2 2] 26)) = X21 at *
      generalize X20.heap.size = g6 at p6 ⊢
      clear hh
      replace hb := bnx hb hd
      replace p2 := p2.below hd
      replace p5 := p5.below hd
      replace p9 := p9.below hd
      replace r1 := r1.below hd
      replace r2 := r2.below hd
      replace r3 := r3.below hd
      replace r4 := r4.below hd
      clear hd
      refine hK.out _ _ (hSall _ hb) (fun hh => ?_)
      clear hK K
      try simp only [Act.put, ptA, ptB, ptC]
      refine till_ready (rs := [10]) (by kernel_rfl) (by simp) ?_
      refine mem1 ?_
      refine till_step rfl (fun K hK => ?_)
      go_simp
      refine (deny_aw _ _ _ p6 p9).mono ?_
      rintro e X22 ⟨_, rfl, g, c, rfl, hd⟩
      go_wp2_with fail
      clear hh
      replace hb := bnx hb hd
      replace p2 := p2.below hd
      replace p5 := p5.below hd
      replace p6 := p6.below hd
      replace p9 := p9.below hd
      replace r1 := r1.below hd
      replace r2 := r2.below hd
      replace r3 := r3.below hd
      replace r4 := r4.below hd
      clear hd
      refine hK.out _ _ (hSall _ hb) (fun hh => ?_)
      clear hK K
      try simp only [Act.put, ptA, ptB, ptC]
      refine tt (i := 11) hh (some 27) ?_
      try simp only [Act.put, ptA, ptB, ptC]
      refine tt (i := 12) hh (some 39) ?_
      try simp only [Act.put, ptA, ptB, ptC]
      refine tt (i := 13) hh (some 40) ?_
      try simp only [Act.put, ptA, ptB, ptC]
      refine tt (i := 14) hh (some 9) ?_
      try simp only [Act.put, ptA, ptB, ptC]
      refine tt (i := 15) hh (some 10) ?_
      try simp only [Act.put, ptA, ptB, ptC]
      refine till_done (by kernel_rfl) ?_ _
      clear hh
      go_wp2
      go_meet
      exact ⟨g, c, rfl, rfl, hb⟩
    ·refine till_step rfl (fun K hK => ?_)
     go_simp
     have p9 := row2_new X15 r1 r4
     have hd : Below X15.heap.size X15 (X15.alloc (.cells #[.bool s1, .slice A1 n1 c1, .slice B1 m1 d1, .bool s4, .slice A4 n4 c4, .slice B4 m4 d4] 35)) := (Below.refl _ _).alloc (nr _) _
     generalize (X15.alloc (.cells #[.bool s1, .slice A1 n1 c1, .slice B1 m1 d1, .bool s4, .slice A4 n4 c4, .slice B4 m4 d4] 35)) = X23 at *
     generalize X15.heap.size = g9 at p9 ⊢
     clear hh
     replace hb := bnx hb hd
     replace p2 := p2.below hd
     replace r1 := r1.below hd
     replace r2 := r2.below hd
     replace r3 := r3.below hd
     replace r4 := r4.below hd
     clear hd
     refine hK.out _ _ (hSall _ hb) (fun hh => ?_)
     clear hK K
     try simp only [Act.put, ptA, ptB, ptC]
     refine till_ready (rs := [5]) (by kernel_rfl) (by simp) ?_
     refine mem1 ?_
     refine till_step rfl (fun K hK => ?_)
     go_simp
     have p5 := row2_new X23 r2 r3
     have hd : Below X23.heap.size X23 (X23.alloc (.cells #[.bool s2, .slice A2 n2 c2, .slice B2 m2 d2, .bool s3, .slice A3 n3 c3, .slice B3 m3 d3] 35)) := (Below.refl _ _).alloc (nr _) _
     generalize (X23.alloc (.cells #[.bool s2, .slice A2 n2 c2, .slice B2 m2 d2, .bool s3, .slice A3 n3 c3, .slice B3 m3 d3] 35)) = X24 at *
     generalize X23.heap.size = g5 at p5 ⊢
     clear hh
     replace hb := bnx hb hd
     replace p2 := p2.below hd
     replace p9 := p9.below hd
     replace r1 := r1.below hd
     replace r2 := r2.below hd
     replace r3 := r3.below hd
     replace r4 := r4.below hd
     clear hd
     refine hK.out _ _ (hSall _ hb) (fun hh => ?_)
     clear hK K
     try simp only [Act.put, ptA, ptB, ptC]
     refine till_ready (rs := [6]) (by kernel_rfl) (by simp) ?_
     refine mem1 ?_
     refine till_step rfl (fun K hK => ?_)
     go_simp
     have p6 := rows2_new X24 p2 p5
     have hd : Below X24.heap.size X24 (X24.alloc (.cells #[.slice (some ⟨g2, 0, none⟩) 2 2, .slice (some ⟨g5, 0, none⟩) 2 2] 26)) := (Below.refl _ _).alloc (nr _) _
     generalize (X24.alloc (.cells #[.slice (some ⟨g2, 0, none⟩) 2 2, .slice (some ⟨g5, 0, none⟩) 2 2] 26)) = X25 at *
     generalize X24.heap.size = g6 at p6 ⊢
     clear hh
     replace hb := bnx hb hd
     replace p2 := p2.below hd
     replace p5 := p5.below hd
     replace p9 := p9.below hd
     replace r1 := r1.below hd
     replace r2 := r2.below hd
     replace r3 := r3.below hd
     replace r4 := r4.below hd
     clear hd
     refine hK.out _ _ (hSall _ hb) (fun hh => ?_)
     clear hK K
     try simp only [Act.put, ptA, ptB, ptC]
     refine till_ready (rs := [10]) (by kernel_rfl) (by simp) ?_
     refine mem1 ?_
     refine till_step rfl (fun K hK => ?_)
     go_simp
     refine (deny_aw _ _ _ p6 p9).mono ?_
     rintro e X26 ⟨_, rfl, g, c, rfl, hd⟩
     go_wp2_with fail
     clear hh
     replace hb := bnx hb hd
     replace p2 := p2.below hd
     replace p5 := p5.below hd
     replace p6 := p6.below hd
     replace p9 := p9.below hd
     replace r1 := r1.below hd
     replace r2 := r2.below hd
     replace r3 := r3.below hd
     replace r4 := r4.below hd
     clear hd
     refine hK.out _ _ (hSall _ hb) (fun hh => ?_)
     clear hK K
     try simp only [Act.put, ptA, ptB, ptC]
     refine tt (i := 11) hh (some 27) ?_
     try simp only [Act.put, ptA, ptB, ptC]
     refine tt (i := 12) hh (some 39) ?_
     try simp only [Act.put, ptA, ptB, ptC]
     refine tt (i := 13) hh (some 40) ?_
     try simp only [Act.put, ptA, ptB, ptC]
     refine tt (i := 14) hh (some 9) ?_
     try simp only [Act.put, ptA, ptB, ptC]
     refine tt (i := 15) hh (some 10) ?_
     try simp only [Act.put, ptA, ptB, ptC]
     refine till_done (by kernel_rfl) ?_ _
     clear hh
     go_wp2
     go_meet
     exact ⟨g, c, rfl, rfl, hb⟩
  ·refine till_step rfl (fun K hK => ?_)
   go_simp
   refine (of_c _ 4 (by omega) (by omega)).mono ?_
   rintro e X27 ⟨v, rfl, r3, hd⟩
   replace r3 := r3.fit (L' := 1) (fit_of (by decide +kernel))
   obtain ⟨N, l, rfl, q1, q2⟩ := id r3
   obtain ⟨A3, c3, xs, rfl, _⟩ := q1.open_
   generalize xs.length = n3 at *
   obtain ⟨B3, d3, ys, rfl, _⟩ := q2.open_
   generalize ys.length = m3 at *
   generalize decide (((4 : Int) : Rat).num < 0) = s3 at *
   clear q1 q2
   go_wp2_with fail
   clear hh
   replace hb := bnx hb hd
   replace r1 := r1.below hd
   replace r2 := r2.below hd
   clear hd
   refine hK.out _ _ (hSall _ hb) (fun hh => ?_)
   clear hK K
   try simp only [Act.put, ptA, ptB, ptC]
   refine till_ready (rs := [2, 5, 8]) (by kernel_rfl) (by simp) ?_
   refine List.forall_mem_cons.2 ⟨?_, List.forall_mem_cons.2 ⟨?_, List.forall_mem_cons.2 ⟨?_, fun _ h => absurd h List.not_mem_nil⟩⟩⟩
   ·refine till_step rfl (fun K hK => ?_)
    go_simp
    have p2 := row2_new X27 r1 r2
    have hd : Below X27.heap.size X27 (X27.alloc (.cells #[.bool s1, .slice A1 n1 c1, .slice B1 m1 d1, .bool s2, .slice A2 n2 c2, .slice B2 m2 d2] 35)) := (Below.refl _ _).alloc (nr _) _
    generalize (X27.alloc (.cells #[.bool s1, .slice A1 n1 c1, .slice B1 m1 d1, .bool s2, .slice A2 n2 c2, .slice B2 m2 d2] 35)) = X28 at *
    generalize X27.heap.size = g2 at p2 ⊢
    clear hh
    replace hb := bnx hb hd
    replace r1 := r1.below hd
    replace r2 := r2.below hd
    replace r3 := r3.below hd
    clear hd
    refine hK.out _ _ (hSall _ hb) (fun hh => ?_)
    clear hK K
    try simp only [Act.put, ptA, ptB, ptC]
    refine till_ready (rs := [5, 8]) (by kernel_rfl) (by simp) ?_
    refine List.forall_mem_cons.2 ⟨?_, List.forall_mem_cons.2 ⟨?_, fun _ h => absurd h List.not_mem_nil⟩⟩
    ·refine till_step rfl (fun K hK => ?_)
     go_simp
     have p5 := row2_new X28 r2 r3
     have hd : Below X28.heap.size X28 (X28.alloc (.cells #[.bool s2, .slice A2 n2 c2, .slice B2 m2 d2, .bool s3, .slice A3 n3 c3, .slice B3 m3 d3] 35)) := (Below.refl _ _).alloc (nr _) _
     generalize (X28.alloc (.cells #[.bool s2, .slice A2 n2 c2, .slice B2 m2 d2, .bool s3, .slice A3 n3 c3, .slice B3 m3 d3] 35)) = X29 at *
     generalize X28.heap.size = g5 at p5 ⊢
     clear hh
     replace hb := bnx hb hd
     replace p2 := p2.below hd
     replace r1 := r1.below hd
     replace r2 := r2.below hd
     replace r3 := r3.below hd
     clear hd
     refine hK.out _ _ (hSall _ hb) (fun hh => ?_)
     clear hK K
     try simp only [Act.put, ptA, ptB, ptC]
     refine till_ready (rs := [6, 8]) (by kernel_rfl) (by simp) ?_
     refine List.forall_mem_cons.2 ⟨?_, List.forall_mem_cons.2 ⟨?_, fun _ h => absurd h List.not_mem_nil⟩⟩
     ·refine till_step rfl (fun K hK => ?_)
      go_simp
      have p6 := rows2_new X29 p2 p5
      have hd : Below X29.heap.size X29 (X29.alloc (.cells #[.slice (some ⟨g2, 0, none⟩) 2 2, .slice (some ⟨g5, 0, none⟩) 2 2] 26)) := (Below.refl _ _).alloc (nr _) _
      generalize (X29.alloc (.cells #[.slice (some ⟨g2, 0, none⟩) 2 2, .slice (some ⟨g5, 0, none⟩) 2 2] 26)) = X30 at *
      generalize X29.heap.size = g6 at p6 ⊢
      clear hh
      replace hb := bnx hb hd
      replace p2 := p2.below hd
      replace p5 := p5.below hd
      replace r1 := r1.below hd
      replace r2 := r2.below hd
      replace r3 := r3.below hd
      clear hd
      refine hK.out _ _ (hSall _ hb) (fun hh => ?_)
      clear hK K
      try simp only [Act.put, ptA, ptB, ptC]
      refine till_ready (rs := [8]) (by kernel_rfl) (by simp) ?_
      refine mem1 ?_
      refine till_step rfl (fun K hK => ?_)
      go_simp
      refine (of_c _ 3 (by omega) (by omega)).mono ?_
      rintro e X31 ⟨v, rfl, r4, hd⟩
      replace r4 := r4.fit (L' := 1) (fit_of (by decide +kernel))
      obtain ⟨N, l, rfl, q1, q2⟩ := id r4
      obtain ⟨A4, c4, xs, rfl, _⟩ := q1.open_
      generalize xs.length = n4 at *
      obtain ⟨B4, d4, ys, rfl, _⟩ := q2.open_
      generalize ys.length = m4 at *
      generalize decide (((3 : Int) : Rat).num < 0) = s4 at *
      clear q1 q2
      go_wp2_with fail
      clear hh
      replace hb := bnx hb hd
      replace p2 := p2.below hd
      replace p5 := p5.below hd
      replace p6 := p6.below hd
      replace r1 := r1.below hd
      replace r2 := r2.below hd
      replace r3 := r3.below hd
      clear hd
      refine hK.out _ _ (hSall _ hb) (fun hh => ?_)
      clear hK K
      try simp only [Act.put, ptA, ptB, ptC]
      refine till_ready (rs := [9]) (by kernel_rfl) (by simp) ?_
      refine mem1 ?_
      refine till_step rfl (fun K hK => ?_)
      go_simp
      have p9 := row2_new X31 r1 r4
      have hd : Below X31.heap.size X31 (X31.alloc (.cells #[.bool s1, .slice A1 n1 c1, .slice B1 m1 d1, .bool s4, .slice A4 n4 c4, .slice B4 m4 d4] 35)) := (Below.refl _ _).alloc (nr _) _
      generalize (X31.alloc (.cells #[.bool s1, .slice A1 n1 c1, .slice B1 m1 d1, .bool s4, .slice A4 n4 c4, .slice B4 m4 d4] 35)) = X32 at *
      generalize X31.heap.size = g9 at p9 ⊢
      clear hh
      replace hb := bnx hb hd
      replace p2 := p2.below hd
      replace p5 := p5.below hd
      replace p6 := p6.below hd
      replace r1 := r1.below hd
      replace r2 := r2.below hd
      replace r3 := r3.below hd
      replace r4 := r4.below hd
      clear hd
      refine hK.out _ _ (hSall _ hb) (fun hh => ?_)
      clear hK K
      try simp only [Act.put, ptA, ptB, ptC]
      refine till_ready (rs := [10]) (by kernel_rfl) (by simp) ?_
      refine mem1 ?_
      refine till_step rfl (fun K hK => ?_)
      go_simp
      refine (deny_aw _ _ _ p6 p9).mono ?_
      rintro e X33 ⟨_, rfl, g, c, rfl, hd⟩
      go_wp2_with fail
      clear hh
      replace hb := bnx hb hd
      replace p2 := p2.below hd
      replace p5 := p5.below hd
      replace p6 := p6.below hd
      replace p9 := p9.below hd
      replace r1 := r1.below hd
      replace r2 := r2.below hd
      replace r3 := r3.below hd
      replace r4 := r4.below hd
      clear hd
      refine hK.out _ _ (hSall _ hb) (fun hh => ?_)
      clear hK K
      try simp only [Act.put, ptA, ptB, ptC]
      refine tt (i := 11) hh (some 27) ?_
      try simp only [Act.put, ptA, ptB, ptC]
      refine tt (i := 12) hh (some 39) ?_
      try simp only [Act.put, ptA, ptB, ptC]
      refine tt (i := 13) hh (some 40) ?_
      try simp only [Act.put, ptA, ptB, ptC]
      refine tt (i := 14) hh (some 9) ?_
      try simp only [Act.put, ptA, ptB, ptC]
      refine tt (i := 15) hh (some 10) ?_
      try simp only [Act.put, ptA, ptB, ptC]
      refine till_done (by kernel_rfl) ?_ _
      clear hh
      go_wp2
      go_meet
      exact ⟨g, c, rfl, rfl, hb⟩
     ·refine till_step rfl (fun K hK => ?_)
      go_simp
      refine (of_c _ 3 (by omega) (by omega)).mono ?_
      rintro e X34 ⟨v, rfl, r4, hd⟩
      replace r4 := r4.fit (L' := 1) (fit_of (by decide +kernel))
      obtain ⟨N, l, rfl, q1, q2⟩ := id r4
      obtain ⟨A4, c4, xs, rfl, _⟩ := q1.open_
      generalize xs.length = n4 at *
      obtain ⟨B4, d4, ys, rfl, _⟩ := q2.open_
      generalize ys.length = m4 at *
      generalize decide (((3 : Int) : Rat).num < 0) = s4 at *
      clear q1 q2
      go_wp2_with fail
      clear hh
      replace hb := bnx hb hd
      replace p2 := p2.below hd
      replace p5 := p5.below hd
      replace r1 := r1.below hd
      replace r2 := r2.below hd
      replace r3 := r3.below hd
      clear hd
      refine hK.out _ _ (hSall _ hb) (fun hh => ?_)
      clear hK K
      try simp only [Act.put, ptA, ptB, ptC]
      refine till_ready (rs := [6, 9]) (by kernel_rfl) (by simp) ?_
      refine List.forall_mem_cons.2 ⟨?_, List.forall_mem_cons.2 ⟨?_, fun _ h => absurd h List.not_mem_nil⟩⟩
      ·refine till_step rfl (fun K hK => ?_)
       go_simp
       have p6 := rows2_new X34 p2 p5
       have hd : Below X34.heap.size X34 (X34.alloc (.cells #[.slice (some ⟨g2, 0, none⟩) 2 2, .slice (some ⟨g5, 0, none⟩) 2 2] 26)) := (Below.refl _ _).alloc (nr _) _
       generalize (X34.alloc (.cells #[.slice (some ⟨g2, 0, none⟩) 2 2, .slice (some ⟨g5, 0, none⟩) 2 2] 26)) = X35 at *
       generalize X34.heap.size = g6 at p6 ⊢
       clear hh
       replace hb := bnx hb hd
       replace p2 := p2.below hd
       replace p5 := p5.below hd
       replace r1 := r1.below hd
       replace r2 := r2.below hd
       replace r3 := r3.below hd
       replace r4 := r4.below hd
       clear hd
       refine hK.out _ _ (hSall _ hb) (fun hh => ?_)
       clear hK K
       try simp only [Act.put, ptA, ptB, ptC]
       refine till_ready (rs := [9]) (by kernel_rfl) (by simp) ?_
       refine mem1 ?_
       refine till_step rfl (fun K hK => ?_)
       go_simp
       have p9 := row2_new X35 r1 r4
       have hd : Below X35.heap.size X35 (X35.alloc (.cells #[.bool s1, .slice A1 n1 c1, .slice B1 m1 d1, .bool s4, .slice A4 n4 c4, .slice B4 m4 d4] 35)) := (Below.refl _ _).alloc (nr _) _
       generalize (X35.alloc (.cells #[.bool s1, .slice A1 n1 c1, .slice B1 m1 d1, .bool s4, .slice A4 n4 c4, .slice B4 m4 d4] 35)) = X36 at *
       generalize X35.heap.size = g9 at p9 ⊢
       clear hh
       replace hb := bnx hb hd
       replace p2 := p2.below hd
       replace p5 := p5.below hd
       replace p6 := p6.below hd
       replace r1 := r1.below hd
       replace r2 := r2.below hd
       replace r3 := r3.below hd
       replace r4 := r4.below hd
       clear hd
       refine hK.out _ _ (hSall _ hb) (fun hh => ?_)
       clear hK K
       try simp only [Act.put, ptA, ptB, ptC]
       refine till_ready (rs := [10]) (by kernel_rfl) (by simp) ?_
       refine mem1 ?_
       refine till_step rfl (fun K hK => ?_)
       go_simp
       refine (deny_aw _ _ _ p6 p9).mono ?_
       rintro e X37 ⟨_, rfl, g, c, rfl, hd⟩
       go_wp2_with fail
       clear hh
       replace hb := bnx hb hd
       replace p2 := p2.below hd
       replace p5 := p5.below hd
       replace p6 := p6.below hd
       replace p9 := p9.below hd
       replace r1 := r1.below hd
       replace r2 := r2.below hd
       replace r3 := r3.below hd
       replace r4 := r4.below hd
       clear hd
       refine hK.out _ _ (hSall _ hb) (fun hh => ?_)
       clear hK K
       try simp only [Act.put, ptA, ptB, ptC]
       refine tt (i := 11) hh (some 27) ?_
       try simp only [Act.put, ptA, ptB, ptC]
       refine tt (i := 12) hh (some 39) ?_
       try simp only [Act.put, ptA, ptB, ptC]
       refine tt (i := 13) hh (some 40) ?_
       try simp only [Act.put, ptA, ptB, ptC]
       refine tt (i := 14) hh (some 9) ?_
       try simp only [Act.put, ptA, ptB, ptC]
       refine tt (i := 15) hh (some 10) ?_
       try simp only [Act.put, ptA, ptB, ptC]
       refine till_done (by kernel_rfl) ?_ _
       clear hh
       go_wp2
       go_meet
       exact ⟨g, c, rfl, rfl, hb⟩
      ·refine till_step rfl (fun K hK => ?_)
       go_simp
       have p9 := row2_new X34 r1 r4
       have hd : Below X34.heap.size X34 (X34.alloc (.cells #[.bool s1, .slice A1 n1 c1, .slice B1 m1 d1, .bool s4, .slice A4 n4 c4, .slice B4 m4 d4] 35)) := (Below.refl _ _).alloc (nr _) _
       generalize (X34.alloc (.cells #[.bool s1, .slice A1 n1 c1, .slice B1 m1 d1, .bool s4, .slice A4 n4 c4, .slice B4 m4 d4] 35)) = X38 at *
       generalize X34.heap.size = g9 at p9 ⊢
       clear hh
       replace hb := bnx hb hd
       replace p2 := p2.below hd
       replace p5 := p5.below hd
       replace r1 := r1.below hd
       replace r2 := r2.below hd
       replace r3 := r3.below hd
       replace r4 := r4.below hd
       clear hd
       refine hK.out _ _ (hSall _ hb) (fun hh => ?_)
       clear hK K
       try simp only [Act.put, ptA, ptB, ptC]
       refine till_ready (rs := [6]) (by kernel_rfl) (by simp) ?_
       refine mem1 ?_
       refine till_step rfl (fun K hK => ?_)
       go_simp
       have p6 := rows2_new X38 p2 p5
       have hd : Below X38.heap.size X38 (X38.alloc (.cells #[.slice (some ⟨g2, 0, none⟩) 2 2, .slice (some ⟨g5, 0, none⟩) 2 2] 26)) := (Below.refl _ _).alloc (nr _) _
       generalize (X38.alloc (.cells #[.slice (some ⟨g2, 0, none⟩) 2 2, .slice (some ⟨g5, 0, none⟩) 2 2] 26)) = X39 at *
       generalize X38.heap.size = g6 at p6 ⊢
       clear hh
       replace hb := bnx hb hd
       replace p2 := p2.below hd
       replace p5 := p5.below hd
       replace p9 := p9.below hd
       replace r1 := r1.below hd
       replace r2 := r2.below hd
       replace r3 := r3.below hd
       replace r4 := r4.below hd
       clear hd
       refine hK.out _ _ (hSall _ hb) (fun hh => ?_)
       clear hK K
       try simp only [Act.put, ptA, ptB, ptC]
       refine till_ready (rs := [10]) (by kernel_rfl) (by simp) ?_
       refine mem1 ?_
       refine till_step rfl (fun K hK => ?_)
       go_simp
       refine (deny_aw _ _ _ p6 p9).mono ?_
       rintro e X40 ⟨_, rfl, g, c, rfl, hd⟩
       go_wp2_with fail
       clear hh
       replace hb := bnx hb hd
       replace p2 := p2.below hd
       replace p5 := p5.below hd
       replace p6 := p6.below hd
       replace p9 := p9.below hd
       replace r1 := r1.below hd
       replace r2 := r2.below hd
       replace r3 := r3.below hd
       replace r4 := r4.below hd
       clear hd
       refine hK.out _ _ (hSall _ hb) (fun hh => ?_)
       clear hK K
       try simp only [Act.put, ptA, ptB, ptC]
       refine tt (i := 11) hh (some 27) ?_
       try simp only [Act.put, ptA, ptB, ptC]
       refine tt (i := 12) hh (some 39) ?_
       try simp only [Act.put, ptA, ptB, ptC]
       refine tt (i := 13) hh (some 40) ?_
       try simp only [Act.put, ptA, ptB, ptC]
       refine tt (i := 14) hh (some 9) ?_
       try simp only [Act.put, ptA, ptB, ptC]
       refine tt (i := 15) hh (some 10) ?_
       try simp only [Act.put, ptA, ptB, ptC]
       refine till_done (by kernel_rfl) ?_ _
       clear hh
       go_wp2
       go_meet
       exact ⟨g, c, rfl, rfl, hb⟩
    ·refine till_step rfl (fun K hK => ?_)
     go_simp
     refine (of_c _ 3 (by omega) (by omega)).mono ?_
     rintro e X41 ⟨v, rfl, r4, hd⟩
     replace r4 := r4.fit (L' := 1) (fit_of (by decide +kernel))
     obtain ⟨N, l, rfl, q1, q2⟩ := id r4
     obtain ⟨A4, c4, xs, rfl, _⟩ := q1.open_
     generalize xs.length = n4 at *
     obtain ⟨B4, d4, ys, rfl, _⟩ := q2.open_
     generalize ys.length = m4 at *
     generalize decide (((3 : Int) : Rat).num < 0) = s4 at *
     clear q1 q2
     go_wp2_with fail
     clear hh
     replace hb := bnx hb hd
     replace p2 := p2.below hd
     replace r1 := r1.below hd
     replace r2 := r2.below hd
     replace r3 := r3.below hd
     clear hd
     refine hK.out _ _ (hSall _ hb) (fun hh => ?_)
     clear hK K
     try simp only [Act.put, ptA, ptB, ptC]
     refine till_ready (rs := [5, 9]) (by kernel_rfl) (by simp) ?_
     refine List.forall_mem_cons.2 ⟨?_, List.forall_mem_cons.2 ⟨?_, fun _ h => absurd h List.not_mem_nil⟩⟩
     ·refine till_step rfl (fun K hK => ?_)
      go_simp
      have p5 := row2_new X41 r2 r3
      have hd : Below X41.heap.size X41 (X41.alloc (.cells #[.bool s2, .slice A2 n2 c2, .slice B2 m2 d2, .bool s3, .slice A3 n3 c3, .slice B3 m3 d3] 35)) := (Below.refl _ _).alloc (nr _) _
      generalize (X41.alloc (.cells #[.bool s2, .slice A2 n2 c2, .slice B2 m2 d2, .bool s3, .slice A3 n3 c3, .slice B3 m3 d3] 35)) = X42 at *
      generalize X41.heap.size = g5 at p5 ⊢
      clear hh
      replace hb := bnx hb hd
      replace p2 := p2.below hd
      replace r1 := r1.below hd
      replace r2 := r2.below hd
      replace r3 := r3.below hd
      replace r4 := r4.below hd
      clear hd
      refine hK.out _ _ (hSall _ hb) (fun hh => ?_)
      clear hK K
      try simp only [Act.put, ptA, ptB, ptC]
      refine till_ready (rs := [6, 9]) (by kernel_rfl) (by simp) ?_
      refine List.forall_mem_cons.2 ⟨?_, List.forall_mem_cons.2 ⟨?_, fun _ h => absurd h List.not_mem_nil⟩⟩
      ·refine till_step rfl (fun K hK => ?_)
       go_simp
       have p6 := rows2_new X42 p2 p5
       have hd : Below X42.heap.size X42 (X42.alloc (.cells #[.slice (some ⟨g2, 0, none⟩) 2 2, .slice (some ⟨g5, 0, none⟩) 2 2] 26)) := (Below.refl _ _).alloc (nr _) _
       generalize (X42.alloc (.cells #[.slice (some ⟨g2, 0, none⟩) 2 2, .slice (some ⟨g5, 0, none⟩) 2 2] 26)) = X43 at *
       generalize X42.heap.size = g6 at p6 ⊢
       clear hh
       replace hb := bnx hb hd
       replace p2 := p2.below hd
       replace p5 := p5.below hd
       replace r1 := r1.below hd
       replace r2 := r2.below hd
       replace r3 := r3.below hd
       replace r4 := r4.below hd
       clear hd
       refine hK.out _ _ (hSall _ hb) (fun hh => ?_)
       clear hK K
       try simp only [Act.put, ptA, ptB, ptC]
       refine till_ready (rs := [9]) (by kernel_rfl) (by simp) ?_
       refine mem1 ?_
       refine till_step rfl (fun K hK => ?_)
       go_simp
       have p9 := row2_new X43 r1 r4
       have hd : Below X43.heap.size X43 (X43.alloc (.cells #[.bool s1, .slice A1 n1 c1, .slice B1 m1 d1, .bool s4, .slice A4 n4 c4, .slice B4 m4 d4] 35)) := (Below.refl _ _).alloc (nr _) _
       generalize (X43.alloc (.cells #[.bool s1, .slice A1 n1 c1, .slice B1 m1 d1, .bool s4, .slice A4 n4 c4, .slice B4 m4 d4] 35)) = X44 at *
       generalize X43.heap.size = g9 at p9 ⊢
       clear hh
       replace hb := bnx hb hd
       replace p2 := p2.below hd
       replace p5 := p5.below hd
       replace p6 := p6.below hd
       replace r1 := r1.below hd
       replace r2 := r2.below hd
       replace r3 := r3.below hd
       replace r4 := r4.below hd
       clear hd
       refine hK.out _ _ (hSall _ hb) (fun hh => ?_)
       clear hK K
       try simp only [Act.put, ptA, ptB, ptC]
       refine till_ready (rs := [10]) (by kernel_rfl) (by simp) ?_
       refine mem1 ?_
       refine till_step rfl (fun K hK => ?_)
       go_simp
       refine (deny_aw _ _ _ p6 p9).mono ?_
       rintro e X45 ⟨_, rfl, g, c, rfl, hd⟩
       go_wp2_with fail
       clear hh
       replace hb := bnx hb hd
       replace p2 := p2.below hd
       replace p5 := p5.below hd
       replace p6 := p6.below hd
       replace p9 := p9.below hd
       replace r1 := r1.below hd
       replace r2 := r2.below hd
       replace r3 := r3.below hd
       replace r4 := r4.below hd
       clear hd
       refine hK.out _ _ (hSall _ hb) (fun hh => ?_)
       clear hK K
       try simp only [Act.put, ptA, ptB, ptC]
       refine tt (i := 11) hh (some 27) ?_
       try simp only [Act.put, ptA, ptB, ptC]
       refine tt (i := 12) hh (some 39) ?_
       try simp only [Act.put, ptA, ptB, ptC]
       refine tt (i := 13) hh (some 40) ?_
       try simp only [Act.put, ptA, ptB, ptC]
       refine tt (i := 14) hh (some 9) ?_
       try simp only [Act.put, ptA, ptB, ptC]
       refine tt (i := 15) hh (some 10) ?_
       try simp only [Act.put, ptA, ptB, ptC]
       refine till_done (by kernel_rfl) ?_ _
       clear hh
       go_wp2
       go_meet
       exact ⟨g, c, rfl, rfl, hb⟩
      ·refine till_step rfl (fun K hK => ?_)
       go_simp
       have p9 := row2_new X42 r1 r4
       have hd : Below X42.heap.size X42 (X42.alloc (.cells #[.bool s1, .slice A1 n1 c1, .slice B1 m1 d1, .bool s4, .slice A4 n4 c4, .slice B4 m4 d4] 35)) := (Below.refl _ _).alloc (nr _) _
       generalize (X42.alloc (.cells #[.bool s1, .slice A1 n1 c1, .slice B1 m1 d1, .bool s4, .slice A4 n4 c4, .slice B4 m4 d4] 35)) = X46 at *
       generalize X42.heap.size = g9 at p9 ⊢
       clear hh
       replace hb := bnx hb hd
       replace p2 := p2.below hd
       replace p5 := p5.below hd
       replace r1 := r1.below hd
       replace r2 := r2.below hd
       replace r3 := r3.below hd
       replace r4 := r4.below hd
       clear hd
       refine hK.out _ _ (hSall _ hb) (fun hh => ?_)
       clear hK K
       try simp only [Act.put, ptA, ptB, ptC]
       refine till_ready (rs := [6]) (by kernel_rfl) (by simp) ?_
       refine mem1 ?_
       refine till_step rfl (fun K hK => ?_)
       go_simp
       have p6 := rows2_new X46 p2 p5
       have hd : Below X46.heap.size X46 (X46.alloc (.cells #[.slice (some ⟨g2, 0, none⟩) 2 2, .slice (some ⟨g5, 0, none⟩) 2 2] 26)) := (Below.refl _ _).alloc (nr _) _
       generalize (X46.alloc (.cells #[.slice (some ⟨g2, 0, none⟩) 2 2, .slice (some ⟨g5, 0, none⟩) 2 2] 26)) = X47 at *
       generalize X46.heap.size = g6 at p6 ⊢
       clear hh
       replace hb := bnx hb hd
       replace p2 := p2.below hd
       replace p5 := p5.below hd
       replace p9 := p9.below hd
       replace r1 := r1.below hd
       replace r2 := r2.below hd
       replace r3 := r3.below hd
       replace r4 := r4.below hd
       clear hd
       refine hK.out _ _ (hSall _ hb) (fun hh => ?_)
       clear hK K
       try simp only [Act.put, ptA, ptB, ptC]
       refine till_ready (rs := [10]) (by kernel_rfl) (by simp) ?_
       refine mem1 ?_
       refine till_step rfl (fun K hK => ?_)
       go_simp
       refine (deny_aw _ _ _ p6 p9).mono ?_
       rintro e X48 ⟨_, rfl, g, c, rfl, hd⟩
       go_wp2_with fail
       clear hh
       replace hb := bnx hb hd
       replace p2 := p2.below hd
       replace p5 := p5.below hd
       replace p6 := p6.below hd
       replace p9 := p9.below hd
       replace r1 := r1.below hd
       replace r2 := r2.below hd
       replace r3 := r3.below hd
       replace r4 := r4.below hd
       clear hd
       refine hK.out _ _ (hSall _ hb) (fun hh => ?_)
       clear hK K
       try simp only [Act.put, ptA, ptB, ptC]
       refine tt (i := 11) hh (some 27) ?_
       try simp only [Act.put, ptA, ptB, ptC]
       refine tt (i := 12) hh (some 39) ?_
       try simp only [Act.put, ptA, ptB, ptC]
       refine tt (i := 13) hh (some 40) ?_
       try simp only [Act.put, ptA, ptB, ptC]
       refine tt (i := 14) hh (some 9) ?_
       try simp only [Act.put, ptA, ptB, ptC]
       refine tt (i := 15) hh (some 10) ?_
       try simp only [Act.put, ptA, ptB, ptC]
       refine till_done (by kernel_rfl) ?_ _
       clear hh
       go_wp2
       go_meet
       exact ⟨g, c, rfl, rfl, hb⟩
     ·refine till_step rfl (fun K hK => ?_)
      go_simp
      have p9 := row2_new X41 r1 r4
      have hd : Below X41.heap.size X41 (X41.alloc (.cells #[.bool s1, .slice A1 n1 c1, .slice B1 m1 d1, .bool s4, .slice A4 n4 c4, .slice B4 m4 d4] 35)) := (Below.refl _ _).alloc (nr _) _
      generalize (X41.alloc (.cells #[.bool s1, .slice A1 n1 c1, .slice B1 m1 d1, .bool s4, .slice A4 n4 c4, .slice B4 m4 d4] 35)) = X49 at *
      generalize X41.heap.size = g9 at p9 ⊢
      clear hh
      replace hb := bnx hb hd
      replace p2 := p2.below hd
      replace r1 := r1.below hd
      replace r2 := r2.below hd
      replace r3 := r3.below hd
      replace r4 := r4.below hd
      clear hd
      refine hK.out _ _ (hSall _ hb) (fun hh => ?_)
      clear hK K
      try simp only [Act.put, ptA, ptB, ptC]
      refine till_ready (rs := [5]) (by kernel_rfl) (by simp) ?_
      refine mem1 ?_
      refine till_step rfl (fun K hK => ?_)
      go_simp
      have p5 := row2_new X49 r2 r3
      have hd : Below X49.heap.size X49 (X49.alloc (.cells #[.bool s2, .slice A2 n2 c2, .slice B2 m2 d2, .bool s3, .slice A3 n3 c3, .slice B3 m3 d3] 35)) := (Below.refl _ _).alloc (nr _) _
      generalize (X49.alloc (.cells #[.bool s2, .slice A2 n2 c2, .slice B2 m2 d2, .bool s3, .slice A3 n3 c3, .slice B3 m3 d3] 35)) = X50 at *
      generalize X49.heap.size = g5 at p5 ⊢
      clear hh
      replace hb := bnx hb hd
      replace p2 := p2.below hd
      replace p9 := p9.below hd
      replace r1 := r1.below hd
      replace r2 := r2.below hd
      replace r3 := r3.below hd
      replace r4 := r4.below hd
      clear hd
      refine hK.out _ _ (hSall _ hb) (fun hh => ?_)
      clear hK K
      try simp only [Act.put, ptA, ptB, ptC]
      refine till_ready (rs := [6]) (by kernel_rfl) (by simp) ?_
      refine mem1 ?_
      refine till_step rfl (fun K hK => ?_)
      go_simp
      have p6 := rows2_new X50 p2 p5
      have hd : Below X50.heap.size X50 (X50.alloc (.cells #[.slice (some ⟨g2, 0, none⟩) 2 2, .slice (some ⟨g5, 0, none⟩) 2 2] 26)) := (Below.refl _ _).alloc (nr _) _
      generalize (X50.alloc (.cells #[.slice (some ⟨g2, 0, none⟩) 2 2, .slice (some ⟨g5, 0, none⟩) 2 2] 26)) = X51 at *
      generalize X50.heap.size = g6 at p6 ⊢
      clear hh
      replace hb := bnx hb hd
      replace p2 := p2.below hd
      replace p5 := p5.below hd
      replace p9 := p9.below hd
      replace r1 := r1.below hd
      replace r2 := r2.below hd
      replace r3 := r3.below hd
      replace r4 := r4.below hd
      clear hd
      refine hK.out _ _ (hSall _ hb) (fun hh => ?_)
      clear hK K
      try simp only [Act.put, ptA, ptB, ptC]
      refine till_ready (rs := [10]) (by kernel_rfl) (by simp) ?_
      refine mem1 ?_
      refine till_step rfl (fun K hK => ?_)
      go_simp
      refine (deny_aw _ _ _ p6 p9).mono ?_
      rintro e X52 ⟨_, rfl, g, c, rfl, hd⟩
      go_wp2_with fail
      clear hh
      replace hb := bnx hb hd
      replace p2 := p2.below hd
      replace p5 := p5.below hd
      replace p6 := p6.below hd
      replace p9 := p9.below hd
      replace r1 := r1.below hd
      replace r2 := r2.below hd
      replace r3 := r3.below hd
      replace r4 := r4.below hd
      clear hd
      refine hK.out _ _ (hSall _ hb) (fun hh => ?_)
      clear hK K
      try simp only [Act.put, ptA, ptB, ptC]
      refine tt (i := 11) hh (some 27) ?_
      try simp only [Act.put, ptA, ptB, ptC]
      refine tt (i := 12) hh (some 39) ?_
      try simp only [Act.put, ptA, ptB, ptC]
      refine tt (i := 13) hh (some 40) ?_
      try simp only [Act.put, ptA, ptB, ptC]
      refine tt (i := 14) hh (some 9) ?_
      try simp only [Act.put, ptA, ptB, ptC]
      refine tt (i := 15) hh (some 10) ?_
      try simp only [Act.put, ptA, ptB, ptC]
      refine till_done (by kernel_rfl) ?_ _
      clear hh
      go_wp2
      go_meet
      exact ⟨g, c, rfl, rfl, hb⟩
   ·refine till_step rfl (fun K hK => ?_)
    go_simp
    have p5 := row2_new X27 r2 r3
    have hd : Below X27.heap.size X27 (X27.alloc (.cells #[.bool s2, .slice A2 n2 c2, .slice B2 m2 d2, .bool s3, .slice A3 n3 c3, .slice B3 m3 d3] 35)) := (Below.refl _ _).alloc (nr _) _
    generalize (X27.alloc (.cells #[.bool s2, .slice A2 n2 c2, .slice B2 m2 d2, .bool s3, .slice A3 n3 c3, .slice B3 m3 d3] 35)) = X53 at *
    generalize X27.heap.size = g5 at p5 ⊢
    clear hh
    replace hb := bnx hb hd
    replace r1 := r1.below hd
    replace r2 := r2.below hd
    replace r3 := r3.below hd
    clear hd
    refine hK.out _ _ (hSall _ hb) (fun hh => ?_)
    clear hK K
    try simp only [Act.put, ptA, ptB, ptC]
    refine till_ready (rs := [2, 8]) (by kernel_rfl) (by simp) ?_
    refine List.forall_mem_cons.2 ⟨?_, List.forall_mem_cons.2 ⟨?_, fun _ h => absurd h List.not_mem_nil⟩⟩
    ·refine till_step rfl (fun K hK => ?_)
     go_simp
     have p2 := row2_new X53 r1 r2
     have hd : Below X53.heap.size X53 (X53.alloc (.cells #[.bool s1, .slice A1 n1 c1, .slice B1 m1 d1, .bool s2, .slice A2 n2 c2, .slice B2 m2 d2] 35)) := (Below.refl _ _).alloc (nr _) _
     generalize (X53.alloc (.cells #[.bool s1, .slice A1 n1 c1, .slice B1 m1 d1, .bool s2, .slice A2 n2 c2, .slice B2 m2 d2] 35)) = X54 at *
     generalize X53.heap.size = g2 at p2 ⊢
     clear hh
     replace hb := bnx hb hd
     replace p5 := p5.below hd
     replace r1 := r1.below hd
     replace r2 := r2.below hd
     replace r3 := r3.below hd
     clear hd
     refine hK.out _ _ (hSall _ hb) (fun hh => ?_)
     clear hK K
     try simp only [Act.put, ptA, ptB, ptC]
     refine till_ready (rs := [6, 8]) (by kernel_rfl) (by simp) ?_
     refine List.forall_mem_cons.2 ⟨?_, List.forall_mem_cons.2 ⟨?_, fun _ h => absurd h List.not_mem_nil⟩⟩
     ·refine till_step rfl (fun K hK => ?_)
      go_simp
      have p6 := rows2_new X54 p2 p5
      have hd : Below X54.heap.size X54 (X54.alloc (.cells #[.slice (some ⟨g2, 0, none⟩) 2 2, .slice (some ⟨g5, 0, none⟩) 2 2] 26)) := (Below.refl _ _).alloc (nr _) _
      generalize (X54.alloc (.cells #[.slice (some ⟨g2, 0, none⟩) 2 2, .slice (some ⟨g5, 0, none⟩) 2 2] 26)) = X55 at *
      generalize X54.heap.size = g6 at p6 ⊢
      clear hh
      replace hb := bnx hb hd
      replace p2 := p2.below hd
      replace p5 := p5.below hd
      replace r1 := r1.below hd
      replace r2 := r2.below hd
      replace r3 := r3.below hd
      clear hd
      refine hK.out _ _ (hSall _ hb) (fun hh => ?_)
      clear hK K
      try simp only [Act.put, ptA, ptB, ptC]
      refine till_ready (rs := [8]) (by kernel_rfl) (by simp) ?_
      refine mem1 ?_
      refine till_step rfl (fun K hK => ?_)
      go_simp
      refine (of_c _ 3 (by omega) (by omega)).mono ?_
      rintro e X56 ⟨v, rfl, r4, hd⟩
      replace r4 := r4.fit (L' := 1) (fit_of (by decide +kernel))
      obtain ⟨N, l, rfl, q1, q2⟩ := id r4
      obtain ⟨A4, c4, xs, rfl, _⟩ := q1.open_
      generalize xs.length = n4 at *
      obtain ⟨B4, d4, ys, rfl, _⟩ := q2.open_
      generalize ys.length = m4 at *
      generalize decide (((3 : Int) : Rat).num < 0) = s4 at *
      clear q1 q2
      go_wp2_with fail
      clear hh
      replace hb := bnx hb hd
      replace p2 := p2.below hd
      replace p5 := p5.below hd
      replace p6 := p6.below hd
      replace r1 := r1.below hd
      replace r2 := r2.below hd
      replace r3 := r3.below hd
      clear hd
      refine hK.out _ _ (hSall _ hb) (fun hh => ?_)
      clear hK K
      try simp only [Act.put, ptA, ptB, ptC]
      refine till_ready (rs := [9]) (by kernel_rfl) (by simp) ?_
      refine mem1 ?_
      refine till_step rfl (fun K hK => ?_)
      go_simp
      have p9 := row2_new X56 r1 r4
      have hd : Below X56.heap.size X56 (X56.alloc (.cells #[.bool s1, .slice A1 n1 c1, .slice B1 m1 d1, .bool s4, .slice A4 n4 c4, .slice B4 m4 d4] 35)) := (Below.refl _ _).alloc (nr _) _
      generalize (X56.alloc (.cells #[.bool s1, .slice A1 n1 c1, .slice B1 m1 d1, .bool s4, .slice A4 n4 c4, .slice B4 m4 d4] 35)) = X57 at *
      generalize X56.heap.size = g9 at p9 ⊢
      clear hh
      replace hb := bnx hb hd
      replace p2 := p2.below hd
      replace p5 := p5.below hd
      replace p6 := p6.below hd
      replace r1 := r1.below hd
      replace r2 := r2.below hd
      replace r3 := r3.below hd
      replace r4 := r4.below hd
      clear hd
      refine hK.out _ _ (hSall _ hb) (fun hh => ?_)
      clear hK K
      try simp only [Act.put, ptA, ptB, ptC]
      refine till_ready (rs := [10]) (by kernel_rfl) (by simp) ?_
      refine mem1 ?_
      refine till_step rfl (fun K hK => ?_)
      go_simp
      refine (deny_aw _ _ _ p6 p9).mono ?_
      rintro e X58 ⟨_, rfl, g, c, rfl, hd⟩
      go_wp2_with fail
      clear hh
      replace hb := bnx hb hd
      replace p2 := p2.below hd
      replace p5 := p5.below hd
      replace p6 := p6.below hd
      replace p9 := p9.below hd
      replace r1 := r1.below hd
      replace r2 := r2.below hd
      replace r3 := r3.below hd
      replace r4 := r4.below hd
      clear hd
      refine hK.out _ _ (hSall _ hb) (fun hh => ?_)
      clear hK K
      try simp only [Act.put, ptA, ptB, ptC]
      refine tt (i := 11) hh (some 27) ?_
      try simp only [Act.put, ptA, ptB, ptC]
      refine tt (i := 12) hh (some 39) ?_
      try simp only [Act.put, ptA, ptB, ptC]
      refine tt (i := 13) hh (some 40) ?_
      try simp only [Act.put, ptA, ptB, ptC]
      refine tt (i := 14) hh (some 9) ?_
      try simp only [Act.put, ptA, ptB, ptC]
      refine tt (i := 15) hh (some 10) ?_
      try simp only [Act.put, ptA, ptB, ptC]
      refine till_done (by kernel_rfl) ?_ _
      clear hh
      go_wp2
      go_meet
      exact ⟨g, c, rfl, rfl, hb⟩
     ·refine till_step rfl (fun K hK => ?_)
      go_simp
      refine (of_c _ 3 (by omega) (by omega)).mono ?_
      rintro e X59 ⟨v, rfl, r4, hd⟩
      replace r4 := r4.fit (L' := 1) (fit_of (by decide +kernel))
      obtain ⟨N, l, rfl, q1, q2⟩ := id r4
      obtain ⟨A4, c4, xs, rfl, _⟩ := q1.open_
      generalize xs.length = n4 at *
      obtain ⟨B4, d4, ys, rfl, _⟩ := q2.open_
      generalize ys.length = m4 at *
      generalize decide (((3 : Int) : Rat).num < 0) = s4 at *
      clear q1 q2
      go_wp2_with fail
      clear hh
      replace hb := bnx hb hd
      replace p2 := p2.below hd
      replace p5 := p5.below hd
      replace r1 := r1.below hd
      replace r2 := r2.below hd
      replace r3 := r3.below hd
      clear hd
      refine hK.out _ _ (hSall _ hb) (fun hh => ?_)
      clear hK K
      try simp only [Act.put, ptA, ptB, ptC]
      refine till_ready (rs := [6, 9]) (by kernel_rfl) (by simp) ?_
      refine List.forall_mem_cons.2 ⟨?_, List.forall_mem_cons.2 ⟨?_, fun _ h => absurd h List.not_mem_nil⟩⟩
      ·refine till_step rfl (fun K hK => ?_)
       go_simp
       have p6 := rows2_new X59 p2 p5
       have hd : Below X59.heap.size X59 (X59.alloc (.cells #[.slice (some ⟨g2, 0, none⟩) 2 2, .slice (some ⟨g5, 0, none⟩) 2 2] 26)) := (Below.refl _ _).alloc (nr _) _
       generalize (X59.alloc (.cells #[.slice (some ⟨g2, 0, none⟩) 2 2, .slice (some ⟨g5, 0, none⟩) 2 2] 26)) = X60 at *
       generalize X59.heap.size = g6 at p6 ⊢
       clear hh
       replace hb := bnx hb hd
       replace p2 := p2.below hd
       replace p5 := p5.below hd
       replace r1 := r1.below hd
       replace r2 := r2.below hd
       replace r3 := r3.below hd
       replace r4 := r4.below hd
       clear hd
       refine hK.out _ _ (hSall _ hb) (fun hh => ?_)
       clear hK K
       try simp only [Act.put, ptA, ptB, ptC]
       refine till_ready (rs := [9]) (by kernel_rfl) (by simp) ?_
       refine mem1 ?_
       refine till_step rfl (fun K hK => ?_)
       go_simp
       have p9 := row2_new X60 r1 r4
       have hd : Below X60.heap.size X60 (X60.alloc (.cells #[.bool s1, .slice A1 n1 c1, .slice B1 m1 d1, .bool s4, .slice A4 n4 c4, .slice B4 m4 d4] 35)) := (Below.refl _ _).alloc (nr _) _
       generalize (X60.alloc (.cells #[.bool s1, .slice A1 n1 c1, .slice B1 m1 d1, .bool s4, .slice A4 n4 c4, .slice B4 m4 d4] 35)) = X61 at *
       generalize X60.heap.size = g9 at p9 ⊢
       clear hh
       replace hb := bnx hb hd
       replace p2 := p2.below hd
       replace p5 := p5.below hd
       replace p6 := p6.below hd
       replace r1 := r1.below hd
       replace r2 := r2.below hd
       replace r3 := r3.below hd
       replace r4 := r4.below hd
       clear hd
       refine hK.out _ _ (hSall _ hb) (fun hh => ?_)
       clear hK K
       try simp only [Act.put, ptA, ptB, ptC]
       refine till_ready (rs := [10]) (by kernel_rfl) (by simp) ?_
       refine mem1 ?_
       refine till_step rfl (fun K hK => ?_)
       go_simp
       refine (deny_aw _ _ _ p6 p9).mono ?_
       rintro e X62 ⟨_, rfl, g, c, rfl, hd⟩
       go_wp2_with fail
       clear hh
       replace hb := bnx hb hd
       replace p2 := p2.below hd
       replace p5 := p5.below hd
       replace p6 := p6.below hd
       replace p9 := p9.below hd
       replace r1 := r1.below hd
       replace r2 := r2.below hd
       replace r3 := r3.below hd
       replace r4 := r4.below hd
       clear hd
       refine hK.out _ _ (hSall _ hb) (fun hh => ?_)
       clear hK K
       try simp only [Act.put, ptA, ptB, ptC]
       refine tt (i := 11) hh (some 27) ?_
       try simp only [Act.put, ptA, ptB, ptC]
       refine tt (i := 12) hh (some 39) ?_
       try simp only [Act.put, ptA, ptB, ptC]
       refine tt (i := 13) hh (some 40) ?_
       try simp only [Act.put, ptA, ptB, ptC]
       refine tt (i := 14) hh (some 9) ?_
       try simp only [Act.put, ptA, ptB, ptC]
       refine tt (i := 15) hh (some 10) ?_
       try simp only [Act.put, ptA, ptB, ptC]
       refine till_done (by kernel_rfl) ?_ _
       clear hh
       go_wp2
       go_meet
       exact ⟨g, c, rfl, rfl, hb⟩
      ·refine till_step rfl (fun K hK => ?_)
       go_simp
       have p9 := row2_new X59 r1 r4
       have hd : Below X59.heap.size X59 (X59.alloc (.cells #[.bool s1, .slice A1 n1 c1, .slice B1 m1 d1, .bool s4, .slice A4 n4 c4, .slice B4 m4 d4] 35)) := (Below.refl _ _).alloc (nr _) _
       generalize (X59.alloc (.cells #[.bool s1, .slice A1 n1 c1, .slice B1 m1 d1, .bool s4, .slice A4 n4 c4, .slice B4 m4 d4] 35)) = X63 at *
       generalize X59.heap.size = g9 at p9 ⊢
       clear hh
       replace hb := bnx hb hd
       replace p2 := p2.below hd
       replace p5 := p5.below hd
       replace r1 := r1.below hd
       replace r2 := r2.below hd
       replace r3 := r3.below hd
       replace r4 := r4.below hd
       clear hd
       refine hK.out _ _ (hSall _ hb) (fun hh => ?_)
       clear hK K
       try simp only [Act.put, ptA, ptB, ptC]
       refine till_ready (rs := [6]) (by kernel_rfl) (by simp) ?_
       refine mem1 ?_
       refine till_step rfl (fun K hK => ?_)
       go_simp
       have p6 := rows2_new X63 p2 p5
       have hd : Below X63.heap.size X63 (X63.alloc (.cells #[.slice (some ⟨g2, 0, none⟩) 2 2, .slice (some ⟨g5, 0, none⟩) 2 2] 26)) := (Below.refl _ _).alloc (nr _) _
       generalize (X63.alloc (.cells #[.slice (some ⟨g2, 0, none⟩) 2 2, .slice (some ⟨g5, 0, none⟩) 2 2] 26)) = X64 at *
       generalize X63.heap.size = g6 at p6 ⊢
       clear hh
       replace hb := bnx hb hd
       replace p2 := p2.below hd
       replace p5 := p5.below hd
       replace p9 := p9.below hd
       replace r1 := r1.below hd
       replace r2 := r2.below hd
       replace r3 := r3.below hd
       replace r4 := r4.below hd
       clear hd
       refine hK.out _ _ (hSall _ hb) (fun hh => ?_)
       clear hK K
       try simp only [Act.put, ptA, ptB, ptC]
       refine till_ready (rs := [10]) (by kernel_rfl) (by simp) ?_
       refine mem1 ?_
       refine till_step rfl (fun K hK => ?_)
       go_simp
       refine (deny_aw _ _ _ p6 p9).mono ?_
       rintro e X65 ⟨_, rfl, g, c, rfl, hd⟩
       go_wp2_with fail
       clear hh
       replace hb := bnx hb hd
       replace p2 := p2.below hd
       replace p5 := p5.below hd
       replace p6 := p6.below hd
       replace p9 := p9.below hd
       replace r1 := r1.below hd
       replace r2 := r2.below hd
       replace r3 := r3.below hd
       replace r4 := r4.below hd
       clear hd
       refine hK.out _ _ (hSall _ hb) (fun hh => ?_)
       clear hK K
       try simp only [Act.put, ptA, ptB, ptC]
       refine tt (i := 11) hh (some 27) ?_
       try simp only [Act.put, ptA, ptB, ptC]
       refine tt (i := 12) hh (some 39) ?_
       try simp only [Act.put, ptA, ptB, ptC]
       refine tt (i := 13) hh (some 40) ?_
       try simp only [Act.put, ptA, ptB, ptC]
       refine tt (i := 14) hh (some 9) ?_
       try simp only [Act.put, ptA, ptB, ptC]
       refine tt (i := 15) hh (some 10) ?_
       try simp only [Act.put, ptA, ptB, ptC]
       refine till_done (by kernel_rfl) ?_ _
       clear hh
       go_wp2
       go_meet
       exact ⟨g, c, rfl, rfl, hb⟩
    ·refine till_step rfl (fun K hK => ?_)
     go_simp
     refine (of_c _ 3 (by omega) (by omega)).mono ?_
     rintro e X66 ⟨v, rfl, r4, hd⟩
     replace r4 := r4.fit (L' := 1) (fit_of (by decide +kernel))
     obtain ⟨N, l, rfl, q1, q2⟩ := id r4
     obtain ⟨A4, c4, xs, rfl, _⟩ := q1.open_
     generalize xs.length = n4 at *
     obtain ⟨B4, d4, ys, rfl, _⟩ := q2.open_
     generalize ys.length = m4 at *
     generalize decide (((3 : Int) : Rat).num < 0) = s4 at *
     clear q1 q2
     go_wp2_with fail
     clear hh
     replace hb := bnx hb hd
     replace p5 := p5.below hd
     replace r1 := r1.below hd
     replace r2 := r2.below hd
     replace r3 := r3.below hd
     clear hd
     refine hK.out _ _ (hSall _ hb) (fun hh => ?_)
     clear hK K
     try simp only [Act.put, ptA, ptB, ptC]
     refine till_ready (rs := [2, 9]) (by kernel_rfl) (by simp) ?_
     refine List.forall_mem_cons.2 ⟨?_, List.forall_mem_cons.2 ⟨?_, fun _ h => absurd h List.not_mem_nil⟩⟩
     ·refine till_step rfl (fun K hK => ?_)
      go_simp
      have p2 := row2_new X66 r1 r2
      have hd : Below X66.heap.size X66 (X66.alloc (.cells #[.bool s1, .slice A1 n1 c1, .slice B1 m1 d1, .bool s2, .slice A2 n2 c2, .slice B2 m2 d2] 35)) := (Below.refl _ _).alloc (nr _) _
      generalize (X66.alloc (.cells #[.bool s1, .slice A1 n1 c1, .slice B1 m1 d1, .bool s2, .slice A2 n2 c2, .slice B2 m2 d2] 35)) = X67 at *
      generalize X66.heap.size = g2 at p2 ⊢
      clear hh
      replace hb := bnx hb hd
      replace p5 := p5.below hd
      replace r1 := r1.below hd
      replace r2 := r2.below hd
      replace r3 := r3.below hd
      replace r4 := r4.below hd
      clear hd
      refine hK.out _ _ (hSall _ hb) (fun hh => ?_)
      clear hK K
      try simp only [Act.put, ptA, ptB, ptC]
      refine till_ready (rs := [6, 9]) (by kernel_rfl) (by simp) ?_
      refine List.forall_mem_cons.2 ⟨?_, List.forall_mem_cons.2 ⟨?_, fun _ h => absurd h List.not_mem_nil⟩⟩
      ·refine till_step rfl (fun K hK => ?_)
       go_simp
       have p6 := rows2_new X67 p2 p5
       have hd : Below X67.heap.size X67 (X67.alloc (.cells #[.slice (some ⟨g2, 0, none⟩) 2 2, .slice (some ⟨g5, 0, none⟩) 2 2] 26)) := (Below.refl _ _).alloc (nr _) _
       generalize (X67.alloc (.cells #[.slice (some ⟨g2, 0, none⟩) 2 2, .slice (some ⟨g5, 0, none⟩) 2 2] 26)) = X68 at *
       generalize X67.heap.size = g6 at p6 ⊢
       clear hh
       replace hb := bnx hb hd
       replace p2 := p2.below hd
       replace p5 := p5.below hd
       replace r1 := r1.below hd
       replace r2 := r2.below hd
       replace r3 := r3.below hd
       replace r4 := r4.below hd
       clear hd
       refine hK.out _ _ (hSall _ hb) (fun hh => ?_)
       clear hK K
       try simp only [Act.put, ptA, ptB, ptC]
       refine till_ready (rs := [9]) (by kernel_rfl) (by simp) ?_
       refine mem1 ?_
       refine till_step rfl (fun K hK => ?_)
       go_simp
       have p9 := row2_new X68 r1 r4
       have hd : Below X68.heap.size X68 (X68.alloc (.cells #[.bool s1, .slice A1 n1 c1, .slice B1 m1 d1, .bool s4, .slice A4 n4 c4, .slice B4 m4 d4] 35)) := (Below.refl _ _).alloc (nr _) _
       generalize (X68.alloc (.cells #[.bool s1, .slice A1 n1 c1, .slice B1 m1 d1, .bool s4, .slice A4 n4 c4, .slice B4 m4 d4] 35)) = X69 at *
       generalize X68.heap.size = g9 at p9 ⊢
       clear hh
       replace hb := bnx hb hd
       replace p2 := p2.below hd
       replace p5 := p5.below hd
       replace p6 := p6.below hd
       replace r1 := r1.below hd
       replace r2 := r2.below hd
       replace r3 := r3.below hd
       replace r4 := r4.below hd
       clear hd
       refine hK.out _ _ (hSall _ hb) (fun hh => ?_)
       clear hK K
       try simp only [Act.put, ptA, ptB, ptC]
       refine till_ready (rs := [10]) (by kernel_rfl) (by simp) ?_
       refine mem1 ?_
       refine till_step rfl (fun K hK => ?_)
       go_simp
       refine (deny_aw _ _ _ p6 p9).mono ?_
       rintro e X70 ⟨_, rfl, g, c, rfl, hd⟩
       go_wp2_with fail
       clear hh
       replace hb := bnx hb hd
       replace p2 := p2.below hd
       replace p5 := p5.below hd
       replace p6 := p6.below hd
       replace p9 := p9.below hd
       replace r1 := r1.below hd
       replace r2 := r2.below hd
       replace r3 := r3.below hd
       replace r4 := r4.below hd
       clear hd
       refine hK.out _ _ (hSall _ hb) (fun hh => ?_)
       clear hK K
       try simp only [Act.put, ptA, ptB, ptC]
       refine tt (i := 11) hh (some 27) ?_
       try simp only [Act.put, ptA, ptB, ptC]
       refine tt (i := 12) hh (some 39) ?_
       try simp only [Act.put, ptA, ptB, ptC]
       refine tt (i := 13) hh (some 40) ?_
       try simp only [Act.put, ptA, ptB, ptC]
       refine tt (i := 14) hh (some 9) ?_
       try simp only [Act.put, ptA, ptB, ptC]
       refine tt (i := 15) hh (some 10) ?_
       try simp only [Act.put, ptA, ptB, ptC]
       refine till_done (by kernel_rfl) ?_ _
       clear hh
       go_wp2
       go_meet
       exact ⟨g, c, rfl, rfl, hb⟩
      ·refine till_step rfl (fun K hK => ?_)
       go_simp
       have p9 := row2_new X67 r1 r4
       have hd : Below X67.heap.size X67 (X67.alloc (.cells #[.bool s1, .slice A1 n1 c1, .slice B1 m1 d1, .bool s4, .slice A4 n4 c4, .slice B4 m4 d4] 35)) := (Below.refl _ _).alloc (nr _) _
       generalize (X67.alloc (.cells #[.bool s1, .slice A1 n1 c1, .slice B1 m1 d1, .bool s4, .slice A4 n4 c4, .slice B4 m4 d4] 35)) = X71 at *
       generalize X67.heap.size = g9 at p9 ⊢
       clear hh
       replace hb := bnx hb hd
       replace p2 := p2.below hd
       replace p5 := p5.below hd
       replace r1 := r1.below hd
       replace r2 := r2.below hd
       replace r3 := r3.below hd
       replace r4 := r4.below hd
       clear hd
       refine hK.out _ _ (hSall _ hb) (fun hh => ?_)
       clear hK K
       try simp only [Act.put, ptA, ptB, ptC]
       refine till_ready (rs := [6]) (by kernel_rfl) (by simp) ?_
       refine mem1 ?_
       refine till_step rfl (fun K hK => ?_)
       go_simp
       have p6 := rows2_new X71 p2 p5
       have hd : Below X71.heap.size X71 (X71.alloc (.cells #[.slice (some ⟨g2, 0, none⟩) 2 2, .slice (some ⟨g5, 0, none⟩) 2 2] 26)) := (Below.refl _ _).alloc (nr _) _
       generalize (X71.alloc (.cells #[.slice (some ⟨g2, 0, none⟩) 2 2, .slice (some ⟨g5, 0, none⟩) 2 2] 26)) = X72 at *
       generalize X71.heap.size = g6 at p6 ⊢
       clear hh
       replace hb := bnx hb hd
       replace p2 := p2.below hd
       replace p5 := p5.below hd
       replace p9 := p9.below hd
       replace r1 := r1.below hd
       replace r2 := r2.below hd
       replace r3 := r3.below hd
       replace r4 := r4.below hd
       clear hd
       refine hK.out _ _ (hSall _ hb) (fun hh => ?_)
       clear hK K
       try simp only [Act.put, ptA, ptB, ptC]
       refine till_ready (rs := [10]) (by kernel_rfl) (by simp) ?_
       refine mem1 ?_
       refine till_step rfl (fun K hK => ?_)
       go_simp
       refine (deny_aw _ _ _ p6 p9).mono ?_
       rintro e X73 ⟨_, rfl, g, c, rfl, hd⟩
       go_wp2_with fail
       clear hh
       replace hb := bnx hb hd
       replace p2 := p2.below hd
       replace p5 := p5.below hd
       replace p6 := p6.below hd
       replace p9 := p9.below hd
       replace r1 := r1.below hd
       replace r2 := r2.below hd
       replace r3 := r3.below hd
       replace r4 := r4.below hd
       clear hd
       refine hK.out _ _ (hSall _ hb) (fun hh => ?_)
       clear hK K
       try simp only [Act.put, ptA, ptB, ptC]
       refine tt (i := 11) hh (some 27) ?_
       try simp only [Act.put, ptA, ptB, ptC]
       refine tt (i := 12) hh (some 39) ?_
       try simp only [Act.put, ptA, ptB, ptC]
       refine tt (i := 13) hh (some 40) ?_
       try simp only [Act.put, ptA, ptB, ptC]
       refine tt (i := 14) hh (some 9) ?_
       try simp only [Act.put, ptA, ptB, ptC]
       refine tt (i := 15) hh (some 10) ?_
       try simp only [Act.put, ptA, ptB, ptC]
       refine till_done (by kernel_rfl) ?_ _
       clear hh
       go_wp2
       go_meet
       exact ⟨g, c, rfl, rfl, hb⟩
     ·refine till_step rfl (fun K hK => ?_)
      go_simp
      have p9 := row2_new X66 r1 r4
      have hd : Below X66.heap.size X66 (X66.alloc (.cells #[.bool s1, .slice A1 n1 c1, .slice B1 m1 d1, .bool s4, .slice A4 n4 c4, .slice B4 m4 d4] 35)) := (Below.refl _ _).alloc (nr _) _
      generalize (X66.alloc (.cells #[.bool s1, .slice A1 n1 c1, .slice B1 m1 d1, .bool s4, .slice A4 n4 c4, .slice B4 m4 d4] 35)) = X74 at *
      generalize X66.heap.size = g9 at p9 ⊢
      clear hh
      replace hb := bnx hb hd
      replace p5 := p5.below hd
      replace r1 := r1.below hd
      replace r2 := r2.below hd
      replace r3 := r3.below hd
      replace r4 := r4.below hd
      clear hd
      refine hK.out _ _ (hSall _ hb) (fun hh => ?_)
      clear hK K
      try simp only [Act.put, ptA, ptB, ptC]
      refine till_ready (rs := [2]) (by kernel_rfl) (by simp) ?_
      refine mem1 ?_
      refine till_step rfl (fun K hK => ?_)
      go_simp
      have p2 := row2_new X74 r1 r2
      have hd : Below X74.heap.size X74 (X74.alloc (.cells #[.bool s1, .slice A1 n1 c1, .slice B1 m1 d1, .bool s2, .slice A2 n2 c2, .slice B2 m2 d2] 35)) := (Below.refl _ _).alloc (nr _) _
      generalize (X74.alloc (.cells #[.bool s1, .slice A1 n1 c1, .slice B1 m1 d1, .bool s2, .slice A2 n2 c2, .slice B2 m2 d2] 35)) = X75 at *
      generalize X74.heap.size = g2 at p2 ⊢
      clear hh
      replace hb := bnx hb hd
      replace p5 := p5.below hd
      replace p9 := p9.below hd
      replace r1 := r1.below hd
      replace r2 := r2.below hd
      replace r3 := r3.below hd
      replace r4 := r4.below hd
      clear hd
      refine hK.out _ _ (hSall _ hb) (fun hh => ?_)
      clear hK K
      try simp only [Act.put, ptA, ptB, ptC]
      refine till_ready (rs := [6]) (by kernel_rfl) (by simp) ?_
      refine mem1 ?_
      refine till_step rfl (fun K hK => ?_)
      go_simp
      have p6 := rows2_new X75 p2 p5
      have hd : Below X75.heap.size X75 (X75.alloc (.cells #[.slice (some ⟨g2, 0, none⟩) 2 2, .slice (some ⟨g5, 0, none⟩) 2 2] 26)) := (Below.refl _ _).alloc (nr _) _
      generalize (X75.alloc (.cells #[.slice (some ⟨g2, 0, none⟩) 2 2, .slice (some ⟨g5, 0, none⟩) 2 2] 26)) = X76 at *
      generalize X75.heap.size = g6 at p6 ⊢
      clear hh
      replace hb := bnx hb hd
      replace p2 := p2.below hd
      replace p5 := p5.below hd
      replace p9 := p9.below hd
      replace r1 := r1.below hd
      replace r2 := r2.below hd
      replace r3 := r3.below hd
      replace r4 := r4.below hd
      clear hd
      refine hK.out _ _ (hSall _ hb) (fun hh => ?_)
      clear hK K
      try simp only [Act.put, ptA, ptB, ptC]
      refine till_ready (rs := [10]) (by kernel_rfl) (by simp) ?_
      refine mem1 ?_
      refine till_step rfl (fun K hK => ?_)
      go_simp
      refine (deny_aw _ _ _ p6 p9).mono ?_
      rintro e X77 ⟨_, rfl, g, c, rfl, hd⟩
      go_wp2_with fail
      clear hh
      replace hb := bnx hb hd
      replace p2 := p2.below hd
      replace p5 := p5.below hd
      replace p6 := p6.below hd
      replace p9 := p9.below hd
      replace r1 := r1.below hd
      replace r2 := r2.below hd
      replace r3 := r3.below hd
      replace r4 := r4.below hd
      clear hd
      refine hK.out _ _ (hSall _ hb) (fun hh => ?_)
      clear hK K
      try simp only [Act.put, ptA, ptB, ptC]
      refine tt (i := 11) hh (some 27) ?_
      try simp only [Act.put, ptA, ptB, ptC]
      refine tt (i := 12) hh (some 39) ?_
      try simp only [Act.put, ptA, ptB, ptC]
      refine tt (i := 13) hh (some 40) ?_
      try simp only [Act.put, ptA, ptB, ptC]
      refine tt (i := 14) hh (some 9) ?_
      try simp only [Act.put, ptA, ptB, ptC]
      refine tt (i := 15) hh (some 10) ?_
      try simp only [Act.put, ptA, ptB, ptC]
      refine till_done (by kernel_rfl) ?_ _
      clear hh
      go_wp2
      go_meet
      exact ⟨g, c, rfl, rfl, hb⟩
   ·refine till_step rfl (fun K hK => ?_)
    go_simp
    refine (of_c _ 3 (by omega) (by omega)).mono ?_
    rintro e X78 ⟨v, rfl, r4, hd⟩
    replace r4 := r4.fit (L' := 1) (fit_of (by decide +kernel))
    obtain ⟨N, l, rfl, q1, q2⟩ := id r4
    obtain ⟨A4, c4, xs, rfl, _⟩ := q1.open_
    generalize xs.length = n4 at *
    obtain ⟨B4, d4, ys, rfl, _⟩ := q2.open_
    generalize ys.length = m4 at *
    generalize decide (((3 : Int) : Rat).num < 0) = s4 at *
    clear q1 q2
    go_wp2_with fail
    clear hh
    replace hb := bnx hb hd
    replace r1 := r1.below hd
    replace r2 := r2.below hd
    replace r3 := r3.below hd
    clear hd
    refine hK.out _ _ (hSall _ hb) (fun hh => ?_)
    clear hK K
    try simp only [Act.put, ptA, ptB, ptC]
    refine till_ready (rs := [2, 5, 9]) (by kernel_rfl) (by simp) ?_
    refine List.forall_mem_cons.2 ⟨?_, List.forall_mem_cons.2 ⟨?_, List.forall_mem_cons.2 ⟨?_, fun _ h => absurd h List.not_mem_nil⟩⟩⟩
    ·refine till_step rfl (fun K hK => ?_)
     go_simp
     have p2 := row2_new X78 r1 r2
     have hd : Below X78.heap.size X78 (X78.alloc (.cells #[.bool s1, .slice A1 n1 c1, .slice B1 m1 d1, .bool s2, .slice A2 n2 c2, .slice B2 m2 d2] 35)) := (Below.refl _ _).alloc (nr _) _
     generalize (X78.alloc (.cells #[.bool s1, .slice A1 n1 c1, .slice B1 m1 d1, .bool s2, .slice A2 n2 c2, .slice B2 m2 d2] 35)) = X79 at *
     generalize X78.heap.size = g2 at p2 ⊢
     clear hh
     replace hb := bnx hb hd
     replace r1 := r1.below hd
     replace r2 := r2.below hd
     replace r3 := r3.below hd
     replace r4 := r4.below hd
     clear hd
     refine hK.out _ _ (hSall _ hb) (fun hh => ?_)
     clear hK K
     try simp only [Act.put, ptA, ptB, ptC]
     refine till_ready (rs := [5, 9]) (by kernel_rfl) (by simp) ?_
     refine List.forall_mem_cons.2 ⟨?_, List.forall_mem_cons.2 ⟨?_, fun _ h => absurd h List.not_mem_nil⟩⟩
     ·refine till_step rfl (fun K hK => ?_)
      go_simp
      have p5 := row2_new X79 r2 r3
      have hd : Below X79.heap.size X79 (X79.alloc (.cells #[.bool s2, .slice A2 n2 c2, .slice B2 m2 d2, .bool s3, .slice A3 n3 c3, .slice B3 m3 d3] 35)) := (Below.refl _ _).alloc (nr _) _
      generalize (X79.alloc (.cells #[.bool s2, .slice A2 n2 c2, .slice B2 m2 d2, .bool s3, .slice A3 n3 c3, .slice B3 m3 d3] 35)) = X80 at *
      generalize X79.heap.size = g5 at p5 ⊢
      clear hh
      replace hb := bnx hb hd
      replace p2 := p2.below hd
      replace r1 := r1.below hd
      replace r2 := r2.below hd
      replace r3 := r3.below hd
      replace r4 := r4.below hd
      clear hd
      refine hK.out _ _ (hSall _ hb) (fun hh => ?_)
      clear hK K
      try simp only [Act.put, ptA, ptB, ptC]
      refine till_ready (rs := [6, 9]) (by kernel_rfl) (by simp) ?_
      refine List.forall_mem_cons.2 ⟨?_, List.forall_mem_cons.2 ⟨?_, fun _ h => absurd h List.not_mem_nil⟩⟩
      ·refine till_step rfl (fun K hK => ?_)
       go_simp
       have p6 := rows2_new X80 p2 p5
       have hd : Below X80.heap.size X80 (X80.alloc (.cells #[.slice (some ⟨g2, 0, none⟩) 2 2, .slice (some ⟨g5, 0, none⟩) 2 2] 26)) := (Below.refl _ _).alloc (nr _) _
       generalize (X80.alloc (.cells #[.slice (some ⟨g2, 0, none⟩) 2 2, .slice (some ⟨g5, 0, none⟩) 2 2] 26)) = X81 at *
       generalize X80.heap.size = g6 at p6 ⊢
       clear hh
       replace hb := bnx hb hd
       replace p2 := p2.below hd
       replace p5 := p5.below hd
       replace r1 := r1.below hd
       replace r2 := r2.below hd
       replace r3 := r3.below hd
       replace r4 := r4.below hd
       clear hd
       refine hK.out _ _ (hSall _ hb) (fun hh => ?_)
       clear hK K
       try simp only [Act.put, ptA, ptB, ptC]
       refine till_ready (rs := [9]) (by kernel_rfl) (by simp) ?_
       refine mem1 ?_
       refine till_step rfl (fun K hK => ?_)
       go_simp
       have p9 := row2_new X81 r1 r4
       have hd : Below X81.heap.size X81 (X81.alloc (.cells #[.bool s1, .slice A1 n1 c1, .slice B1 m1 d1, .bool s4, .slice A4 n4 c4, .slice B4 m4 d4] 35)) := (Below.refl _ _).alloc (nr _) _
       generalize (X81.alloc (.cells #[.bool s1, .slice A1 n1 c1, .slice B1 m1 d1, .bool s4, .slice A4 n4 c4, .slice B4 m4 d4] 35)) = X82 at *
       generalize X81.heap.size = g9 at p9 ⊢
       clear hh
       replace hb := bnx hb hd
       replace p2 := p2.below hd
       replace p5 := p5.below hd
       replace p6 := p6.below hd
       replace r1 := r1.below hd
       replace r2 := r2.below hd
       replace r3 := r3.below hd
       replace r4 := r4.below hd
       clear hd
       refine hK.out _ _ (hSall _ hb) (fun hh => ?_)
       clear hK K
       try simp only [Act.put, ptA, ptB, ptC]
       refine till_ready (rs := [10]) (by kernel_rfl) (by simp) ?_
       refine mem1 ?_
       refine till_step rfl (fun K hK => ?_)
       go_simp
       refine (deny_aw _ _ _ p6 p9).mono ?_
       rintro e X83 ⟨_, rfl, g, c, rfl, hd⟩
       go_wp2_with fail
       clear hh
       replace hb := bnx hb hd
       replace p2 := p2.below hd
       replace p5 := p5.below hd
       replace p6 := p6.below hd
       replace p9 := p9.below hd
       replace r1 := r1.below hd
       replace r2 := r2.below hd
       replace r3 := r3.below hd
       replace r4 := r4.below hd
       clear hd
       refine hK.out _ _ (hSall _ hb) (fun hh => ?_)
       clear hK K
       try simp only [Act.put, ptA, ptB, ptC]
       refine tt (i := 11) hh (some 27) ?_
       try simp only [Act.put, ptA, ptB, ptC]
       refine tt (i := 12) hh (some 39) ?_
       try simp only [Act.put, ptA, ptB, ptC]
       refine tt (i := 13) hh (some 40) ?_
       try simp only [Act.put, ptA, ptB, ptC]
       refine tt (i := 14) hh (some 9) ?_
       try simp only [Act.put, ptA, ptB, ptC]
       refine tt (i := 15) hh (some 10) ?_
       try simp only [Act.put, ptA, ptB, ptC]
       refine till_done (by kernel_rfl) ?_ _
       clear hh
       go_wp2
       go_meet
       exact ⟨g, c, rfl, rfl, hb⟩
      ·refine till_step rfl (fun K hK => ?_)
       go_simp
       have p9 := row2_new X80 r1 r4
       have hd : Below X80.heap.size X80 (X80.alloc (.cells #[.bool s1, .slice A1 n1 c1, .slice B1 m1 d1, .bool s4, .slice A4 n4 c4, .slice B4 m4 d4] 35)) := (Below.refl _ _).alloc (nr _) _
       generalize (X80.alloc (.cells #[.bool s1, .slice A1 n1 c1, .slice B1 m1 d1, .bool s4, .slice A4 n4 c4, .slice B4 m4 d4] 35)) = X84 at *
       generalize X80.heap.size = g9 at p9 ⊢
       clear hh
       replace hb := bnx hb hd
       replace p2 := p2.below hd
       replace p5 := p5.below hd
       replace r1 := r1.below hd
       replace r2 := r2.below hd
       replace r3 := r3.below hd
       replace r4 := r4.below hd
       clear hd
       refine hK.out _ _ (hSall _ hb) (fun hh => ?_)
       clear hK K
       try simp only [Act.put, ptA, ptB, ptC]
       refine till_ready (rs := [6]) (by kernel_rfl) (by simp) ?_
       refine mem1 ?_
       refine till_step rfl (fun K hK => ?_)
       go_simp
       have p6 := rows2_new X84 p2 p5
       have hd : Below X84.heap.size X84 (X84.alloc (.cells #[.slice (some ⟨g2, 0, none⟩) 2 2, .slice (some ⟨g5, 0, none⟩) 2 2] 26)) := (Below.refl _ _).alloc (nr _) _
       generalize (X84.alloc (.cells #[.slice (some ⟨g2, 0, none⟩) 2 2, .slice (some ⟨g5, 0, none⟩) 2 2] 26)) = X85 at *
       generalize X84.heap.size = g6 at p6 ⊢
       clear hh
       replace hb := bnx hb hd
       replace p2 := p2.below hd
       replace p5 := p5.below hd
       replace p9 := p9.below hd
       replace r1 := r1.below hd
       replace r2 := r2.below hd
       replace r3 := r3.below hd
       replace r4 := r4.below hd
       clear hd
       refine hK.out _ _ (hSall _ hb) (fun hh => ?_)
       clear hK K
       try simp only [Act.put, ptA, ptB, ptC]
       refine till_ready (rs := [10]) (by kernel_rfl) (by simp) ?_
       refine mem1 ?_
       refine till_step rfl (fun K hK => ?_)
       go_simp
       refine (deny_aw _ _ _ p6 p9).mono ?_
       rintro e X86 ⟨_, rfl, g, c, rfl, hd⟩
       go_wp2_with fail
       clear hh
       replace hb := bnx hb hd
       replace p2 := p2.below hd
       replace p5 := p5.below hd
       replace p6 := p6.below hd
       replace p9 := p9.below hd
       replace r1 := r1.below hd
       replace r2 := r2.below hd
       replace r3 := r3.below hd
       replace r4 := r4.below hd
       clear hd
       refine hK.out _ _ (hSall _ hb) (fun hh => ?_)
       clear hK K
       try simp only [Act.put, ptA, ptB, ptC]
       refine tt (i := 11) hh (some 27) ?_
       try simp only [Act.put, ptA, ptB, ptC]
       refine tt (i := 12) hh (some 39) ?_
       try simp only [Act.put, ptA, ptB, ptC]
       refine tt (i := 13) hh (some 40) ?_
       try simp only [Act.put, ptA, ptB, ptC]
       refine tt (i := 14) hh (some 9) ?_
       try simp only [Act.put, ptA, ptB, ptC]
       refine tt (i := 15) hh (some 10) ?_
       try simp only [Act.put, ptA, ptB, ptC]
       refine till_done (by kernel_rfl) ?_ _
       clear hh
       go_wp2
       go_meet
       exact ⟨g, c, rfl, rfl, hb⟩
     ·refine till_step rfl (fun K hK => ?_)
      go_simp
      have p9 := row2_new X79 r1 r4
      have hd : Below X79.heap.size X79 (X79.alloc (.cells #[.bool s1, .slice A1 n1 c1, .slice B1 m1 d1, .bool s4, .slice A4 n4 c4, .slice B4 m4 d4] 35)) := (Below.refl _ _).alloc (nr _) _
      generalize (X79.alloc (.cells #[.bool s1, .slice A1 n1 c1, .slice B1 m1 d1, .bool s4, .slice A4 n4 c4, .slice B4 m4 d4] 35)) = X87 at *
      generalize X79.heap.size = g9 at p9 ⊢
      clear hh
      replace hb := bnx hb hd
      replace p2 := p2.below hd
      replace r1 := r1.below hd
      replace r2 := r2.below hd
      replace r3 := r3.below hd
      replace r4 := r4.below hd
      clear hd
      refine hK.out _ _ (hSall _ hb) (fun hh => ?_)
      clear hK K
      try simp only [Act.put, ptA, ptB, ptC]
      refine till_ready (rs := [5]) (by kernel_rfl) (by simp) ?_
      refine mem1 ?_
      refine till_step rfl (fun K hK => ?_)
      go_simp
      have p5 := row2_new X87 r2 r3
      have hd : Below X87.heap.size X87 (X87.alloc (.cells #[.bool s2, .slice A2 n2 c2, .slice B2 m2 d2, .bool s3, .slice A3 n3 c3, .slice B3 m3 d3] 35)) := (Below.refl _ _).alloc (nr _) _
      generalize (X87.alloc (.cells #[.bool s2, .slice A2 n2 c2, .slice B2 m2 d2, .bool s3, .slice A3 n3 c3, .slice B3 m3 d3] 35)) = X88 at *
      generalize X87.heap.size = g5 at p5 ⊢
      clear hh
      replace hb := bnx hb hd
      replace p2 := p2.below hd
      replace p9 := p9.below hd
      replace r1 := r1.below hd
      replace r2 := r2.below hd
      replace r3 := r3.below hd
      replace r4 := r4.below hd
      clear hd
      refine hK.out _ _ (hSall _ hb) (fun hh => ?_)
      clear hK K
      try simp only [Act.put, ptA, ptB, ptC]
      refine till_ready (rs := [6]) (by kernel_rfl) (by simp) ?_
      refine mem1 ?_
      refine till_step rfl (fun K hK => ?_)
      go_simp
      have p6 := rows2_new X88 p2 p5
      have hd : Below X88.heap.size X88 (X88.alloc (.cells #[.slice (some ⟨g2, 0, none⟩) 2 2, .slice (some ⟨g5, 0, none⟩) 2 2] 26)) := (Below.refl _ _).alloc (nr _) _
      generalize (X88.alloc (.cells #[.slice (some ⟨g2, 0, none⟩) 2 2, .slice (some ⟨g5, 0, none⟩) 2 2] 26)) = X89 at *
      generalize X88.heap.size = g6 at p6 ⊢
      clear hh
      replace hb := bnx hb hd
      replace p2 := p2.below hd
      replace p5 := p5.below hd
      replace p9 := p9.below hd
      replace r1 := r1.below hd
      replace r2 := r2.below hd
      replace r3 := r3.below hd
      replace r4 := r4.below hd
      clear hd
      refine hK.out _ _ (hSall _ hb) (fun hh => ?_)
      clear hK K
      try simp only [Act.put, ptA, ptB, ptC]
      refine till_ready (rs := [10]) (by kernel_rfl) (by simp) ?_
      refine mem1 ?_
      refine till_step rfl (fun K hK => ?_)
      go_simp
      refine (deny_aw _ _ _ p6 p9).mono ?_
      rintro e X90 ⟨_, rfl, g, c, rfl, hd⟩
      go_wp2_with fail
      clear hh
      replace hb := bnx hb hd
      replace p2 := p2.below hd
      replace p5 := p5.below hd
      replace p6 := p6.below hd
      replace p9 := p9.below hd
      replace r1 := r1.below hd
      replace r2 := r2.below hd
      replace r3 := r3.below hd
      replace r4 := r4.below hd
      clear hd
      refine hK.out _ _ (hSall _ hb) (fun hh => ?_)
      clear hK K
      try simp only [Act.put, ptA, ptB, ptC]
      refine tt (i := 11) hh (some 27) ?_
      try simp only [Act.put, ptA, ptB, ptC]
      refine tt (i := 12) hh (some 39) ?_
      try simp only [Act.put, ptA, ptB, ptC]
      refine tt (i := 13) hh (some 40) ?_
      try simp only [Act.put, ptA, ptB, ptC]
      refine tt (i := 14) hh (some 9) ?_
      try simp only [Act.put, ptA, ptB, ptC]
      refine tt (i := 15) hh (some 10) ?_
      try simp only [Act.put, ptA, ptB, ptC]
      refine till_done (by kernel_rfl) ?_ _
      clear hh
      go_wp2
      go_meet
      exact ⟨g, c, rfl, rfl, hb⟩
    ·refine till_step rfl (fun K hK => ?_)
     go_simp
     have p5 := row2_new X78 r2 r3
     have hd : Below X78.heap.size X78 (X78.alloc (.cells #[.bool s2, .slice A2 n2 c2, .slice B2 m2 d2, .bool s3, .slice A3 n3 c3, .slice B3 m3 d3] 35)) := (Below.refl _ _).alloc (nr _) _
     generalize (X78.alloc (.cells #[.bool s2, .slice A2 n2 c2, .slice B2 m2 d2, .bool s3, .slice A3 n3 c3, .slice B3 m3 d3] 35)) = X91 at *
     generalize X78.heap.size = g5 at p5 ⊢
     clear hh
     replace hb := bnx hb hd
     replace r1 := r1.below hd
     replace r2 := r2.below hd
     replace r3 := r3.below hd
     replace r4 := r4.below hd
     clear hd
     refine hK.out _ _ (hSall _ hb) (fun hh => ?_)
     clear hK K
     try simp only [Act.put, ptA, ptB, ptC]
     refine till_ready (rs := [2, 9]) (by kernel_rfl) (by simp) ?_
     refine List.forall_mem_cons.2 ⟨?_, List.forall_mem_cons.2 ⟨?_, fun _ h => absurd h List.not_mem_nil⟩⟩
     ·refine till_step rfl (fun K hK => ?_)
      go_simp
      have p2 := row2_new X91 r1 r2
      have hd : Below X91.heap.size X91 (X91.alloc (.cells #[.bool s1, .slice A1 n1 c1, .slice B1 m1 d1, .bool s2, .slice A2 n2 c2, .slice B2 m2 d2] 35)) := (Below.refl _ _).alloc (nr _) _
      generalize (X91.alloc (.cells #[.bool s1, .slice A1 n1 c1, .slice B1 m1 d1, .bool s2, .slice A2 n2 c2, .slice B2 m2 d2] 35)) = X92 at *
      generalize X91.heap.size = g2 at p2 ⊢
      clear hh
      replace hb := bnx hb hd
      replace p5 := p5.below hd
      replace r1 := r1.below hd
      replace r2 := r2.below hd
      replace r3 := r3.below hd
      replace r4 := r4.below hd
      clear hd
      refine hK.out _ _ (hSall _ hb) (fun hh => ?_)
      clear hK K
      try simp only [Act.put, ptA, ptB, ptC]
      refine till_ready (rs := [6, 9]) (by kernel_rfl) (by simp) ?_
      refine List.forall_mem_cons.2 ⟨?_, List.forall_mem_cons.2 ⟨?_, fun _ h => absurd h List.not_mem_nil⟩⟩
      ·refine till_step rfl (fun K hK => ?_)
       go_simp
       have p6 := rows2_new X92 p2 p5
       have hd : Below X92.heap.size X92 (X92.alloc (.cells #[.slice (some ⟨g2, 0, none⟩) 2 2, .slice (some ⟨g5, 0, none⟩) 2 2] 26)) := (Below.refl _ _).alloc (nr _) _
       generalize (X92.alloc (.cells #[.slice (some ⟨g2, 0, none⟩) 2 2, .slice (some ⟨g5, 0, none⟩) 2 2] 26)) = X93 at *
       generalize X92.heap.size = g6 at p6 ⊢
       clear hh
       replace hb := bnx hb hd
       replace p2 := p2.below hd
       replace p5 := p5.below hd
       replace r1 := r1.below hd
       replace r2 := r2.below hd
       replace r3 := r3.below hd
       replace r4 := r4.below hd
       clear hd
       refine hK.out _ _ (hSall _ hb) (fun hh => ?_)
       clear hK K
       try simp only [Act.put, ptA, ptB, ptC]
       refine till_ready (rs := [9]) (by kernel_rfl) (by simp) ?_
       refine mem1 ?_
       refine till_step rfl (fun K hK => ?_)
       go_simp
       have p9 := row2_new X93 r1 r4
       have hd : Below X93.heap.size X93 (X93.alloc (.cells #[.bool s1, .slice A1 n1 c1, .slice B1 m1 d1, .bool s4, .slice A4 n4 c4, .slice B4 m4 d4] 35)) := (Below.refl _ _).alloc (nr _) _
       generalize (X93.alloc (.cells #[.bool s1, .slice A1 n1 c1, .slice B1 m1 d1, .bool s4, .slice A4 n4 c4, .slice B4 m4 d4] 35)) = X94 at *
       generalize X93.heap.size = g9 at p9 ⊢
       clear hh
       replace hb := bnx hb hd
       replace p2 := p2.below hd
       replace p5 := p5.below hd
       replace p6 := p6.below hd
       replace r1 := r1.below hd
       replace r2 := r2.below hd
       replace r3 := r3.below hd
       replace r4 := r4.below hd
       clear hd
       refine hK.out _ _ (hSall _ hb) (fun hh => ?_)
       clear hK K
       try simp only [Act.put, ptA, ptB, ptC]
       refine till_ready (rs := [10]) (by kernel_rfl) (by simp) ?_
       refine mem1 ?_
       refine till_step rfl (fun K hK => ?_)
       go_simp
       refine (deny_aw _ _ _ p6 p9).mono ?_
       rintro e X95 ⟨_, rfl, g, c, rfl, hd⟩
       go_wp2_with fail
       clear hh
       replace hb := bnx hb hd
       replace p2 := p2.below hd
       replace p5 := p5.below hd
       replace p6 := p6.below hd
       replace p9 := p9.below hd
       replace r1 := r1.below hd
       replace r2 := r2.below hd
       replace r3 := r3.below hd
       replace r4 := r4.below hd
       clear hd
       refine hK.out _ _ (hSall _ hb) (fun hh => ?_)
       clear hK K
       try simp only [Act.put, ptA, ptB, ptC]
       refine tt (i := 11) hh (some 27) ?_
       try simp only [Act.put, ptA, ptB, ptC]
       refine tt (i := 12) hh (some 39) ?_
       try simp only [Act.put, ptA, ptB, ptC]
       refine tt (i := 13) hh (some 40) ?_
       try simp only [Act.put, ptA, ptB, ptC]
       refine tt (i := 14) hh (some 9) ?_
       try simp only [Act.put, ptA, ptB, ptC]
       refine tt (i := 15) hh (some 10) ?_
       try simp only [Act.put, ptA, ptB, ptC]
       refine till_done (by kernel_rfl) ?_ _
       clear hh
       go_wp2
       go_meet
       exact ⟨g, c, rfl, rfl, hb⟩
      ·refine till_step rfl (fun K hK => ?_)
       go_simp
       have p9 := row2_new X92 r1 r4
       have hd : Below X92.heap.size X92 (X92.alloc (.cells #[.bool s1, .slice A1 n1 c1, .slice B1 m1 d1, .bool s4, .slice A4 n4 c4, .slice B4 m4 d4] 35)) := (Below.refl _ _).alloc (nr _) _
       generalize (X92.alloc (.cells #[.bool s1, .slice A1 n1 c1, .slice B1 m1 d1, .bool s4, .slice A4 n4 c4, .slice B4 m4 d4] 35)) = X96 at *
       generalize X92.heap.size = g9 at p9 ⊢
       clear hh
       replace hb := bnx hb hd
       replace p2 := p2.below hd
       replace p5 := p5.below hd
       replace r1 := r1.below hd
       replace r2 := r2.below hd
       replace r3 := r3.below hd
       replace r4 := r4.below hd
       clear hd
       refine hK.out _ _ (hSall _ hb) (fun hh => ?_)
       clear hK K
       try simp only [Act.put, ptA, ptB, ptC]
       refine till_ready (rs := [6]) (by kernel_rfl) (by simp) ?_
       refine mem1 ?_
       refine till_step rfl (fun K hK => ?_)
       go_simp
       have p6 := rows2_new X96 p2 p5
       have hd : Below X96.heap.size X96 (X96.alloc (.cells #[.slice (some ⟨g2, 0, none⟩) 2 2, .slice (some ⟨g5, 0, none⟩) 2 2] 26)) := (Below.refl _ _).alloc (nr _) _
       generalize (X96.alloc (.cells #[.slice (some ⟨g2, 0, none⟩) 2 2, .slice (some ⟨g5, 0, none⟩) 2 2] 26)) = X97 at *
       generalize X96.heap.size = g6 at p6 ⊢
       clear hh
       replace hb := bnx hb hd
       replace p2 := p2.below hd
       replace p5 := p5.below hd
       replace p9 := p9.below hd
       replace r1 := r1.below hd
       replace r2 := r2.below hd
       replace r3 := r3.below hd
       replace r4 := r4.below hd
       clear hd
       refine hK.out _ _ (hSall _ hb) (fun hh => ?_)
       clear hK K
       try simp only [Act.put, ptA, ptB, ptC]
       refine till_ready (rs := [10]) (by kernel_rfl) (by simp) ?_
       refine mem1 ?_
       refine till_step rfl (fun K hK => ?_)
       go_simp
       refine (deny_aw _ _ _ p6 p9).mono ?_
       rintro e X98 ⟨_, rfl, g, c, rfl, hd⟩
       go_wp2_with fail
       clear hh
       replace hb := bnx hb hd
       replace p2 := p2.below hd
       replace p5 := p5.below hd
       replace p6 := p6.below hd
       replace p9 := p9.below hd
       replace r1 := r1.below hd
       replace r2 := r2.below hd
       replace r3 := r3.below hd
       replace r4 := r4.below hd
       clear hd
       refine hK.out _ _ (hSall _ hb) (fun hh => ?_)
       clear hK K
       try simp only [Act.put, ptA, ptB, ptC]
       refine tt (i := 11) hh (some 27) ?_
       try simp only [Act.put, ptA, ptB, ptC]
       refine tt (i := 12) hh (some 39) ?_
       try simp only [Act.put, ptA, ptB, ptC]
       refine tt (i := 13) hh (some 40) ?_
       try simp only [Act.put, ptA, ptB, ptC]
       refine tt (i := 14) hh (some 9) ?_
       try simp only [Act.put, ptA, ptB, ptC]
       refine tt (i := 15) hh (some 10) ?_
       try simp only [Act.put, ptA, ptB, ptC]
       refine till_done (by kernel_rfl) ?_ _
       clear hh
       go_wp2
       go_meet
       exact ⟨g, c, rfl, rfl, hb⟩
     ·refine till_step rfl (fun K hK => ?_)
      go_simp
      have p9 := row2_new X91 r1 r4
      have hd : Below X91.heap.size X91 (X91.alloc (.cells #[.bool s1, .slice A1 n1 c1, .slice B1 m1 d1, .bool s4, .slice A4 n4 c4, .slice B4 m4 d4] 35)) := (Below.refl _ _).alloc (nr _) _
      generalize (X91.alloc (.cells #[.bool s1, .slice A1 n1 c1, .slice B1 m1 d1, .bool s4, .slice A4 n4 c4, .slice B4 m4 d4] 35)) = X99 at *
      generalize X91.heap.size = g9 at p9 ⊢
      clear hh
      replace hb := bnx hb hd
      replace p5 := p5.below hd
      replace r1 := r1.below hd
      replace r2 := r2.below hd
      replace r3 := r3.below hd
      replace r4 := r4.below hd
      clear hd
      refine hK.out _ _ (hSall _ hb) (fun hh => ?_)
      clear hK K
      try simp only [Act.put, ptA, ptB, ptC]
      refine till_ready (rs := [2]) (by kernel_rfl) (by simp) ?_
      refine mem1 ?_
      refine till_step rfl (fun K hK => ?_)
      go_simp
      have p2 := row2_new X99 r1 r2
      have hd : Below X99.heap.size X99 (X99.alloc (.cells #[.bool s1, .slice A1 n1 c1, .slice B1 m1 d1, .bool s2, .slice A2 n2 c2, .slice B2 m2 d2] 35)) := (Below.refl _ _).alloc (nr _) _
      generalize (X99.alloc (.cells #[.bool s1, .slice A1 n1 c1, .slice B1 m1 d1, .bool s2, .slice A2 n2 c2, .slice B2 m2 d2] 35)) = X100 at *
      generalize X99.heap.size = g2 at p2 ⊢
      clear hh
      replace hb := bnx hb hd
      replace p5 := p5.below hd
      replace p9 := p9.below hd
      replace r1 := r1.below hd
      replace r2 := r2.below hd
      replace r3 := r3.below hd
      replace r4 := r4.below hd
      clear hd
      refine hK.out _ _ (hSall _ hb) (fun hh => ?_)
      clear hK K
      try simp only [Act.put, ptA, ptB, ptC]
      refine till_ready (rs := [6]) (by kernel_rfl) (by simp) ?_
      refine mem1 ?_
      refine till_step rfl (fun K hK => ?_)
      go_simp
      have p6 := rows2_new X100 p2 p5
      have hd : Below X100.heap.size X100 (X100.alloc (.cells #[.slice (some ⟨g2, 0, none⟩) 2 2, .slice (some ⟨g5, 0, none⟩) 2 2] 26)) := (Below.refl _ _).alloc (nr _) _
      generalize (X100.alloc (.cells #[.slice (some ⟨g2, 0, none⟩) 2 2, .slice (some ⟨g5, 0, none⟩) 2 2] 26)) = X101 at *
      generalize X100.heap.size = g6 at p6 ⊢
      clear hh
      replace hb := bnx hb hd
      replace p2 := p2.below hd
      replace p5 := p5.below hd
      replace p9 := p9.below hd
      replace r1 := r1.below hd
      replace r2 := r2.below hd
      replace r3 := r3.below hd
      replace r4 := r4.below hd
      clear hd
      refine hK.out _ _ (hSall _ hb) (fun hh => ?_)
      clear hK K
      try simp only [Act.put, ptA, ptB, ptC]
      refine till_ready (rs := [10]) (by kernel_rfl) (by simp) ?_
      refine mem1 ?_
      refine till_step rfl (fun K hK => ?_)
      go_simp
      refine (deny_aw _ _ _ p6 p9).mono ?_
      rintro e X102 ⟨_, rfl, g, c, rfl, hd⟩
      go_wp2_with fail
      clear hh
      replace hb := bnx hb hd
      replace p2 := p2.below hd
      replace p5 := p5.below hd
      replace p6 := p6.below hd
      replace p9 := p9.below hd
      replace r1 := r1.below hd
      replace r2 := r2.below hd
      replace r3 := r3.below hd
      replace r4 := r4.below hd
      clear hd
      refine hK.out _ _ (hSall _ hb) (fun hh => ?_)
      clear hK K
      try simp only [Act.put, ptA, ptB, ptC]
      refine tt (i := 11) hh (some 27) ?_
      try simp only [Act.put, ptA, ptB, ptC]
      refine tt (i := 12) hh (some 39) ?_
      try simp only [Act.put, ptA, ptB, ptC]
      refine tt (i := 13) hh (some 40) ?_
      try simp only [Act.put, ptA, ptB, ptC]
      refine tt (i := 14) hh (some 9) ?_
      try simp only [Act.put, ptA, ptB, ptC]
      refine tt (i := 15) hh (some 10) ?_
      try simp only [Act.put, ptA, ptB, ptC]
      refine till_done (by kernel_rfl) ?_ _
      clear hh
      go_wp2
      go_meet
      exact ⟨g, c, rfl, rfl, hb⟩
    ·refine till_step rfl (fun K hK => ?_)
     go_simp
     have p9 := row2_new X78 r1 r4
     have hd : Below X78.heap.size X78 (X78.alloc (.cells #[.bool s1, .slice A1 n1 c1, .slice B1 m1 d1, .bool s4, .slice A4 n4 c4, .slice B4 m4 d4] 35)) := (Below.refl _ _).alloc (nr _) _
     generalize (X78.alloc (.cells #[.bool s1, .slice A1 n1 c1, .slice B1 m1 d1, .bool s4, .slice A4 n4 c4, .slice B4 m4 d4] 35)) = X103 at *
     generalize X78.heap.size = g9 at p9 ⊢
     clear hh
     replace hb := bnx hb hd
     replace r1 := r1.below hd
     replace r2 := r2.below hd
     replace r3 := r3.below hd
     replace r4 := r4.below hd
     clear hd
     refine hK.out _ _ (hSall _ hb) (fun hh => ?_)
     clear hK K
     try simp only [Act.put, ptA, ptB, ptC]
     refine till_ready (rs := [2, 5]) (by kernel_rfl) (by simp) ?_
     refine List.forall_mem_cons.2 ⟨?_, List.forall_mem_cons.2 ⟨?_, fun _ h => absurd h List.not_mem_nil⟩⟩
     ·refine till_step rfl (fun K hK => ?_)
      go_simp
      have p2 := row2_new X103 r1 r2
      have hd : Below X103.heap.size X103 (X103.alloc (.cells #[.bool s1, .slice A1 n1 c1, .slice B1 m1 d1, .bool s2, .slice A2 n2 c2, .slice B2 m2 d2] 35)) := (Below.refl _ _).alloc (nr _) _
      generalize (X103.alloc (.cells #[.bool s1, .slice A1 n1 c1, .slice B1 m1 d1, .bool s2, .slice A2 n2 c2, .slice B2 m2 d2] 35)) = X104 at *
      generalize X103.heap.size = g2 at p2 ⊢
      clear hh
      replace hb := bnx hb hd
      replace p9 := p9.below hd
      replace r1 := r1.below hd
      replace r2 := r2.below hd
      replace r3 := r3.below hd
      replace r4 := r4.below hd
      clear hd
      refine hK.out _ _ (hSall _ hb) (fun hh => ?_)
      clear hK K
      try simp only [Act.put, ptA, ptB, ptC]
      refine till_ready (rs := [5]) (by kernel_rfl) (by simp) ?_
      refine mem1 ?_
      refine till_step rfl (fun K hK => ?_)
      go_simp
      have p5 := row2_new X104 r2 r3
      have hd : Below X104.heap.size X104 (X104.alloc (.cells #[.bool s2, .slice A2 n2 c2, .slice B2 m2 d2, .bool s3, .slice A3 n3 c3, .slice B3 m3 d3] 35)) := (Below.refl _ _).alloc (nr _) _
      generalize (X104.alloc (.cells #[.bool s2, .slice A2 n2 c2, .slice B2 m2 d2, .bool s3, .slice A3 n3 c3, .slice B3 m3 d3] 35)) = X105 at *
      generalize X104.heap.size = g5 at p5 ⊢
      clear hh
      replace hb := bnx hb hd
      replace p2 := p2.below hd
      replace p9 := p9.below hd
      replace r1 := r1.below hd
      replace r2 := r2.below hd
      replace r3 := r3.below hd
      replace r4 := r4.below hd
      clear hd
      refine hK.out _ _ (hSall _ hb) (fun hh => ?_)
      clear hK K
      try simp only [Act.put, ptA, ptB, ptC]
      refine till_ready (rs := [6]) (by kernel_rfl) (by simp) ?_
      refine mem1 ?_
      refine till_step rfl (fun K hK => ?_)
      go_simp
      have p6 := rows2_new X105 p2 p5
      have hd : Below X105.heap.size X105 (X105.alloc (.cells #[.slice (some ⟨g2, 0, none⟩) 2 2, .slice (some ⟨g5, 0, none⟩) 2 2] 26)) := (Below.refl _ _).alloc (nr _) _
      generalize (X105.alloc (.cells #[.slice (some ⟨g2, 0, none⟩) 2 2, .slice (some ⟨g5, 0, none⟩) 2 2] 26)) = X106 at *
      generalize X105.heap.size = g6 at p6 ⊢
      clear hh
      replace hb := bnx hb hd
      replace p2 := p2.below hd
      replace p5 := p5.below hd
      replace p9 := p9.below hd
      replace r1 := r1.below hd
      replace r2 := r2.below hd
      replace r3 := r3.below hd
      replace r4 := r4.below hd
      clear hd
      refine hK.out _ _ (hSall _ hb) (fun hh => ?_)
      clear hK K
      try simp only [Act.put, ptA, ptB, ptC]
      refine till_ready (rs := [10]) (by kernel_rfl) (by simp) ?_
      refine mem1 ?_
      refine till_step rfl (fun K hK => ?_)
      go_simp
      refine (deny_aw _ _ _ p6 p9).mono ?_
      rintro e X107 ⟨_, rfl, g, c, rfl, hd⟩
      go_wp2_with fail
      clear hh
      replace hb := bnx hb hd
      replace p2 := p2.below hd
      replace p5 := p5.below hd
      replace p6 := p6.below hd
      replace p9 := p9.below hd
      replace r1 := r1.below hd
      replace r2 := r2.below hd
      replace r3 := r3.below hd
      replace r4 := r4.below hd
      clear hd
      refine hK.out _ _ (hSall _ hb) (fun hh => ?_)
      clear hK K
      try simp only [Act.put, ptA, ptB, ptC]
      refine tt (i := 11) hh (some 27) ?_
      try simp only [Act.put, ptA, ptB, ptC]
      refine tt (i := 12) hh (some 39) ?_
      try simp only [Act.put, ptA, ptB, ptC]
      refine tt (i := 13) hh (some 40) ?_
      try simp only [Act.put, ptA, ptB, ptC]
      refine tt (i := 14) hh (some 9) ?_
      try simp only [Act.put, ptA, ptB, ptC]
      refine tt (i := 15) hh (some 10) ?_
      try simp only [Act.put, ptA, ptB, ptC]
      refine till_done (by kernel_rfl) ?_ _
      clear hh
      go_wp2
      go_meet
      exact ⟨g, c, rfl, rfl, hb⟩
     ·refine till_step rfl (fun K hK => ?_)
      go_simp
      have p5 := row2_new X103 r2 r3
      have hd : Below X103.heap.size X103 (X103.alloc (.cells #[.bool s2, .slice A2 n2 c2, .slice B2 m2 d2, .bool s3, .slice A3 n3 c3, .slice B3 m3 d3] 35)) := (Below.refl _ _).alloc (nr _) _
      generalize (X103.alloc (.cells #[.bool s2, .slice A2 n2 c2, .slice B2 m2 d2, .bool s3, .slice A3 n3 c3, .slice B3 m3 d3] 35)) = X108 at *
      generalize X103.heap.size = g5 at p5 ⊢
      clear hh
      replace hb := bnx hb hd
      replace p9 := p9.below hd
      replace r1 := r1.below hd
      replace r2 := r2.below hd
      replace r3 := r3.below hd
      replace r4 := r4.below hd
      clear hd
      refine hK.out _ _ (hSall _ hb) (fun hh => ?_)
      clear hK K
      try simp only [Act.put, ptA, ptB, ptC]
      refine till_ready (rs := [2]) (by kernel_rfl) (by simp) ?_
      refine mem1 ?_
      refine till_step rfl (fun K hK => ?_)
      go_simp
      have p2 := row2_new X108 r1 r2
      have hd : Below X108.heap.size X108 (X108.alloc (.cells #[.bool s1, .slice A1 n1 c1, .slice B1 m1 d1, .bool s2, .slice A2 n2 c2, .slice B2 m2 d2] 35)) := (Below.refl _ _).alloc (nr _) _
      generalize (X108.alloc (.cells #[.bool s1, .slice A1 n1 c1, .slice B1 m1 d1, .bool s2, .slice A2 n2 c2, .slice B2 m2 d2] 35)) = X109 at *
      generalize X108.heap.size = g2 at p2 ⊢
      clear hh
      replace hb := bnx hb hd
      replace p5 := p5.below hd
      replace p9 := p9.below hd
      replace r1 := r1.below hd
      replace r2 := r2.below hd
      replace r3 := r3.below hd
      replace r4 := r4.below hd
      clear hd
      refine hK.out _ _ (hSall _ hb) (fun hh => ?_)
      clear hK K
      try simp only [Act.put, ptA, ptB, ptC]
      refine till_ready (rs := [6]) (by kernel_rfl) (by simp) ?_
      refine mem1 ?_
      refine till_step rfl (fun K hK => ?_)
      go_simp
      have p6 := rows2_new X109 p2 p5
      have hd : Below X109.heap.size X109 (X109.alloc (.cells #[.slice (some ⟨g2, 0, none⟩) 2 2, .slice (some ⟨g5, 0, none⟩) 2 2] 26)) := (Below.refl _ _).alloc (nr _) _
      generalize (X109.alloc (.cells #[.slice (some ⟨g2, 0, none⟩) 2 2, .slice (some ⟨g5, 0, none⟩) 2 2] 26)) = X110 at *
      generalize X109.heap.size = g6 at p6 ⊢
      clear hh
      replace hb := bnx hb hd
      replace p2 := p2.below hd
      replace p5 := p5.below hd
      replace p9 := p9.below hd
      replace r1 := r1.below hd
      replace r2 := r2.below hd
      replace r3 := r3.below hd
      replace r4 := r4.below hd
      clear hd
      refine hK.out _ _ (hSall _ hb) (fun hh => ?_)
      clear hK K
      try simp only [Act.put, ptA, ptB, ptC]
      refine till_ready (rs := [10]) (by kernel_rfl) (by simp) ?_
      refine mem1 ?_
      refine till_step rfl (fun K hK => ?_)
      go_simp
      refine (deny_aw _ _ _ p6 p9).mono ?_
      rintro e X111 ⟨_, rfl, g, c, rfl, hd⟩
      go_wp2_with fail
      clear hh
      replace hb := bnx hb hd
      replace p2 := p2.below hd
      replace p5 := p5.below hd
      replace p6 := p6.below hd
      replace p9 := p9.below hd
      replace r1 := r1.below hd
      replace r2 := r2.below hd
      replace r3 := r3.below hd
      replace r4 := r4.below hd
      clear hd
      refine hK.out _ _ (hSall _ hb) (fun hh => ?_)
      clear hK K
      try simp only [Act.put, ptA, ptB, ptC]
      refine tt (i := 11) hh (some 27) ?_
      try simp only [Act.put, ptA, ptB, ptC]
      refine tt (i := 12) hh (some 39) ?_
      try simp only [Act.put, ptA, ptB, ptC]
      refine tt (i := 13) hh (some 40) ?_
      try simp only [Act.put, ptA, ptB, ptC]
      refine tt (i := 14) hh (some 9) ?_
      try simp only [Act.put, ptA, ptB, ptC]
      refine tt (i := 15) hh (some 10) ?_
      try simp only [Act.put, ptA, ptB, ptC]
      refine till_done (by kernel_rfl) ?_ _
      clear hh
      go_wp2
      go_meet
      exact ⟨g, c, rfl, rfl, hb⟩
 case rest =>
  obtain ⟨g, c, rfl, rfl, hb⟩ := hcut
  replace q3 := q3.below hb
  replace z0 := (hb.cell (lt_of_cell z0)).trans z0
  replace z1 := (hb.cell (lt_of_cell z1)).trans z1
  replace z2 := (hb.cell (lt_of_cell z2)).trans z2
  have hbc := bnx hbW hb
  have Q3 := hide (ai q3 hbc)
  clear k0 k1 k2 m0 m1' m2' r1 r2 hb hbW HS q3 hbc
  go_wp2_with fail
  refine (string_c _ _ _ 6 Q3.out.1 (by omega)).mono ?_
  rintro e w6 ⟨_, rfl, rfl, hd⟩
  rw [show str (ratText (Rat.divInt 1 3 + Rat.divInt 1 6)) = ByteArray.mk #[49, 47, 50] from by rw [awText]; decide +kernel]
  have hbf := hide (bnx Q3.out.2 hd)
  clear hd z0 z1 z2
  go_wp2
  go_ret
  exact ⟨_, rfl, rfl, hbf.out⟩
end Go.Proofs.YthnnbpnocefmgaaGreat
