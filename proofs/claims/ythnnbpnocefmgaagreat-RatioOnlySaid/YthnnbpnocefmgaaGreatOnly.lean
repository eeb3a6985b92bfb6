/- The law of systems with just one solution. -/
import Derived.Test.YthnnbpnocefmgaaGreatSolveP
import Derived.Test.YthnnbpnocefmgaaGreatSysL
import Derived.Test.YthnnbpnocefmgaaGreatApp
import Derived.Test.YthnnbpnocefmgaaGreatAwake
namespace Go.Proofs.YthnnbpnocefmgaaGreat
set_option linter.unusedVariables false
set_option linter.unusedSimpArgs false
open Go.RowKit
theorem done_small {w' : World} {q : Rat} {L : Nat} {v : Value} (h : (SmallQ q ∧ ∃ r, v = .tuple #[r, .int .i64 0] ∧ RatV w' r q L) ∨ (¬ SmallQ q ∧ ∃ r, v = .tuple #[r, .int .i64 11] ∧ RatV w' r 0 L)) (hs : SmallQ q) : ∃ r, v = .tuple #[r, .int .i64 0] ∧ RatV w' r q L := by
  rcases h with ⟨_, h⟩ | ⟨h, _⟩
  · exact h
  · exact absurd hs h
theorem Sys.solX_fit5 {wd : Nat} {rows : List (List Rat)} {bs : List Rat} (h : Sys wd rows bs) (hw : wd ≤ 5) (h1 : oneS rows) (i : Nat) : FitQ 320 ((solX rows bs).getD i 0) := by
  by_cases hi : i < (solX rows bs).length
  · have h0 : 0 < rows.length := by
      refine Classical.byContradiction fun hn => ?_
      rw [solX_length, List.eq_nil_of_length_eq_zero (show rows.length = 0 by omega)] at hi
      simp at hi
    rw [solX_length, h.row 0 h0] at hi
    rw [h.solX_get h0 h1 i hi]
    have hl : (echN wd (rows, idRows rows.length)).1.1.length = rows.length := echN_length _ _
    have ho := echN_out wd (rows, idRows rows.length)
    have h2 : (echN wd (rows, idRows rows.length)).2.length = wd := by
      have := h1; unfold oneS at this; rw [h.solS_eq h0, h.row 0 h0] at this; exact this
    have hb := (sb_ech bs (rect_id h.row) h.sb wd).more (Nat.le_trans (bitsN_mono 319 hw) (show bitsN 319 5 ≤ 10239 by decide))
    have := (hb i (by rw [hl]; have : ((rows, idRows rows.length) : St).1.length = rows.length := rfl
                      omega)).fit (L := 320) (by omega) 2
    rwa [ex_dot] at this
  · rw [getD_end (by omega)]; exact fit_zero _
/-- the products with the solution -/
def solP (rows : List (List Rat)) (bs : List Rat) (i j : Nat) : Rat := ent rows i j * (solX rows bs).getD j 0
theorem Sys.prod_fit {wd : Nat} {rows : List (List Rat)} {bs : List Rat} (h : Sys wd rows bs) (hw : wd ≤ 5) (h1 : oneS rows) (i j : Nat) : FitQ 322 (solP rows bs i j) := ((h.small i j).fit2.mulA (h.solX_fit5 hw h1 j)).more (by omega)
theorem Sys.sum_fit {wd : Nat} {rows : List (List Rat)} {bs : List Rat} (h : Sys wd rows bs) (hw : wd ≤ 5) (h1 : oneS rows) (i k : Nat) (hk : k ≤ 5) : FitQ 1615 (sumN (solP rows bs i) k) :=
  (sumN_fit (fun j => h.prod_fit hw h1 i j) k).more (by have := Nat.mul_le_mul_right (322 + 1) hk; omega)
theorem Sys.sum_sol {wd : Nat} {rows : List (List Rat)} {bs : List Rat} (h : Sys wd rows bs) (h1 : oneS rows) (hno : ¬ Go.Proofs.YthnnbpnocefmgaaGreat.denied rows bs) (i : Nat) (hi : i < rows.length) : sumN (solP rows bs i) (rows.getD 0 []).length = bs.getD i 0 := by
  have h0 : 0 < rows.length := by omega
  have h2 : (echN wd (rows, idRows rows.length)).2.length = wd := by
    have := h1; unfold oneS at this; rw [h.solS_eq h0, h.row 0 h0] at this; exact this
  have hrk := rect_echN wd (rect_id h.row)
  have hl : (echN wd (rows, idRows rows.length)).1.1.length = rows.length := echN_length _ _
  have hl2 : (echN wd (rows, idRows rows.length)).1.2.length = rows.length := by rw [hrk.len, hl]
  rw [h.row 0 h0]
  refine sol_solves h.row (fun j => (solX rows bs).getD j 0) h2 (fun j hj => h.solX_get h0 h1 j hj) (fun j hj1 hj2 => ?_) i hi
  unfold Go.Proofs.YthnnbpnocefmgaaGreat.denied at hno
  rw [h.solS_eq h0] at hno
  obtain ⟨a, b, c⟩ := denyK_spec (echN wd (rows, idRows rows.length)).1.2 bs rows.length (echN wd (rows, idRows rows.length)).2.length
  exact b j (by omega) (by omega)
set_option maxRecDepth 100000 in
set_option maxHeartbeats 8000000 in
theorem only_law (w : World) (vl vb : Value) (ls : List (List ByteArray)) (bs0 : List ByteArray) {T : TypeId} (hl : LstV T 1 StrsE w vl ls) (hb : StrsE w vb bs0) :
    Calls Tryz.prog 8 #[vl, vb] w (Ret (fun v w' => v = .bool true ∧ Below w.heap.size w w')) := by
  go_enter Tryz.func8, Tryz.ntmps8
  go_wp2_with fail
  refine (tame_c w vl vb ls bs0 5 5 hl hb (by omega) (by omega)).mono ?_
  rintro e w1 ⟨_, rfl, va, vm, vv, vc, rows, bs, wd, rfl, f1, f2, f3, f4, f5, f6, ha, hm, hv, hc, hd1⟩
  have hS : Sys wd rows bs := ⟨by omega, by omega, f3, f4, f5, f6⟩
  obtain ⟨Aa, ca, rfl, ha1, ha2, _⟩ := id ha
  obtain ⟨Am, cm, rfl, hm1, hm2, _⟩ := id hm
  obtain ⟨Av, cv, rfl, hv1, hv2, _⟩ := id hv
  obtain ⟨Ac, cc, rfl, _⟩ := id hc
  unfold maxLen at ha2 hm2 hv2
  have HS := hide (And.intro hS (And.intro ha (And.intro hm (And.intro hv (And.intro hd1 f2)))))
  clear hl hb f2 f3 f5 f6 ha hm hv hc hd1 hS
  obtain ⟨N, hN⟩ : ∃ N, N = rows.length := ⟨_, rfl⟩
  rw [f4] at hv1 ⊢
  rw [← hN] at f1 ha1 hm1 hv1 ⊢
  have HN := hide (And.intro hN f4)
  clear hN f4
  go_wp2_with fail
  refine (solve_s _ _ _ rows bs wd ?_ ?_ HS.out.1).mono ?_
  · have := RatE.rows (RowsE.more (L' := 4000) HS.out.2.1 (by omega)); rwa [← HN.out.1] at this
  · have := LstV.rowV (RowE.more (L' := 4000) HS.out.2.2.2.1 (by omega)); rwa [HN.out.2, ← HN.out.1] at this
  rintro e w2 ⟨v2, rfl, hd2, hcase⟩
  have H2 := hide hd2
  clear hd2
  have hrk := HS.out.1.rank_le
  have hwl := HS.out.1.wd_le
  rcases hcase with ⟨hden, rfl⟩ | ⟨hno, hmany, rfl⟩ | ⟨hno, hone, u, rfl, hu⟩
  · clear hden
    go_wp2_with fail
    refine (rank_s _ _ rows bs wd ?_ HS.out.1).mono ?_
    · have := RatE.rows (RowsE.more (L' := 4000) (LstV.below (stB_row 23) HS.out.2.1 H2.out) (by omega)); rwa [← HN.out.1] at this
    rintro e w3 ⟨_, rfl, rfl, hd3⟩
    have H3 := hide (below_next H2.out hd3)
    clear hd3
    obtain ⟨rk, hrk2⟩ : ∃ rk, rk = (solS rows).2.length := ⟨_, rfl⟩
    rw [← hrk2]
    clear hrk2 hrk
    go_wp2_with fail
    refine (awake_c _).mono ?_
    rintro e w8 ⟨_, rfl, rfl, hd8⟩
    have H8 := hide (HS.out.2.2.2.2.1.trans ((below_next H3.out hd8).mono HS.out.2.2.2.2.1.size))
    clear hd8
    go_wp2
    refine bodyPost_ret (v := .bool true) ?_ rfl ?_
    · simp [results, Tryz.results8, go_sem]
    exact ⟨_, rfl, rfl, H8.out⟩
  · clear hno
    go_wp2_with fail
    refine (rank_s _ _ rows bs wd ?_ HS.out.1).mono ?_
    · have := RatE.rows (RowsE.more (L' := 4000) (LstV.below (stB_row 23) HS.out.2.1 H2.out) (by omega)); rwa [← HN.out.1] at this
    rintro e w3 ⟨_, rfl, rfl, hd3⟩
    have H3 := hide (below_next H2.out hd3)
    clear hd3
    obtain ⟨rk, hrk2⟩ : ∃ rk, rk = (solS rows).2.length := ⟨_, rfl⟩
    obtain ⟨wd', hwd'⟩ : ∃ w, w = (rows.getD 0 []).length := ⟨_, rfl⟩
    unfold oneS at hmany
    rw [← hrk2, ← hwd'] at hmany
    rw [← hrk2] at hrk ⊢
    have HW := hide hwd'
    have b1 : ((rk : Int) == (wd' : Int)) = false := by rw [beq_eq_false_iff_ne]; omega
    have b2 : (rk == wd') = false := by rw [beq_eq_false_iff_ne]; omega
    clear hrk2 hrk hmany hwd'
    go_wp2_with fail
    refine (columns_c _ _ rows 23 (by have := LstV.below (stB_qrow 23) HS.out.2.2.1 H3.out; rwa [← HN.out.1] at this)).mono ?_
    rintro e w4 ⟨_, rfl, rfl, rfl⟩
    rw [← HW.out]
    go_wp2
    go_loopw [13] (fun s13 wr => s13 = .int .i64 0 ∧ Below w3.heap.size w3 wr) (fun _ _ => 0)
    case atStart => exact ⟨rfl, Below.refl _ _⟩
    case round =>
      obtain ⟨rfl, hbi⟩ := hrel
      have HBI := hide hbi
      clear hbi
      have dd : decide (0 < N) = true ∨ decide (0 < N) = false := by cases h : decide (0 < N) <;> simp
      rcases dd with dd | dd
      all_goals
        go_wp2_with fail
        refine (awake_c _).mono ?_
        rintro e w8 ⟨_, rfl, rfl, hd8⟩
        have H8 := hide (HS.out.2.2.2.2.1.trans ((below_next H3.out (below_next HBI.out hd8)).mono HS.out.2.2.2.2.1.size))
        clear hd8
        go_wp2
        refine bodyPost_ret (v := .bool true) ?_ rfl ?_
        · simp [results, Tryz.results8, go_sem]
        exact ⟨_, rfl, rfl, H8.out⟩
  · have hone' := hone
    unfold oneS at hone'
    obtain ⟨Au, cu, rfl, hu1, hu2, -⟩ := id hu
    unfold maxLen at hu2
    rw [solX_length] at hu1 ⊢
    obtain ⟨wd', hwd'⟩ : ∃ w, w = (rows.getD 0 []).length := ⟨_, rfl⟩
    rw [← hwd'] at hu1 hwl hone' ⊢
    have HU := hide (And.intro hno (And.intro hone hu))
    have HW := hide hwd'
    have HON := hide hone'
    clear hno hone hu hwd' hone' hrk
    go_wp2_with fail
    refine (rank_s _ _ rows bs wd ?_ HS.out.1).mono ?_
    · have := RatE.rows (RowsE.more (L' := 4000) (LstV.below (stB_row 23) HS.out.2.1 H2.out) (by omega)); rwa [← HN.out.1] at this
    rintro e w3 ⟨_, rfl, rfl, hd3⟩
    rw [HON.out]
    have H3 := hide (And.intro (below_next H2.out hd3) hd3)
    clear hd3
    go_wp2_with fail
    refine (columns_c _ _ rows 23 (by have := LstV.below (stB_qrow 23) HS.out.2.2.1 H3.out.1; rwa [← HN.out.1] at this)).mono ?_
    rintro e w4 ⟨_, rfl, rfl, rfl⟩
    rw [← HW.out]
    go_wp2
    go_loopw [13] (fun s13 wr => ∃ i : Nat, i ≤ N ∧ s13 = .int .i64 i ∧ Below w3.heap.size w3 wr) (fun s13 _ => N - (intOf s13).toNat)
    case atStart => exact ⟨0, Nat.zero_le _, rfl, Below.refl _ _⟩
    case round =>
      obtain ⟨i, hi, rfl, hbel⟩ := hrel
      obtain ⟨wo, rfl⟩ : ∃ wo : World, wo = wr := ⟨_, rfl⟩
      have HO := hide (And.intro hbel (And.intro (below_next H3.out.1 hbel) (below_next H3.out.2 hbel)))
      clear hbel
      by_cases hil : i < N
      · have hil2 : decide (i < N) = true := decide_eq_true hil
        obtain ⟨W1, hW1⟩ : ∃ W1, W1 = wo.alloc (.cells #[.bool false, .slice none 0 0, .slice none 0 0] 35) := ⟨_, rfl⟩
        have hz1 : RowC W1 wo.heap.size [sumN (solP rows bs i) 0] 4000 := by rw [hW1]; exact row_zero wo 4000
        have hb1 : Below wo.heap.size wo W1 := by rw [hW1]; exact (Below.refl _ _).alloc (Nat.le_refl _) _
        have HZ := hide (And.intro hz1 (And.intro hb1 hW1))
        clear hz1 hb1 hW1
        go_wp2
        rw [← HZ.out.2.2]
        go_loopw [15] (fun s15 wr => ∃ k : Nat, k ≤ wd' ∧ s15 = .int .i64 k ∧ RowC wr wo.heap.size [sumN (solP rows bs i) k] 4000 ∧ Below wo.heap.size wo wr) (fun s15 _ => wd' - (intOf s15).toNat)
        case atStart => exact ⟨0, Nat.zero_le _, rfl, HZ.out.1, HZ.out.2.1⟩
        case round =>
          obtain ⟨k, hk, rfl, hacc, hbi⟩ := hrel
          have HI := hide (And.intro hacc hbi)
          by_cases hkl : k < wd'
          · have d5 : decide (k < wd') = true := decide_eq_true hkl
            obtain ⟨-, -, -, hatA⟩ := (RatE.rows (RowsE.more (L' := 4000) (LstV.below (stB_row 23) HS.out.2.1 (below_next HO.out.2.1 hbi)) (by omega))).at_
            obtain ⟨gA, oA, eA, hatA2⟩ := hatA (by rw [← HN.out.1]; omega)
            obtain rfl := eA
            obtain ⟨u, hcu, hru⟩ := hatA2 i (by rw [← HN.out.1]; exact hil)
            obtain ⟨Ar, nr, cr, rfl⟩ : ∃ A n c, u = .slice A n c := by obtain ⟨A, c, e, _⟩ := id hru; exact ⟨_, _, _, e⟩
            obtain ⟨enr, -, -, hatU⟩ := hru.at_
            have hlu : (rows.getD i []).length = wd' := by rw [HW.out]; exact HS.out.1.wd_eq i (by rw [← HN.out.1]; exact hil)
            rw [hlu] at enr hatU
            subst enr
            obtain ⟨gU, oU, eU, hatU2⟩ := hatU (by omega)
            obtain rfl := eU
            obtain ⟨s, B1, m1, d1, B2, m2, d2, e0, e1, e2, hr⟩ := (hatU2 k hkl).rat
            obtain ⟨-, -, -, hatW⟩ := (HU.out.2.2.below (below_next HO.out.2.2 hbi)).at_
            obtain ⟨gW, oW, eW, hatW2⟩ := hatW (by rw [solX_length, ← HW.out]; omega)
            obtain rfl := eW
            obtain ⟨s3, B3, m3, d3, B4, m4, d4, e3, e4, e5, hr2⟩ := (hatW2 k (by rw [solX_length, ← HW.out]; exact hkl)).rat
            have HH := hide (And.intro hr hr2)
            clear hr hr2 hatA hatA2 hatU hatU2 hatW hatW2 hru hlu hacc hbi
            have hpf := HS.out.1.prod_fit HS.out.2.2.2.2.2 HU.out.2.1 i k
            have HPF := hide hpf
            clear hpf
            go_upto_region 17 with fail
            go_cut [16, 17] (fun s16 s17 wx => ∃ (G : Nat) (s8 : Bool) (A8 : Option Addr) (n8 c8 : Nat) (A9 : Option Addr) (n9 c9 : Nat), s16 = .pointer (some ⟨G, 0, none⟩) ∧ s17 = .int .i64 0 ∧ wx.heap[G]? = some (.cells #[.bool s8, .slice A8 n8 c8, .slice A9 n9 c9] 35 (0, 0)) ∧ RatV wx (.agg #[.bool s8, .slice A8 n8 c8, .slice A9 n9 c9]) (solP rows bs i k) 4000 ∧ Below wr.heap.size wr wx)
            case first =>
              have hba : Below wr.heap.size wr wr.drew := (Below.refl _ _).drew
              have hbb : Below wr.heap.size wr (wr.alloc (.cells #[.bool false, .slice none 0 0, .slice none 0 0] 35)).drew := (below_al (Below.refl _ _) _).drew
              have l0 := lt_of_cell hcu
              have l1 := lt_of_cell e0
              have l2 := lt_of_cell e3
              simp only at l0 l1 l2
              have u0 := (hba.cell (p := ⟨gA, oA + i, none⟩) (by exact l0)).trans hcu
              have p0 := (hba.cell (p := ⟨gU, oU + k * 3, none⟩) (by exact l1)).trans e0
              have p1 := (hba.cell (p := ⟨gU, oU + k * 3 + 1, none⟩) (by exact l1)).trans e1
              have p2 := (hba.cell (p := ⟨gU, oU + k * 3 + 2, none⟩) (by exact l1)).trans e2
              have y0 := (hba.cell (p := ⟨gW, oW + k * 3, none⟩) (by exact l2)).trans e3
              have y1 := (hba.cell (p := ⟨gW, oW + k * 3 + 1, none⟩) (by exact l2)).trans e4
              have y2 := (hba.cell (p := ⟨gW, oW + k * 3 + 2, none⟩) (by exact l2)).trans e5
              have v0 := (hbb.cell (p := ⟨gA, oA + i, none⟩) (by exact l0)).trans hcu
              have r0 := (hbb.cell (p := ⟨gU, oU + k * 3, none⟩) (by exact l1)).trans e0
              have r1 := (hbb.cell (p := ⟨gU, oU + k * 3 + 1, none⟩) (by exact l1)).trans e1
              have r2 := (hbb.cell (p := ⟨gU, oU + k * 3 + 2, none⟩) (by exact l1)).trans e2
              have z0 := (hbb.cell (p := ⟨gW, oW + k * 3, none⟩) (by exact l2)).trans e3
              have z1 := (hbb.cell (p := ⟨gW, oW + k * 3 + 1, none⟩) (by exact l2)).trans e4
              have z2 := (hbb.cell (p := ⟨gW, oW + k * 3 + 2, none⟩) (by exact l2)).trans e5
              clear e0 e1 e2 e3 e4 e5 hcu
              have hbx := below_start wr (.cells #[.bool false, .slice none 0 0, .slice none 0 0] 35)
              obtain ⟨k0, k1, k2, g0, g1, g2, _⟩ := box3 hbx.drew
              go_region_law (first
                | (go_simp; go_at_call 20; refine (mul_q _ _ _ ((rows.getD i []).getD k 0) ((solX rows bs).getD k 0) 4000 (HH.out.1.below (by first | exact hba | exact hbb)) (HH.out.2.below (by first | exact hba | exact hbb)) (by omega)).mono ?_; rintro e w8 ⟨_, rfl, hd8, hcase⟩;
                    obtain ⟨r, rfl, hr8⟩ := done_small hcase (HPF.out.smallQ (by omega));
                    replace hr8 := (hr8.fit HPF.out).more (L' := 4000) (by omega);
                    obtain ⟨s8, A8, n8, c8, A9, n9, c9, rfl⟩ := hr8.shape;
                    have hb8 : Below wr.heap.size wr w8 := below_next (by first | exact hba | exact hbb) hd8;
                    (try (have k0 := (hd8.cell (p := ⟨wr.heap.size, 0, none⟩) (by simp)).trans k0; have k1 := (hd8.cell (p := ⟨wr.heap.size, 1, none⟩) (by simp)).trans k1; have k2 := (hd8.cell (p := ⟨wr.heap.size, 2, none⟩) (by simp)).trans k2; have g0 := (hd8.frozen (p := ⟨wr.heap.size, 0, none⟩) (by simp)).trans g0; have g1 := (hd8.frozen (p := ⟨wr.heap.size, 1, none⟩) (by simp)).trans g1; have g2 := (hd8.frozen (p := ⟨wr.heap.size, 2, none⟩) (by simp)).trans g2));
                    (try have hG := at_later (w := (wr.alloc (.cells #[.bool false, .slice none 0 0, .slice none 0 0] 35)).drew) (at_new wr (.cells #[.bool false, .slice none 0 0, .slice none 0 0] 35)) hd8);
                    have H8 := hide (And.intro hr8 hb8);
                    clear hr8 hb8))
              all_goals
                go_wp2
                go_meet
                first
                  | exact ⟨w8.heap.size, _, _, _, _, _, _, _, rfl, rfl, at_new _ _, H8.out.1.below (below_al (Below.refl _ _) _), below_al H8.out.2 _⟩
                  | exact ⟨wr.heap.size, s8, A8, n8, c8, A9, n9, c9, rfl, rfl, by simp [World.setCell, Array.getElem?_modify, hG], H8.out.1.put3 hG, below_set3 H8.out.2 (Nat.le_refl _) _ _ _⟩
            case rest =>
              obtain ⟨G, s8, A8, n8, c8, A9, n9, c9, rfl, rfl, hG, hr8, hb8⟩ := hcut
              obtain ⟨k0, k1, k2⟩ := three_cells hG
              have hrow8 := HI.out.1.below hb8
              obtain ⟨s5, B5, m5, d5, B6, m6, d6, q0, q1, q2, hr5⟩ := (hrow8.2 0 (by simp)).rat
              simp only [Nat.zero_mul, Nat.zero_add] at q0 q1 q2
              have hsf := HS.out.1.sum_fit HS.out.2.2.2.2.2 HU.out.2.1 i (k + 1) (by have := HS.out.2.2.2.2.2; have := HS.out.1.wd_eq i (by rw [← HN.out.1]; exact hil); have := HS.out.1.row i (by rw [← HN.out.1]; exact hil); have := HW.out; omega)
              have HG := hide (And.intro hr8 (And.intro hr5 (And.intro hb8 (And.intro hrow8 hsf))))
              clear hr8 hb8 hG hrow8 hr5 hsf e0 e1 e2 e3 e4 e5 hcu
              go_wp2_with fail
              refine (add_q _ _ _ (sumN (solP rows bs i) k) (solP rows bs i k) 4000 HG.out.2.1 HG.out.1 (by omega)).mono ?_
              rintro e w9 ⟨_, rfl, hd9, hcase⟩
              obtain ⟨r, rfl, hr9⟩ := done_small hcase (HG.out.2.2.2.2.smallQ (by omega))
              replace hr9 := (hr9.fit HG.out.2.2.2.2).more (L' := 4000) (by omega)
              rw [show sumN (solP rows bs i) k + solP rows bs i k = sumN (solP rows bs i) (k + 1) from rfl] at hr9
              obtain ⟨s9, A10, n10, c10, A11, n11, c11, rfl⟩ := hr9.shape
              have hda : Below w9.heap.size w9 (w9.alloc (.cells #[.bool s9, .slice A10 n10 c10, .slice A11 n11 c11] 35)) := below_al (Below.refl _ _) _
              have hrow9 := (HG.out.2.2.2.1.below hd9).below hda
              have hb9 := below_next HI.out.2 (below_next HG.out.2.2.1 (below_next hd9 hda))
              obtain ⟨_, _, _, _, _, _, _, q0', q1', q2', _⟩ := (hrow9.2 0 (by simp)).rat
              simp only [Nat.zero_mul, Nat.zero_add] at q0' q1' q2'
              have f0 := hrow9.frozen 0
              have f1 := hrow9.frozen 1
              have f2 := hrow9.frozen 2
              have H9 := hide (And.intro (hr9.below hda) (And.intro hrow9 hb9))
              clear hr9 hd9 hda hrow9 hb9 q0 q1 q2 k0 k1 k2 hcase
              go_wp2
              case roundEnd =>
                obtain ⟨hr9, hrow9, hb9⟩ := H9.out
                obtain ⟨t1, t2, t3⟩ := hrow9.set3 (i := 0) (by simp) hr9
                simp only [Nat.zero_mul, Nat.zero_add] at t1 t2 t3
                exact ⟨⟨k + 1, by omega, by go_num, t1, only_below hb9 t3 hb9.size (Nat.le_refl _)⟩, by simp [intOf]; omega⟩
          · obtain ⟨-, -, -, hatV⟩ := (LstV.rowV (RowE.more (L' := 4000) (LstV.below (stB_rat 23) HS.out.2.2.2.1 (below_next HO.out.2.1 hbi)) (by omega))).at_
            rw [HN.out.2, ← HN.out.1] at hatV
            obtain ⟨gV, oV, eV, hatV2⟩ := hatV (by omega)
            obtain rfl := eV
            obtain ⟨s3, B3, m3, d3, B4, m4, d4, e3, e4, e5, hr2⟩ := (hatV2 i hil).rat
            obtain ⟨s5, B5, m5, d5, B6, m6, d6, q0, q1, q2, hr5⟩ := (hacc.2 0 (by simp)).rat
            simp only [Nat.zero_mul, Nat.zero_add] at q0 q1 q2
            have d9 : decide (k < wd') = false := decide_eq_false hkl
            have hsum : sumN (solP rows bs i) k = bs.getD i 0 := by
              rw [show k = (rows.getD 0 []).length by rw [← HW.out]; omega]
              exact HS.out.1.sum_sol HU.out.2.1 HU.out.1 i (by rw [← HN.out.1]; exact hil)
            have HH := hide (And.intro hr2 (And.intro hr5 hsum))
            clear hatV hatV2 hr2 hr5 hacc hbi hsum hkl
            go_wp2_with fail
            have hba : Below wr.heap.size wr wr.drew := (Below.refl _ _).drew
            have l1 := lt_of_cell q0
            have l2 := lt_of_cell e3
            simp only at l1 l2
            have p0 := (hba.cell (p := ⟨wo.heap.size, 0, none⟩) (by exact l1)).trans q0
            have p1 := (hba.cell (p := ⟨wo.heap.size, 1, none⟩) (by exact l1)).trans q1
            have p2 := (hba.cell (p := ⟨wo.heap.size, 2, none⟩) (by exact l1)).trans q2
            have y0 := (hba.cell (p := ⟨gV, oV + i * 3, none⟩) (by exact l2)).trans e3
            have y1 := (hba.cell (p := ⟨gV, oV + i * 3 + 1, none⟩) (by exact l2)).trans e4
            have y2 := (hba.cell (p := ⟨gV, oV + i * 3 + 2, none⟩) (by exact l2)).trans e5
            clear q0 q1 q2 e3 e4 e5
            go_region_law (first
              | (go_simp; go_at_call 26; refine (cmp_q _ _ _ (sumN (solP rows bs i) k) (bs.getD i 0) 4000 (HH.out.2.1.below hba) (HH.out.1.below hba) (by omega)).mono ?_; rintro e w5 ⟨_, rfl, rfl, hd5⟩; rw [HH.out.2.2, show bs.getD i 0 - bs.getD i 0 = 0 by grind, show sgnQ 0 = 0 from rfl]; have H5 := hide (below_next HI.out.2 (below_next hba hd5)); clear hd5 p0 p1 p2 y0 y1 y2))
            all_goals
              go_wp2
              case roundEnd => exact ⟨⟨i + 1, by omega, by go_num, below_next HO.out.1 H5.out⟩, by simp [intOf]; omega⟩
      · have d9 : decide (i < N) = false := decide_eq_false hil
        go_wp2_with fail
        refine (awake_c _).mono ?_
        rintro e w8 ⟨_, rfl, rfl, hd8⟩
        have H8 := hide (HS.out.2.2.2.2.1.trans ((below_next HO.out.2.1 hd8).mono HS.out.2.2.2.2.1.size))
        clear hd8
        go_wp2
        refine bodyPost_ret (v := .bool true) ?_ rfl ?_
        · simp [results, Tryz.results8, go_sem]
        exact ⟨_, rfl, rfl, H8.out⟩
end Go.Proofs.YthnnbpnocefmgaaGreat
