/- The law of denials. -/
import Derived.Test.YthnnbpnocefmgaaGreatSysL
import Derived.Test.YthnnbpnocefmgaaGreatDenR
import Derived.Test.YthnnbpnocefmgaaGreatAwake
namespace Go.Proofs.YthnnbpnocefmgaaGreat
set_option linter.unusedVariables false
set_option linter.unusedSimpArgs false
open Go.RowKit
theorem fracOf_frac (most : Nat) (s : ByteArray) (hm : 1 ≤ most) : FracQ most (fracOf most s) := by
  rcases fracOf_is most s with ⟨h1, h2⟩ | ⟨_, h2⟩
  · exact FracQ.of_text (by rw [← h1]; exact h2) hm
  · rw [h2]
    have := FracQ.one most hm
    rwa [show Rat.divInt 1 1 = (1 : Rat) from Rat.num_divInt_den 1] at this
theorem fit_map {ss : List ByteArray} (i : Nat) : FitQ 23 ((ss.map (fracOf 200)).getD i 0) := by
  by_cases h : i < (ss.map (fracOf 200)).length
  · rw [show (ss.map (fracOf 200)).getD i 0 = fracOf 200 (ss[i]'(by simpa using h)) by simp only [List.getD_eq_getElem?_getD, List.getElem?_eq_getElem h, Option.getD_some, List.getElem_map]]
    exact (fracOf_frac 200 _ (by omega)).fit
  · rw [getD_end (by omega)]; exact fit_zero _
theorem fit_snoc {a : Nat} {l : List Rat} {x : Rat} (h : ∀ i, FitQ a (l.getD i 0)) (hx : FitQ a x) (i : Nat) : FitQ a ((l ++ [x]).getD i 0) := by
  rw [getD_snoc]
  split
  · exact h i
  · split
    · exact hx
    · exact fit_zero _
theorem twice_fit {d : List Rat} (h : ∀ j, FitQ 640 (d.getD j 0)) (j : Nat) : FitQ 1300 ((d.map (fun x => x + x)).getD j 0) := by
  by_cases hj : j < d.length
  · rw [show (d.map (fun x => x + x)).getD j 0 = d.getD j 0 + d.getD j 0 by simp [List.getD, hj]]
    exact ((h j).addA (h j)).more (by omega)
  · rw [getD_end (by rw [List.length_map]; omega)]; exact fit_zero _
theorem twice_dot (d bs : List Rat) : ∀ k, dotN (d.map (fun x => x + x)) bs k = dotN d bs k + dotN d bs k
  | 0 => by simp only [dotN]; grind
  | k + 1 => by
    have e : (d.map (fun x => x + x)).getD k 0 = d.getD k 0 + d.getD k 0 := by
      by_cases hj : k < d.length
      · simp [List.getD, hj]
      · rw [getD_end (by rw [List.length_map]; omega), getD_end (by omega)]; grind
    rw [dotN, dotN, twice_dot, e]; grind
theorem twice_no {rows : List (List Rat)} {bs d : List Rat} (h : isDen rows bs d) : ¬ isDen rows bs (d.map (fun x => x + x)) := by
  rintro ⟨_, _, h3⟩
  have h1 := h.2.2
  unfold dotL at h1 h3
  rw [List.length_map, twice_dot, h1] at h3
  exact absurd h3 (by grind)
theorem done_small {w' : World} {q : Rat} {L : Nat} {v : Value} (h : (SmallQ q ∧ ∃ r, v = .tuple #[r, .int .i64 0] ∧ RatV w' r q L) ∨ (¬ SmallQ q ∧ ∃ r, v = .tuple #[r, .int .i64 11] ∧ RatV w' r 0 L)) (hs : SmallQ q) : ∃ r, v = .tuple #[r, .int .i64 0] ∧ RatV w' r q L := by
  rcases h with ⟨_, h⟩ | ⟨h, _⟩
  · exact h
  · exact absurd hs h
set_option maxRecDepth 100000 in
set_option maxHeartbeats 8000000 in
theorem denies_law (w : World) (vl vb vw : Value) (ls : List (List ByteArray)) (bs0 ws0 : List ByteArray) {T : TypeId} (hl : LstV T 1 StrsE w vl ls) (hb : StrsE w vb bs0) (hw : StrsE w vw ws0) :
    Calls Tryz.prog 3 #[vl, vb, vw] w (Ret (fun v w' => v = .bool true ∧ Below w.heap.size w w')) := by
  obtain ⟨Tw, hw⟩ := hw
  obtain ⟨Aw, cw, rfl, hw1, hw2, hw3⟩ := id hw
  unfold maxLen at hw2
  have HW := hide (And.intro hw hw3)
  clear hw hw3
  go_enter Tryz.func3, Tryz.ntmps3
  go_wp2_with fail
  refine (tame_c w vl vb ls bs0 4 3 hl hb (by omega) (by omega)).mono ?_
  rintro e w1 ⟨_, rfl, va, vm, vv, vc, rows, bs, wd, rfl, f1, f2, f3, f4, f5, f6, ha, hm, hv, hc, hd1⟩
  have hS : Sys wd rows bs := ⟨by omega, by omega, f3, f4, f5, f6⟩
  obtain ⟨Aa, ca, rfl, _⟩ := id ha
  obtain ⟨Am, cm, rfl, hm1, hm2, _⟩ := id hm
  obtain ⟨Av, cv, rfl, _⟩ := id hv
  obtain ⟨Ac, cc, rfl, _⟩ := id hc
  unfold maxLen at hm2
  have HS := hide (And.intro hS (And.intro ha (And.intro hm (And.intro hv (And.intro hc hd1)))))
  clear hl hb f2 f3 f4 f5 f6 ha hm hv hc hd1 hS
  obtain ⟨N, hN⟩ : ∃ N, N = rows.length := ⟨_, rfl⟩
  obtain ⟨M, hM⟩ : ∃ M, M = bs.length := ⟨_, rfl⟩
  rw [← hN] at f1 hm1 ⊢
  rw [← hM]
  have HN := hide (And.intro hN hM)
  clear hN hM
  go_wp2
  go_loopw [11] (fun s11 wr => ∃ k : Nat, k ≤ 2 ∧ s11 = .int .i64 k ∧ Below w1.heap.size w1 wr) (fun s11 _ => 2 - (intOf s11).toNat)
  case atStart => exact ⟨0, by omega, rfl, Below.refl _ _⟩
  case round =>
    obtain ⟨k, hk, rfl, hbel⟩ := hrel
    obtain ⟨wo, rfl⟩ : ∃ wo : World, wo = wr := ⟨_, rfl⟩
    have HO := hide hbel
    clear hbel
    by_cases hkl : k < 2
    · have dk : decide ((k : Int) < 2) = true := by apply decide_eq_true; omega
      go_wp2_with fail
      refine (list_c _ _ ws0 6 (HW.out.1.below stB_str (HS.out.2.2.2.2.2.trans (HO.out.mono HS.out.2.2.2.2.2.size))) (by omega)).mono ?_
      rintro e w2 ⟨_, rfl, vx, vy, rfl, hx, hy, hd2⟩
      have HL := hide (And.intro hx (And.intro hy (below_next HO.out hd2)))
      clear hx hy hd2
      go_upto_if 42 with fail
      go_cut [12, 13] (fun s12 s13 wx => ∃ ws : List Rat, ws.length ≤ 6 ∧ Hid (∀ i, FitQ 23 (ws.getD i 0)) ∧ LstV 35 3 (RatE 23) wx s12 ws ∧ LstV 41 4 (QE 23) wx s13 ws ∧ Below w1.heap.size w1 wx)
      case first =>
        have hb1 : ((k : Int) == 1) = false ∨ ((k : Int) == 1) = true := by cases h : ((k : Int) == 1) <;> simp
        rcases hb1 with hb1 | hb1
        · go_wp2
          go_meet
          exact ⟨ws0.take 6 |>.map (fracOf 200), by simp; omega, hide (fun i => fit_map i), HL.out.1, HL.out.2.1, HL.out.2.2⟩
        · clear dk hkl
          rw [hb1]
          have hw12 : w.heap.size ≤ w2.heap.size := by have := HS.out.2.2.2.2.2.size; have := HL.out.2.2.size; omega
          go_wp2
          go_loopw [12, 13, 14] (fun s12 s13 s14 wr => ∃ (i : Nat) (qs : List Rat), i ≤ N ∧ s14 = .int .i64 i ∧ qs.length = i ∧ Hid (∀ i, FitQ 23 (qs.getD i 0)) ∧ OwnG 35 3 (RatE 23) wr w2.heap.size s12 qs ∧ OwnG 41 4 (QE 23) wr w2.heap.size s13 qs ∧ Below w2.heap.size w2 wr) (fun _ _ s14 _ => N - (intOf s14).toNat)
          case atStart => exact ⟨0, [], by omega, rfl, rfl, hide (fun i => by rw [getD_end (by simp)]; exact fit_zero _), OwnG.nil _ _ _ _ _, OwnG.nil _ _ _ _ _, Below.refl _ _⟩
          case round =>
            obtain ⟨i, qs, hi, rfl, hql, hqf, hoa, hob, hbi⟩ := hrel
            have HI := hide (And.intro hoa (And.intro hob (And.intro hbi (And.intro hql hqf.out))))
            obtain ⟨Ax, cx, ex_, _⟩ := hoa.len
            obtain ⟨Ay, cy, ey, _⟩ := hob.len
            rw [hql] at ex_ ey
            clear hoa hob hbi hql hqf
            subst ex_ ey
            by_cases hil : i < N
            · have d1 : decide (i < N) = true := decide_eq_true hil
              go_upto_if 52 with fail
              go_cut [15] (fun s15 wx => ∃ s : ByteArray, s15 = .string s ∧ s.size ≤ 140737488355328 ∧ wx = wr)
              case first =>
                by_cases hib : i < ws0.length
                · have d5 : decide (i < ws0.length) = true := decide_eq_true hib
                  obtain ⟨bb, ob, rfl, htb, hclb⟩ := HW.out.2 (by omega)
                  obtain ⟨x, hx⟩ : ∃ x, ws0[i]? = some x := ⟨_, List.getElem?_eq_getElem hib⟩
                  obtain ⟨ux, hx1, hx2, rfl, hx4⟩ := hclb i x hx
                  have hcx := ((HS.out.2.2.2.2.2.trans ((HL.out.2.2.trans (HI.out.2.2.1.mono HL.out.2.2.size)).mono HS.out.2.2.2.2.2.size)).cell (p := ⟨bb, ob + i * 1 + 0, none⟩) htb.lt).trans (hx2 0 (by rw [hx1]; decide))
                  rw [Nat.mul_one, Nat.add_zero] at hcx
                  replace hcx : wr.cell? ⟨bb, ob + i, none⟩ = some (.string x) := hcx
                  have HX := hide hx4
                  clear hclb hx hx1 hx2 hx4 htb
                  go_wp2
                  go_meet
                  exact ⟨x, rfl, HX.out, rfl⟩
                · have d5 : decide (i < ws0.length) = false := decide_eq_false hib
                  go_wp2
                  go_meet
                  exact ⟨_, rfl, by decide, rfl⟩
              case rest =>
                obtain ⟨s, rfl, hs, hwc⟩ := hcut
                obtain rfl : wr = wc := hwc.symm
                have HF := hide (fun w1 => frac_f w1 s hs 200 (by omega) (by omega))
                clear hs
                go_wp2_with fail
                refine (HF.out _).mono ?_
                rintro e w4 ⟨_, rfl, q, s1, A1, n1, c1, B1, m1, d1', t1, A1', n1', c1', B1', m1', d1'', rfl, hfq, hv, hv', hd⟩
                replace hv : RatV _ _ q 23 := hv
                replace hv' : QV _ _ q 23 := hv'
                have HV := hide (And.intro hv (And.intro hv' (And.intro hd hfq.1)))
                clear hv hv' hd hfq
                have hwk := HI.out.2.2.2.1
                have HWK := hide hwk; clear hwk
                have hbw1 : w2.heap.size ≤ w4.heap.size := by have := HI.out.2.2.1.size; have := HV.out.2.2.1.size; omega
                go_wp2_with (first
                  | (at_builtin; refine appG Tryz.ratE (stK_rat 23 (by decide)) _ rfl _ _ rfl w2.heap.size _ qs q rfl (OwnG.below (stB_rat 23) HI.out.1 (below_al (below_al (below_al HV.out.2.2.1 _) _) _)) ⟨w4.heap.size + 1 + 1, 0, none⟩ _ rfl (.agg #[.bool s1, .slice A1 n1 c1, .slice B1 m1 d1']) (RatV.below HV.out.1 (below_al (below_al (below_al (Below.refl _ _) _) _) _)) rfl (cells_new3 _ _ _ _ _ (by simp)) (one_rat _ _ _ _ _ _ _) (by rw [HWK.out]; omega) (by simp; omega) ?_; intro g5 c5 w5 hown5 hb5 hg5; rw [HWK.out];
                      have hq5 := QV.below HV.out.2.1 (below_al (below_al (below_al (Below.refl _ _) (.cells #[.bool s1, .slice A1 n1 c1, .slice B1 m1 d1'] 35)) (.cells #[.bool t1, .slice A1' n1' c1', .bool false, .slice B1' m1' d1''] 41)) (.cells #[.bool s1, .slice A1 n1 c1, .slice B1 m1 d1'] 35));
                      have hown7 := OwnG.kp (stK_q 23 (by decide)) (OwnG.below (stB_q 23) HI.out.2.1 (below_al (below_al (below_al HV.out.2.2.1 (.cells #[.bool s1, .slice A1 n1 c1, .slice B1 m1 d1'] 35)) (.cells #[.bool t1, .slice A1' n1' c1', .bool false, .slice B1' m1' d1''] 41)) (.cells #[.bool s1, .slice A1 n1 c1, .slice B1 m1 d1'] 35))) (by decide) hg5.kp;
                      have hbox := at_old (at_new' (w := w4.alloc (.cells #[.bool s1, .slice A1 n1 c1, .slice B1 m1 d1'] 35)) (b := w4.heap.size + 1) (.cells #[.bool t1, .slice A1' n1' c1', .bool false, .slice B1' m1' d1''] 41) (by simp)) (.cells #[.bool s1, .slice A1 n1 c1, .slice B1 m1 d1'] 35);
                      have hbox5 := (hg5.kp.typed ⟨_, _, hbox⟩ (by decide)).trans hbox;
                      obtain ⟨k0, k1, k2, k3, _⟩ := four_cells hbox5;
                      have H5 := hide (And.intro hown5 (And.intro (stK_q 23 (by decide) _ _ _ _ hg5.kp hq5) (And.intro hown7 hb5)));
                      have hsz5 : w4.heap.size + 1 + 1 < w5.heap.size := (by have := hg5.by_.size; simp at this; omega);
                      clear hown5 hb5 hg5 hq5 hown7 hbox hbox5)
                  | (at_builtin; refine appG Tryz.qE (stK_q 23 (by decide)) _ rfl _ _ rfl w2.heap.size _ qs q rfl (OwnG.below (stB_q 23) H5.out.2.2.1 (below_al (Below.refl _ _) _)) ⟨w5.heap.size, 0, none⟩ _ rfl (.agg #[.bool t1, .slice A1' n1' c1', .bool false, .slice B1' m1' d1'']) (QV.below H5.out.2.1 (below_al (Below.refl _ _) _)) rfl (cells_new4 _ _ _ _ _ _ rfl) (one_q _ _ _ _ _ _ _ _) (by rw [HWK.out]; omega) (by simp; omega) ?_; intro g6 c6 w6 hown6 hb6 hg6; rw [HWK.out];
                      have hownr := OwnG.kp (stK_rat 23 (by decide)) (OwnG.below (stB_rat 23) H5.out.1 (below_al (Below.refl _ _) (.cells #[.bool t1, .slice A1' n1' c1', .bool false, .slice B1' m1' d1''] 41))) (by decide) hg6.kp;
                      have hbl6 := ((HI.out.2.2.1.trans ((below_al (below_al (below_al HV.out.2.2.1 (.cells #[.bool s1, .slice A1 n1 c1, .slice B1 m1 d1'] 35)) (.cells #[.bool t1, .slice A1' n1' c1', .bool false, .slice B1' m1' d1''] 41)) (.cells #[.bool s1, .slice A1 n1 c1, .slice B1 m1 d1'] 35)).mono HI.out.2.2.1.size)).trans H5.out.2.2.2).trans (((Below.refl _ _).alloc (by omega) (.cells #[.bool t1, .slice A1' n1' c1', .bool false, .slice B1' m1' d1''] 41)).trans hb6);
                      rw [HWK.out] at hown6 hownr;
                      have H6 := hide (And.intro hownr (And.intro hown6 hbl6));
                      clear hown6 hb6 hg6 hownr hbl6 k0 k1 k2 k3))
                go_wp2
                case roundEnd => exact ⟨⟨i + 1, qs ++ [q], by omega, by go_num, by simp [HWK.out], hide (fit_snoc HI.out.2.2.2.2 HV.out.2.2.2.fit), H6.out.1, H6.out.2.1, H6.out.2.2⟩, by simp [intOf]; omega⟩
            · have d1 : decide (i < N) = false := decide_eq_false hil
              go_wp2
              go_meet
              exact ⟨qs, by rw [HI.out.2.2.2.1]; omega, hide HI.out.2.2.2.2, HI.out.1.lst, HI.out.2.1.lst, HL.out.2.2.trans (HI.out.2.2.1.mono HL.out.2.2.size)⟩
      case rest =>
        obtain ⟨ws, hwl, hwf, hx, hy, hbc⟩ := hcut
        obtain ⟨Ax, cx, rfl, _⟩ := id hx
        obtain ⟨Ay, cy, rfl, _⟩ := id hy
        have HX := hide (And.intro hwl (And.intro hwf.out (And.intro hx (And.intro hy hbc))))
        obtain ⟨n, hn⟩ : ∃ n, n = ws.length := ⟨_, rfl⟩
        rw [← hn]
        have HNW := hide hn
        clear hwl hwf hx hy hbc hn
        go_wp2_with fail
        refine (denies_s _ _ _ _ rows bs ws wd 23 ?_ ?_ ?_ HS.out.1 HX.out.2.1 HX.out.1 (by omega)).mono ?_
        · have := RatE.rows (RowsE.more (L' := 6 * (23 + 3)) (LstV.below (stB_row 23) HS.out.2.1 HX.out.2.2.2.2) (by omega)); rwa [← HN.out.1] at this
        · have := LstV.rowV (RowE.more (L' := 6 * (23 + 3)) (LstV.below (stB_rat 23) HS.out.2.2.2.1 HX.out.2.2.2.2) (by omega)); rwa [← HN.out.2] at this
        · have := LstV.rowV (RowE.more (L' := 6 * (23 + 3)) HX.out.2.2.1 (by omega)); rwa [← HNW.out] at this
        rintro e w5 ⟨_, rfl, rfl, hd5⟩
        obtain ⟨db, hdb⟩ : ∃ db, db = denB rows bs ws := ⟨_, rfl⟩
        rw [← hdb]
        have H5 := hide (And.intro hdb (HX.out.2.2.2.2.trans (hd5.mono HX.out.2.2.2.2.size)))
        have H5d := hide hd5
        clear hdb hd5
        go_wp2_with fail
        refine (denies_r _ _ _ _ rows bs ws 23 (10 * (6 * (23 + 3)) + 1) ?_ ?_ ?_ (by omega) (by omega) (by omega) (by have := HS.out.1.n6; omega) (by have := HS.out.1.wd_le; omega) HS.out.1.wd_eq HS.out.1.len HS.out.1.digits HS.out.1.digitsB (fun k => (dotW_fit HS.out.1.smallB HX.out.2.1 6 HX.out.1 k).frac) (fun j k => (colW_fit HS.out.1.small HX.out.2.1 6 HX.out.1 j k).frac)).mono ?_
        · have := LstV.below (stB_qrow 23) HS.out.2.2.1 H5.out.2; rwa [← HN.out.1] at this
        · have := LstV.below (stB_q 23) HS.out.2.2.2.2.1 H5.out.2; rwa [← HN.out.2] at this
        · have := LstV.below (stB_q 23) HX.out.2.2.2.1 H5d.out; rwa [← HNW.out] at this
        rintro e w6 ⟨_, rfl, rfl, hd6⟩
        rw [← H5.out.1]
        have H6 := hide (H5.out.2.trans (hd6.mono H5.out.2.size))
        clear hd6
        cases db
        all_goals
          go_wp2
          case roundEnd => exact ⟨⟨k + 1, by omega, by go_num, H6.out⟩, by simp [intOf]; omega⟩
    · have dk : decide ((k : Int) < 2) = false := by apply decide_eq_false; omega
      clear hkl hk
      go_wp2_with fail
      refine (deny_s _ _ _ rows bs wd ?_ ?_ HS.out.1).mono ?_
      · have := RatE.rows (RowsE.more (L' := 4000) (LstV.below (stB_row 23) HS.out.2.1 HO.out) (by omega)); rwa [← HN.out.1] at this
      · have := LstV.rowV (RowE.more (L' := 4000) (LstV.below (stB_rat 23) HS.out.2.2.2.1 HO.out) (by omega)); rwa [← HN.out.2] at this
      rintro e w7 ⟨_, rfl, hd7, hcase⟩
      have H7 := hide (HO.out.trans (hd7.mono HO.out.size))
      clear hd7
      rcases hcase with ⟨hden, u, g, rfl, hu⟩ | ⟨hno, rfl⟩
      · obtain ⟨hid, hfd⟩ := HS.out.1.denied hden
        obtain ⟨cu, rfl, hu1, hu2, hu3⟩ := hu
        unfold maxLen at hu2
        obtain ⟨d, hd⟩ : ∃ d, d = denyRow rows bs := ⟨_, rfl⟩
        rw [← hd] at hid hfd hu1 hu3 ⊢
        have hdl := hid.1
        rw [hdl, ← HN.out.1] at hu1 ⊢
        have HU := hide (And.intro hid (And.intro hfd (And.intro hu3 hdl)))
        have H7s := hide H7.out.size
        clear hid hfd hu3 hdl hd hden
        go_wp2
        go_loopw [20, 21] (fun s20 s21 wr => ∃ i : Nat, i ≤ N ∧ s21 = .int .i64 i ∧ OwnG 35 3 (RatE 1300) wr w7.heap.size s20 ((d.take i).map (fun x => x + x)) ∧ Below w7.heap.size w7 wr) (fun _ s21 _ => N - (intOf s21).toNat)
        case atStart => exact ⟨0, by omega, rfl, OwnG.nil _ _ _ _ _, Below.refl _ _⟩
        case round =>
          obtain ⟨i, hi, rfl, hoa, hbi⟩ := hrel
          obtain ⟨At, ct, et, _⟩ := hoa.len
          have hlk : ((d.take i).map (fun x => x + x)).length = i := by rw [List.length_map, List.length_take, HU.out.2.2.2, ← HN.out.1]; omega
          rw [hlk] at et
          have HI := hide (And.intro hoa (And.intro hbi hlk))
          clear hoa hlk
          subst et
          by_cases hil : i < N
          · obtain ⟨s, B1, m1, d1, B2, m2, d2, e0, e1, e2, hr⟩ := (((HU.out.2.2.1.below hbi)).2 i (by rw [HU.out.2.2.2, ← HN.out.1]; exact hil)).rat
            have HR := hide hr
            clear hr hbi
            go_upto_region 26 with fail
            have hfx : FitQ 1300 (d.getD i 0 + d.getD i 0) := by
              have h := HU.out.2.1 i
              exact (h.addA h).more (by omega)
            have HFX := hide hfx
            clear hfx
            go_cut [22, 23] (fun s22 s23 wx => ∃ (G : Nat) (s8 : Bool) (A8 : Option Addr) (n8 c8 : Nat) (A9 : Option Addr) (n9 c9 : Nat), s22 = .pointer (some ⟨G, 0, none⟩) ∧ s23 = .int .i64 0 ∧ wx.heap[G]? = some (.cells #[.bool s8, .slice A8 n8 c8, .slice A9 n9 c9] 35 (0, 0)) ∧ RatV wx (.agg #[.bool s8, .slice A8 n8 c8, .slice A9 n9 c9]) (d.getD i 0 + d.getD i 0) 1300 ∧ Below wr.heap.size wr wx)
            case first =>
              have hba : Below wr.heap.size wr wr.drew := (Below.refl _ _).drew
              have l1 := lt_of_cell e0
              simp only at l1
              have p0 := (hba.cell (p := ⟨g, i * 3, none⟩) (by exact l1)).trans e0
              have p1 := (hba.cell (p := ⟨g, i * 3 + 1, none⟩) (by exact l1)).trans e1
              have p2 := (hba.cell (p := ⟨g, i * 3 + 2, none⟩) (by exact l1)).trans e2
              have hbb : Below wr.heap.size wr (wr.alloc (.cells #[.bool false, .slice none 0 0, .slice none 0 0] 35)).drew := (below_al (Below.refl _ _) _).drew
              have r0 := (hbb.cell (p := ⟨g, i * 3, none⟩) (by exact l1)).trans e0
              have r1 := (hbb.cell (p := ⟨g, i * 3 + 1, none⟩) (by exact l1)).trans e1
              have r2 := (hbb.cell (p := ⟨g, i * 3 + 2, none⟩) (by exact l1)).trans e2
              clear e0 e1 e2
              obtain ⟨x, hx⟩ : ∃ x, x = d.getD i 0 := ⟨_, rfl⟩
              have hfx : FitQ 1300 (x + x) := by
                have h := HU.out.2.1 i
                rw [← hx] at h
                exact (h.addA h).more (by omega)
              have HXX := hide (And.intro hx (And.intro hfx (by have := HR.out; rwa [← hx] at this : RatV wr (.agg #[.bool s, .slice B1 m1 d1, .slice B2 m2 d2]) x 4000)))
              clear hx hfx
              have hbx := below_start wr (.cells #[.bool false, .slice none 0 0, .slice none 0 0] 35)
              obtain ⟨k0, k1, k2, g0, g1, g2, _⟩ := box3 hbx.drew
              go_region_law (first
                | (go_simp; go_at_call 18; refine (add_q _ _ _ x x 4000 (HXX.out.2.2.below (by first | exact hba | exact hbb)) (HXX.out.2.2.below (by first | exact hba | exact hbb)) (by omega)).mono ?_; rintro e w8 ⟨_, rfl, hd8, hcase⟩;
                    obtain ⟨r, rfl, hr8⟩ := done_small hcase (HXX.out.2.1.smallQ (by omega));
                    replace hr8 := hr8.fit HXX.out.2.1;
                    obtain ⟨s8, A8, n8, c8, A9, n9, c9, rfl⟩ := hr8.shape;
                    have hb8 : Below wr.heap.size wr w8 := below_next (by first | exact hba | exact hbb) hd8;
                    (try (have k0 := (hd8.cell (p := ⟨wr.heap.size, 0, none⟩) (by simp)).trans k0; have k1 := (hd8.cell (p := ⟨wr.heap.size, 1, none⟩) (by simp)).trans k1; have k2 := (hd8.cell (p := ⟨wr.heap.size, 2, none⟩) (by simp)).trans k2; have g0 := (hd8.frozen (p := ⟨wr.heap.size, 0, none⟩) (by simp)).trans g0; have g1 := (hd8.frozen (p := ⟨wr.heap.size, 1, none⟩) (by simp)).trans g1; have g2 := (hd8.frozen (p := ⟨wr.heap.size, 2, none⟩) (by simp)).trans g2));
                    (try have hG := at_later (w := (wr.alloc (.cells #[.bool false, .slice none 0 0, .slice none 0 0] 35)).drew) (at_new wr (.cells #[.bool false, .slice none 0 0, .slice none 0 0] 35)) hd8);
                    have H8 := hide (And.intro hr8 hb8);
                    clear hr8 hb8))
              all_goals
                go_wp2
                go_meet
                first
                  | exact ⟨w8.heap.size, _, _, _, _, _, _, _, rfl, rfl, at_new _ _, by rw [← HXX.out.1]; exact H8.out.1.below (below_al (Below.refl _ _) _), below_al H8.out.2 _⟩
                  | exact ⟨wr.heap.size, s8, A8, n8, c8, A9, n9, c9, rfl, rfl, by simp [World.setCell, Array.getElem?_modify, hG], by rw [← HXX.out.1]; exact H8.out.1.put3 hG, below_set3 H8.out.2 (Nat.le_refl _) _ _ _⟩
            case rest =>
              obtain ⟨G, s8, A8, n8, c8, A9, n9, c9, rfl, rfl, hG, hr8, hb8⟩ := hcut
              obtain ⟨k0, k1, k2⟩ := three_cells hG
              have HG := hide (And.intro hr8 hb8)
              have HLK := hide HI.out.2.2
              have hsn : (d.take (i + 1)).map (fun x => x + x) = (d.take i).map (fun x => x + x) ++ [d.getD i 0 + d.getD i 0] := take_snoc_map (fun x => x + x) (by rw [List.getElem?_eq_getElem (show i < d.length by rw [HU.out.2.2.2, ← HN.out.1]; exact hil)]; simp [List.getD, show i < d.length by rw [HU.out.2.2.2, ← HN.out.1]; exact hil])
              have HSN := hide hsn
              have hw7 : w7.heap.size ≤ wc.heap.size := by have := HI.out.2.1.size; have := hb8.size; omega
              clear hr8 hb8 hG hsn e0 e1 e2
              go_wp2_with (first
                | (at_builtin; refine appG Tryz.ratE (stK_rat 1300 (by decide)) _ rfl _ _ rfl w7.heap.size _ ((d.take i).map (fun x => x + x)) (d.getD i 0 + d.getD i 0) rfl (OwnG.below (stB_rat 1300) HI.out.1 (below_al HG.out.2 _)) ⟨wc.heap.size, 0, none⟩ _ rfl (.agg #[.bool s8, .slice A8 n8 c8, .slice A9 n9 c9]) (RatV.below HG.out.1 (below_al (Below.refl _ _) _)) rfl (cells_new3 _ _ _ _ _ rfl) (one_rat _ _ _ _ _ _ _) (by rw [HLK.out]; omega) (by simp; omega) ?_; intro g5 c5 w5 hown5 hb5 hg5; rw [HLK.out]; rw [HLK.out] at hown5;
                    have hbl5 := (below_next HI.out.2.1 HG.out.2).trans (((Below.refl _ _).alloc hw7 (.cells #[.bool s8, .slice A8 n8 c8, .slice A9 n9 c9] 35)).trans hb5);
                    have H5 := hide (And.intro hown5 hbl5);
                    clear hown5 hb5 hg5 hbl5 k0 k1 k2))
              go_wp2
              case roundEnd => exact ⟨⟨i + 1, by omega, by go_num, by rw [HSN.out]; exact H5.out.1, H5.out.2⟩, by simp [intOf]; omega⟩
          · have d1 : decide (i < N) = false := decide_eq_false hil
            have htk : d.take i = d := List.take_of_length_le (by rw [HU.out.2.2.2, ← HN.out.1]; omega)
            have hot := HI.out.1
            rw [htk] at hot
            have HT := hide (And.intro hot (H7.out.trans (hbi.mono H7.out.size)))
            obtain rfl : i = N := by omega
            clear htk hot hbi hil
            go_wp2_with fail
            refine (denies_s _ _ _ _ rows bs (d.map (fun x => x + x)) wd 1300 ?_ ?_ ?_ HS.out.1 (fun j => twice_fit HU.out.2.1 j) (by rw [List.length_map, HU.out.2.2.2]; exact HS.out.1.n6) (by omega)).mono ?_
            · have := RatE.rows (RowsE.more (L' := 6 * (1300 + 3)) (LstV.below (stB_row 23) HS.out.2.1 HT.out.2) (by omega)); rwa [← HN.out.1] at this
            · have := LstV.rowV (RowE.more (L' := 6 * (1300 + 3)) (LstV.below (stB_rat 23) HS.out.2.2.2.1 HT.out.2) (by omega)); rwa [← HN.out.2] at this
            · exact LstV.rowV (RowE.more (L' := 6 * (1300 + 3)) HT.out.1.lst (by omega))
            rintro e w9 ⟨_, rfl, rfl, hd9⟩
            rw [denB_no (twice_no HU.out.1)]
            have H9 := hide (HS.out.2.2.2.2.2.trans ((HT.out.2.trans (hd9.mono HT.out.2.size)).mono HS.out.2.2.2.2.2.size))
            clear hd9
            go_wp2_with fail
            refine (awake_c _).mono ?_
            rintro e w10 ⟨_, rfl, rfl, hd10⟩
            have H10 := hide (H9.out.trans (hd10.mono H9.out.size))
            clear hd10
            go_wp2
            refine bodyPost_ret (v := .bool true) ?_ rfl ?_
            · simp [results, Tryz.results3, go_sem]
            exact ⟨_, rfl, rfl, H10.out⟩
      · clear hno
        go_wp2_with fail
        refine (awake_c _).mono ?_
        rintro e w8 ⟨_, rfl, rfl, hd8⟩
        have H8 := hide (HS.out.2.2.2.2.2.trans ((H7.out.trans (hd8.mono H7.out.size)).mono HS.out.2.2.2.2.2.size))
        clear hd8
        go_wp2
        refine bodyPost_ret (v := .bool true) ?_ rfl ?_
        · simp [results, Tryz.results3, go_sem]
        exact ⟨_, rfl, rfl, H8.out⟩
end Go.Proofs.YthnnbpnocefmgaaGreat
