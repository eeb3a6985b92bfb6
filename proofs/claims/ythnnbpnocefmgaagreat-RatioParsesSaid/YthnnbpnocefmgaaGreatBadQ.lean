/- Walks: Parse on a text that is no fraction. -/
import Derived.Test.YthnnbpnocefmgaaGreatBadP
namespace Go.Proofs.YthnnbpnocefmgaaGreat
set_option linter.unusedVariables false
set_option linter.unusedSimpArgs false
open Go.RowKit
theorem ratZ (w : World) (L : Nat) : RatV w (.agg #[.bool false, .slice none 0 0, .slice none 0 0]) 0 L :=
  ⟨.slice none 0 0, .slice none 0 0, rfl, NatV.nil _ _, NatV.nil _ _⟩
theorem ratText_byts2 (q : Rat) : Byts (ratText q) := by
  have hd : ∀ x, Byts (decText x) := fun x b hb => by have := decText_digs x b hb; omega
  have hi : Byts (intText q.num) := by
    intro b hb
    unfold intText at hb
    rcases List.mem_append.1 hb with h | h
    · split at h
      · rw [List.mem_singleton] at h; omega
      · cases h
    · exact hd _ b h
  intro b hb
  unfold ratText at hb
  rcases List.mem_append.1 hb with h | h
  · exact hi b h
  · split at h
    · cases h
    · rcases List.mem_cons.1 h with h | h
      · omega
      · exact hd _ b h
theorem str_48 {cs : List Int} (hby : Byts cs) (h : cs ≠ [48]) : ((str cs).toList == [48]) = false := by
  rw [beq_eq_false_iff_ne]
  have := str_ne hby (b := [48]) (by intro b hb; simp at hb; omega) h
  rwa [show (str [48]).toList = [48] by rw [Lib.toList_data]; rfl] at this
set_option maxRecDepth 100000 in
set_option maxHeartbeats 2000000 in
theorem parse_no (w : World) (bs : List Int) (hby : Byts bs) (hl : bs.length ≤ 70000) (h : ∀ q : Rat, bs ≠ ratText q) :
    Calls Tryz.prog 38 #[.string (str bs)] w (Ret fun v w' => ∃ u, v = .tuple #[u, .int .i64 10] ∧ RatV w' u 0 2 ∧ Below w.heap.size w w') := by
  obtain ⟨xs, cs, hxc, hns⟩ : ∃ xs cs, ((bs = xs ++ 47 :: cs) ∨ (bs = xs ∧ cs = [49])) ∧ (47 : Int) ∉ xs := by
    by_cases hs : (47 : Int) ∈ bs
    · obtain ⟨xs, cs, e, hx⟩ := split_slash bs hs; exact ⟨xs, cs, .inl e, hx⟩
    · exact ⟨bs, [49], .inr ⟨rfl, rfl⟩, hs⟩
  have hbx : Byts xs := by
    rcases hxc with e | ⟨e, _⟩
    · exact (byts_take hby e).1
    · rw [← e]; exact hby
  have hbc : Byts cs := by
    rcases hxc with e | ⟨_, e⟩
    · exact (byts_take hby e).2
    · rw [e]; intro b hb; simp at hb; omega
  have hlx : xs.length ≤ 70000 := by
    rcases hxc with e | ⟨e, _⟩
    · rw [e] at hl; simp at hl; omega
    · rw [← e]; exact hl
  have hlc : cs.length ≤ 70000 := by
    rcases hxc with e | ⟨_, e⟩
    · rw [e] at hl; simp at hl; omega
    · rw [e]; decide
  have hsz : (str bs).size ≤ 70000 := by rw [str_size]; exact hl
  have hsz2 : ¬ 70000 < (str bs).size := by omega
  obtain ⟨S, hS⟩ : ∃ S, S = str bs := ⟨_, rfl⟩
  obtain ⟨T, hT⟩ : ∃ T, T = str xs := ⟨_, rfl⟩
  obtain ⟨D, hD⟩ : ∃ D, D = str cs := ⟨_, rfl⟩
  rw [← hS] at hsz hsz2 ⊢
  have HX := hide (And.intro hS (And.intro hT (And.intro hD (And.intro hbx (And.intro hbc (And.intro hlx (And.intro hlc (And.intro hxc (And.intro hns (And.intro hby h))))))))))
  clear hS hT hD hbx hbc hlx hlc hns hby h hl hxc
  obtain ⟨W, hW⟩ : ∃ W, W = w.alloc (.cells #[.bool false, .slice none 0 0, .slice none 0 0] 35) := ⟨_, rfl⟩
  have hb0 : Below w.heap.size w W := by rw [hW]; exact (Below.refl _ _).alloc (Nat.le_refl _) _
  have hr : W.heap[w.heap.size]? = some (.cells #[.bool false, .slice none 0 0, .slice none 0 0] 35) := by rw [hW]; exact at_new _ _
  have HW := hide (And.intro hW (And.intro hb0 hr)); clear hW hb0 hr
  go_enter Tryz.func38, Tryz.ntmps38
  go_upto_region 3 with fail
  rw [← HW.out.1]
  go_cut [4, 5, 6] (fun s4 s5 s6 wx => ∃ c : Bool, s4 = .string T ∧ s6 = .bool c ∧ (c = true → s5 = .string D) ∧ (c = false → cs = [49]) ∧ Below W.heap.size W wx)
  case first =>
    rcases HX.out.2.2.2.2.2.2.2.1 with hc | ⟨hc, hc2⟩
    · have H1 := hide hc; clear hc
      go_wp2_with fail
      refine (show Calls _ _ _ _ _ from by rw [HX.out.1, H1.out]; exact cutN_hit _ _ (noslash HX.out.2.2.2.1 HX.out.2.2.2.2.2.2.2.2.1) (by have := HX.out.2.2.2.2.2.1; omega) (by have := HX.out.2.2.2.2.2.2.1; omega) _).mono ?_
      rintro e w1 ⟨rfl, hd1⟩
      rw [← HX.out.2.1, ← HX.out.2.2.1]
      go_wp2
      go_meet
      exact ⟨true, rfl, rfl, fun _ => rfl, fun h => (by cases h), hd1⟩
    · have H1 := hide (And.intro hc hc2); clear hc hc2
      go_wp2_with fail
      refine (show Calls _ _ _ _ _ from by rw [HX.out.1, H1.out.1]; exact cutN_miss _ (noslash HX.out.2.2.2.1 HX.out.2.2.2.2.2.2.2.2.1) _).mono ?_
      rintro e w1 ⟨rfl, hd1⟩
      rw [← HX.out.2.1]
      go_wp2
      go_meet
      exact ⟨false, rfl, rfl, fun h => (by cases h), fun _ => H1.out.2, hd1⟩
  case rest =>
    obtain ⟨c, rfl, rfl, h5t, h5f, hbel⟩ := hcut
    go_upto_if 19 with fail
    go_cut [5] (fun s5 wx => s5 = .string D ∧ Below W.heap.size W wx)
    case first =>
      cases c with
      | true =>
        have h5 := h5t rfl
        subst h5
        clear h5t h5f
        go_wp2
        go_meet
        exact ⟨rfl, hbel⟩
      | false =>
        have h5 : Value.string ⟨#[49]⟩ = .string D := by
          rw [HX.out.2.2.1, h5f rfl]; rfl
        have H5 := hide h5; clear h5 h5t h5f
        go_wp2
        go_meet
        exact ⟨H5.out, hbel⟩
    case rest =>
      obtain ⟨rfl, hbel⟩ := hcut
      clear h5t h5f
      by_cases hni : NoInt xs
      · have HN := hide hni; clear hni
        go_wp2_with fail
        refine (show Calls _ _ _ _ _ from by rw [HX.out.2.1]; exact isForm_no xs HX.out.2.2.2.1 (by have := HX.out.2.2.2.2.2.1; omega) HN.out _).mono ?_
        rintro e w2 ⟨rfl, hd2⟩
        have hbl : Below W.heap.size W w2 := below_next hbel hd2
        clear hd2 hbel
        have hr6 := at_later HW.out.2.2 hbl
        obtain ⟨x0, x1, x2⟩ := three_cells hr6
        obtain ⟨f0, f1, f2⟩ := three_frozen hr6
        have hlt := lt_of_block hr6
        have HF := hide (And.intro hr6 (below_next HW.out.2.1 hbl)); clear hr6 hbl
        go_wp2
        refine bodyPost_ret (v := .tuple #[.agg #[.bool false, .slice none 0 0, .slice none 0 0], .int .i64 10]) ?_ rfl ?_
        · simp [results, Tryz.results38, go_sem, x0, x1, x2, hlt]
        exact ⟨_, rfl, _, rfl, ratZ _ 2, below_set3 HF.out.2 (Nat.le_refl _) _ _ _⟩
      · obtain ⟨z, hz⟩ := not_noInt hni
        have HN := hide hz; clear hz hni
        go_wp2_with fail
        refine (show Calls _ _ _ _ _ from by rw [HX.out.2.1, HN.out]; exact isForm_int z (by rw [← HN.out]; have := HX.out.2.2.2.2.2.1; omega) _).mono ?_
        rintro e w2 ⟨rfl, hd2⟩
        by_cases hnc : NoInt cs
        · have HC := hide hnc; clear hnc
          go_wp2_with fail
          refine (show Calls _ _ _ _ _ from by rw [HX.out.2.2.1]; exact isForm_no cs HX.out.2.2.2.2.1 (by have := HX.out.2.2.2.2.2.2.1; omega) HC.out _).mono ?_
          rintro e w3 ⟨rfl, hd3⟩
          have hbl : Below W.heap.size W w3 := below_next hbel (below_next hd2 hd3)
          clear hd2 hd3 hbel
          have hr6 := at_later HW.out.2.2 hbl
          obtain ⟨x0, x1, x2⟩ := three_cells hr6
          obtain ⟨f0, f1, f2⟩ := three_frozen hr6
          have hlt := lt_of_block hr6
          have HF := hide (And.intro hr6 (below_next HW.out.2.1 hbl)); clear hr6 hbl
          go_wp2
          refine bodyPost_ret (v := .tuple #[.agg #[.bool false, .slice none 0 0, .slice none 0 0], .int .i64 10]) ?_ rfl ?_
          · simp [results, Tryz.results38, go_sem, x0, x1, x2, hlt]
          exact ⟨_, rfl, _, rfl, ratZ _ 2, below_set3 HF.out.2 (Nat.le_refl _) _ _ _⟩
        · obtain ⟨d, hd⟩ := not_noInt hnc
          obtain ⟨c0, hc0, hp0, hc1, hc2, hc3⟩ := intText_first d
          have hix2 := run_byte Tryz.prog 9 (intText d) c0 hc0 hp0 hc1 hc2 (by kernel_rfl)
          rw [← hd, ← HX.out.2.2.1] at hix2
          have hd48 : d ≠ 0 → (D.toList == [48]) = false := fun hne => by
            rw [HX.out.2.2.1]
            exact str_48 HX.out.2.2.2.2.1 (fun e => hne (intText_inj (show intText d = intText 0 from by rw [← hd, e]; rfl)))
          have hd48b : d = 0 → D = ⟨#[48]⟩ := fun e0 => by
            rw [HX.out.2.2.1, hd, e0]; rfl
          have HC := hide hd; clear hd hnc hc0 hp0 hc1 hc2
          go_wp2_with fail
          refine (show Calls _ _ _ _ _ from by rw [HX.out.2.2.1, HC.out]; exact isForm_int d (by rw [← HC.out]; have := HX.out.2.2.2.2.2.2.1; omega) _).mono ?_
          rintro e w3 ⟨rfl, hd3⟩
          by_cases hd0 : 0 < d
          · obtain ⟨b0, hb0, hp1, hb1, hb2, hb3⟩ := intText_first z
            have hix := run_byte Tryz.prog 9 (intText z) b0 hb0 hp1 hb1 hb2 (by kernel_rfl)
            rw [← HN.out, ← HX.out.2.1] at hix
            obtain ⟨n, hn⟩ : ∃ n, n = decide (z < 0) := ⟨_, rfl⟩
            rw [← hn] at hb3
            have hid : intText d = decText d := intText_nat d (by omega)
            have HZ := hide (And.intro HX.out.1 (And.intro (show D = str (decText d) from by rw [HX.out.2.2.1, HC.out, hid]) (And.intro (show T = str (intText z) from by rw [HX.out.2.1, HN.out]) (And.intro (show (intText z).length ≤ 70000 from by rw [← HN.out]; exact HX.out.2.2.2.2.2.1) (And.intro (show (decText d).length ≤ 70001 from by rw [← hid, ← HC.out]; have := HX.out.2.2.2.2.2.2.1; omega) (And.intro hd0 (And.intro (decText_head d hd0).1 (And.intro (decText_digs d) trivial))))))))
            have HN := hide hn
            have hc45 : (c0 == 45) = false := by rw [hc3]; apply decide_eq_false; omega
            have hD48b := hd48 (by omega)
            have hD48 : ¬ D.toList = [48] := by rw [beq_eq_false_iff_ne] at hD48b; exact hD48b
            have htx : str (ratText (Rat.divInt z d)) ≠ S := by
              intro e
              rw [HX.out.1] at e
              exact HX.out.2.2.2.2.2.2.2.2.2.2 _ (str_inj (ratText_byts2 _) HX.out.2.2.2.2.2.2.2.2.2.1 e).symm
            have HTX := hide htx
            have hbel3 : Below W.heap.size W w3 := below_next hbel (below_next hd2 hd3)
            clear hb0 hp1 hb1 hb2 hn hid hd48 hd48b hc3 hd0 htx hd2 hd3
            go_wp2
            go_cut [7] (fun s7 wx => ∃ g : Nat, s7 = .pointer (some ⟨g, 0, none⟩) ∧ w3.heap.size ≤ g ∧ BoxR wx g (Rat.divInt z d) 70002 ∧ Below w3.heap.size w3 wx)
            case first =>
              go_region_held3 (fun _ => True) (trivial)
                (first
                  | (go_at_call 91; refine (show Calls _ _ _ _ _ from by rw [HZ.out.2.2.1]; exact trim_int z _).mono ?_; rintro e w4 ⟨rfl, hd4⟩
                     have hg4 : Below w3.heap.size w3 w4 := by (first | exact (Below.refl _ _).drew.trans hd4 | exact ((Below.refl _ _).drew.alloc (Nat.le_refl _) _).trans (hd4.mono (by simp)) | exact ((Below.refl _ _).alloc (Nat.le_refl _) _).drew.trans (hd4.mono (by simp)))
                     try (simp only [size_alloc_drew] at hd4; obtain ⟨k0, k1, k2, f0, f1, f2, kb⟩ := box3d (w := w3) ((Below.refl _ _).drew.trans hd4) w3.heap.size rfl)
                     clear hd4)
                  | (have hsecond := hg5; go_at_call 90; refine (show Calls _ _ _ _ _ from by rw [HZ.out.2.1]; exact natFrom_c _ _ HZ.out.2.2.2.2.2.2.2.1 (by have := HZ.out.2.2.2.2.1; omega)).mono ?_; rintro e w6 ⟨v6, rfl, q6, hd6⟩; clear hsecond
                     have he6 : Below w5.heap.size w5 w6 := by (first | exact hd6 | exact ((Below.refl _ _).alloc (Nat.le_refl _) _).trans (hd6.mono (by simp)))
                     have hg6 : Below w3.heap.size w3 w6 := hg5.trans (he6.mono hg5.size)
                     try (have kk := keep3 he6 kb; clear k0 k1 k2 f0 f1 f2 kb; obtain ⟨k0, k1, k2, f0, f1, f2, kb⟩ := kk)
                     try (simp only [size_alloc] at hd6; obtain ⟨k0, k1, k2, f0, f1, f2, kb⟩ := box3d hd6 w5.heap.size rfl)
                     have q5' := HQ5.out.below he6
                     rw [tv_text _ (by have := HZ.out.2.2.2.2.2.1; omega)] at q6
                     have HQ6 := hide (And.intro (q5'.more (show _ ≤ 70002 by (have := HZ.out.2.2.2.1; have := intText_dec_len z; omega))) (q6.more (show _ ≤ 70002 by (have := HZ.out.2.2.2.2.1; omega)))); clear q5' q6
                     clear hd6)
                  | (go_at_call 90; refine (natFrom_c _ _ (decText_digs _) (by have := HZ.out.2.2.2.1; have := intText_dec_len z; omega)).mono ?_; rintro e w5 ⟨v5, rfl, q5, hd5⟩
                     have he5 : Below w4.heap.size w4 w5 := by (first | exact hd5 | exact ((Below.refl _ _).alloc (Nat.le_refl _) _).trans (hd5.mono (by simp)))
                     have hg5 : Below w3.heap.size w3 w5 := hg4.trans (he5.mono hg4.size)
                     rw [tv_text _ (by omega)] at q5
                     have HQ5 := hide q5; clear q5
                     try (have kk := keep3 he5 kb; clear k0 k1 k2 f0 f1 f2 kb; obtain ⟨k0, k1, k2, f0, f1, f2, kb⟩ := kk)
                     try (simp only [size_alloc] at hd5; obtain ⟨k0, k1, k2, f0, f1, f2, kb⟩ := box3d hd5 w4.heap.size rfl)
                     clear hd5)
                  | (go_at_call 89; refine (lowest_c _ n _ _ (z.natAbs : Int) d 70002 (by (first | exact HQ6.out.1 | exact HQ6.out.1.below ((Below.refl _ _).alloc (Nat.le_refl _) _))) (by (first | exact HQ6.out.2 | exact HQ6.out.2.below ((Below.refl _ _).alloc (Nat.le_refl _) _))) (by omega) HZ.out.2.2.2.2.2.1).mono ?_; rintro e w7 ⟨v7, rfl, q7, hd7⟩
                     have he7 : Below w6.heap.size w6 w7 := by (first | exact hd7 | exact ((Below.refl _ _).alloc (Nat.le_refl _) _).trans (hd7.mono (by simp)))
                     have hg7 : Below w3.heap.size w3 w7 := hg6.trans (he7.mono hg6.size)
                     rw [HN.out, sgd_num] at q7
                     try (have kk := keep3 he7 kb; clear k0 k1 k2 f0 f1 f2 kb; obtain ⟨k0, k1, k2, f0, f1, f2, kb⟩ := kk)
                     try (simp only [size_alloc] at hd7; obtain ⟨k0, k1, k2, f0, f1, f2, kb⟩ := box3d hd7 w6.heap.size rfl)
                     (obtain ⟨s7, A7, n7, c7, B7, m7, d7, rfl⟩ := q7.shape)
                     have HQ7 := hide q7; clear q7 hd7))
              all_goals go_wp2_with fail
              all_goals go_meet
              all_goals (first | with_reducible exact BoxR.made hg7 HQ7.out | exact BoxR.stored (by have := hg4.size; have := hg5.size; have := hg6.size; omega) hg7 HQ7.out kb)
            case rest =>
              obtain ⟨g, rfl, hg0, ⟨s, A, m, c', B, m', d', hbx, hrat⟩, hbel4⟩ := hcut
              obtain ⟨k0, k1, k2⟩ := three_cells hbx
              have HR := hide (And.intro hrat (And.intro hbx (hbel3.trans (hbel4.mono hbel3.size)))); clear hrat hbx hbel4 hbel3 hbel
              go_wp2_with fail
              refine (string_c _ _ (Rat.divInt z d) 70002 HR.out.1 (by omega)).mono ?_
              rintro e w5 ⟨_, rfl, rfl, hd5⟩
              obtain ⟨k0', k1', k2'⟩ := three_cells (at_later HR.out.2.1 hd5)
              clear k0 k1 k2
              have HB5 := hide (And.intro (HR.out.1.below hd5) (HR.out.2.2.trans (hd5.mono HR.out.2.2.size))); clear hd5
              obtain ⟨tx, htx⟩ : ∃ tx, tx = str (ratText (Rat.divInt z d)) := ⟨_, rfl⟩
              rw [← htx]
              have hne := HTX.out
              rw [← htx] at hne
              have hbl : Below W.heap.size W w5 := HB5.out.2
              have hn3 : ¬ tx.toList = S.toList := by rw [htx, HX.out.1]; exact str_ne (ratText_byts2 _) HX.out.2.2.2.2.2.2.2.2.2.1 (fun e => HX.out.2.2.2.2.2.2.2.2.2.2 _ e.symm)
              have hn4 : (tx.toList == S.toList) = false := by rw [beq_eq_false_iff_ne]; exact hn3
              clear htx
              have hr6 := at_later HW.out.2.2 hbl
              obtain ⟨x0, x1, x2⟩ := three_cells hr6
              obtain ⟨f0, f1, f2⟩ := three_frozen hr6
              have hlt := lt_of_block hr6
              have HF := hide (And.intro hr6 (below_next HW.out.2.1 hbl)); clear hr6 hbl
              go_wp2
              refine bodyPost_ret (v := .tuple #[.agg #[.bool false, .slice none 0 0, .slice none 0 0], .int .i64 10]) ?_ rfl ?_
              · simp [results, Tryz.results38, go_sem, x0, x1, x2, hlt]
              exact ⟨_, rfl, _, rfl, ratZ _ 2, below_set3 HF.out.2 (Nat.le_refl _) _ _ _⟩
          · have hbl : Below W.heap.size W w3 := below_next hbel (below_next hd2 hd3)
            clear hd2 hd3 hbel
            by_cases hdn : d < 0
            · have hc45 : (c0 == 45) = true := by rw [hc3]; exact decide_eq_true hdn
              have hD48b := hd48 (by omega)
              have hD48 : ¬ D.toList = [48] := by rw [beq_eq_false_iff_ne] at hD48b; exact hD48b
              clear hd48 hd48b hc3 hd0 hdn
              have hr6 := at_later HW.out.2.2 hbl
              obtain ⟨x0, x1, x2⟩ := three_cells hr6
              obtain ⟨f0, f1, f2⟩ := three_frozen hr6
              have hlt := lt_of_block hr6
              have HF := hide (And.intro hr6 (below_next HW.out.2.1 hbl)); clear hr6 hbl
              go_wp2
              refine bodyPost_ret (v := .tuple #[.agg #[.bool false, .slice none 0 0, .slice none 0 0], .int .i64 10]) ?_ rfl ?_
              · simp [results, Tryz.results38, go_sem, x0, x1, x2, hlt]
              exact ⟨_, rfl, _, rfl, ratZ _ 2, below_set3 HF.out.2 (Nat.le_refl _) _ _ _⟩
            · have hc45 : (c0 == 45) = false := by rw [hc3]; exact decide_eq_false hdn
              have hDe := hd48b (by omega)
              clear hd48 hd48b hc3 hd0 hdn HC
              subst hDe
              have hr6 := at_later HW.out.2.2 hbl
              obtain ⟨x0, x1, x2⟩ := three_cells hr6
              obtain ⟨f0, f1, f2⟩ := three_frozen hr6
              have hlt := lt_of_block hr6
              have HF := hide (And.intro hr6 (below_next HW.out.2.1 hbl)); clear hr6 hbl
              go_wp2
              refine bodyPost_ret (v := .tuple #[.agg #[.bool false, .slice none 0 0, .slice none 0 0], .int .i64 10]) ?_ rfl ?_
              · simp [results, Tryz.results38, go_sem, x0, x1, x2, hlt]
              exact ⟨_, rfl, _, rfl, ratZ _ 2, below_set3 HF.out.2 (Nat.le_refl _) _ _ _⟩
end Go.Proofs.YthnnbpnocefmgaaGreat
