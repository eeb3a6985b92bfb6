/- The law of texts. -/
import Derived.Test.YthnnbpnocefmgaaGreatBadQ
import Derived.Test.YthnnbpnocefmgaaGreatInt9
import Derived.Test.YthnnbpnocefmgaaGreatCalc2
import Derived.Test.YthnnbpnocefmgaaGreatLen9
import Derived.Test.YthnnbpnocefmgaaGreatAwake
namespace Go.Proofs.YthnnbpnocefmgaaGreat
set_option linter.unusedVariables false
set_option linter.unusedSimpArgs false
open Go.RowKit
open Classical in
/-- the int64 that a fraction is, or 0 -/
noncomputable def intN (q : Rat) : Int := if intOk q then q.num else 0
open Classical in
noncomputable def intB (q : Rat) : Bool := decide (intOk q)
open Classical in
theorem intN_yes {q : Rat} (h : intOk q) : intN q = q.num := by unfold intN; rw [if_pos h]
open Classical in
theorem intN_no {q : Rat} (h : ¬ intOk q) : intN q = 0 := by unfold intN; rw [if_neg h]
open Classical in
theorem intB_yes {q : Rat} (h : intOk q) : intB q = true := by unfold intB; exact decide_eq_true h
open Classical in
theorem intB_no {q : Rat} (h : ¬ intOk q) : intB q = false := by unfold intB; exact decide_eq_false h
theorem below_alP {w w' : World} (h : Below w.heap.size w w') (o : Obj) : Below w.heap.size w (w'.alloc o) := h.alloc h.size o
theorem four_onlyP {w : World} {B : Nat} {a b c d : Value} {e : TypeId} (hh : w.heap[B]? = some (.cells #[a, b, c, d] e (0, 0))) :
    w.cell? ⟨B, 0, none⟩ = some a ∧ w.cell? ⟨B, 1, none⟩ = some b ∧ w.cell? ⟨B, 2, none⟩ = some c ∧ w.cell? ⟨B, 3, none⟩ = some d := by
  obtain ⟨h0, h1, h2, h3, _⟩ := four_cells hh
  exact ⟨h0, h1, h2, h3⟩
theorem qv_neg {w : World} {q : Rat} {s : Bool} {m m' : Value} {L : Nat} (hn : ZV w (.agg #[.bool s, m]) (-q.num) L) (hd : ZV w (.agg #[.bool false, m']) (q.den : Int) L) : QV w (.agg #[.bool s, m, .bool false, m']) (-q) L := by
  obtain ⟨m1, e1, l1⟩ := hn
  obtain ⟨m2, e2, l2⟩ := hd
  simp only [Value.agg.injEq, Array.mk.injEq, List.cons.injEq, Value.bool.injEq, and_true] at e1 e2
  obtain ⟨rfl, rfl⟩ := e1
  obtain ⟨-, rfl⟩ := e2
  exact ⟨_, _, by rw [Rat.neg_num], by rw [Rat.neg_num]; exact l1, by rw [Rat.neg_den]; exact l2⟩
set_option maxRecDepth 100000 in
set_option maxHeartbeats 8000000 in
theorem parses_law (w : World) (s : ByteArray) (hs : s.size ≤ 140737488355328) :
    Calls Tryz.prog 6 #[.string s] w (Ret (fun v w' => v = .bool true ∧ Below w.heap.size w w')) := by
  obtain ⟨S, hS, hS2, hSz⟩ : ∃ S : ByteArray, (14000 < s.size → S = s.extract 0 14000) ∧ (¬ 14000 < s.size → S = s) ∧ S.size ≤ 14000 := by
    by_cases h : 14000 < s.size
    · exact ⟨_, fun _ => rfl, fun h2 => absurd h h2, by rw [ByteArray.size_extract]; omega⟩
    · exact ⟨s, fun h2 => absurd h2 h, fun _ => rfl, by omega⟩
  have HS := hide (And.intro hS hS2)
  clear hS hS2
  have hsl : ∀ w' : World, 14000 < s.size → (Instr.slice 9 (.string s) none (some (.int .i64 14000)) none).run Tryz.prog w' = .ok (.string S) w' := fun w' hlt => by
    rw [run_slice_string_h w' 9 s (by kernel_rfl) .i64 14000 (by omega) (by omega), HS.out.1 hlt]; rfl
  go_enter Tryz.func6, Tryz.ntmps6
  go_upto_if 13 with fail
  go_cut [0] (fun s0 wx => s0 = .string S ∧ wx = w)
  case first =>
    by_cases h : 14000 < s.size
    · have d1 : decide ((14000 : Int) < (s.size : Int)) = true := by apply decide_eq_true; omega
      have hsl2 := hsl w h
      go_wp2
      go_meet
      exact ⟨rfl, rfl⟩
    · have d1 : decide ((14000 : Int) < (s.size : Int)) = false := by apply decide_eq_false; omega
      have hE := HS.out.2 h
      subst hE
      go_wp2
      go_meet
      exact ⟨rfl, rfl⟩
  case rest =>
    obtain ⟨rfl, rfl⟩ := hcut
    clear hsl HS hs
    have hbs := str_bytes S
    have hby := bytesOf_byts S
    have hlen : (bytesOf S).length = S.size := by rw [← str_size, hbs]
    obtain ⟨bs, hbs2⟩ : ∃ bs, bs = bytesOf S := ⟨_, rfl⟩
    rw [← hbs2] at hbs hby hlen
    have HB := hide (And.intro hbs.symm (And.intro hby hlen))
    clear hbs hby hlen hbs2
    go_wp2_with fail
    refine (show Calls _ _ _ _ _ from by rw [HB.out.1]; exact read9_c _ bs HB.out.2.1 (by rw [HB.out.2.2]; omega)).mono ?_
    rintro e w1 ⟨_, rfl, u, ok, rfl, hd1, hcase⟩
    rcases hcase with ⟨rfl, q, htx, hq⟩ | ⟨rfl, hno, rfl⟩
    · have hfq : FracQ 14000 q := FracQ.of_text (by rw [← htx, HB.out.2.2]; exact hSz) (by omega)
      replace hq : QV w1 u q 1556 := hq.fit hfq
      obtain ⟨t1, A1, n1, c1, B1, m1, d1, rfl, -⟩ := QV.parts hq
      obtain ⟨W1, hW1⟩ : ∃ W1, W1 = w1.alloc (.cells #[.bool t1, .slice A1 n1 c1, .bool false, .slice B1 m1 d1] 41) := ⟨_, rfl⟩
      have hda : Below w1.heap.size w1 W1 := by rw [hW1]; exact (Below.refl _ _).alloc (Nat.le_refl _) _
      have hb1 : W1.heap[w1.heap.size]? = some (.cells #[.bool t1, .slice A1 n1 c1, .bool false, .slice B1 m1 d1] 41 (0, 0)) := by rw [hW1]; exact at_new _ _
      have HW := hide (And.intro (below_next hd1 hda) (And.intro hb1 (hq.below hda)))
      have HL := hide hW1
      have HT := hide (And.intro htx hfq)
      clear hd1 hda hW1 htx hfq hb1 hq
      go_wp2_with fail
      rw [← HL.out]
      clear HL
      refine (show Calls _ _ _ _ _ from by rw [HB.out.1, HT.out.1]; exact parse_c _ q (by rw [← HT.out.1, HB.out.2.2]; omega)).mono ?_
      rintro e w2 ⟨_, rfl, hd2, hor⟩
      rcases hor with ⟨_, r, rfl, hr⟩ | ⟨hs2, _⟩
      rotate_left
      · exact absurd (HT.out.2.small (by omega)) hs2
      replace hr : RatV w2 r q 1556 := hr.fit HT.out.2.fit
      obtain ⟨s2, A2, n2, c2, B2, m2, d2, rfl⟩ := hr.shape
      obtain ⟨W2, hW2⟩ : ∃ W2, W2 = w2.alloc (.cells #[.bool s2, .slice A2 n2 c2, .slice B2 m2 d2] 35) := ⟨_, rfl⟩
      have hda : Below w2.heap.size w2 W2 := by rw [hW2]; exact (Below.refl _ _).alloc (Nat.le_refl _) _
      have hb2 : W2.heap[w2.heap.size]? = some (.cells #[.bool s2, .slice A2 n2 c2, .slice B2 m2 d2] 35 (0, 0)) := by rw [hW2]; exact at_new _ _
      have hdb := below_next hd2 hda
      have HX := hide (And.intro (at_later HW.out.2.1 hdb) (And.intro (HW.out.2.2.below hdb) (And.intro hb2 (And.intro (hr.below hda) (below_next HW.out.1 hdb)))))
      have HL := hide hW2
      clear hd2 hda hW2 hb2 hdb hr HW
      go_upto_region 7 with fail
      rw [← HL.out]
      clear HL
      go_cut [45] (fun s45 wx => s45 = .bool false ∧ Below W2.heap.size W2 wx)
      case first =>
        by_cases h6 : 6000 < S.size
        · have d1 : decide ((6000 : Int) < (S.size : Int)) = true := by apply decide_eq_true; omega
          obtain ⟨k0, k1, k2, k3⟩ := four_onlyP HX.out.1
          go_wp2_with fail
          refine (fits9_yes _ _ q 1556 HX.out.2.1 (by omega)).mono ?_
          rintro e w5 ⟨_, rfl, rfl, hd⟩
          go_wp2_with fail
          go_meet
          exact ⟨rfl, hd⟩
        · have d1 : decide ((6000 : Int) < (S.size : Int)) = false := by apply decide_eq_false; omega
          go_wp2_with fail
          go_meet
          exact ⟨rfl, Below.refl _ _⟩
      case rest =>
        obtain ⟨rfl, hbel⟩ := hcut
        rename World => W3
        replace HX := hide (And.intro (at_later HX.out.1 hbel) (And.intro (HX.out.2.1.below hbel) (And.intro (at_later HX.out.2.2.1 hbel) (And.intro (HX.out.2.2.2.1.below hbel) (below_next HX.out.2.2.2.2 hbel)))))
        clear hbel
        obtain ⟨dn, hdn⟩ : ∃ b, b = decide (q.den = 1) := ⟨_, rfl⟩
        go_upto_region 10 with fail
        go_cut [60] (fun s60 wx => s60 = .bool dn ∧ Below W3.heap.size W3 wx)
        case first =>
          as_aux_lemma =>
            have hdr : Below W3.heap.size W3 W3.drew := (Below.refl _ _).drew
            have hSS : ∀ w', Below W3.heap.size W3 w' → w'.cell? ⟨w1.heap.size, 0, none⟩ = some (.bool t1) ∧ w'.cell? ⟨w1.heap.size, 1, none⟩ = some (.slice A1 n1 c1) ∧ w'.cell? ⟨w1.heap.size, 2, none⟩ = some (.bool false) ∧ w'.cell? ⟨w1.heap.size, 3, none⟩ = some (.slice B1 m1 d1) := fun w' h => four_onlyP (at_later HX.out.1 h)
            have hS0 := hSS _ hdr
            have HSS := hide hSS
            obtain ⟨_, _, _, _, _, _, _, e, -, hz⟩ := HX.out.2.1.parts
            simp only [Value.agg.injEq, Array.mk.injEq, List.cons.injEq, Value.bool.injEq, Value.slice.injEq, and_true, true_and] at e
            obtain ⟨e1, ⟨e2, e3, e4⟩, e5, e6, e7⟩ := e
            subst e5 e6 e7
            have hsg : sgn (q.den : Int) 1 = if dn = true then 0 else 1 := by
              rw [hdn]
              have := den_pos q
              by_cases h1 : q.den = 1
              · rw [h1]; simp [sgn]
              · have h2 : ¬ (q.den : Int) < 1 := by omega
                have h3 : (1 : Int) < (q.den : Int) := by omega
                simp [sgn, h1, h2, h3]
            obtain ⟨cv, hcv⟩ : ∃ c : Int, c = if dn = true then 0 else 1 := ⟨_, rfl⟩
            have hcv2 : (cv == 0) = dn := by rw [hcv]; cases dn <;> rfl
            rw [← hcv] at hsg
            have HZ := hide (And.intro hz hsg)
            have hdp := den_pos q
            clear hz hsg hSS e1 e2 e3 e4 hcv hdn
            go_region_held3 (fun w' => w'.cell? ⟨w1.heap.size, 0, none⟩ = some (.bool t1) ∧ w'.cell? ⟨w1.heap.size, 1, none⟩ = some (.slice A1 n1 c1) ∧ w'.cell? ⟨w1.heap.size, 2, none⟩ = some (.bool false) ∧ w'.cell? ⟨w1.heap.size, 3, none⟩ = some (.slice B1 m1 d1))
              (first | with_reducible exact hS0 | with_reducible exact HSS.out _ hg4 | with_reducible exact HSS.out _ hg5 | (go_keep; done))
              (first
                | (go_at_call 31; refine (of9_c _ 1 (by omega) (by omega)).mono ?_; rintro e w4 ⟨v4, rfl, hv4, hd4⟩; have hg4 : Below W3.heap.size W3 w4 := hdr.trans hd4; (obtain ⟨s4, A4, n4, c4, rfl, hs4, _⟩ := hv4.parts); clear hs4; have HV4 := hide hv4; clear hv4 hd4)
                | (go_at_call 40; refine (cmpz_c _ _ _ (q.den : Int) 1 1556 3 (HZ.out.1.below hg4) HV4.out (by omega) (by omega) (by omega) (by omega)).mono ?_; rintro e w5 ⟨_, rfl, rfl, hd5⟩; rw [HZ.out.2]; have hg5 : Below W3.heap.size W3 w5 := hg4.trans (hd5.mono hg4.size); clear hd5))
            all_goals
              clear hS0
              go_wp2_with fail
              go_meet
              exact ⟨rfl, hg5⟩
        case rest =>
          obtain ⟨rfl, hbel⟩ := hcut
          rename World => W4
          replace HX := hide (And.intro (at_later HX.out.1 hbel) (And.intro (HX.out.2.1.below hbel) (And.intro (at_later HX.out.2.2.1 hbel) (And.intro (HX.out.2.2.2.1.below hbel) (below_next HX.out.2.2.2.2 hbel)))))
          clear hbel
          go_upto_if 60 with fail
          go_cut [7, 8] (fun s7 s8 wx => s7 = .int .i64 (intN q) ∧ s8 = .bool (intB q) ∧ Below W4.heap.size W4 wx)
          case first =>
            by_cases h1 : q.den = 1
            · have hdt : dn = true := by rw [hdn]; exact decide_eq_true h1
              subst hdt
              have H1 := hide h1
              clear h1 hdn
              obtain ⟨k0, k1, k2, k3⟩ := four_onlyP HX.out.1
              obtain ⟨_, _, _, _, _, _, _, e, hz, -⟩ := HX.out.2.1.parts
              simp only [Value.agg.injEq, Array.mk.injEq, List.cons.injEq, Value.bool.injEq, Value.slice.injEq, and_true, true_and] at e
              obtain ⟨e1, ⟨e2, e3, e4⟩, e5, e6, e7⟩ := e
              subst e1 e2 e3 e4
              have HZ := hide hz
              clear hz e5 e6 e7
              go_wp2_with fail
              refine (int649_c _ _ q.num 1556 HZ.out (by omega)).mono ?_
              rintro e w5 ⟨_, rfl, hcase, hd⟩
              rcases hcase with ⟨l1, l2, rfl⟩ | ⟨hno, rfl⟩
              · have ho : intOk q := ⟨H1.out, l1, l2⟩
                have HO := hide (And.intro (intN_yes ho) (intB_yes ho))
                clear ho
                go_wp2_with fail
                go_meet
                exact ⟨by rw [HO.out.1], by rw [HO.out.2], hd⟩
              · have ho : ¬ intOk q := fun h => hno ⟨h.2.1, h.2.2⟩
                have HO := hide (And.intro (intN_no ho) (intB_no ho))
                clear ho
                go_wp2_with fail
                go_meet
                exact ⟨by rw [HO.out.1], by rw [HO.out.2], hd⟩
            · have hdt : dn = false := by rw [hdn]; exact decide_eq_false h1
              subst hdt
              have ho : ¬ intOk q := fun h => h1 h.1
              have HO := hide (And.intro (intN_no ho) (intB_no ho))
              clear ho h1 hdn
              go_wp2_with fail
              go_meet
              exact ⟨by rw [HO.out.1], by rw [HO.out.2], Below.refl _ _⟩
          case rest =>
            obtain ⟨rfl, rfl, hbel⟩ := hcut
            rename World => W5
            replace HX := hide (And.intro (at_later HX.out.1 hbel) (And.intro (HX.out.2.1.below hbel) (And.intro (at_later HX.out.2.2.1 hbel) (And.intro (HX.out.2.2.2.1.below hbel) (below_next HX.out.2.2.2.2 hbel)))))
            clear hbel hdn
            obtain ⟨k0, k1, k2⟩ := three_cells HX.out.2.2.1
            go_wp2_with fail
            refine (int64_q _ _ q 1556 HX.out.2.2.2.1).mono ?_
            rintro e W6 ⟨vv, rfl, hcase, hd⟩
            obtain ⟨vi, hvi⟩ : ∃ x, x = intN q := ⟨_, rfl⟩
            obtain ⟨vo, hvo⟩ : ∃ x, x = intB q := ⟨_, rfl⟩
            rw [← hvi, ← hvo]
            have hval : vv = Value.tuple #[.int .i64 vi, .bool vo] := by
              rcases hcase with ⟨ho, e⟩ | ⟨ho, e⟩
              · rw [e, hvi, hvo, intN_yes ho, intB_yes ho]
              · rw [e, hvi, hvo, intN_no ho, intB_no ho]
            subst hval
            clear hcase hvi hvo k0 k1 k2
            replace HX := hide (And.intro (at_later HX.out.1 hd) (And.intro (HX.out.2.1.below hd) (And.intro (at_later HX.out.2.2.1 hd) (And.intro (HX.out.2.2.2.1.below hd) (below_next HX.out.2.2.2.2 hd)))))
            clear hd
            go_upto_region 13 with fail
            have hg : Below W6.heap.size W6 W6.drew := (Below.refl _ _).drew
            have hSS : ∀ w', Below W6.heap.size W6 w' → w'.cell? ⟨w1.heap.size, 0, none⟩ = some (.bool t1) ∧ w'.cell? ⟨w1.heap.size, 1, none⟩ = some (.slice A1 n1 c1) ∧ w'.cell? ⟨w1.heap.size, 2, none⟩ = some (.bool false) ∧ w'.cell? ⟨w1.heap.size, 3, none⟩ = some (.slice B1 m1 d1) ∧ w'.cell? ⟨w2.heap.size, 0, none⟩ = some (.bool s2) ∧ w'.cell? ⟨w2.heap.size, 1, none⟩ = some (.slice A2 n2 c2) ∧ w'.cell? ⟨w2.heap.size, 2, none⟩ = some (.slice B2 m2 d2) := fun w' h => by
              obtain ⟨a, b, c, d⟩ := four_onlyP (at_later HX.out.1 h)
              exact ⟨a, b, c, d, three_cells (at_later HX.out.2.2.1 h)⟩
            have HSS := hide hSS
            obtain ⟨_, _, _, _, _, _, _, e, hz1, hz2⟩ := HX.out.2.1.parts
            simp only [Value.agg.injEq, Array.mk.injEq, List.cons.injEq, Value.bool.injEq, Value.slice.injEq, and_true, true_and] at e
            obtain ⟨e1, ⟨e2, e3, e4⟩, e5, e6, e7⟩ := e
            subst e1 e2 e3 e4 e5 e6 e7
            have HZ := hide (And.intro hz1 hz2)
            have HSB := hide (show S = str (ratText q) from by rw [HB.out.1, HT.out.1])
            obtain ⟨zz, hzz⟩ : ∃ z, sgnQ q = z := ⟨_, rfl⟩
            have HZZ := hide hzz
            clear hz1 hz2 hSS hzz
            go_region_held3 (fun w' => w'.cell? ⟨w1.heap.size, 0, none⟩ = some (.bool t1) ∧ w'.cell? ⟨w1.heap.size, 1, none⟩ = some (.slice A1 n1 c1) ∧ w'.cell? ⟨w1.heap.size, 2, none⟩ = some (.bool false) ∧ w'.cell? ⟨w1.heap.size, 3, none⟩ = some (.slice B1 m1 d1) ∧ w'.cell? ⟨w2.heap.size, 0, none⟩ = some (.bool s2) ∧ w'.cell? ⟨w2.heap.size, 1, none⟩ = some (.slice A2 n2 c2) ∧ w'.cell? ⟨w2.heap.size, 2, none⟩ = some (.slice B2 m2 d2))
              (first | with_reducible exact HSS.out _ hg | (go_keep; done))
              (first
                | (go_at_call 43; refine (string_c _ _ q 1556 (HX.out.2.2.2.1.below hg) (by omega)).mono ?_; rintro e wa ⟨_, rfl, rfl, hd⟩; (try replace HN := hide (HN.out.below hd)); (try replace HDn := hide (HDn.out.below hd)); (try replace HNg := hide (HNg.out.below hd)); (try replace HO := hide (HO.out.below hd)); (try replace HNz := hide (HNz.out.below hd)); rw [← HSB.out]; replace hg := hg.trans (hd.mono hg.size); clear hd)
                | (go_at_call 33; refine (sign_q _ _ q 1556 (HX.out.2.2.2.1.below hg)).mono ?_; rintro e wb ⟨_, rfl, rfl, hd⟩; (try replace HN := hide (HN.out.below hd)); (try replace HDn := hide (HDn.out.below hd)); (try replace HNg := hide (HNg.out.below hd)); (try replace HO := hide (HO.out.below hd)); (try replace HNz := hide (HNz.out.below hd)); rw [HZZ.out]; replace hg := hg.trans (hd.mono hg.size); clear hd)
                | (go_at_call 32; refine (sgn9_c _ _ q 1556 (HX.out.2.1.below hg)).mono ?_; rintro e wc ⟨_, rfl, rfl, hd⟩; (try replace HN := hide (HN.out.below hd)); (try replace HDn := hide (HDn.out.below hd)); (try replace HNg := hide (HNg.out.below hd)); (try replace HO := hide (HO.out.below hd)); (try replace HNz := hide (HNz.out.below hd)); rw [HZZ.out]; replace hg := hg.trans (hd.mono hg.size); clear hd)
                | (go_at_call 44; refine (num_q _ _ q 1556 (HX.out.2.2.2.1.below hg)).mono ?_; rintro e wd ⟨vn, rfl, hv, hd⟩; (try replace HN := hide (HN.out.below hd)); (try replace HDn := hide (HDn.out.below hd)); (try replace HNg := hide (HNg.out.below hd)); (try replace HO := hide (HO.out.below hd)); (try replace HNz := hide (HNz.out.below hd)); (obtain ⟨sn, An, nn, cn, Bn, mn, dn2, rfl⟩ := hv.shape); have HN := hide hv; clear hv; replace hg := hg.trans (hd.mono hg.size); clear hd)
                | (go_at_call 45; refine (den_q _ _ q 1556 (HX.out.2.2.2.1.below hg) (by omega)).mono ?_; rintro e we ⟨vd, rfl, hv, hd⟩; (try replace HN := hide (HN.out.below hd)); (try replace HDn := hide (HDn.out.below hd)); (try replace HNg := hide (HNg.out.below hd)); (try replace HO := hide (HO.out.below hd)); (try replace HNz := hide (HNz.out.below hd)); (obtain ⟨sd, Ad, nd, cd, Bd, md, dd2, rfl⟩ := hv.shape); have HDn := hide hv; clear hv; replace hg := hg.trans (hd.mono hg.size); clear hd)
                | (go_at_call 35; refine (neg_q _ _ q 1556 (HX.out.2.2.2.1.below hg)).mono ?_; rintro e wf ⟨vg, rfl, hv, hd⟩; (try replace HN := hide (HN.out.below hd)); (try replace HDn := hide (HDn.out.below hd)); (try replace HNg := hide (HNg.out.below hd)); (try replace HO := hide (HO.out.below hd)); (try replace HNz := hide (HNz.out.below hd)); (obtain ⟨sg, Ag, ng, cg, Bg, mg, dg2, rfl⟩ := hv.shape); have HNg := hide hv; clear hv; replace hg := hg.trans (hd.mono hg.size); clear hd)
                | (go_at_call 31; refine (of9_c _ 1 (by omega) (by omega)).mono ?_; rintro e wg ⟨vo9, rfl, hv, hd⟩; (try replace HN := hide (HN.out.below hd)); (try replace HDn := hide (HDn.out.below hd)); (try replace HNg := hide (HNg.out.below hd)); (try replace HO := hide (HO.out.below hd)); (try replace HNz := hide (HNz.out.below hd)); (obtain ⟨so, Ao, no, co, rfl, hso, _⟩ := hv.parts); (obtain rfl : so = false := by rw [hso]; rfl); (try clear HO); have HO := hide hv; clear hv hso; replace hg := hg.trans (hd.mono hg.size); clear hd)
                | (go_at_call 46; refine (neg9_c _ _ q.num 1556 (HZ.out.1.below hg) (by omega)).mono ?_; rintro e wh ⟨vz, rfl, hv, hd⟩; (try replace HN := hide (HN.out.below hd)); (try replace HDn := hide (HDn.out.below hd)); (try replace HNg := hide (HNg.out.below hd)); (try replace HO := hide (HO.out.below hd)); (try replace HNz := hide (HNz.out.below hd)); (obtain ⟨sz, Az, nz, cz, rfl, hsz2, _⟩ := hv.parts); clear hsz2; have HNz := hide hv; clear hv; replace hg := hg.trans (hd.mono hg.size); clear hd)
                | (go_at_call 28; refine (is_c _ _ _ ((q.num : Int) : Rat) 1556 HN.out (qv_int (HZ.out.1.below hg) (HO.out.more (by omega))) (by omega)).mono ?_; rintro e wi ⟨_, rfl, rfl, hd⟩; (try replace HN := hide (HN.out.below hd)); (try replace HDn := hide (HDn.out.below hd)); (try replace HNg := hide (HNg.out.below hd)); (try replace HO := hide (HO.out.below hd)); (try replace HNz := hide (HNz.out.below hd)); (try clear HN); replace hg := hg.trans (hd.mono hg.size); clear hd)
                | (go_at_call 28; refine (is_c _ _ _ ((q.den : Int) : Rat) 1558 HDn.out (qv_int ((HZ.out.2.below hg).more (by omega)) (HO.out.more (by omega))) (by omega)).mono ?_; rintro e wj ⟨_, rfl, rfl, hd⟩; (try replace HN := hide (HN.out.below hd)); (try replace HDn := hide (HDn.out.below hd)); (try replace HNg := hide (HNg.out.below hd)); (try replace HO := hide (HO.out.below hd)); (try replace HNz := hide (HNz.out.below hd)); (try clear HDn); replace hg := hg.trans (hd.mono hg.size); clear hd)
                | (go_at_call 28; refine (is_c _ _ _ (-q) 1556 HNg.out (qv_neg HNz.out (HZ.out.2.below hg)) (by omega)).mono ?_; rintro e wk ⟨_, rfl, rfl, hd⟩; (try replace HN := hide (HN.out.below hd)); (try replace HDn := hide (HDn.out.below hd)); (try replace HNg := hide (HNg.out.below hd)); (try replace HO := hide (HO.out.below hd)); (try replace HNz := hide (HNz.out.below hd)); (try clear HNg); replace hg := hg.trans (hd.mono hg.size); clear hd)
                | (go_at_call 17; refine (awake_c _).mono ?_; rintro e wl ⟨_, rfl, rfl, hd⟩; (try replace HN := hide (HN.out.below hd)); (try replace HDn := hide (HDn.out.below hd)); (try replace HNg := hide (HNg.out.below hd)); (try replace HO := hide (HO.out.below hd)); (try replace HNz := hide (HNz.out.below hd)); skip; replace hg := hg.trans (hd.mono hg.size); clear hd))
            all_goals
              have HF := hide (below_next HX.out.2.2.2.2 hg)
              clear hg
              go_wp2
              go_ret
              exact ⟨_, rfl, rfl, HF.out⟩
    · obtain ⟨W1, hW1⟩ : ∃ W1, W1 = w1.alloc (.cells #[.bool false, .slice none 0 0, .bool false, .slice none 0 0] 41) := ⟨_, rfl⟩
      have hda : Below w1.heap.size w1 W1 := by rw [hW1]; exact (Below.refl _ _).alloc (Nat.le_refl _) _
      have HW := hide (below_next hd1 hda)
      have HL := hide hW1
      have HN := hide hno
      clear hd1 hda hW1 hno
      unfold noneQ
      go_wp2_with fail
      rw [← HL.out]
      refine (show Calls _ _ _ _ _ from by rw [HB.out.1]; exact parse_no _ bs HB.out.2.1 (by rw [HB.out.2.2]; omega) HN.out).mono ?_
      rintro e w2 ⟨_, rfl, u, rfl, hr, hd2⟩
      obtain ⟨s2, A2, n2, c2, B2, m2, d2, rfl⟩ := hr.shape
      have hdb := below_next hd2 (below_alP (Below.refl _ _) (.cells #[.bool s2, .slice A2 n2 c2, .slice B2 m2 d2] 35))
      have HR := hide (And.intro (hr.below (below_alP (Below.refl _ _) (.cells #[.bool s2, .slice A2 n2 c2, .slice B2 m2 d2] 35))) (below_next HW.out hdb))
      clear hr hd2 hdb HL
      go_wp2_with fail
      refine (sign_q _ _ 0 2 HR.out.1).mono ?_
      rintro e w3 ⟨_, rfl, rfl, hd3⟩
      rw [show sgnQ 0 = 0 from rfl]
      have H3 := hide (below_next HR.out.2 hd3)
      clear hd3
      go_wp2_with fail
      refine (awake_c _).mono ?_
      rintro e w4 ⟨_, rfl, rfl, hd4⟩
      have H4 := hide (below_next H3.out hd4)
      clear hd4
      go_wp2
      go_ret
      exact ⟨_, rfl, rfl, H4.out⟩
end Go.Proofs.YthnnbpnocefmgaaGreat
