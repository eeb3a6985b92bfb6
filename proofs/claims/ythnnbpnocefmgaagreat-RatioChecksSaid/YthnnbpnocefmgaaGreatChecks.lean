import Derived.Test.YthnnbpnocefmgaaGreatRank9
import Derived.Test.YthnnbpnocefmgaaGreatAwake
import Derived.Test.YthnnbpnocefmgaaGreatOpenS
namespace Go.Proofs.YthnnbpnocefmgaaGreat
set_option linter.unusedVariables false
set_option linter.unusedSimpArgs false
open Go.RowKit
theorem RowV.upC {w : World} {v : Value} {qs : List Rat} {L L' : Nat} (h : RowV w v qs L) (hL : L ≤ L') : RowV w v qs L' := by
 obtain ⟨A, c, rfl, h1, h2, h3⟩ := h
 refine ⟨A, c, rfl, h1, h2, fun h0 => ?_⟩
 obtain ⟨b, o, e, h4⟩ := h3 h0
 refine ⟨b, o, e, fun i hi => ?_⟩
 obtain ⟨A1, n1, c1, A2, n2, c2, a1, a2, a3, a4, a5⟩ := h4 i hi
 exact ⟨A1, n1, c1, A2, n2, c2, a1, a2, a3, a4.more hL, a5.more hL⟩
theorem RowsV.upV {w : World} {v : Value} {rows : List (List Rat)} {L L' : Nat} (h : RowsV w v rows L) (hL : L ≤ L') : RowsV w v rows L' := by
 obtain ⟨A, c, rfl, h1, h2, h3⟩ := h
 refine ⟨A, c, rfl, h1, h2, fun h0 => ?_⟩
 obtain ⟨b, o, e, h4⟩ := h3 h0
 refine ⟨b, o, e, fun i hi => ?_⟩
 obtain ⟨u, a1, a2⟩ := h4 i hi
 exact ⟨u, a1, a2.upC hL⟩
theorem sysQ_range (b : Bool) (rows : List (List Rat)) (bs : List Rat) : 0 ≤ sysQ b rows bs ∧ sysQ b rows bs ≤ 100 := by
 unfold sysQ; split <;> (try split) <;> (try split) <;> (try split) <;> omega
set_option maxRecDepth 100000 in
set_option maxHeartbeats 8000000 in
theorem checks_law (w : World) (vl vb : Value) (ls : List (List ByteArray)) (bs0 : List ByteArray) {T : TypeId} (hl : LstV T 1 StrsE w vl ls) (hb : StrsE w vb bs0) :
  Calls Tryz.prog 10 #[vl, vb] w (Ret (fun v w' => v = .bool true ∧ Below w.heap.size w w')) := by
 obtain ⟨Tb, hb⟩ := hb
 go_enter Tryz.func10, Tryz.ntmps10
 go_wp2_with fail
 refine (matrix_c _ vl ls 41 41 hl (by omega) (by omega)).mono ?_
 rintro e w1 ⟨_, rfl, va, vm, rfl, ha, hm, hd1⟩
 have hb1 := LstV.below stB_str hb hd1
 clear hl hb
 go_wp2_with fail
 refine (list_c _ vb bs0 41 hb1 (by omega)).mono ?_
 rintro e w2 ⟨_, rfl, vv, vc, rfl, hv, hc, hd2⟩
 obtain ⟨rows, hrows⟩ : ∃ rows, rows = (ls.take 41).map (fracRow 41) := ⟨_, rfl⟩
 obtain ⟨bs, hbs⟩ : ∃ bs, bs = (bs0.take 41).map (fracOf 200) := ⟨_, rfl⟩
 have hN41 : rows.length ≤ 41 := by rw [hrows]; simp; omega
 have hK41 : bs.length ≤ 41 := by rw [hbs]; simp; omega
 rw [← hrows] at ha hm
 rw [← hbs] at hv hc
 have ha' : RowsV w2 va rows 23 := (RatE.rows ha).below hd2
 have hm' : QRows 23 w2 vm rows := QRows.below hm hd2
 have hv' : RowV w2 vv bs 23 := LstV.rowV hv
 have hc' : QRowE 23 w2 vc bs := hc
 obtain ⟨Aa, ca, rfl, ha1, ha2, -⟩ := id ha'
 obtain ⟨Am, cm, rfl, hm1, hm2, -⟩ := id hm'
 obtain ⟨Av, cv, rfl, hv1, hv2, -⟩ := id hv'
 obtain ⟨Ac, cc, rfl, hc1, hc2, -⟩ := id hc'
 unfold maxLen at ha2 hm2 hv2 hc2
 have HS := hide (ai ha' (ai hm' (ai hv' (ai hc' (bnx hd1 hd2)))))
 clear ha hm hv hc ha' hm' hv' hc' hd1 hd2 hb1 hrows hbs
 obtain ⟨N, hN⟩ : ∃ N, N = rows.length := ⟨_, rfl⟩
 obtain ⟨K, hK⟩ : ∃ K, K = bs.length := ⟨_, rfl⟩
 rw [← hN] at ha1 hm1 hN41 ⊢
 rw [← hK] at hv1 hc1 hK41 ⊢
 have HN := hide (ai hN hK)
 obtain ⟨s1, hs1⟩ : ∃ s, s = sysQ true rows bs := ⟨_, rfl⟩
 have hr1 := sysQ_range true rows bs
 rw [← hs1] at hr1
 obtain ⟨hr1, hr1'⟩ := hr1
 have H1 := hide (ai hs1 (hs1.trans (check_sys rows bs).symm))
 clear hN hK hs1
 go_wp2_with fail
 refine (system_any _ _ _ true rows bs 23 (by have := HS.out.2.1; rwa [← HN.out.1] at this) (by have := HS.out.2.2.2.1; rwa [← HN.out.2] at this) (by omega) (by rw [← HN.out.1]; omega)).mono ?_
 rintro e w3 ⟨_, rfl, rfl, hd3⟩
 rw [← H1.out.1]
 have HB := hide hd3
 clear hd3
 go_wp2_with fail
 refine (check_c _ _ _ rows bs 23 (by have := HS.out.1.below HB.out; rwa [← HN.out.1] at this) (by have := HS.out.2.2.1.below HB.out; rwa [← HN.out.2] at this) (by omega)).mono ?_
 rintro e w4 ⟨_, rfl, rfl, hd4⟩
 rw [← H1.out.2]
 replace HB := hide (bnx HB.out hd4)
 clear hd4
 obtain ⟨s2, hs2⟩ : ∃ s, s = sysQ false rows [] := ⟨_, rfl⟩
 have hr2 := sysQ_range false rows []
 rw [← hs2] at hr2
 obtain ⟨hr2, hr2'⟩ := hr2
 have H2 := hide (ai hs2 (hs2.trans (check_zeros rows []).symm))
 clear hs2
 by_cases hz2 : s2 = 0
 ·have h4 : Sys4 (rows.getD 0 []).length rows := sys4_of (bs := []) (by rw [← H2.out.1]; exact hz2)
  have H4 := hide h4
  have hrl := h4.rank_le
  have hwl := h4.wd_le
  subst hz2
  clear h4
  obtain ⟨rk, hrk⟩ : ∃ rk, rk = (solS rows).2.length := ⟨_, rfl⟩
  rw [← hrk] at hrl
  have hrk40 : rk ≤ 40 := by omega
  have HRK := hide hrk
  clear hrk hrl hwl
  go_wp2_with fail
  refine (rank_g _ _ rows _ (by have := RowsV.upV (L' := 21600) (HS.out.1.below HB.out) (by omega); rwa [← HN.out.1] at this) H4.out).mono ?_
  rintro e w5 ⟨_, rfl, rfl, hd5⟩
  rw [← HRK.out]
  replace HB := hide (bnx HB.out hd5)
  clear hd5
  go_wp2_with fail
  refine (system_any _ _ _ false rows [] 23 (by have := QRows.below HS.out.2.1 HB.out; rwa [← HN.out.1] at this) (LstV.nil _ _ _ _) (by omega) (by rw [← HN.out.1]; omega)).mono ?_
  rintro e w6 ⟨_, rfl, rfl, hd6⟩
  rw [← H2.out.1]
  replace HB := hide (bnx HB.out hd6)
  clear hd6
  by_cases h8 : N ≤ 8
  ·have d8 : decide ((N : Int) ≤ 8) = true := by apply decide_eq_true; omega
   go_wp2_with fail
   refine (rank9_c _ _ rows (by have := QRows.below HS.out.2.1 HB.out; rwa [← HN.out.1] at this) H4.out).mono ?_
   rintro e w7 ⟨_, rfl, rfl, hd7⟩
   rw [← HRK.out]
   replace HB := hide (bnx HB.out hd7)
   clear hd7
   by_cases hz1 : s1 = 0
   ·have hz1b : (s1 == 0) = true := by rw [hz1]; rfl
    clear hz1
    go_wp2_with fail
    refine (awake_c _).mono ?_
    rintro e w8 ⟨_, rfl, rfl, hd8⟩
    have H8 := hide (HS.out.2.2.2.2.trans ((bnx HB.out hd8).mono HS.out.2.2.2.2.size))
    clear hd8
    go_wp2
    go_ret
    exact ⟨_, rfl, rfl, H8.out⟩
   ·have hz1b : (s1 == 0) = false := by rw [beq_eq_false_iff_ne]; exact hz1
    have hck : checkQ rows bs ≠ 0 := by rw [← H1.out.2]; exact hz1
    have HCK := hide hck
    clear hz1 hck
    go_wp2_with fail
    refine (solve_bad _ _ _ rows bs 23 (by have := HS.out.1.below HB.out; rwa [← HN.out.1] at this) (by have := HS.out.2.2.1.below HB.out; rwa [← HN.out.2] at this) (by omega) HCK.out).mono ?_
    rintro e w6 ⟨_, rfl, rfl, hd6⟩
    rw [← H1.out.2]
    replace HB := hide (bnx HB.out hd6)
    clear hd6
    go_wp2_with fail
    refine (deny_bad _ _ _ rows bs 23 (by have := HS.out.1.below HB.out; rwa [← HN.out.1] at this) (by have := HS.out.2.2.1.below HB.out; rwa [← HN.out.2] at this) (by omega) HCK.out).mono ?_
    rintro e w7 ⟨_, rfl, rfl, hd7⟩
    replace HB := hide (bnx HB.out hd7)
    clear hd7
    have hmk := make_rat N (by omega)
    have hb7 : Below w7.heap.size w7 (w7.alloc (.cells (madeCells #[Value.bool false, .slice none 0 0, .slice none 0 0] (N * 3)) 35)) := below_al (Below.refl _ _) _
    have hz := (zero_row w7 N 23).row (c := N) (by simp) (by unfold maxLen; omega)
    rw [List.length_replicate] at hz
    have HZ := hide hz
    replace HB := hide (bnx HB.out hb7)
    clear hz hb7
    go_wp2_with fail
    refine (denies_bad _ _ _ _ rows bs (List.replicate N 0) 23 (by have := HS.out.1.below HB.out; rwa [← HN.out.1] at this) (by have := HS.out.2.2.1.below HB.out; rwa [← HN.out.2] at this) HZ.out (by omega) HCK.out).mono ?_
    rintro e w9 ⟨_, rfl, rfl, hd9⟩
    replace HB := hide (bnx HB.out hd9)
    clear hd9 hmk
    go_wp2_with fail
    refine (awake_c _).mono ?_
    rintro e w8 ⟨_, rfl, rfl, hd8⟩
    have H8 := hide (HS.out.2.2.2.2.trans ((bnx HB.out hd8).mono HS.out.2.2.2.2.size))
    clear hd8
    go_wp2
    go_ret
    exact ⟨_, rfl, rfl, H8.out⟩
  ·have d8 : decide ((N : Int) ≤ 8) = false := by apply decide_eq_false; omega
   by_cases hz1 : s1 = 0
   ·have hz1b : (s1 == 0) = true := by rw [hz1]; rfl
    clear hz1
    go_wp2_with fail
    refine (awake_c _).mono ?_
    rintro e w8 ⟨_, rfl, rfl, hd8⟩
    have H8 := hide (HS.out.2.2.2.2.trans ((bnx HB.out hd8).mono HS.out.2.2.2.2.size))
    clear hd8
    go_wp2
    go_ret
    exact ⟨_, rfl, rfl, H8.out⟩
   ·have hz1b : (s1 == 0) = false := by rw [beq_eq_false_iff_ne]; exact hz1
    have hck : checkQ rows bs ≠ 0 := by rw [← H1.out.2]; exact hz1
    have HCK := hide hck
    clear hz1 hck
    go_wp2_with fail
    refine (solve_bad _ _ _ rows bs 23 (by have := HS.out.1.below HB.out; rwa [← HN.out.1] at this) (by have := HS.out.2.2.1.below HB.out; rwa [← HN.out.2] at this) (by omega) HCK.out).mono ?_
    rintro e w6 ⟨_, rfl, rfl, hd6⟩
    rw [← H1.out.2]
    replace HB := hide (bnx HB.out hd6)
    clear hd6
    go_wp2_with fail
    refine (deny_bad _ _ _ rows bs 23 (by have := HS.out.1.below HB.out; rwa [← HN.out.1] at this) (by have := HS.out.2.2.1.below HB.out; rwa [← HN.out.2] at this) (by omega) HCK.out).mono ?_
    rintro e w7 ⟨_, rfl, rfl, hd7⟩
    replace HB := hide (bnx HB.out hd7)
    clear hd7
    have hmk := make_rat N (by omega)
    have hb7 : Below w7.heap.size w7 (w7.alloc (.cells (madeCells #[Value.bool false, .slice none 0 0, .slice none 0 0] (N * 3)) 35)) := below_al (Below.refl _ _) _
    have hz := (zero_row w7 N 23).row (c := N) (by simp) (by unfold maxLen; omega)
    rw [List.length_replicate] at hz
    have HZ := hide hz
    replace HB := hide (bnx HB.out hb7)
    clear hz hb7
    go_wp2_with fail
    refine (denies_bad _ _ _ _ rows bs (List.replicate N 0) 23 (by have := HS.out.1.below HB.out; rwa [← HN.out.1] at this) (by have := HS.out.2.2.1.below HB.out; rwa [← HN.out.2] at this) HZ.out (by omega) HCK.out).mono ?_
    rintro e w9 ⟨_, rfl, rfl, hd9⟩
    replace HB := hide (bnx HB.out hd9)
    clear hd9 hmk
    go_wp2_with fail
    refine (awake_c _).mono ?_
    rintro e w8 ⟨_, rfl, rfl, hd8⟩
    have H8 := hide (HS.out.2.2.2.2.trans ((bnx HB.out hd8).mono HS.out.2.2.2.2.size))
    clear hd8
    go_wp2
    go_ret
    exact ⟨_, rfl, rfl, H8.out⟩
 ·have hz2b : (s2 == 0) = false := by rw [beq_eq_false_iff_ne]; exact hz2
  have hz2c : (s2 != 0) = true := by rw [bne_iff_ne]; exact hz2
  have hck2 : checkQ rows (List.replicate rows.length 0) ≠ 0 := by rw [← H2.out.2]; exact hz2
  have HC2 := hide hck2
  clear hck2 hz2
  go_wp2_with fail
  refine (rank_bad _ _ rows 23 (by have := HS.out.1.below HB.out; rwa [← HN.out.1] at this) (by omega) (by rw [← HN.out.1]; omega) HC2.out).mono ?_
  rintro e w5 ⟨_, rfl, rfl, hd5⟩
  rw [← H2.out.2]
  replace HB := hide (bnx HB.out hd5)
  clear hd5
  go_wp2_with fail
  refine (system_any _ _ _ false rows [] 23 (by have := QRows.below HS.out.2.1 HB.out; rwa [← HN.out.1] at this) (LstV.nil _ _ _ _) (by omega) (by rw [← HN.out.1]; omega)).mono ?_
  rintro e w6 ⟨_, rfl, rfl, hd6⟩
  rw [← H2.out.1]
  replace HB := hide (bnx HB.out hd6)
  clear hd6
  by_cases hz1 : s1 = 0
  ·have hz1b : (s1 == 0) = true := by rw [hz1]; rfl
   clear hz1
   go_wp2_with fail
   refine (awake_c _).mono ?_
   rintro e w8 ⟨_, rfl, rfl, hd8⟩
   have H8 := hide (HS.out.2.2.2.2.trans ((bnx HB.out hd8).mono HS.out.2.2.2.2.size))
   clear hd8
   go_wp2
   go_ret
   exact ⟨_, rfl, rfl, H8.out⟩
  ·have hz1b : (s1 == 0) = false := by rw [beq_eq_false_iff_ne]; exact hz1
   have hck : checkQ rows bs ≠ 0 := by rw [← H1.out.2]; exact hz1
   have HCK := hide hck
   clear hz1 hck
   go_wp2_with fail
   refine (solve_bad _ _ _ rows bs 23 (by have := HS.out.1.below HB.out; rwa [← HN.out.1] at this) (by have := HS.out.2.2.1.below HB.out; rwa [← HN.out.2] at this) (by omega) HCK.out).mono ?_
   rintro e w6 ⟨_, rfl, rfl, hd6⟩
   rw [← H1.out.2]
   replace HB := hide (bnx HB.out hd6)
   clear hd6
   go_wp2_with fail
   refine (deny_bad _ _ _ rows bs 23 (by have := HS.out.1.below HB.out; rwa [← HN.out.1] at this) (by have := HS.out.2.2.1.below HB.out; rwa [← HN.out.2] at this) (by omega) HCK.out).mono ?_
   rintro e w7 ⟨_, rfl, rfl, hd7⟩
   replace HB := hide (bnx HB.out hd7)
   clear hd7
   have hmk := make_rat N (by omega)
   have hb7 : Below w7.heap.size w7 (w7.alloc (.cells (madeCells #[Value.bool false, .slice none 0 0, .slice none 0 0] (N * 3)) 35)) := below_al (Below.refl _ _) _
   have hz := (zero_row w7 N 23).row (c := N) (by simp) (by unfold maxLen; omega)
   rw [List.length_replicate] at hz
   have HZ := hide hz
   replace HB := hide (bnx HB.out hb7)
   clear hz hb7
   go_wp2_with fail
   refine (denies_bad _ _ _ _ rows bs (List.replicate N 0) 23 (by have := HS.out.1.below HB.out; rwa [← HN.out.1] at this) (by have := HS.out.2.2.1.below HB.out; rwa [← HN.out.2] at this) HZ.out (by omega) HCK.out).mono ?_
   rintro e w9 ⟨_, rfl, rfl, hd9⟩
   replace HB := hide (bnx HB.out hd9)
   clear hd9 hmk
   go_wp2_with fail
   refine (awake_c _).mono ?_
   rintro e w8 ⟨_, rfl, rfl, hd8⟩
   have H8 := hide (HS.out.2.2.2.2.trans ((bnx HB.out hd8).mono HS.out.2.2.2.2.size))
   clear hd8
   go_wp2
   go_ret
   exact ⟨_, rfl, rfl, H8.out⟩
end Go.Proofs.YthnnbpnocefmgaaGreat
