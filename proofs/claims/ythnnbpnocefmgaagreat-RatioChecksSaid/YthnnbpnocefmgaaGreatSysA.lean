import Derived.Test.YthnnbpnocefmgaaGreatDenR
namespace Go.Proofs.YthnnbpnocefmgaaGreat
set_option linter.unusedVariables false
set_option linter.unusedSimpArgs false
open Go.RowKit
def digR (wth : Bool) (rows : List (List Rat)) (bs : List Rat) (i : Nat) : Bool := anyB (fun j => digitsB 60 ((rows.getD i []).getD j 0)) (rows.getD i []).length || (wth && digitsB 60 (bs.getD i 0))
def sysQ (wth : Bool) (rows : List (List Rat)) (bs : List Rat) : Int :=
 if 40 < rows.length ∨ 40 < (rows.getD 0 []).length then 2
 else if anyB (shapeB rows) rows.length = true then 7
 else if wth = true ∧ bs.length ≠ rows.length then 7
 else if anyB (digR wth rows bs) rows.length = true then 11 else 0
theorem no_shape {rows : List (List Rat)} (h : ∀ r, r < rows.length → (rows.getD r []).length = (rows.getD 0 []).length) : ¬ anyB (shapeB rows) rows.length = true := by
 rw [anyB_none fun i hi => by unfold shapeB; exact decide_eq_false (by rw [h i hi]; simp)]; simp
set_option maxRecDepth 100000 in
set_option maxHeartbeats 2000000 in
theorem system_any (w : World) (va vb : Value) (wth : Bool) (rows : List (List Rat)) (bs : List Rat) (L : Nat) (ha : QRows L w va rows) (hb : QRowE L w vb bs) (hL : L ≤ 1000000000) (hbig : rows.length ≤ 1000) :
  Calls Tryz.prog 56 #[va, vb, .bool wth] w (Ret (fun v w' => v = .int .i64 (sysQ wth rows bs) ∧ Below w.heap.size w w')) := by
 obtain ⟨A, c, rfl, hc, hm, _⟩ := id ha
 obtain ⟨B, d, rfl, hd1, hd2, _⟩ := id hb
 unfold maxLen at hm hd2
 have HA := hide (ai ha hb)
 clear ha hb
 obtain ⟨N, hN⟩ : ∃ N, N = rows.length := ⟨_, rfl⟩
 obtain ⟨wd, hwd⟩ : ∃ wd, wd = (rows.getD 0 []).length := ⟨_, rfl⟩
 obtain ⟨K, hK⟩ : ∃ K, K = bs.length := ⟨_, rfl⟩
 rw [← hK] at hd1 ⊢
 rw [← hN] at hc hbig ⊢
 have HN := hide (ai hN (ai hwd hK))
 clear hN hwd hK
 by_cases h40 : 40 < N
 ·have d1 : decide (40 < (N : Int)) = true := by apply decide_eq_true; omega
  go_enter Tryz.func56, Tryz.ntmps56
  go_wp2
  refine bodyPost_ret (v := .int .i64 2) ?_ rfl ?_
  ·simp [results, Tryz.results56, go_sem]
  exact ⟨_, rfl, by unfold sysQ; rw [if_pos (.inl (by rw [← HN.out.1]; exact h40))], Below.refl _ _⟩
 ·have d1 : decide (40 < (N : Int)) = false := by apply decide_eq_false; omega
  go_enter Tryz.func56, Tryz.ntmps56
  go_wp2_with fail
  refine (columns_c _ _ rows L (by have := HA.out.1; rwa [← HN.out.1] at this)).mono ?_
  rintro e w1 ⟨_, rfl, rfl, rfl⟩
  rw [← HN.out.2.1]
  by_cases hw40 : 40 < wd
  ·have d2 : decide (40 < (wd : Int)) = true := by apply decide_eq_true; omega
   go_wp2
   refine bodyPost_ret (v := .int .i64 2) ?_ rfl ?_
   ·simp [results, Tryz.results56, go_sem]
   exact ⟨_, rfl, by unfold sysQ; rw [if_pos (.inr (by rw [← HN.out.2.1]; exact hw40))], Below.refl _ _⟩
  ·have d2 : decide (40 < (wd : Int)) = false := by apply decide_eq_false; omega
   have hlim : ¬ (40 < rows.length ∨ 40 < (rows.getD 0 []).length) := by rw [← HN.out.1, ← HN.out.2.1]; omega
   have HLM := hide hlim
   clear hlim
   go_wp2
   go_loopw [7] (fun s7 wr => ∃ i : Nat, i ≤ N ∧ s7 = .int .i64 i ∧ (∀ r, r < i → (rows.getD r []).length = wd) ∧ Below w.heap.size w wr) (fun s7 _ => N - (intOf s7).toNat)
   case atStart => exact ⟨0, Nat.zero_le _, rfl, fun r h => absurd h (Nat.not_lt_zero _), Below.refl _ _⟩
   case round =>
    obtain ⟨i, hi, rfl, hall, hbel⟩ := hrel
    have HB := hide (ai hbel hall)
    clear hbel hall
    by_cases hil : i < N
    ·have hq := (HA.out.1.below HB.out.1)
     obtain ⟨-, -, -, hat⟩ := LstV.row_at hq
     obtain ⟨b, o, eA, hat2⟩ := hat (by rw [← HN.out.1]; omega)
     obtain rfl := eA
     obtain ⟨A1, c1, hc1, hr⟩ := hat2 i (by rw [← HN.out.1]; omega)
     obtain ⟨A0, c0, hc0, hr0⟩ := hat2 0 (by rw [← HN.out.1]; omega)
     rw [← HN.out.2.1, Nat.add_zero] at hc0
     obtain ⟨_, _, hm1⟩ := LstV.q_at hr
     obtain ⟨hm2, hm3, -⟩ := ai ‹_› hm1
     obtain ⟨li, hli⟩ : ∃ li, li = (rows.getD i []).length := ⟨_, rfl⟩
     rw [← hli] at hc1
     have HLI := hide hli
     clear hq hat hat2 hr hr0 hli hm1 hm2 hm3
     have i0 : (0 : Int) ≤ (i : Int) := by omega
     have i1 : (i : Int) < (N : Int) := by omega
     have i2 : (0 : Int) < (N : Int) := by omega
     by_cases hsame : li = wd
     ·subst hsame
      go_wp2_with fail
      go_quiet (fail)
      go_wp2
      case roundEnd =>
       refine ⟨⟨i + 1, by omega, by go_num, fun r hr => ?_, below_drewN HB.out.1 _⟩, by simp [intOf]; omega⟩
       by_cases e : r = i
       ·rw [e]; exact HLI.out.symm
       ·exact HB.out.2 r (by omega)
     ·have hne : ((li : Int) != (wd : Int)) = true := by rw [bne_iff_ne]; omega
      go_wp2_with fail
      go_quiet (fail)
      go_wp2
      refine bodyPost_ret (v := .int .i64 7) ?_ rfl ?_
      ·simp [results, Tryz.results56, go_sem]
      exact ⟨_, rfl, by unfold sysQ; rw [if_neg HLM.out, if_pos (anyB_of (k := i) (by rw [← HN.out.1]; exact hil) (by unfold shapeB; exact decide_eq_true (by rw [← HLI.out, ← HN.out.2.1]; exact hsame)))], below_drewN HB.out.1 _⟩
    ·have d3 : decide (i < N) = false := decide_eq_false hil
     obtain rfl : i = N := by omega
     have hsh := no_shape (rows := rows) (fun r hr => by rw [← HN.out.2.1]; exact HB.out.2 r (by rw [HN.out.1]; exact hr))
     have HSH := hide hsh
     clear hil hsh
     have hlen : wth = true → ((K : Int) != (i : Int)) = false ∨ ((K : Int) != (i : Int)) = true := fun _ => by cases ((K : Int) != (i : Int)) <;> simp
     by_cases hbad : wth = true ∧ K ≠ i
     ·obtain ⟨rfl, hKi⟩ := hbad
      have hne : ((K : Int) != (i : Int)) = true := by rw [bne_iff_ne]; omega
      clear hlen
      go_wp2
      refine bodyPost_ret (v := .int .i64 7) ?_ rfl ?_
      ·simp [results, Tryz.results56, go_sem]
      exact ⟨_, rfl, by unfold sysQ; rw [if_neg HLM.out, if_neg HSH.out, if_pos ⟨rfl, by rw [← HN.out.1, ← HN.out.2.2]; exact hKi⟩], HB.out.1⟩
     ·have hKi : wth = true → K = i := fun h => Classical.byContradiction fun h2 => hbad ⟨h, h2⟩
      have hbl : ¬ (wth = true ∧ bs.length ≠ rows.length) := by rw [← HN.out.1, ← HN.out.2.2]; exact hbad
      have HBL := hide hbl
      clear hlen hbad hbl
      cases wth with
      | true =>
       have hKi2 : i = K := (hKi rfl).symm
       subst hKi2
       clear hKi
       go_wp2
       go_loopw [8] (fun s8 wr => ∃ k : Nat, k ≤ i ∧ s8 = .int .i64 k ∧ (∀ r, r < k → digR true rows bs r = false) ∧ Below w.heap.size w wr) (fun s8 _ => i - (intOf s8).toNat)
       case atStart => exact ⟨0, Nat.zero_le _, rfl, fun r h => absurd h (Nat.not_lt_zero _), HB.out.1⟩
       case round =>
        obtain ⟨k, hk, rfl, hdig, hbel⟩ := hrel
        obtain ⟨wo, rfl⟩ : ∃ wo : World, wo = wr := ⟨_, rfl⟩
        have HB2 := hide (ai hbel hdig)
        clear hbel hdig
        by_cases hkl : k < i
        ·have hq := (HA.out.1.below HB2.out.1)
         obtain ⟨-, -, -, hat⟩ := LstV.row_at hq
         obtain ⟨b, o, eA, hat2⟩ := hat (by rw [← HN.out.1]; omega)
         obtain rfl := eA
         obtain ⟨A1, c1, hc1, hr⟩ := hat2 k (by rw [← HN.out.1]; omega)
         rw [HB.out.2 k hkl] at hc1 hr
         have HR := hide (ai hc1 hr)
         have hbo := lt_of_cell hc1
         clear hq hat hat2 hr hc1
         go_wp2
         go_loopw [9] (fun s9 wr => ∃ j : Nat, j ≤ wd ∧ s9 = .int .i64 j ∧ (∀ c, c < j → digitsB 60 ((rows.getD k []).getD c 0) = false) ∧ Below wo.heap.size wo wr) (fun s9 _ => wd - (intOf s9).toNat)
         case atStart => exact ⟨0, Nat.zero_le _, rfl, fun r h => absurd h (Nat.not_lt_zero _), Below.refl _ _⟩
         case round =>
          obtain ⟨j, hj, rfl, hdj, hbi⟩ := hrel
          have HI := hide (ai hbi hdj)
          have hc2 := (hbi.cell (p := ⟨b, o + k, none⟩) hbo).trans HR.out.1
          clear hbi hdj
          by_cases hjl : j < wd
          ·obtain ⟨enj, _, _, hatq⟩ := LstV.q_at (QRowE.below HR.out.2 HI.out.1)
           obtain ⟨bq, oq, eq, hatq2⟩ := hatq (by omega)
           obtain rfl := eq
           obtain ⟨s, A2, n2, c2, B2, m2, d2', e0, e1, e2, e3, hqv⟩ := hatq2 j (by omega)
           have HQ := hide hqv
           clear hatq hatq2 hqv enj
           obtain ⟨bv, hbv⟩ : ∃ bv, bv = digitsB 60 ((rows.getD k []).getD j 0) := ⟨_, rfl⟩
           have HBV := hide hbv
           clear hbv
           go_wp2_with fail
           refine (digits_c _ _ _ L 60 HQ.out hL (by omega) (by omega)).mono ?_
           rintro e w7 ⟨_, rfl, rfl, hd7⟩
           rw [← HBV.out]
           have HI2 := hide (bnx HI.out.1 hd7)
           clear hd7 e0 e1 e2 e3 hc2
           cases bv with
           | true =>
            go_wp2
            refine bodyPost_ret (v := .int .i64 11) ?_ rfl ?_
            ·simp [results, Tryz.results56, go_sem]
            exact ⟨_, rfl, by unfold sysQ; rw [if_neg HLM.out, if_neg HSH.out, if_neg (fun h => h.2 (by rw [← HN.out.1, ← HN.out.2.2])), if_pos (anyB_of (k := k) (by rw [← HN.out.1]; exact hkl) (by unfold digR; rw [anyB_of (p := fun j => digitsB 60 ((rows.getD k []).getD j 0)) (k := j) (by rw [HB.out.2 k hkl]; exact hjl) HBV.out.symm, Bool.true_or]))], HB2.out.1.trans (HI2.out.mono HB2.out.1.size)⟩
           | false =>
            go_wp2
            case roundEnd =>
             refine ⟨⟨j + 1, by omega, by go_num, fun c hc => ?_, HI2.out⟩, by simp [intOf]; omega⟩
             by_cases e : c = j
             ·rw [e]; exact HBV.out.symm
             ·exact HI.out.2 c (by omega)
          ·have d4 : decide (j < wd) = false := decide_eq_false hjl
           have hrow : anyB (fun j => digitsB 60 ((rows.getD k []).getD j 0)) (rows.getD k []).length = false := anyB_none fun c hc => HI.out.2 c (by rw [HB.out.2 k hkl] at hc; omega)
           have HRW := hide hrow
           clear hrow hjl
           have hbw := (HA.out.2.below HB2.out.1).below HI.out.1
           rw [← HN.out.2.2] at hbw
           obtain ⟨enj, _, _, hatq⟩ := LstV.q_at hbw
           obtain ⟨bq, oq, eq, hatq2⟩ := hatq (by rw [← HN.out.2.2]; omega)
           obtain rfl := eq
           obtain ⟨s, A2, n2, c2, B2, m2, d2', e0, e1, e2, e3, hqv⟩ := hatq2 k (by rw [← HN.out.2.2]; omega)
           have HQ := hide hqv
           clear hatq hatq2 hqv enj hbw
           obtain ⟨bv, hbv⟩ : ∃ bv, bv = digitsB 60 (bs.getD k 0) := ⟨_, rfl⟩
           have HBV := hide hbv
           clear hbv
           go_wp2_with fail
           refine (digits_c _ _ _ L 60 HQ.out hL (by omega) (by omega)).mono ?_
           rintro e w7 ⟨_, rfl, rfl, hd7⟩
           rw [← HBV.out]
           have HI2 := hide (HB2.out.1.trans ((bnx HI.out.1 hd7).mono HB2.out.1.size))
           clear hd7 e0 e1 e2 e3 hc2
           cases bv with
           | true =>
            go_wp2
            refine bodyPost_ret (v := .int .i64 11) ?_ rfl ?_
            ·simp [results, Tryz.results56, go_sem]
            exact ⟨_, rfl, by unfold sysQ; rw [if_neg HLM.out, if_neg HSH.out, if_neg (fun h => h.2 (by rw [← HN.out.1, ← HN.out.2.2])), if_pos (anyB_of (k := k) (by rw [← HN.out.1]; exact hkl) (by unfold digR; rw [HRW.out, ← HBV.out]; simp))], HI2.out⟩
           | false =>
            go_wp2
            case roundEnd =>
             refine ⟨⟨k + 1, by omega, by go_num, fun r hr => ?_, HI2.out⟩, by simp [intOf]; omega⟩
             by_cases e : r = k
             ·rw [e]; unfold digR; rw [HRW.out, ← HBV.out]; simp
             ·exact HB2.out.2 r (by omega)
        ·have d4 : decide (k < i) = false := decide_eq_false hkl
         have hki : k = i := by omega
         have HKI := hide hki
         clear hki
         go_wp2
         refine bodyPost_ret (v := .int .i64 0) ?_ rfl ?_
         ·simp [results, Tryz.results56, go_sem]
         exact ⟨_, rfl, by unfold sysQ; rw [if_neg HLM.out, if_neg HSH.out, if_neg (fun h => h.2 (by rw [← HN.out.1, ← HN.out.2.2])), if_neg (by rw [anyB_none fun r hr => HB2.out.2 r (by rw [← HN.out.1] at hr; rw [HKI.out]; exact hr)]; simp)], HB2.out.1⟩
      | false =>
       clear hKi
       go_wp2
       go_loopw [8] (fun s8 wr => ∃ k : Nat, k ≤ i ∧ s8 = .int .i64 k ∧ (∀ r, r < k → digR false rows bs r = false) ∧ Below w.heap.size w wr) (fun s8 _ => i - (intOf s8).toNat)
       case atStart => exact ⟨0, Nat.zero_le _, rfl, fun r h => absurd h (Nat.not_lt_zero _), HB.out.1⟩
       case round =>
        obtain ⟨k, hk, rfl, hdig, hbel⟩ := hrel
        obtain ⟨wo, rfl⟩ : ∃ wo : World, wo = wr := ⟨_, rfl⟩
        have HB2 := hide (ai hbel hdig)
        clear hbel hdig
        by_cases hkl : k < i
        ·have hq := (HA.out.1.below HB2.out.1)
         obtain ⟨-, -, -, hat⟩ := LstV.row_at hq
         obtain ⟨b, o, eA, hat2⟩ := hat (by rw [← HN.out.1]; omega)
         obtain rfl := eA
         obtain ⟨A1, c1, hc1, hr⟩ := hat2 k (by rw [← HN.out.1]; omega)
         rw [HB.out.2 k hkl] at hc1 hr
         have HR := hide (ai hc1 hr)
         have hbo := lt_of_cell hc1
         clear hq hat hat2 hr hc1
         go_wp2
         go_loopw [9] (fun s9 wr => ∃ j : Nat, j ≤ wd ∧ s9 = .int .i64 j ∧ (∀ c, c < j → digitsB 60 ((rows.getD k []).getD c 0) = false) ∧ Below wo.heap.size wo wr) (fun s9 _ => wd - (intOf s9).toNat)
         case atStart => exact ⟨0, Nat.zero_le _, rfl, fun r h => absurd h (Nat.not_lt_zero _), Below.refl _ _⟩
         case round =>
          obtain ⟨j, hj, rfl, hdj, hbi⟩ := hrel
          have HI := hide (ai hbi hdj)
          have hc2 := (hbi.cell (p := ⟨b, o + k, none⟩) hbo).trans HR.out.1
          clear hbi hdj
          by_cases hjl : j < wd
          ·obtain ⟨enj, _, _, hatq⟩ := LstV.q_at (QRowE.below HR.out.2 HI.out.1)
           obtain ⟨bq, oq, eq, hatq2⟩ := hatq (by omega)
           obtain rfl := eq
           obtain ⟨s, A2, n2, c2, B2, m2, d2', e0, e1, e2, e3, hqv⟩ := hatq2 j (by omega)
           have HQ := hide hqv
           clear hatq hatq2 hqv enj
           obtain ⟨bv, hbv⟩ : ∃ bv, bv = digitsB 60 ((rows.getD k []).getD j 0) := ⟨_, rfl⟩
           have HBV := hide hbv
           clear hbv
           go_wp2_with fail
           refine (digits_c _ _ _ L 60 HQ.out hL (by omega) (by omega)).mono ?_
           rintro e w7 ⟨_, rfl, rfl, hd7⟩
           rw [← HBV.out]
           have HI2 := hide (bnx HI.out.1 hd7)
           clear hd7 e0 e1 e2 e3 hc2
           cases bv with
           | true =>
            go_wp2
            refine bodyPost_ret (v := .int .i64 11) ?_ rfl ?_
            ·simp [results, Tryz.results56, go_sem]
            exact ⟨_, rfl, by unfold sysQ; rw [if_neg HLM.out, if_neg HSH.out, if_neg (fun h => absurd h.1 (by simp)), if_pos (anyB_of (k := k) (by rw [← HN.out.1]; exact hkl) (by unfold digR; rw [anyB_of (p := fun j => digitsB 60 ((rows.getD k []).getD j 0)) (k := j) (by rw [HB.out.2 k hkl]; exact hjl) HBV.out.symm, Bool.true_or]))], HB2.out.1.trans (HI2.out.mono HB2.out.1.size)⟩
           | false =>
            go_wp2
            case roundEnd =>
             refine ⟨⟨j + 1, by omega, by go_num, fun c hc => ?_, HI2.out⟩, by simp [intOf]; omega⟩
             by_cases e : c = j
             ·rw [e]; exact HBV.out.symm
             ·exact HI.out.2 c (by omega)
          ·have d4 : decide (j < wd) = false := decide_eq_false hjl
           have hrow : anyB (fun j => digitsB 60 ((rows.getD k []).getD j 0)) (rows.getD k []).length = false := anyB_none fun c hc => HI.out.2 c (by rw [HB.out.2 k hkl] at hc; omega)
           have HRW := hide hrow
           clear hrow hjl
           go_wp2
           case roundEnd =>
            refine ⟨⟨k + 1, by omega, by go_num, fun r hr => ?_, HB2.out.1.trans (HI.out.1.mono HB2.out.1.size)⟩, by simp [intOf]; omega⟩
            by_cases e : r = k
            ·rw [e]; unfold digR; rw [HRW.out]; simp
            ·exact HB2.out.2 r (by omega)
        ·have d4 : decide (k < i) = false := decide_eq_false hkl
         have hki : k = i := by omega
         have HKI := hide hki
         clear hki
         go_wp2
         refine bodyPost_ret (v := .int .i64 0) ?_ rfl ?_
         ·simp [results, Tryz.results56, go_sem]
         exact ⟨_, rfl, by unfold sysQ; rw [if_neg HLM.out, if_neg HSH.out, if_neg (fun h => absurd h.1 (by simp)), if_neg (by rw [anyB_none fun r hr => HB2.out.2 r (by rw [← HN.out.1] at hr; rw [HKI.out]; exact hr)]; simp)], HB2.out.1⟩
end Go.Proofs.YthnnbpnocefmgaaGreat
