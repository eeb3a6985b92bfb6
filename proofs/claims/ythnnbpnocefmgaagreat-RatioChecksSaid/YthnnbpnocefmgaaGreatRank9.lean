import Derived.Test.YthnnbpnocefmgaaGreatRankG
import Derived.Test.YthnnbpnocefmgaaGreatDenR
import Derived.Test.YthnnbpnocefmgaaGreatOpenS
import Derived.Test.YthnnbpnocefmgaaGreatKept
import Derived.Test.YthnnbpnocefmgaaGreatSysA
import Derived.Test.YthnnbpnocefmgaaGreatRefE
import Derived.Laws.AppendOwnNone
namespace Go.Proofs.YthnnbpnocefmgaaGreat
set_option linter.unusedVariables false
set_option linter.unusedSimpArgs false
open Go.RowKit
theorem solve_bad (w : World) (va vb : Value) (rows : List (List Rat)) (bs : List Rat) (L : Nat) (ha : RowsV w va rows L) (hb : RowV w vb bs L) (hL : L ≤ 134217700) (hc : checkQ rows bs ≠ 0) :
  Calls Tryz.prog 49 #[va, vb] w (Ret (fun v w' => v = .tuple #[.slice none 0 0, .int .i64 (checkQ rows bs)] ∧ Below w.heap.size w w')) := by
 have HA := hide (ai ha hb)
 obtain ⟨A1, c1, rfl, hc1, hm1, hx⟩ := ha
 obtain ⟨A2, c2, rfl, hc2, hm2, hy⟩ := hb
 clear hx hy
 obtain ⟨q, hq⟩ : ∃ q, q = checkQ rows bs := ⟨_, rfl⟩
 rw [← hq] at hc ⊢
 have hcb : (q != 0) = true := by rw [bne_iff_ne]; exact hc
 have HQ := hide hq; clear hq
 go_enter Tryz.func49, Tryz.ntmps49
 go_wp2_with fail
 refine (check_c _ _ _ rows bs L HA.out.1 HA.out.2 (by omega)).mono ?_
 rintro e w1 ⟨_, rfl, rfl, hd1⟩
 rw [← HQ.out]
 go_wp2
 go_ret2
 exact ⟨_, rfl, rfl, hd1⟩
theorem denies_bad (w : World) (va vb vw : Value) (rows : List (List Rat)) (bs ws : List Rat) (L : Nat) (ha : RowsV w va rows L) (hb : RowV w vb bs L) (hw : RowV w vw ws L) (hL : L ≤ 134217700) (hc : checkQ rows bs ≠ 0) :
  Calls Tryz.prog 14 #[va, vb, vw] w (Ret (fun v w' => v = .bool false ∧ Below w.heap.size w w')) := by
 have HA := hide (ai ha hb)
 obtain ⟨A1, c1, rfl, hc1, hm1, hx⟩ := ha
 obtain ⟨A2, c2, rfl, hc2, hm2, hy⟩ := hb
 obtain ⟨A3, c3, rfl, hc3, hm3, hz⟩ := hw
 clear hx hy hz
 obtain ⟨q, hq⟩ : ∃ q, q = checkQ rows bs := ⟨_, rfl⟩
 rw [← hq] at hc
 have hcb : (q != 0) = true := by rw [bne_iff_ne]; exact hc
 have HQ := hide hq; clear hq
 go_enter Tryz.func14, Tryz.ntmps14
 go_wp2_with fail
 refine (check_c _ _ _ rows bs L HA.out.1 HA.out.2 (by omega)).mono ?_
 rintro e w1 ⟨_, rfl, rfl, hd1⟩
 rw [← HQ.out]
 go_wp2
 go_ret
 exact ⟨_, rfl, rfl, hd1⟩
theorem rank_bad (w : World) (va : Value) (rows : List (List Rat)) (L : Nat) (ha : RowsV w va rows L) (hL : L ≤ 134217700) (hn : rows.length ≤ 1000) (hc : checkQ rows (List.replicate rows.length 0) ≠ 0) :
  Calls Tryz.prog 50 #[va] w (Ret (fun v w' => v = .tuple #[.int .i64 0, .int .i64 (checkQ rows (List.replicate rows.length 0))] ∧ Below w.heap.size w w')) := by
 have HA := hide ha
 obtain ⟨A1, c1, rfl, hc1, hm1, hx⟩ := ha
 clear hx
 obtain ⟨N, hN⟩ : ∃ N, N = rows.length := ⟨_, rfl⟩
 have hmk := make_rat rows.length (by omega)
 obtain ⟨q, hq⟩ : ∃ q, q = checkQ rows (List.replicate rows.length 0) := ⟨_, rfl⟩
 rw [← hq] at hc ⊢
 have hcb : (q != 0) = true := by rw [bne_iff_ne]; exact hc
 rw [← hN] at hmk hc1 hn hq ⊢
 have HN := hide hN
 have HQ := hide hq
 have hb1 : Below w.heap.size w (w.alloc (.cells (madeCells #[Value.bool false, .slice none 0 0, .slice none 0 0] (N * 3)) 35)) := below_al (Below.refl _ _) _
 have hz := (zero_row w N L).row (c := N) (by simp) (by unfold maxLen; omega)
 rw [List.length_replicate] at hz
 have H1 := hide (ai hb1 hz)
 clear hN hb1 hz hq
 go_enter Tryz.func50, Tryz.ntmps50
 go_wp2_with fail
 refine (check_c _ _ _ rows (List.replicate N 0) L (by have := HA.out.below H1.out.1; rwa [← HN.out] at this) H1.out.2 (by omega)).mono ?_
 rintro e w1 ⟨_, rfl, rfl, hd1⟩
 rw [← HQ.out]
 have H2 := hide (bnx H1.out.1 hd1)
 clear hd1 hmk
 go_wp2
 go_ret2
 exact ⟨_, rfl, rfl, H2.out⟩
theorem digits_lt {x : Int} (h0 : 0 ≤ x) : 60 < (decText x).length ↔ ¬ x < 10 ^ 60 := by
 constructor
 ·intro h hlt
  by_cases hx : 0 < x
  ·have := dec_le hx hlt; omega
  ·obtain rfl : x = 0 := by omega
   rw [decText_zero] at h
   simp at h
 ·intro h
  refine Classical.byContradiction fun hn => h ?_
  exact dec_lt x 60 h0 (by omega) (by omega)
theorem long_digits (q : Rat) : longQ q = digitsB 60 q := by
 unfold longQ digitsB
 have h1 := digits_lt (x := (q.num.natAbs : Int)) (by omega)
 have h2 := digits_lt (x := (q.den : Int)) (by omega)
 by_cases a : (q.num.natAbs : Int) < 10 ^ 60
 ·by_cases b : (q.den : Int) < 10 ^ 60
  ·rw [decide_eq_false (fun h => h1.1 h a), decide_eq_false (fun h => h2.1 h b), decide_eq_true a, decide_eq_true b]; rfl
  ·rw [decide_eq_false (fun h => h1.1 h a), decide_eq_true (h2.2 b), decide_eq_true a, decide_eq_false b]; rfl
 ·rw [decide_eq_true (h1.2 a), decide_eq_false a]; simp
theorem check_sys (rows : List (List Rat)) (bs : List Rat) : checkQ rows bs = sysQ true rows bs := by
 unfold checkQ sysQ
 have e1 : (40 < rows.length ∨ 0 < rows.length ∧ 40 < (rows.getD 0 []).length) ↔ (40 < rows.length ∨ 40 < (rows.getD 0 []).length) := by
  constructor
  ·rintro (h | h)
   ·exact .inl h
   ·exact .inr h.2
  ·rintro (h | h)
   ·exact .inl h
   ·by_cases h0 : 0 < rows.length
    ·exact .inr ⟨h0, h⟩
    ·rw [List.eq_nil_of_length_eq_zero (show rows.length = 0 by omega)] at h; simp at h
 by_cases c1 : 40 < rows.length ∨ 40 < (rows.getD 0 []).length
 ·rw [if_pos (e1.2 c1), if_pos c1]
 ·rw [if_neg (fun h => c1 (e1.1 h)), if_neg c1]
  by_cases c2 : anyB (shapeB rows) rows.length = true
  ·rw [if_pos (.inr c2), if_pos c2]
  ·rw [if_neg c2]
   by_cases c3 : bs.length = rows.length
   ·rw [if_neg (show ¬ (bs.length ≠ rows.length ∨ anyB (shapeB rows) rows.length = true) from fun h => h.elim (fun h => h c3) c2), if_neg (show ¬ (true = true ∧ bs.length ≠ rows.length) from fun h => h.2 c3)]
    have e2 : (anyB (fun i => longQ (bs.getD i 0)) bs.length = true ∨ anyB (longB rows) rows.length = true) ↔ anyB (digR true rows bs) rows.length = true := by
     rw [anyB_iff, anyB_iff, anyB_iff]
     constructor
     ·rintro (⟨i, h1, h2⟩ | ⟨i, h1, h2⟩)
      ·refine ⟨i, by omega, ?_⟩
       rw [long_digits] at h2
       unfold digR; rw [h2]; simp
      ·refine ⟨i, h1, ?_⟩
       unfold longB at h2
       obtain ⟨j, h3, h4⟩ := anyB_iff.1 h2
       rw [long_digits] at h4
       have h5 : anyB (fun j => digitsB 60 ((rows.getD i []).getD j 0)) (rows.getD i []).length = true := anyB_iff.2 ⟨j, h3, h4⟩
       unfold digR; rw [h5]; simp
     ·rintro ⟨i, h1, h2⟩
      unfold digR at h2
      rw [Bool.or_eq_true] at h2
      rcases h2 with h2 | h2
      ·obtain ⟨j, h3, h4⟩ := anyB_iff.1 h2
       refine .inr ⟨i, h1, ?_⟩
       unfold longB
       exact anyB_iff.2 ⟨j, h3, by rw [long_digits]; exact h4⟩
      ·rw [Bool.true_and] at h2
       exact .inl ⟨i, by omega, by rw [long_digits]; exact h2⟩
    by_cases c4 : anyB (digR true rows bs) rows.length = true
    ·rw [if_pos (e2.2 c4), if_pos c4]
    ·rw [if_neg (fun h => c4 (e2.1 h)), if_neg c4]
   ·rw [if_pos (.inl c3), if_pos ⟨rfl, c3⟩]
theorem zero_frac : FracQ 60 0 := ⟨by show ((0 : Nat) : Int) < 10 ^ 60; exact Int.pow_pos (by omega), by show ((1 : Nat) : Int) < 10 ^ 60; exact Int.lt_of_lt_of_le (show (1 : Int) < 10 ^ 1 by decide) (pow_le_pow' (by omega) (by omega))⟩
theorem zero_digits : digitsB 60 0 = false := digitsB_not zero_frac
theorem check_zeros (rows : List (List Rat)) (bs : List Rat) : checkQ rows (List.replicate rows.length 0) = sysQ false rows bs := by
 rw [check_sys]
 unfold sysQ
 have z : ∀ i, (List.replicate rows.length (0 : Rat)).getD i 0 = 0 := fun i => by simp only [List.getD, List.getElem?_replicate]; split <;> rfl
 have e : ∀ i, digR true rows (List.replicate rows.length 0) i = digR false rows bs i := fun i => by
  unfold digR; rw [z i, zero_digits, Bool.and_false, Bool.false_and]
 rw [show digR true rows (List.replicate rows.length 0) = digR false rows bs from funext e]
 rw [if_neg (show ¬ (true = true ∧ (List.replicate rows.length (0 : Rat)).length ≠ rows.length) from fun h => h.2 (by simp)), if_neg (show ¬ (false = true ∧ bs.length ≠ rows.length) from fun h => absurd h.1 (by simp))]
theorem sys4_of {rows : List (List Rat)} {bs : List Rat} (h : sysQ false rows bs = 0) : Sys4 (rows.getD 0 []).length rows := by
 unfold sysQ at h
 by_cases c1 : 40 < rows.length ∨ 40 < (rows.getD 0 []).length
 ·rw [if_pos c1] at h; omega
 ·rw [if_neg c1] at h
  by_cases c2 : anyB (shapeB rows) rows.length = true
  ·rw [if_pos c2] at h; omega
  ·rw [if_neg c2, if_neg (show ¬ (false = true ∧ bs.length ≠ rows.length) from fun h => absurd h.1 (by simp))] at h
   by_cases c4 : anyB (digR false rows bs) rows.length = true
   ·rw [if_pos c4] at h; omega
   ·refine ⟨by omega, by omega, fun i hi => ?_, fun i j => ?_⟩
    ·refine Classical.byContradiction fun hn => c2 (anyB_iff.2 ⟨i, hi, ?_⟩)
     unfold shapeB; exact decide_eq_true hn
    ·refine digitsB_frac ?_
     cases hd : digitsB 60 (ent rows i j) with
     | false => rfl
     | true =>
      exfalso
      by_cases hi : i < rows.length
      ·by_cases hj : j < (rows.getD i []).length
       ·refine c4 (anyB_iff.2 ⟨i, hi, ?_⟩)
        unfold digR
        have : anyB (fun j => digitsB 60 ((rows.getD i []).getD j 0)) (rows.getD i []).length = true := anyB_iff.2 ⟨j, hj, hd⟩
        rw [this, Bool.true_or]
       ·have : ent rows i j = 0 := by unfold ent; exact getD_end (by omega)
        rw [this, zero_digits] at hd; cases hd
      ·have : ent rows i j = 0 := by unfold ent; simp [List.getD, hi]
       rw [this, zero_digits] at hd; cases hd
theorem Sys.sbW {wd : Nat} {rows : List (List Rat)} {bs : List Rat} (h : Sys wd rows bs) : SB 319 [] (wideR rows bs, idRows rows.length) := by
 obtain ⟨N, hN⟩ : ∃ N, N = 319 := ⟨_, rfl⟩
 rw [← hN]
 have HNN := hide hN
 clear hN
 intro i hi
 replace hi : i < (wideR rows bs).length := hi
 rw [wideR_length] at hi
 have hF : ∀ {q : Rat}, FracQ 12 q → q.num.natAbs < 1000000000000 ∧ q.den < 1000000000000 := fun hq => ⟨by have := hq.1; omega, by have := hq.2; omega⟩
 obtain ⟨m, h0, h1, h2⟩ := one_den 1000000000000 (by omega) (rows.getD i [] ++ [bs.getD i 0]) (fun x hx => by
  rcases List.mem_append.1 hx with hx | hx
  ·obtain ⟨j, rfl⟩ := mem_getD hx; exact hF (h.small i j)
  ·rw [List.mem_singleton] at hx; subst hx; exact hF (h.smallB i))
 have hlen : (rows.getD i [] ++ [bs.getD i 0]).length + 1 ≤ 8 := by
  have := h.row i hi
  have := h.w6
  rw [List.length_append, List.length_singleton]; omega
 have hp := Nat.pow_le_pow_right (n := 1000000000000) (by omega) hlen
 have hq : 1000000000000 ^ 8 < 2 ^ N := by
  obtain ⟨a, b, ha, hb, hab⟩ : ∃ a b, a = 200 ∧ b = 119 ∧ N = a + b := ⟨200, 119, rfl, rfl, HNN.out⟩
  rw [hab, Nat.pow_add, ha, hb]
  decide +kernel
 refine ⟨m, h0, by omega, fun j => ?_⟩
 unfold ex
 split
 ·have e : ent (wideR rows bs) i (j / 3) = (rows.getD i [] ++ [bs.getD i 0]).getD (j / 3) 0 := by unfold ent; rw [wideR_get _ _ _ hi]
  by_cases hj : j / 3 < (rows.getD i [] ++ [bs.getD i 0]).length
  ·obtain ⟨z, a, b⟩ := h2 _ (getD_mem (j / 3) hj)
   exact ⟨z, by show ent (wideR rows bs) i (j / 3) * _ = _; rw [e]; exact a, by omega⟩
  ·refine ⟨0, ?_, by rw [Int.natAbs_zero]; exact Nat.pow_pos (by omega)⟩
   show ent (wideR rows bs) i (j / 3) * _ = _
   rw [e, getD_end (by omega)]; grind
 ·split
  ·show ∃ z : Int, ent (idRows rows.length) i (j / 3) * _ = _ ∧ _
   rw [ent_id _ _ _ hi]
   by_cases hk : i = j / 3
   ·rw [if_pos hk]; exact ⟨m, by grind, by rw [Int.natAbs_natCast]; omega⟩
   ·rw [if_neg hk]; exact ⟨0, by grind, by rw [Int.natAbs_zero]; exact Nat.pow_pos (by omega)⟩
  ·show ∃ z : Int, dotL ((idRows rows.length).getD i []) [] * _ = _ ∧ _
   rw [dotL_one _ _ _ hi]
   exact ⟨0, by rw [show ([] : List Rat).getD i 0 = 0 by simp]; grind, by rw [Int.natAbs_zero]; exact Nat.pow_pos (by omega)⟩
theorem bits7 (k : Nat) (hk : k ≤ 7) : bitsN 319 k ≤ 40959 := Nat.le_trans (bitsN_mono 319 hk) (by decide)
theorem bits_succ (n k : Nat) : bitsN n (k + 1) = 2 * bitsN n k + 1 := by first | rfl | (simp [bitsN])
theorem Sys.refFit {wd : Nat} {rows : List (List Rat)} {bs : List Rat} (h : Sys wd rows bs) : ∀ c, c < wd + 1 → ∀ k, k ≤ (wideR rows bs).length → pivK c (echN c (wideR rows bs, idRows (wideR rows bs).length)) ≠ (wideR rows bs).length →
  ∀ i j, FracQ 12801 (ent (clearN (echN c (wideR rows bs, idRows (wideR rows bs).length)).2.length c k (divS (echN c (wideR rows bs, idRows (wideR rows bs).length)).2.length c (swapS (echN c (wideR rows bs, idRows (wideR rows bs).length)).2.length (pivK c (echN c (wideR rows bs, idRows (wideR rows bs).length))) (echN c (wideR rows bs, idRows (wideR rows bs).length)).1))).1 i j) := by
 intro c hc k hk hp i j
 rw [wideR_length] at hk hp ⊢
 have hr := rect_wide (bs := bs) h.row
 have hl : (echN c (wideR rows bs, idRows rows.length)).1.1.length = rows.length := by rw [echN_length]; exact wideR_length _ _
 have ho : (echN c (wideR rows bs, idRows rows.length)).2.length ≤ (echN c (wideR rows bs, idRows rows.length)).1.1.length := by rw [echN_length]; exact echN_out c _
 have hrk := rect_echN c hr
 have hw := h.w6
 have hb := sb_colN [] hrk ho (by rw [hl]; exact hp) (sb_ech [] hr h.sbW c) k (by rw [hl]; exact hk)
 have hb2 := hb.more (n' := 40959) (by rw [← bits_succ]; exact bits7 _ (by omega))
 have hrc := rect_clearN k (a := (echN c (wideR rows bs, idRows rows.length)).2.length) (col := c) (rect_div (col := c) (a := (echN c (wideR rows bs, idRows rows.length)).2.length) (rect_swap (a := (echN c (wideR rows bs, idRows rows.length)).2.length) (k := pivK c (echN c (wideR rows bs, idRows rows.length))) hrk (by obtain ⟨p1, p2, p3⟩ := piv_facts hrk ho (by rw [hl]; exact hp); omega) (by obtain ⟨p1, p2, p3⟩ := piv_facts hrk ho (by rw [hl]; exact hp); exact p1)) (by rw [swapS_length]; obtain ⟨p1, p2, p3⟩ := piv_facts hrk ho (by rw [hl]; exact hp); omega)) (by rw [divS_length, swapS_length, hl]; exact hk)
 exact (hb2.fit hrc.len (L := 1280) (by omega) i j).1.frac
theorem run_append_nil0 {P : Program} {w : World} (t ty e : TypeId) (i : TypeInfo) (ht : P.underlying t = some (.slice e)) (hi : P.info? e = some i) (A : Option Addr) (c : Nat) :
  (Builtin.append_ #[t, t] ty #[.slice none 0 0, .slice A 0 c]).run P w = .ok (.slice none 0 0) w := by
 cases A
 ·simp [Builtin.append_, run_underlying ht, sizeOf, typeInfo, hi, Builtin.lenOf, Builtin.firstCells]
 ·simp [Builtin.append_, run_underlying ht, sizeOf, typeInfo, hi, Builtin.lenOf, Builtin.firstCells, loadCells, loadCellsFrom]
theorem wpList_append_nil0 {P : Program} {t e : TypeId} {sz bytes : Nat} (S : ElT P t e sz bytes) {w : World} {ops : Array Oper} {rest : List Oper} {o : Oper} {a : Act} {Q : Exit → Act → World → Prop} (hgd : o.guard = none) (s x : Operand)
  (ho : o.op = .call { callee := .builtin .append, args := #[s, x], argTypes := #[t, t] })
  (hs : a.eval s = .slice none 0 0) (A : Option Addr) (c : Nat) (hx : a.eval x = .slice A 0 c)
  (h : wpList P ops Q rest (a.put o.dst (.slice none 0 0)) w) : wpList P ops Q (o :: rest) a w := by
 obtain ⟨z, hz0, hz1⟩ := S.hi
 obtain ⟨i, hi, -, -, -⟩ := info_parts hz1
 refine wpList_plain hgd fun K hK => ?_
 have hrun := run_append_nil0 (P := P) (w := w) t o.type e i S.ht hi A c
 unfold Oper.wp
 simp [execOp, ho, resolve, invoke, builtin, hs, hx, hrun, Result.andThen]
 exact hK _ _ h
theorem QRowE.upR {w : World} {v : Value} {qs : List Rat} {L L' : Nat} (h : QRowE L w v qs) (hL : L ≤ L') : QRowE L' w v qs := LstV.imp h fun u x _ hr => QV.more (show QV w u x L from hr) hL
theorem QRows.upR {w : World} {v : Value} {rows : List (List Rat)} {L L' : Nat} (h : QRows L w v rows) (hL : L ≤ L') : QRows L' w v rows := LstV.imp h fun u x _ hr => QRowE.upR hr hL
set_option maxRecDepth 1000000 in
set_option maxHeartbeats 4000000 in
theorem echelon_w (w : World) (v : Value) (rows : List (List Rat)) (L : Nat) (hv : QRows L w v rows) (hN : rows.length ≤ 1000) (hrow : ∀ i, i < rows.length → (rows.getD i []).length = 0) :
  Calls Tryz.prog 99 #[v, .int .i64 0] w (Ret (fun v w' => ∃ A c, v = .slice A 0 c ∧ c ≤ maxLen ∧ Below w.heap.size w w')) := by
 obtain ⟨A, c, rfl, hc1, hc2, -⟩ := id hv
 have HA := hide (ai hv hrow)
 clear hv hrow
 unfold maxLen at hc2
 obtain ⟨N, hNe⟩ : ∃ N, N = rows.length := ⟨_, rfl⟩
 rw [← hNe] at hc1 hN ⊢
 have HN := hide hNe
 clear hNe
 go_enter Tryz.func99, Tryz.ntmps99
 go_wp2
 go_loopw [5, 6, 7] (fun s5 s6 s7 wr => ∃ k : Nat, k ≤ N ∧ s6 = .int .i64 k ∧ OwnG 27 1 (QRowE L) wr w.heap.size s5 (List.replicate k []) ∧ Below w.heap.size w wr) (fun _ s6 _ _ => N - (intOf s6).toNat)
 case atStart => exact ⟨0, Nat.zero_le _, rfl, OwnG.nil _ _ _ _ _, Below.refl _ _⟩
 case round =>
  obtain ⟨k, hk, rfl, hown, hbel⟩ := hrel
  have HX := hide (ai hown hbel)
  obtain ⟨As, cs, es, hcs1, hcs2⟩ := hown.len
  rw [List.length_replicate] at es hcs1
  unfold maxLen at hcs2
  subst es
  by_cases hkl : k < N
  ·have d1 : decide (k < N) = true := decide_eq_true hkl
   obtain ⟨-, -, -, hat⟩ := LstV.row_at (HA.out.1.below hbel)
   obtain ⟨b, o, eA, hat2⟩ := hat (by rw [← HN.out]; omega)
   obtain rfl := eA
   obtain ⟨A1, c1, hcell, -⟩ := hat2 k (by rw [← HN.out]; omega)
   rw [HA.out.2 k (by rw [← HN.out]; exact hkl)] at hcell
   clear hat hat2 hown hbel
   go_wp2_with (first
    | (at_builtin; refine wpList_append_nil0 Tryz.qE rfl _ _ rfl rfl _ _ rfl ?_)
    | (at_builtin; refine appG Tryz.qrowE (stK_qrow L (by decide) (by decide)) _ rfl _ _ rfl w.heap.size _ (List.replicate k []) [] rfl (OwnG.below (stB_qrow L) HX.out.1 (below_al (Below.refl _ _) _)) ⟨wr.heap.size, 0, none⟩ _ rfl (.slice none 0 0) (LstV.nil _ _ _ _) rfl (cells_new1 _ _ rfl _ rfl) (fun c hc => (by simp [Value.cells] at hc; rw [hc]; rfl)) (by rw [List.length_replicate]; omega) (by have h1 := HX.out.2.size; simp; omega) ?_; intro g7 c7 w7 hown7 hb7 hg7; rw [List.length_replicate] at hown7 ⊢;
       have H7 := hide (ai hown7 ((HX.out.2.trans ((below_al (Below.refl _ _) (.cells #[.slice none 0 0] 27)).mono HX.out.2.size)).trans hb7)); clear hown7 hb7 hg7))
   all_goals exact ⟨⟨k + 1, by omega, by go_num, by rw [List.replicate_succ']; exact H7.out.1, H7.out.2⟩, by simp [intOf]; omega⟩
  ·have d1 : decide (k < N) = false := decide_eq_false hkl
   clear hown hbel
   go_wp2
   go_loopw [8, 9] (fun s8 s9 wr2 => s8 = .int .i64 0 ∧ s9 = .int .i64 0 ∧ Below w.heap.size w wr2) (fun _ _ _ => 0)
   case atStart => exact ⟨rfl, rfl, HX.out.2⟩
   case round =>
    obtain ⟨rfl, rfl, hbel⟩ := hrel
    have HC := hide hbel; clear hbel
    go_wp2
    go_ret
    exact ⟨_, rfl, _, _, rfl, by unfold maxLen; omega, HC.out⟩
set_option maxRecDepth 100000 in
theorem rank9_c (w : World) (v : Value) (rows : List (List Rat)) (hv : QRows 23 w v rows) (h : Sys4 (rows.getD 0 []).length rows) :
  Calls Tryz.prog 58 #[v] w (Ret (fun v w' => v = .int .i64 ((solS rows).2.length : Nat) ∧ Below w.heap.size w w')) := by
 obtain ⟨A, c, rfl, hc1, hc2, -⟩ := id hv
 have hn := h.n40
 have hw := h.w40
 obtain ⟨wd, hwd⟩ : ∃ wd, wd = (rows.getD 0 []).length := ⟨_, rfl⟩
 obtain ⟨N, hN⟩ : ∃ N, N = rows.length := ⟨_, rfl⟩
 rw [← hwd] at h hw
 have HA := hide (ai hv (ai h hwd))
 rw [← hN] at hc1 hn ⊢
 have HN := hide hN
 clear hv h hwd hN
 go_enter Tryz.func58, Tryz.ntmps58
 go_wp2_with fail
 refine (columns_c _ _ rows 23 (by have := HA.out.1; rwa [← HN.out] at this)).mono ?_
 rintro e w1 ⟨_, rfl, rfl, rfl⟩
 rw [← HA.out.2.2]
 by_cases hw0 : wd = 0
 ·have hz : (solS rows).2.length = 0 := by unfold solS; rw [← HA.out.2.2, hw0]; rfl
  have HZ := hide hz
  subst hw0
  clear hz
  go_wp2_with fail
  refine (echelon_w _ _ rows 23 (by have := HA.out.1; rwa [← HN.out] at this) (by rw [← HN.out]; omega) HA.out.2.1.row).mono ?_
  rintro e w2 ⟨_, rfl, A2, c2, rfl, hm2, hd2⟩
  unfold maxLen at hm2
  go_wp2
  go_ret
  exact ⟨_, rfl, by rw [HZ.out]; rfl, hd2⟩
 ·have h0 : 0 < rows.length := by
   refine Classical.byContradiction fun hn => hw0 ?_
   rw [HA.out.2.2, List.eq_nil_of_length_eq_zero (show rows.length = 0 by omega)]; rfl
  have H0 := hide h0
  clear h0
  go_wp2_with fail
  refine (echelon_r _ _ rows wd 216001 N (by have := QRows.upR (L' := 216001 / 9 + 1) HA.out.1 (by omega); rwa [← HN.out] at this) HN.out.symm (by rw [HN.out]; exact H0.out) (by omega) HA.out.2.1.row (by omega) (by omega) (by omega) (by rw [HN.out]; exact HA.out.2.1.refFit)).mono ?_
  rintro e w2 ⟨ve, rfl, hve, hd2⟩
  obtain ⟨A2, c2, rfl, hc3, hm2, -⟩ := hve
  have hl : (echN wd (rows, idRows rows.length)).1.1.length = rows.length := echN_length _ _
  have ho := echN_out wd (rows, idRows rows.length)
  have hlt : ((echN wd (rows, idRows rows.length)).1.1.take (echN wd (rows, idRows rows.length)).2.length).length = (solS rows).2.length := by
   rw [List.length_take, hl]
   unfold solS
   rw [← HA.out.2.2]
   have : (echN wd (rows, idRows rows.length)).2.length ≤ rows.length := ho
   omega
  rw [hlt] at hc3 ⊢
  unfold maxLen at hm2
  obtain ⟨rk, hrk⟩ : ∃ rk, rk = (solS rows).2.length := ⟨_, rfl⟩
  rw [← hrk] at hc3 ⊢
  have HRK := hide hrk
  clear hlt hl ho hrk
  go_wp2
  go_ret
  exact ⟨_, rfl, by rw [HRK.out]; rfl, hd2⟩
end Go.Proofs.YthnnbpnocefmgaaGreat
