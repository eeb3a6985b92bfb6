import Derived.Test.YthnnbpnocefmgaaGreatSolveP
namespace Go.Proofs.YthnnbpnocefmgaaGreat
set_option linter.unusedVariables false
set_option linter.unusedSimpArgs false
theorem findK_congr {r r' : List (List Rat)} {col : Nat} (hl : r.length = r'.length) (h : ∀ i, i < r.length → ent r i col = ent r' i col) : ∀ f k, findK r col f k = findK r' col f k
 | 0, k => rfl
 | f + 1, k => by
  rw [findK, findK]
  by_cases hk : k < r.length
  ·rw [h k hk, ← hl, findK_congr hl h f (k + 1)]
  ·rw [if_neg (fun e => hk e.1), if_neg (fun e => hk (by rw [hl]; exact e.1))]
def wideR (rows : List (List Rat)) (bs : List Rat) : List (List Rat) := (List.range rows.length).map fun i => rows.getD i [] ++ [bs.getD i 0]
theorem wideR_length (rows : List (List Rat)) (bs : List Rat) : (wideR rows bs).length = rows.length := by simp [wideR]
theorem wideR_get (rows : List (List Rat)) (bs : List Rat) (i : Nat) (hi : i < rows.length) : (wideR rows bs).getD i [] = rows.getD i [] ++ [bs.getD i 0] := by
 unfold wideR; simp [List.getD, hi]
theorem wideR_ent {wd : Nat} {rows : List (List Rat)} (bs : List Rat) (h : ∀ i, i < rows.length → (rows.getD i []).length = wd) (i j : Nat) (hi : i < rows.length) : ent (wideR rows bs) i j = if j < wd then ent rows i j else if j = wd then bs.getD i 0 else 0 := by
 unfold ent
 rw [wideR_get _ _ _ hi, getD_snoc, h i hi]
theorem wideR_row {wd : Nat} {rows : List (List Rat)} (bs : List Rat) (h : ∀ i, i < rows.length → (rows.getD i []).length = wd) (i : Nat) (hi : i < (wideR rows bs).length) : ((wideR rows bs).getD i []).length = wd + 1 := by
 rw [wideR_length] at hi
 rw [wideR_get _ _ _ hi, List.length_append, h i hi]; rfl
structure WideS (wd : Nat) (bs : List Rat) (T U : St × List Nat) : Prop where
 len : U.1.1.length = T.1.1.length
 out : U.2 = T.2
 row : ∀ i j, i < T.1.1.length → j < wd → ent U.1.1 i j = ent T.1.1 i j
 last : ∀ i, i < T.1.1.length → ent U.1.1 i wd = dotL (T.1.2.getD i []) bs
theorem WideS.piv {wd col : Nat} {bs : List Rat} {T U : St × List Nat} (h : WideS wd bs T U) (hc : col < wd) : pivK col U = pivK col T := by
 unfold pivK
 rw [h.len, h.out]
 exact findK_congr h.len (fun i hi => h.row i col (by rw [← h.len]; exact hi) hc) _ _
theorem WideS.step {wd wU col : Nat} {bs : List Rat} {T U : St × List Nat} (h : WideS wd bs T U) (hc : col < wd) (hrT : Rect wd T.1) (hrU : Rect wU U.1) (hoT : T.2.length ≤ T.1.1.length) : WideS wd bs (colS col T) (colS col U) := by
 have hp := h.piv hc
 have hoU : U.2.length ≤ U.1.1.length := by rw [h.len, h.out]; exact hoT
 by_cases hn : pivK col T = T.1.1.length
 ·have hnU : pivK col U = U.1.1.length := by rw [hp, hn, h.len]
  rw [colS_same hn, colS_same hnU]; exact h
 ·have hnU : pivK col U ≠ U.1.1.length := by rw [hp, h.len]; exact hn
  obtain ⟨p1, p2, p3⟩ := piv_facts hrT hoT hn
  have hlT := colS_length col T
  have hlU := colS_length col U
  rw [colS_step hn] at hlT ⊢
  rw [colS_step hnU] at hlU ⊢
  have eT : ∀ i j, i < T.1.1.length → _ := fun i j hi => ex_colN bs hrT hoT hn T.1.1.length (nr _) i j hi
  have eU : ∀ i j, i < U.1.1.length → _ := fun i j hi => ex_colN [] hrU hoU hnU U.1.1.length (nr _) i j hi
  have hs : ∀ i, i < T.1.1.length → sw T.2.length (pivK col T) i < T.1.1.length := fun i hi => sw_lt (by omega) p1 hi
  refine ⟨by rw [hlU, hlT, h.len], ?_, fun i j hi hj => ?_, fun i hi => ?_⟩
  ·show U.2 ++ [col] = T.2 ++ [col]; rw [h.out]
  ·rw [hlT] at hi
   have hiU : i < U.1.1.length := (by rw [h.len]; exact hi)
   have a := eT i (3 * j) hi
   have b := eU i (3 * j) (by rw [h.len]; exact hi)
   rw [ex_row, if_pos hi] at a
   rw [ex_row, if_pos hiU, h.out, hp] at b
   rw [h.len] at b
   simp only [ex_row] at a b
   show ent (clearN U.2.length col U.1.1.length (divS U.2.length col (swapS U.2.length (pivK col U) U.1))).1 i j = ent (clearN T.2.length col T.1.1.length (divS T.2.length col (swapS T.2.length (pivK col T) T.1))).1 i j
   rw [a, h.out, hp, h.len, b, h.row _ _ p1 hj, h.row _ _ p1 hc, h.row _ _ (hs i hi) hj, h.row _ _ (hs i hi) hc]
  ·rw [hlT] at hi
   have hiU : i < U.1.1.length := (by rw [h.len]; exact hi)
   have a := eT i 2 hi
   have b := eU i (3 * wd) (by rw [h.len]; exact hi)
   rw [ex_dot, if_pos hi] at a
   rw [ex_row, if_pos hiU, h.out, hp] at b
   rw [h.len] at b
   simp only [ex_row, ex_dot] at a b
   show ent (clearN U.2.length col U.1.1.length (divS U.2.length col (swapS U.2.length (pivK col U) U.1))).1 i wd = dotL ((clearN T.2.length col T.1.1.length (divS T.2.length col (swapS T.2.length (pivK col T) T.1))).2.getD i []) bs
   rw [a, h.out, hp, h.len, b, h.last _ p1, h.row _ _ p1 hc, h.last _ (hs i hi), h.row _ _ (hs i hi) hc]
theorem wideS {wd : Nat} {rows : List (List Rat)} {bs : List Rat} (h : ∀ i, i < rows.length → (rows.getD i []).length = wd) : ∀ c, c ≤ wd → WideS wd bs (echN c (rows, idRows rows.length)) (echN c (wideR rows bs, idRows rows.length))
 | 0, _ => ⟨wideR_length _ _, rfl, fun i j hi hj => by
   show ent (wideR rows bs) i j = ent rows i j
   rw [wideR_ent bs h i j hi, if_pos hj], fun i hi => by
   show ent (wideR rows bs) i wd = dotL ((idRows rows.length).getD i []) bs
   rw [wideR_ent bs h i wd hi, if_neg (by omega), if_pos rfl, dotL_one rows.length i bs hi]⟩
 | c + 1, hc => by
  have hrU : Rect (wd + 1) (wideR rows bs, idRows rows.length) := by
   have := rect_id (wideR_row bs h); rw [wideR_length] at this; exact this
  exact (wideS h c (by omega)).step (by omega) (rect_echN c (rect_id h)) (rect_echN c hrU) (by rw [echN_length]; exact echN_out c _)
def refS (rows : List (List Rat)) (bs : List Rat) (wd : Nat) : St × List Nat := echN (wd + 1) (wideR rows bs, idRows rows.length)
theorem rect_wide {wd : Nat} {rows : List (List Rat)} {bs : List Rat} (h : ∀ i, i < rows.length → (rows.getD i []).length = wd) : Rect (wd + 1) (wideR rows bs, idRows rows.length) := by
 have := rect_id (wideR_row bs h); rw [wideR_length] at this; exact this
theorem refI {wd : Nat} {rows : List (List Rat)} {bs : List Rat} (h : ∀ i, i < rows.length → (rows.getD i []).length = wd) : EchI (wd + 1) (refS rows bs wd) := echI (rect_wide h) (wd + 1)
theorem ref_plain {wd : Nat} {rows : List (List Rat)} {bs : List Rat} (h : Sys wd rows bs) (h0 : 0 < rows.length) (hno : ¬ denied rows bs) :
  (refS rows bs wd).2 = (solS rows).2 ∧ ∀ i, i < rows.length → ent (refS rows bs wd).1.1 i wd = dotL ((solS rows).1.2.getD i []) bs := by
 have hW := wideS (bs := bs) h.row wd (nr _)
 have hl : (echN wd (rows, idRows rows.length)).1.1.length = rows.length := echN_length _ _
 have hrk := rect_echN wd (rect_id h.row)
 have hl2 : (echN wd (rows, idRows rows.length)).1.2.length = rows.length := by rw [hrk.len, hl]
 have ho := echN_out wd (rows, idRows rows.length)
 have ho' : (echN wd (rows, idRows rows.length)).2.length ≤ rows.length := ho
 unfold denied at hno
 rw [h.solS_eq h0] at hno ⊢
 obtain ⟨a, b, c⟩ := denyK_spec (echN wd (rows, idRows rows.length)).1.2 bs rows.length (echN wd (rows, idRows rows.length)).2.length
 have hz : ∀ i, (echN wd (rows, idRows rows.length)).2.length ≤ i → i < rows.length → dotL ((echN wd (rows, idRows rows.length)).1.2.getD i []) bs = 0 := fun i h1 h2 => b i h1 (by omega)
 have hp : pivK wd (echN wd (wideR rows bs, idRows rows.length)) = (echN wd (wideR rows bs, idRows rows.length)).1.1.length := by
  refine Classical.byContradiction fun hn => ?_
  have hoU : (echN wd (wideR rows bs, idRows rows.length)).2.length ≤ (echN wd (wideR rows bs, idRows rows.length)).1.1.length := by rw [hW.len, hW.out, hl]; exact ho'
  obtain ⟨p1, p2, p3⟩ := piv_facts (rect_echN wd (rect_wide h.row)) hoU hn
  rw [hW.len, hl] at p1
  rw [hW.out] at p2
  exact p3 (by rw [hW.last _ (by rw [hl]; exact p1)]; exact hz _ p2 p1)
 have he : refS rows bs wd = echN wd (wideR rows bs, idRows rows.length) := by unfold refS; rw [echN, colS_same hp]
 rw [he]
 exact ⟨hW.out, fun i hi => hW.last i (by rw [hl]; exact hi)⟩
theorem ref_denied {wd : Nat} {rows : List (List Rat)} {bs : List Rat} (h : Sys wd rows bs) (hd : denied rows bs) : (refS rows bs wd).2 = (solS rows).2 ++ [wd] := by
 unfold denied at hd
 have h0 : 0 < rows.length := by omega
 have hW := wideS (bs := bs) h.row wd (nr _)
 have hl : (echN wd (rows, idRows rows.length)).1.1.length = rows.length := echN_length _ _
 have hrk := rect_echN wd (rect_id h.row)
 have hl2 : (echN wd (rows, idRows rows.length)).1.2.length = rows.length := by rw [hrk.len, hl]
 have ho' : (echN wd (rows, idRows rows.length)).2.length ≤ rows.length := echN_out wd (rows, idRows rows.length)
 rw [h.solS_eq h0] at hd ⊢
 obtain ⟨a, b, c⟩ := denyK_spec (echN wd (rows, idRows rows.length)).1.2 bs rows.length (echN wd (rows, idRows rows.length)).2.length
 have hne := c (by omega) (by omega)
 have hp : pivK wd (echN wd (wideR rows bs, idRows rows.length)) ≠ (echN wd (wideR rows bs, idRows rows.length)).1.1.length := by
  intro e
  unfold pivK at e
  rw [hW.out] at e
  have hall := findK_all _ _ _ _ (by rw [hW.len, hl]; omega) e _ a (by rw [hW.len, hl]; exact hd)
  rw [hW.last _ (by rw [hl]; exact hd)] at hall
  exact hne hall
 unfold refS
 rw [echN, colS_step hp]
 show (echN wd (wideR rows bs, idRows rows.length)).2 ++ [wd] = _
 rw [hW.out]
theorem Sys.sbW {wd : Nat} {rows : List (List Rat)} {bs : List Rat} (h : Sys wd rows bs) : SB 319 [] (wideR rows bs, idRows rows.length) := by
 obtain ⟨N, hN⟩ : ∃ N, N = 319 := ⟨_, rfl⟩
 rw [← hN]
 have HNN := hide hN
 clear hN
 intro i hi
 replace hi : i < (wideR rows bs).length := hi
 rw [wideR_length] at hi
 have hF : ∀ {q : Rat}, FracQ 12 q → q.num.natAbs < 1000000000000 ∧ q.den < 1000000000000 := fun hq => ⟨by have := hq.1; omega, by have := hq.2; omega⟩
 obtain ⟨m, h0, h1, h2⟩ := one_den 1000000000000 (by omega) (rows.getD i [] ++ [bs.getD i 0]) (fun x hx => by
  rcases List.mem_append.1 hx with hx | hx
  ·obtain ⟨j, rfl⟩ := mem_getD hx; exact hF (h.small i j)
  ·rw [List.mem_singleton] at hx; subst hx; exact hF (h.smallB i))
 have hlen : (rows.getD i [] ++ [bs.getD i 0]).length + 1 ≤ 8 := by
  have := h.row i hi
  have := h.w6
  rw [List.length_append, List.length_singleton]; omega
 have hp := Nat.pow_le_pow_right (n := 1000000000000) (by omega) hlen
 have hq : 1000000000000 ^ 8 < 2 ^ N := by
  obtain ⟨a, b, ha, hb, hab⟩ : ∃ a b, a = 200 ∧ b = 119 ∧ N = a + b := ⟨200, 119, rfl, rfl, HNN.out⟩
  rw [hab, Nat.pow_add, ha, hb]
  decide +kernel
 refine ⟨m, h0, by omega, fun j => ?_⟩
 unfold ex
 split
 ·have e : ent (wideR rows bs) i (j / 3) = (rows.getD i [] ++ [bs.getD i 0]).getD (j / 3) 0 := by unfold ent; rw [wideR_get _ _ _ hi]
  by_cases hj : j / 3 < (rows.getD i [] ++ [bs.getD i 0]).length
  ·obtain ⟨z, a, b⟩ := h2 _ (getD_mem (j / 3) hj)
   exact ⟨z, by show ent (wideR rows bs) i (j / 3) * _ = _; rw [e]; exact a, by omega⟩
  ·refine ⟨0, ?_, by rw [Int.natAbs_zero]; exact Nat.pow_pos (by omega)⟩
   show ent (wideR rows bs) i (j / 3) * _ = _
   rw [e, getD_end (by omega)]; grind
 ·split
  ·show ∃ z : Int, ent (idRows rows.length) i (j / 3) * _ = _ ∧ _
   rw [ent_id _ _ _ hi]
   by_cases hk : i = j / 3
   ·rw [if_pos hk]; exact ⟨m, by grind, by rw [Int.natAbs_natCast]; omega⟩
   ·rw [if_neg hk]; exact ⟨0, by grind, by rw [Int.natAbs_zero]; exact Nat.pow_pos (by omega)⟩
  ·show ∃ z : Int, dotL ((idRows rows.length).getD i []) [] * _ = _ ∧ _
   rw [dotL_one _ _ _ hi]
   exact ⟨0, by rw [show ([] : List Rat).getD i 0 = 0 by simp]; grind, by rw [Int.natAbs_zero]; exact Nat.pow_pos (by omega)⟩
theorem bits7 (k : Nat) (hk : k ≤ 7) : bitsN 319 k ≤ 40959 := Nat.le_trans (bitsN_mono 319 hk) (by decide)
theorem bits_succ (n k : Nat) : bitsN n (k + 1) = 2 * bitsN n k + 1 := by first | rfl | (simp [bitsN])
theorem Sys.refFit {wd : Nat} {rows : List (List Rat)} {bs : List Rat} (h : Sys wd rows bs) : ∀ c, c < wd + 1 → ∀ k, k ≤ (wideR rows bs).length → pivK c (echN c (wideR rows bs, idRows (wideR rows bs).length)) ≠ (wideR rows bs).length →
  ∀ i j, FracQ 12801 (ent (clearN (echN c (wideR rows bs, idRows (wideR rows bs).length)).2.length c k (divS (echN c (wideR rows bs, idRows (wideR rows bs).length)).2.length c (swapS (echN c (wideR rows bs, idRows (wideR rows bs).length)).2.length (pivK c (echN c (wideR rows bs, idRows (wideR rows bs).length))) (echN c (wideR rows bs, idRows (wideR rows bs).length)).1))).1 i j) := by
 intro c hc k hk hp i j
 rw [wideR_length] at hk hp ⊢
 have hr := rect_wide (bs := bs) h.row
 have hl : (echN c (wideR rows bs, idRows rows.length)).1.1.length = rows.length := by rw [echN_length]; exact wideR_length _ _
 have ho : (echN c (wideR rows bs, idRows rows.length)).2.length ≤ (echN c (wideR rows bs, idRows rows.length)).1.1.length := by rw [echN_length]; exact echN_out c _
 have hrk := rect_echN c hr
 have hw := h.w6
 have hb := sb_colN [] hrk ho (by rw [hl]; exact hp) (sb_ech [] hr h.sbW c) k (by rw [hl]; exact hk)
 have hb2 := hb.more (n' := 40959) (by rw [← bits_succ]; exact bits7 _ (by omega))
 have hrc := rect_clearN k (a := (echN c (wideR rows bs, idRows rows.length)).2.length) (col := c) (rect_div (col := c) (a := (echN c (wideR rows bs, idRows rows.length)).2.length) (rect_swap (a := (echN c (wideR rows bs, idRows rows.length)).2.length) (k := pivK c (echN c (wideR rows bs, idRows rows.length))) hrk (by obtain ⟨p1, p2, p3⟩ := piv_facts hrk ho (by rw [hl]; exact hp); omega) (by obtain ⟨p1, p2, p3⟩ := piv_facts hrk ho (by rw [hl]; exact hp); exact p1)) (by rw [swapS_length]; obtain ⟨p1, p2, p3⟩ := piv_facts hrk ho (by rw [hl]; exact hp); omega)) (by rw [divS_length, swapS_length, hl]; exact hk)
 exact (hb2.fit hrc.len (L := 1280) (by omega) i j).1.frac
def putE (f : Nat → Rat) (out : List Nat) : Nat → List Rat → List Rat
 | 0, x => x
 | n + 1, x => (putE f out n x).set (out.getD n 0) (f n)
theorem putE_length (f : Nat → Rat) (out : List Nat) (x : List Rat) : ∀ n, (putE f out n x).length = x.length
 | 0 => rfl
 | n + 1 => by rw [putE, List.length_set, putE_length f out x n]
theorem putE_X (done : List (List Rat)) (bs : List Rat) (out : List Nat) (f : Nat → Rat) (x : List Rat) : ∀ n, (∀ i, i < n → f i = dotL (done.getD i []) bs) → putE f out n x = putX done bs out n x
 | 0, _ => rfl
 | n + 1, h => by rw [putE, putX, putE_X done bs out f x n (fun i hi => h i (by omega)), h n (by omega)]
theorem nil_of_short {l : List Nat} (h : l.length ≤ 0) : l = [] := List.eq_nil_of_length_eq_zero (by omega)
theorem ref_cases {wd : Nat} {rows : List (List Rat)} {bs : List Rat} (h : Sys wd rows bs) (hw : wd = (rows.getD 0 []).length) :
  (denied rows bs → ∃ r, r < (refS rows bs wd).2.length ∧ (refS rows bs wd).2.getD r 0 = wd) ∧
  (¬ denied rows bs → (refS rows bs wd).2 = (solS rows).2 ∧ (∀ r, r < (refS rows bs wd).2.length → (refS rows bs wd).2.getD r 0 < wd) ∧
   putE (fun i => ent (refS rows bs wd).1.1 i wd) (refS rows bs wd).2 (refS rows bs wd).2.length (List.replicate wd 0) = solX rows bs) := by
 constructor
 ·intro hd
  rw [ref_denied h hd]
  exact ⟨(solS rows).2.length, by simp, by simp [List.getD]⟩
 ·intro hno
  by_cases h0 : 0 < rows.length
  ·obtain ⟨e1, e2⟩ := ref_plain h h0 hno
   have hI := echI (rect_id h.row) wd
   have es := h.solS_eq h0
   refine ⟨e1, fun r hr => ?_, ?_⟩
   ·rw [e1, es] at hr ⊢
    exact hI.lt r hr
   ·rw [putE_X (solS rows).1.2 bs]
    ·unfold solX
     rw [e1, ← hw]
    ·intro i hi
     refine e2 i ?_
     rw [e1] at hi
     have := echN_out (rows.getD 0 []).length (rows, idRows rows.length)
     unfold solS at hi
     exact Nat.lt_of_lt_of_le hi this
  ·have e : rows = [] := List.eq_nil_of_length_eq_zero (by omega)
   subst e
   have hw0 : wd = 0 := hw
   subst hw0
   have e1 : (refS [] bs 0).2 = [] := nil_of_short (echN_out 1 (wideR [] bs, idRows 0))
   have e2 : (solS []).2 = [] := nil_of_short (echN_out 0 ([], idRows 0))
   rw [e1, e2]
   refine ⟨rfl, fun r hr => absurd hr (by simp), ?_⟩
   refine (List.eq_nil_of_length_eq_zero ?_).symm
   rw [solX_length]; rfl
end Go.Proofs.YthnnbpnocefmgaaGreat
