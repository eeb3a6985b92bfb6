import Derived.Test.YthnnbpnocefmgaaGreatDenR
import Derived.Test.YthnnbpnocefmgaaGreatOpenS
import Derived.Test.YthnnbpnocefmgaaGreatKept
import Derived.Test.YthnnbpnocefmgaaGreatDeny
import Derived.Test.YthnnbpnocefmgaaGreatApp
import Derived.Test.YthnnbpnocefmgaaGreatSiegE
namespace Go.Proofs.YthnnbpnocefmgaaGreat
set_option linter.unusedVariables false
set_option linter.unusedSimpArgs false
open Go.RowKit
theorem FracQ.lift {n n' : Nat} {q : Rat} (h : FracQ n q) (hn : n ≤ n') : FracQ n' q := by
 have := pow_le_pow' (B := 10) (by omega) hn
 exact ⟨by have := h.1; omega, by have := h.2; omega⟩
theorem FracQ.long {q : Rat} (h : FracQ 60 q) : longQ q = false := by
 unfold longQ
 have h1 : (decText (q.num.natAbs : Int)).length ≤ 60 := by
  by_cases e : (q.num.natAbs : Int) = 0
  ·rw [e]; decide
  ·exact dec_le (by omega) h.1
 have h2 : (decText (q.den : Int)).length ≤ 60 := dec_le (by have := q.den_pos; omega) h.2
 simp; omega
theorem nat10 (a : Nat) : (10 : Int) ^ a = ((10 ^ a : Nat) : Int) := by rw [Int.natCast_pow]; rfl
theorem FitQ.frac {L : Nat} {q : Rat} (h : FitQ L q) : FracQ (10 * L + 1) q := by
 have h1 : (4294967296 : Nat) ^ L ≤ 10000000000 ^ L := Nat.pow_le_pow_left (by omega) L
 have h2 : (10 : Nat) ^ (10 * L + 1) = 10000000000 ^ L * 10 := by rw [Nat.pow_succ, Nat.pow_mul]
 have h3 : (0 : Nat) < 10000000000 ^ L := Nat.pow_pos (by omega)
 obtain ⟨a, b⟩ := h
 rw [natp] at a b
 unfold FracQ
 rw [nat10]
 generalize (4294967296 : Nat) ^ L = X at *
 generalize (10000000000 : Nat) ^ L = Y at *
 generalize (10 : Nat) ^ (10 * L + 1) = Z at *
 constructor <;> omega
theorem RatE.rows {w : World} {v : Value} {rows : List (List Rat)} {L : Nat} (h : LstV 26 1 (RowE L) w v rows) : RowsV w v rows L := by
 obtain ⟨A, c, rfl, h1, h2, h3⟩ := h
 refine ⟨A, c, rfl, h1, h2, fun hx => ?_⟩
 obtain ⟨b, o, rfl, ht, hc⟩ := h3 hx
 refine ⟨b, o, rfl, fun i hi => ?_⟩
 obtain ⟨u, hs, hcu, hr⟩ := hc i (rows.getD i []) (by simp [List.getD, hi])
 obtain ⟨A1, c1, rfl, _⟩ := id hr
 have := hcu 0 (by rw [hs]; decide)
 rw [Nat.mul_one, Nat.add_zero] at this
 exact ⟨_, this, LstV.rowV hr⟩
theorem RowE.more {w : World} {v : Value} {qs : List Rat} {L L' : Nat} (h : RowE L w v qs) (hL : L ≤ L') : RowE L' w v qs := LstV.imp h fun u x _ hr => RatV.more hr hL
theorem RowsE.more {w : World} {v : Value} {rows : List (List Rat)} {L L' : Nat} (h : LstV 26 1 (RowE L) w v rows) (hL : L ≤ L') : LstV 26 1 (RowE L') w v rows := LstV.imp h fun u x _ hr => RowE.more hr hL
theorem Sys.wd_eq {wd : Nat} {rows : List (List Rat)} {bs : List Rat} (h : Sys wd rows bs) (i : Nat) (hi : i < rows.length) : (rows.getD i []).length = (rows.getD 0 []).length := by
 rw [h.row i hi, h.row 0 (by omega)]
theorem Sys.wd_le {wd : Nat} {rows : List (List Rat)} {bs : List Rat} (h : Sys wd rows bs) : (rows.getD 0 []).length ≤ 6 := by
 by_cases h0 : 0 < rows.length
 ·rw [h.row 0 h0]; exact h.w6
 ·rw [List.eq_nil_of_length_eq_zero (show rows.length = 0 by omega)]; simp
theorem Sys.check {wd : Nat} {rows : List (List Rat)} {bs : List Rat} (h : Sys wd rows bs) : checkQ rows bs = 0 := by
 unfold checkQ
 have a := h.n6
 have b := h.wd_le
 rw [if_neg (by omega), if_neg, if_neg]
 ·rintro (e | e)
  ·rw [anyB_none (fun i _ => ((h.smallB i).lift (by omega)).long)] at e; cases e
  ·rw [anyB_none (fun i hi => by unfold longB; exact anyB_none fun j _ => ((h.small i j).lift (by omega)).long)] at e; cases e
 ·rintro (e | e)
  ·exact e h.len
  ·rw [anyB_none (fun i hi => by unfold shapeB; exact decide_eq_false (by rw [h.wd_eq i hi]; simp))] at e; cases e
theorem getD_end {l : List Rat} {k : Nat} (h : l.length ≤ k) : l.getD k 0 = 0 := by
 rw [List.getD, List.getElem?_eq_none h]; rfl
theorem Sys.rank_le {wd : Nat} {rows : List (List Rat)} {bs : List Rat} (h : Sys wd rows bs) : (solS rows).2.length ≤ (rows.getD 0 []).length := by
 by_cases h0 : 0 < rows.length
 ·rw [h.solS_eq h0, h.row 0 h0]
  have hI := echI (rect_id h.row) wd
  have key : ∀ r, r < (echN wd (rows, idRows rows.length)).2.length → r ≤ (echN wd (rows, idRows rows.length)).2.getD r 0 := by
   intro r
   induction r with
   | zero => intro _; omega
   | succ r ih => intro hr; have := hI.mono r (r + 1) (by omega) hr; have := ih (by omega); omega
  by_cases hz : (echN wd (rows, idRows rows.length)).2.length = 0
  ·omega
  ·have a := key ((echN wd (rows, idRows rows.length)).2.length - 1) (by omega)
   have b := hI.lt ((echN wd (rows, idRows rows.length)).2.length - 1) (by omega)
   omega
 ·rw [List.eq_nil_of_length_eq_zero (show rows.length = 0 by omega)]
  decide
theorem RV.rowV {w : World} {v : Value} {g : Nat} {qs : List Rat} {L : Nat} (h : RV w v g qs L) : RowV w v qs L := by
 obtain ⟨c, rfl, h1, h2, h3⟩ := h
 exact h3.row h1 h2
theorem findK_congr {r r' : List (List Rat)} {col : Nat} (hl : r.length = r'.length) (h : ∀ i, i < r.length → ent r i col = ent r' i col) : ∀ f k, findK r col f k = findK r' col f k
 | 0, k => rfl
 | f + 1, k => by
  rw [findK, findK]
  by_cases hk : k < r.length
  ·rw [h k hk, ← hl, findK_congr hl h f (k + 1)]
  ·rw [if_neg (fun e => hk e.1), if_neg (fun e => hk (by rw [hl]; exact e.1))]
def wideR (rows : List (List Rat)) (bs : List Rat) : List (List Rat) := (List.range rows.length).map fun i => rows.getD i [] ++ [bs.getD i 0]
theorem wideR_length (rows : List (List Rat)) (bs : List Rat) : (wideR rows bs).length = rows.length := by simp [wideR]
theorem wideR_get (rows : List (List Rat)) (bs : List Rat) (i : Nat) (hi : i < rows.length) : (wideR rows bs).getD i [] = rows.getD i [] ++ [bs.getD i 0] := by
 unfold wideR; simp [List.getD, hi]
theorem wideR_row {wd : Nat} {rows : List (List Rat)} (bs : List Rat) (h : ∀ i, i < rows.length → (rows.getD i []).length = wd) (i : Nat) (hi : i < (wideR rows bs).length) : ((wideR rows bs).getD i []).length = wd + 1 := by
 rw [wideR_length] at hi
 rw [wideR_get _ _ _ hi, List.length_append, h i hi]; rfl
structure WideS (wd : Nat) (bs : List Rat) (T U : St × List Nat) : Prop where
 len : U.1.1.length = T.1.1.length
 out : U.2 = T.2
 row : ∀ i j, i < T.1.1.length → j < wd → ent U.1.1 i j = ent T.1.1 i j
 last : ∀ i, i < T.1.1.length → ent U.1.1 i wd = dotL (T.1.2.getD i []) bs
theorem WideS.piv {wd col : Nat} {bs : List Rat} {T U : St × List Nat} (h : WideS wd bs T U) (hc : col < wd) : pivK col U = pivK col T := by
 unfold pivK
 rw [h.len, h.out]
 exact findK_congr h.len (fun i hi => h.row i col (by rw [← h.len]; exact hi) hc) _ _
theorem WideS.step {wd wU col : Nat} {bs : List Rat} {T U : St × List Nat} (h : WideS wd bs T U) (hc : col < wd) (hrT : Rect wd T.1) (hrU : Rect wU U.1) (hoT : T.2.length ≤ T.1.1.length) : WideS wd bs (colS col T) (colS col U) := by
 have hp := h.piv hc
 have hoU : U.2.length ≤ U.1.1.length := by rw [h.len, h.out]; exact hoT
 by_cases hn : pivK col T = T.1.1.length
 ·have hnU : pivK col U = U.1.1.length := by rw [hp, hn, h.len]
  rw [colS_same hn, colS_same hnU]; exact h
 ·have hnU : pivK col U ≠ U.1.1.length := by rw [hp, h.len]; exact hn
  obtain ⟨p1, p2, p3⟩ := piv_facts hrT hoT hn
  have hlT := colS_length col T
  have hlU := colS_length col U
  rw [colS_step hn] at hlT ⊢
  rw [colS_step hnU] at hlU ⊢
  have eT : ∀ i j, i < T.1.1.length → _ := fun i j hi => ex_colN bs hrT hoT hn T.1.1.length (nr _) i j hi
  have eU : ∀ i j, i < U.1.1.length → _ := fun i j hi => ex_colN [] hrU hoU hnU U.1.1.length (nr _) i j hi
  have hs : ∀ i, i < T.1.1.length → sw T.2.length (pivK col T) i < T.1.1.length := fun i hi => sw_lt (by omega) p1 hi
  refine ⟨by rw [hlU, hlT, h.len], ?_, fun i j hi hj => ?_, fun i hi => ?_⟩
  ·show U.2 ++ [col] = T.2 ++ [col]; rw [h.out]
  ·rw [hlT] at hi
   have hiU : i < U.1.1.length := (by rw [h.len]; exact hi)
   have a := eT i (3 * j) hi
   have b := eU i (3 * j) (by rw [h.len]; exact hi)
   rw [ex_row, if_pos hi] at a
   rw [ex_row, if_pos hiU, h.out, hp] at b
   rw [h.len] at b
   simp only [ex_row] at a b
   show ent (clearN U.2.length col U.1.1.length (divS U.2.length col (swapS U.2.length (pivK col U) U.1))).1 i j = ent (clearN T.2.length col T.1.1.length (divS T.2.length col (swapS T.2.length (pivK col T) T.1))).1 i j
   rw [a, h.out, hp, h.len, b, h.row _ _ p1 hj, h.row _ _ p1 hc, h.row _ _ (hs i hi) hj, h.row _ _ (hs i hi) hc]
  ·rw [hlT] at hi
   have hiU : i < U.1.1.length := (by rw [h.len]; exact hi)
   have a := eT i 2 hi
   have b := eU i (3 * wd) (by rw [h.len]; exact hi)
   rw [ex_dot, if_pos hi] at a
   rw [ex_row, if_pos hiU, h.out, hp] at b
   rw [h.len] at b
   simp only [ex_row, ex_dot] at a b
   show ent (clearN U.2.length col U.1.1.length (divS U.2.length col (swapS U.2.length (pivK col U) U.1))).1 i wd = dotL ((clearN T.2.length col T.1.1.length (divS T.2.length col (swapS T.2.length (pivK col T) T.1))).2.getD i []) bs
   rw [a, h.out, hp, h.len, b, h.last _ p1, h.row _ _ p1 hc, h.last _ (hs i hi), h.row _ _ (hs i hi) hc]
theorem rect_wide {wd : Nat} {rows : List (List Rat)} {bs : List Rat} (h : ∀ i, i < rows.length → (rows.getD i []).length = wd) : Rect (wd + 1) (wideR rows bs, idRows rows.length) := by
 have := rect_id (wideR_row bs h); rw [wideR_length] at this; exact this
structure Sys4 (wd : Nat) (rows : List (List Rat)) : Prop where
 n40 : rows.length ≤ 40
 w40 : wd ≤ 40
 row : ∀ i, i < rows.length → (rows.getD i []).length = wd
 small : ∀ i j, FracQ 60 (ent rows i j)
theorem Sys4.solS_eq {wd : Nat} {rows : List (List Rat)} (h : Sys4 wd rows) (h0 : 0 < rows.length) : solS rows = echN wd (rows, idRows rows.length) := by
 unfold solS; rw [h.row 0 h0]
theorem Sys4.wd_eq {wd : Nat} {rows : List (List Rat)} (h : Sys4 wd rows) (i : Nat) (hi : i < rows.length) : (rows.getD i []).length = (rows.getD 0 []).length := by
 rw [h.row i hi, h.row 0 (by omega)]
theorem Sys4.wd_le {wd : Nat} {rows : List (List Rat)} (h : Sys4 wd rows) : (rows.getD 0 []).length ≤ 40 := by
 by_cases h0 : 0 < rows.length
 ·rw [h.row 0 h0]; exact h.w40
 ·rw [List.eq_nil_of_length_eq_zero (show rows.length = 0 by omega)]; simp
theorem Sys4.check {wd : Nat} {rows : List (List Rat)} (h : Sys4 wd rows) : checkQ rows (List.replicate rows.length 0) = 0 := by
 unfold checkQ
 have a := h.n40
 have b := h.wd_le
 have z : ∀ i, (List.replicate rows.length (0 : Rat)).getD i 0 = 0 := fun i => by simp only [List.getD, List.getElem?_replicate]; split <;> rfl
 rw [if_neg (by omega), if_neg, if_neg]
 ·rintro (e | e)
  ·rw [anyB_none (fun i _ => by rw [z i]; exact FracQ.long ⟨by decide, by decide⟩)] at e; cases e
  ·rw [anyB_none (fun i hi => by unfold longB; exact anyB_none fun j _ => (h.small i j).long)] at e; cases e
 ·rintro (e | e)
  ·exact e (by simp)
  ·rw [anyB_none (fun i hi => by unfold shapeB; exact decide_eq_false (by rw [h.wd_eq i hi]; simp))] at e; cases e
theorem ten60 : (10 : Nat) ^ 60 < 2 ^ 200 := by decide +kernel
theorem Sys4.rowM {wd : Nat} {rows : List (List Rat)} (h : Sys4 wd rows) {M E : Nat} (hE : E = 8400) (hM : M = 2 ^ E) : RowM M [] rows := by
 intro i hi
 have hF : ∀ {q : Rat}, FracQ 60 q → q.num.natAbs < 2 ^ 200 ∧ q.den < 2 ^ 200 := fun {q} hq => by
  have e : ((10 : Int) ^ 60) = ((10 ^ 60 : Nat) : Int) := by rw [nat10]
  have h1 := hq.1
  have h2 := hq.2
  have h3 := ten60
  rw [e] at h1 h2
  exact ⟨by omega, by omega⟩
 obtain ⟨m, h0, h1, h2⟩ := one_den (2 ^ 200) (Nat.pow_pos (by omega)) (rows.getD i []) (fun x hx => by obtain ⟨j, rfl⟩ := mem_getD hx; exact hF (h.small i j))
 have hlen : 200 * ((rows.getD i []).length + 1) ≤ E := by rw [h.row i hi]; have := h.w40; omega
 have hp := Nat.pow_le_pow_right (n := 2) (by omega) hlen
 rw [Nat.pow_mul, ← hM] at hp
 have hM0 : 0 < M := by rw [hM]; exact Nat.pow_pos (by omega)
 refine ⟨m, h0, by omega, fun j => ?_⟩
 unfold ex
 split
 ·by_cases hj : j / 3 < (rows.getD i []).length
  ·obtain ⟨z, a, b⟩ := h2 _ (getD_mem (j / 3) hj)
   exact ⟨z, a, by omega⟩
  ·refine ⟨0, ?_, by simp⟩
   have : ent rows i (j / 3) = 0 := by unfold ent; exact getD_end (by omega)
   show ent rows i (j / 3) * _ = _
   rw [this]; grind
 ·split
  ·show ∃ z : Int, ent (idRows rows.length) i (j / 3) * _ = _ ∧ _
   rw [ent_id _ _ _ hi]
   by_cases hk : i = j / 3
   ·rw [if_pos hk]; exact ⟨m, by grind, by rw [Int.natAbs_natCast]; omega⟩
   ·rw [if_neg hk]; exact ⟨0, by grind, by simp⟩
  ·show ∃ z : Int, dotL ((idRows rows.length).getD i []) [] * _ = _ ∧ _
   rw [dotL_one _ _ _ hi]
   exact ⟨0, by rw [show ([] : List Rat).getD i 0 = 0 by simp]; grind, by simp⟩
theorem room40 {M E B : Nat} (hE : E = 8400) (hB : B = 344704) (hM : M = 2 ^ E) (n : Nat) (hn : n ≤ 40) : (n + 1) * ((2 * ((n + 1) * M)) ^ n * M) < 2 ^ B := by
 have h1 : n + 1 ≤ 2 ^ 6 := by omega
 have h2 : 2 * ((n + 1) * M) ≤ 2 ^ (1 + (6 + E)) := by
  have e : 2 * (2 ^ 6 * M) = 2 ^ (1 + (6 + E)) := by rw [hM, Nat.pow_add 2 1, Nat.pow_add 2 6, Nat.pow_one]
  rw [← e]
  exact Nat.mul_le_mul_left _ (Nat.mul_le_mul_right _ h1)
 have h3 : (2 * ((n + 1) * M)) ^ n ≤ 2 ^ ((1 + (6 + E)) * 40) := by
  refine Nat.le_trans (Nat.pow_le_pow_left h2 n) ?_
  rw [← Nat.pow_mul]
  exact Nat.pow_le_pow_right (by omega) (Nat.mul_le_mul_left _ hn)
 have h4 : (n + 1) * ((2 * ((n + 1) * M)) ^ n * M) ≤ 2 ^ 6 * (2 ^ ((1 + (6 + E)) * 40) * M) := Nat.mul_le_mul h1 (Nat.mul_le_mul_right _ h3)
 have e : 2 ^ 6 * (2 ^ ((1 + (6 + E)) * 40) * M) = 2 ^ (6 + ((1 + (6 + E)) * 40 + E)) := by
  rw [hM, Nat.pow_add 2 6, Nat.pow_add 2 ((1 + (6 + E)) * 40) E]
 rw [e] at h4
 exact Nat.lt_of_le_of_lt h4 (Nat.pow_lt_pow_right (by omega) (by omega))
theorem Sys4.sb {wd : Nat} {rows : List (List Rat)} (h : Sys4 wd rows) (k : Nat) : SB 344704 [] (echN k (rows, idRows rows.length)).1 := by
 obtain ⟨E, hE⟩ : ∃ E : Nat, E = 8400 := ⟨_, rfl⟩
 obtain ⟨B, hB⟩ : ∃ B : Nat, B = 344704 := ⟨_, rfl⟩
 obtain ⟨M, hM⟩ : ∃ M : Nat, M = 2 ^ E := ⟨_, rfl⟩
 rw [← hB]
 exact sb_siegel [] h.row (by rw [hM]; exact Nat.pow_pos (by omega)) (h.rowM hE hM) (fun n hn => room40 hE hB hM n (by have := h.n40; omega)) k
theorem Sys4.fitS {wd : Nat} {rows : List (List Rat)} (h : Sys4 wd rows) (c k : Nat) (hk : k ≤ rows.length) (hp : pivK c (echN c (rows, idRows rows.length)) ≠ rows.length) :
  FitS 21600 (clearN (echN c (rows, idRows rows.length)).2.length c k (divS (echN c (rows, idRows rows.length)).2.length c (swapS (echN c (rows, idRows rows.length)).2.length (pivK c (echN c (rows, idRows rows.length))) (echN c (rows, idRows rows.length)).1))) := by
 have hr := rect_echN c (rect_id h.row)
 have hl : (echN c (rows, idRows rows.length)).1.1.length = rows.length := echN_length _ _
 have ho : (echN c (rows, idRows rows.length)).2.length ≤ (echN c (rows, idRows rows.length)).1.1.length := by rw [hl]; exact echN_out c (rows, idRows rows.length)
 have hp' : pivK c (echN c (rows, idRows rows.length)) ≠ (echN c (rows, idRows rows.length)).1.1.length := by rw [hl]; exact hp
 have hb := sb_colN [] hr ho hp' (h.sb c) k (by rw [hl]; exact hk)
 obtain ⟨p1, p2, p3⟩ := piv_facts hr ho hp'
 have hrc := rect_clearN k (a := (echN c (rows, idRows rows.length)).2.length) (col := c) (rect_div (col := c) (a := (echN c (rows, idRows rows.length)).2.length) (rect_swap (a := (echN c (rows, idRows rows.length)).2.length) (k := pivK c (echN c (rows, idRows rows.length))) hr (by omega) p1) (by rw [swapS_length]; omega)) (by rw [divS_length, swapS_length, hl]; exact hk)
 exact hb.fit hrc.len (by omega)
theorem Sys4.fit {wd : Nat} {rows : List (List Rat)} (h : Sys4 wd rows) : EchFit 21600 wd (rows, idRows rows.length) := by
 intro n hn i hi hp
 have hl : (echN n (rows, idRows rows.length)).1.1.length = rows.length := echN_length _ _
 have e : findK (echN n (rows, idRows rows.length)).1.1 n rows.length (echN n (rows, idRows rows.length)).2.length = pivK n (echN n (rows, idRows rows.length)) := by unfold pivK; rw [hl]
 show FitS 21600 (clearN _ n i (divS _ n (swapS _ (findK (echN n (rows, idRows rows.length)).1.1 n rows.length (echN n (rows, idRows rows.length)).2.length) _)))
 rw [e]
 exact h.fitS n i hi (by rw [← e]; exact hp)
theorem Sys4.refFit {wd : Nat} {rows : List (List Rat)} (h : Sys4 wd rows) : ∀ c, c < wd → ∀ k, k ≤ rows.length → pivK c (echN c (rows, idRows rows.length)) ≠ rows.length →
  ∀ i j, FracQ 216001 (ent (clearN (echN c (rows, idRows rows.length)).2.length c k (divS (echN c (rows, idRows rows.length)).2.length c (swapS (echN c (rows, idRows rows.length)).2.length (pivK c (echN c (rows, idRows rows.length))) (echN c (rows, idRows rows.length)).1))).1 i j) :=
 fun c _ k hk hp i j => (h.fitS c k hk hp i j).1.frac
theorem Sys4.rank_le {wd : Nat} {rows : List (List Rat)} (h : Sys4 wd rows) : (solS rows).2.length ≤ (rows.getD 0 []).length := by
 by_cases h0 : 0 < rows.length
 ·rw [h.solS_eq h0, h.row 0 h0]
  have hI := echI (rect_id h.row) wd
  have key : ∀ r, r < (echN wd (rows, idRows rows.length)).2.length → r ≤ (echN wd (rows, idRows rows.length)).2.getD r 0 := by
   intro r
   induction r with
   | zero => intro _; omega
   | succ r ih => intro hr; have := hI.mono r (r + 1) (by omega) hr; have := ih (by omega); omega
  by_cases hz : (echN wd (rows, idRows rows.length)).2.length = 0
  ·omega
  ·have a := key ((echN wd (rows, idRows rows.length)).2.length - 1) (by omega)
   have b := hI.lt ((echN wd (rows, idRows rows.length)).2.length - 1) (by omega)
   omega
 ·rw [List.eq_nil_of_length_eq_zero (show rows.length = 0 by omega)]
  decide
theorem rank_g (w : World) (va : Value) (rows : List (List Rat)) (wd : Nat) (ha : RowsV w va rows 21600) (h : Sys4 wd rows) :
  Calls Tryz.prog 50 #[va] w (Ret (fun v w' => v = .tuple #[.int .i64 ((solS rows).2.length : Nat), .int .i64 0] ∧ Below w.heap.size w w')) := by
 have h6 := h.n40
 have w6 := h.w40
 have HA := hide (ai ha h); clear h
 obtain ⟨A1, c1, rfl, hc1, hm1, hx⟩ := ha
 clear hx
 obtain ⟨N, hN⟩ : ∃ N, N = rows.length := ⟨_, rfl⟩
 have hmk := make_rat rows.length (by omega)
 rw [← hN] at hmk h6 hc1 ⊢
 have HN := hide hN
 have hb1 : Below w.heap.size w (w.alloc (.cells (madeCells #[Value.bool false, .slice none 0 0, .slice none 0 0] (N * 3)) 35)) := below_al (Below.refl _ _) _
 have hz := (zero_row w N 21600).row (c := N) (by simp) (by unfold maxLen; omega)
 rw [List.length_replicate] at hz
 have H1 := hide (ai hb1 hz)
 clear hN hb1 hz
 go_enter Tryz.func50, Tryz.ntmps50
 go_wp2_with fail
 refine (check_c _ _ _ rows (List.replicate N 0) 21600 (by have := HA.out.1.below H1.out.1; rwa [← HN.out] at this) H1.out.2 (by omega)).mono ?_
 rintro e w1 ⟨_, rfl, rfl, hd1⟩
 have hck := HA.out.2.check
 rw [← HN.out] at hck
 rw [hck]
 have H2 := hide (bnx H1.out.1 hd1)
 clear hd1 hck hmk
 by_cases h0 : 0 < N
 ·have hw := HA.out.2.row 0 (by rw [← HN.out]; exact h0)
  have HW := hide hw
  clear hw
  by_cases hw0 : wd = 0
  ·go_wp2_with fail
   refine (new_n _ _ rows 21600 (by have := HA.out.1.below H2.out; rwa [← HN.out] at this) (by rw [← HN.out]; exact h0) (by rw [← HN.out]; omega) (fun i hi => by rw [HA.out.2.row i hi]; omega) (by omega)).mono ?_
   rintro e w2 ⟨_, rfl, vR, vD, vs, us, gs, hs, rfl, hn1, hd2⟩
   have H3 := hide (bnx H2.out hd2)
   clear hn1 hd2
   go_wp2_with fail
   refine (width_c _ _ rows 21600 (by have := HA.out.1.below H3.out; rwa [← HN.out] at this)).mono ?_
   rintro e w3 ⟨_, rfl, rfl, rfl⟩
   rw [HW.out, hw0]
   have hrk : (solS rows).2.length = 0 := by rw [HA.out.2.solS_eq (by rw [← HN.out]; exact h0), hw0]; rfl
   have HRK := hide hrk
   clear hrk hw0
   go_wp2_with fail
   refine (echelon_0 _ _).mono ?_
   rintro e w4 ⟨_, rfl, rfl, rfl⟩
   go_wp2
   go_ret2
   exact ⟨_, rfl, by rw [HRK.out]; rfl, H3.out⟩
  ·go_wp2_with fail
   refine (new_c _ _ rows 21600 (by have := HA.out.1.below H2.out; rwa [← HN.out] at this) (by rw [← HN.out]; exact h0) (by rw [← HN.out]; omega) (fun i hi => by rw [HA.out.2.row i hi]; omega) (by omega)).mono ?_
   rintro e w2 ⟨_, rfl, M, R, D, cR, cD, vs, us, rR, rD, gs, hs, rfl, hm, hd2⟩
   have H3 := hide (ai (bnx H2.out hd2) hm)
   clear hm hd2
   go_wp2_with fail
   refine (width_c _ _ rows 21600 (by have := HA.out.1.below H3.out.1; rwa [← HN.out] at this)).mono ?_
   rintro e w3 ⟨_, rfl, rfl, rfl⟩
   rw [HW.out]
   have hef := HA.out.2.fit
   have HF := hide hef
   clear hef
   go_wp2_with fail
   refine (echelon_c _ w1.heap.size M R D cR cD vs us rR rD gs hs (rows, idRows rows.length) 21600 wd wd H3.out.2 (rect_id HA.out.2.row) (nr _) (by omega) HF.out (by omega) (by show rows.length ≤ _; rw [← HN.out]; omega)).mono ?_
   rintro e w4 ⟨cv, rfl, vs2, us2, gs2, hs2, hm3, hown, hb3⟩
   obtain ⟨Ao, co, rfl, hco, hmo, -⟩ := hown.form
   have ho2 : (natsI (echN wd (rows, idRows rows.length)).2).length = (solS rows).2.length := by rw [HA.out.2.solS_eq (by rw [← HN.out]; exact h0)]; simp [natsI]
   rw [ho2] at hco ⊢
   have hrl := HA.out.2.rank_le
   have hwl := HA.out.2.wd_le
   obtain ⟨rk, hrk⟩ : ∃ rk, rk = (solS rows).2.length := ⟨_, rfl⟩
   rw [← hrk] at hco hrl ⊢
   have H4 := hide (H3.out.1.trans (hb3.mono (by have := H2.out.size; omega)))
   have HRK := hide hrk
   clear hm3 hown hb3 ho2 hrk
   go_wp2
   go_ret2
   exact ⟨_, rfl, by rw [← HRK.out]; rfl, H4.out⟩
 ·have e1 : rows = [] := List.eq_nil_of_length_eq_zero (by rw [← HN.out]; omega)
  obtain rfl : N = 0 := by omega
  have hrk : (solS rows).2.length = 0 := by rw [e1]; rfl
  have HRK := hide hrk
  go_wp2_with fail
  refine (new_0 _ A1 c1).mono ?_
  rintro e w2 ⟨_, rfl, rfl, rfl⟩
  have H3 := hide (below_al H2.out (.cells #[.slice none 0 0, .slice none 0 0] 141))
  go_wp2_with fail
  refine (width_c _ _ rows 21600 (by have := HA.out.1.below H3.out; rwa [← HN.out] at this)).mono ?_
  rintro e w3 ⟨_, rfl, rfl, rfl⟩
  rw [show (rows.getD 0 []).length = 0 by rw [e1]; rfl]
  clear e1 hrk
  go_wp2_with fail
  refine (echelon_0 _ _).mono ?_
  rintro e w4 ⟨_, rfl, rfl, rfl⟩
  go_wp2
  go_ret2
  exact ⟨_, rfl, by rw [HRK.out]; rfl, H3.out⟩
end Go.Proofs.YthnnbpnocefmgaaGreat
