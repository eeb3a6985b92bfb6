import Derived.Test.YthnnbpnocefmgaaGreatSieg
namespace Go.Proofs.YthnnbpnocefmgaaGreat
set_option linter.unusedVariables false
set_option linter.unusedSimpArgs false
structure Sig (bs : List Rat) (rows : List (List Rat)) (T : St × List Nat) (σ : Nat → Nat) : Prop where
 lt : ∀ i, i < rows.length → σ i < rows.length
 inj : ∀ i j, i < rows.length → j < rows.length → σ i = σ j → i = j
 eq : ∀ i, i < rows.length → ∀ j, ex bs (rows, idRows rows.length) (σ i) j = sumN (fun s => ent rows (σ i) (T.2.getD s 0) * ex bs T.1 s j) T.2.length + (if T.2.length ≤ i then ex bs T.1 i j else 0)
theorem sig_ech {wd : Nat} {rows : List (List Rat)} (bs : List Rat) (h : ∀ i, i < rows.length → (rows.getD i []).length = wd) : ∀ k, ∃ σ, Sig bs rows (echN k (rows, idRows rows.length)) σ
 | 0 => ⟨id, fun i hi => hi, fun i j _ _ e => e, fun i hi j => by
   show ex bs (rows, idRows rows.length) i j = 0 + (if 0 ≤ i then ex bs (rows, idRows rows.length) i j else 0)
   rw [if_pos (Nat.zero_le _)]; grind⟩
 | k + 1 => by
  obtain ⟨σ, hS⟩ := sig_ech bs h k
  rw [echN]
  have hr := rect_echN k (rect_id h)
  have hl : (echN k (rows, idRows rows.length)).1.1.length = rows.length := echN_length _ _
  have ho : (echN k (rows, idRows rows.length)).2.length ≤ (echN k (rows, idRows rows.length)).1.1.length := by rw [hl]; exact echN_out k (rows, idRows rows.length)
  generalize echN k (rows, idRows rows.length) = T at *
  by_cases hp : pivK k T = T.1.1.length
  ·rw [colS_same hp]; exact ⟨σ, hS⟩
  ·obtain ⟨p1, p2, p3⟩ := piv_facts hr ho hp
   obtain ⟨a, ha⟩ : ∃ a, a = T.2.length := ⟨_, rfl⟩
   obtain ⟨p, hpe⟩ : ∃ p, p = pivK k T := ⟨_, rfl⟩
   have hcol := fun i j (hi : i < T.1.1.length) => ex_colN bs hr ho hp T.1.1.length (nr _) i j hi
   rw [colS_step hp]
   rw [show findK T.1.1 k T.1.1.length T.2.length = p from hpe.symm]
   rw [show pivK k T = p from hpe.symm] at p1 p2 p3 hcol
   rw [hl] at p1 hcol
   rw [← ha] at p2 hcol ho ⊢
   rw [hl] at ho ⊢
   have hsl : ∀ i, i < rows.length → sw a p i < rows.length := fun i hi => sw_lt (by omega) p1 hi
   refine ⟨fun i => σ (sw a p i), fun i hi => hS.lt _ (hsl i hi), fun i j hi hj e => sw_inj (hS.inj _ _ (hsl i hi) (hsl j hj) e), fun i hi j => ?_⟩
   have E := hS.eq _ (hsl i hi) j
   have Ec := hS.eq _ (hsl i hi) (3 * k)
   rw [ex_row] at Ec
   simp only [ex_row] at Ec
   rw [← ha] at E Ec
   show ex bs (rows, idRows rows.length) (σ (sw a p i)) j = sumN (fun s => ent rows (σ (sw a p i)) ((T.2 ++ [k]).getD s 0) * ex bs (clearN a k rows.length (divS a k (swapS a p T.1))) s j) (T.2 ++ [k]).length + (if (T.2 ++ [k]).length ≤ i then ex bs (clearN a k rows.length (divS a k (swapS a p T.1))) i j else 0)
   rw [List.length_append, List.length_singleton, ← ha]
   obtain ⟨b, hb⟩ : ∃ b : Nat → Rat, b = fun s => ent rows (σ (sw a p i)) (T.2.getD s 0) := ⟨_, rfl⟩
   obtain ⟨P, hP⟩ : ∃ P, P = ex bs T.1 p j / ent T.1.1 p k := ⟨_, rfl⟩
   have e1 : sumN (fun s => ent rows (σ (sw a p i)) ((T.2 ++ [k]).getD s 0) * ex bs (clearN a k rows.length (divS a k (swapS a p T.1))) s j) a = sumN (fun s => b s * ex bs T.1 s j) a - P * sumN (fun s => b s * ent T.1.1 s k) a := by
    rw [← sumN_take]
    refine sumN_eq a fun s hs => ?_
    rw [show (T.2 ++ [k]).getD s 0 = T.2.getD s 0 by simp only [List.getD_eq_getElem?_getD]; rw [List.getElem?_append_left (by omega)]]
    rw [hcol s j (by omega), if_neg (by omega), if_pos (by omega), sw_low p2 hs, ← hP, hb]
    grind
   have e2 : (T.2 ++ [k]).getD a 0 = k := by rw [ha]; simp [List.getD]
   have e3 : ex bs (clearN a k rows.length (divS a k (swapS a p T.1))) a j = P := by rw [hcol a j (by omega), if_pos rfl, hP]
   rw [sumN, e1, e2, e3]
   have E' : ex bs (rows, idRows rows.length) (σ (sw a p i)) j = sumN (fun s => b s * ex bs T.1 s j) a + (if a ≤ sw a p i then ex bs T.1 (sw a p i) j else 0) := by rw [hb]; exact E
   have Ec' : ent rows (σ (sw a p i)) k = sumN (fun s => b s * ent T.1.1 s k) a + (if a ≤ sw a p i then ent T.1.1 (sw a p i) k else 0) := by rw [hb]; exact Ec
   rw [E', Ec']
   have hPp : ent T.1.1 p k * P = ex bs T.1 p j := by
    rw [hP, Rat.div_def]
    have := Rat.mul_inv_cancel _ p3
    grind
   by_cases hia : i < a
   ·rw [sw_low p2 hia, if_neg (by omega), if_neg (by omega), if_neg (by omega)]; grind
   ·by_cases hie : i = a
    ·rw [hie, sw_left, if_pos p2, if_pos p2, if_neg (by omega)]; grind
    ·have hsh := sw_high p2 (show a ≤ i by omega)
     rw [if_pos hsh, if_pos hsh, if_pos (by omega), hcol i j hi, if_neg hie, if_pos hi, ← hP]; grind
theorem sumN_skip (F : Nat → Rat) (i : Nat) : ∀ n, i < n + 1 → sumN F (n + 1) = sumN (fun s => F (if s < i then s else s + 1)) n + F i
 | 0, h => by obtain rfl : i = 0 := by omega
              rfl
 | n + 1, h => by
  by_cases e : i = n + 1
  ·subst e
   rw [sumN, sumN_eq (f := fun s => F (if s < n + 1 then s else s + 1)) (g := F) (n + 1) (fun s hs => by show F (if s < n + 1 then s else s + 1) = F s; rw [if_pos hs])]
  ·rw [sumN, sumN_skip F i n (by omega), sumN]
   have : F (if n < i then n else n + 1) = F (n + 1) := by rw [if_neg (by omega)]
   rw [this]; grind
def RowM (M : Nat) (bs : List Rat) (rows : List (List Rat)) : Prop :=
 ∀ t, t < rows.length → ∃ m : Nat, 0 < m ∧ m ≤ M ∧ ∀ j, ∃ z : Int, ex bs (rows, idRows rows.length) t j * ((m : Int) : Rat) = z ∧ z.natAbs ≤ M
theorem sb_siegel {wd M B : Nat} {rows : List (List Rat)} (bs : List Rat) (h : ∀ i, i < rows.length → (rows.getD i []).length = wd) (hM : 0 < M) (hR : RowM M bs rows)
  (hB : ∀ n, n ≤ rows.length → (n + 1) * ((2 * ((n + 1) * M)) ^ n * M) < 2 ^ B) (k : Nat) : SB B bs (echN k (rows, idRows rows.length)).1 := by
 obtain ⟨σ, hS⟩ := sig_ech bs h k
 have hl : (echN k (rows, idRows rows.length)).1.1.length = rows.length := echN_length _ _
 have ho : (echN k (rows, idRows rows.length)).2.length ≤ rows.length := echN_out k (rows, idRows rows.length)
 have hch : ∀ t, ∃ p : Nat × (Nat → Int), t < rows.length → 0 < p.1 ∧ p.1 ≤ M ∧ ∀ j, ex bs (rows, idRows rows.length) t j * ((p.1 : Int) : Rat) = p.2 j ∧ (p.2 j).natAbs ≤ M := by
  intro t
  by_cases ht : t < rows.length
  ·obtain ⟨m, h0, h1, h2⟩ := hR t ht
   obtain ⟨z, hz⟩ := Classical.axiomOfChoice h2
   exact ⟨(m, z), fun _ => ⟨h0, h1, hz⟩⟩
  ·exact ⟨(0, fun _ => 0), fun h => absurd h ht⟩
 obtain ⟨P, hP⟩ := Classical.axiomOfChoice hch
 have hex : ∀ r t, r < rows.length → ex bs (rows, idRows rows.length) r (3 * t + 1) = if r = t then 1 else 0 := fun r t hr => by
  rw [ex_done]; exact ent_id _ _ _ hr
 generalize echN k (rows, idRows rows.length) = T at *
 intro i hi
 rw [hl] at hi
 by_cases hin : T.2.length ≤ i
 ·obtain ⟨τ, hτ⟩ : ∃ τ : Nat → Nat, τ = fun r => if r < T.2.length then σ r else σ i := ⟨_, rfl⟩
  have t1 : ∀ r, r < T.2.length → τ r = σ r := fun r hr => by rw [hτ]; exact if_pos hr
  have t2 : τ T.2.length = σ i := by rw [hτ]; exact if_neg (by omega)
  have tl : ∀ r, r ≤ T.2.length → τ r < rows.length := fun r hr => by
   by_cases e : r < T.2.length
   ·rw [t1 r e]; exact hS.lt _ (by omega)
   ·rw [show r = T.2.length by omega, t2]; exact hS.lt _ hi
  have tj : ∀ r t, r ≤ T.2.length → t ≤ T.2.length → τ r = τ t → r = t := fun r t hr ht e => by
   by_cases e1 : r < T.2.length
   ·by_cases e2 : t < T.2.length
    ·rw [t1 r e1, t1 t e2] at e; exact hS.inj _ _ (by omega) (by omega) e
    ·rw [t1 r e1, show t = T.2.length by omega, t2] at e
     have := hS.inj _ _ (by omega) hi e
     omega
   ·by_cases e2 : t < T.2.length
    ·rw [t1 t e2, show r = T.2.length by omega, t2] at e
     have := hS.inj _ _ hi (by omega) e
     omega
    ·omega
  refine siegVB (n := T.2.length) (M := M) (X := (2 * ((T.2.length + 1) * M)) ^ T.2.length) (z := fun r => (P (τ r)).2) (m := fun r => (P (τ r)).1) (ρ := fun r => ex bs (rows, idRows rows.length) (τ r)) (U := fun s => ex bs T.1 s) (V := ex bs T.1 i)
   (γ := fun r => if r < T.2.length then 0 else 1) (g := fun r => if r < T.2.length then 0 else ((P (τ r)).1 : Int)) (e := fun s => T.2.getD s 0) (τ := τ) (fun r hr => hP _ (tl r hr)) (fun r t hr ht => ?_) (fun r hr j => ?_) (fun r hr => ?_) (siegel_room _ _ hM) (hB _ ho)
  ·show ex bs (rows, idRows rows.length) (τ r) (3 * τ t + 1) = _
   rw [hex _ _ (tl r hr)]
   by_cases e : r = t
   ·rw [if_pos (by rw [e]), if_pos e]
   ·rw [if_neg (fun e2 => e (tj r t hr ht e2)), if_neg e]
  ·show ex bs (rows, idRows rows.length) (τ r) j = sumN (fun s => ex bs (rows, idRows rows.length) (τ r) (3 * T.2.getD s 0) * ex bs T.1 s j) T.2.length + (if r < T.2.length then 0 else 1) * ex bs T.1 i j
   simp only [ex_row]
   by_cases e : r < T.2.length
   ·rw [if_pos e, t1 r e, hS.eq r (by omega) j, if_neg (by omega)]; grind
   ·rw [if_neg e, show r = T.2.length by omega, t2, hS.eq i hi j, if_pos hin]; grind
  ·show (if r < T.2.length then (0 : Rat) else 1) * (((P (τ r)).1 : Int) : Rat) = ((if r < T.2.length then (0 : Int) else ((P (τ r)).1 : Int) : Int) : Rat) ∧ (if r < T.2.length then (0 : Int) else ((P (τ r)).1 : Int)).natAbs ≤ M
   have := (hP _ (tl r hr)).2.1
   by_cases e : r < T.2.length
   ·rw [if_pos e, if_pos e]; exact ⟨by simp, by simp⟩
   ·rw [if_neg e, if_neg e]; exact ⟨by grind, by omega⟩
 ·obtain ⟨n, hn⟩ : ∃ n, T.2.length = n + 1 := ⟨T.2.length - 1, by omega⟩
  obtain ⟨δ, hδ⟩ : ∃ δ : Nat → Nat, δ = fun s => if s < i then s else s + 1 := ⟨_, rfl⟩
  refine siegVB (n := n) (M := M) (X := (2 * ((n + 1) * M)) ^ n) (z := fun r => (P (σ r)).2) (m := fun r => (P (σ r)).1) (ρ := fun r => ex bs (rows, idRows rows.length) (σ r)) (U := fun s => ex bs T.1 (δ s)) (V := ex bs T.1 i)
   (γ := fun r => ent rows (σ r) (T.2.getD i 0)) (g := fun r => (P (σ r)).2 (3 * T.2.getD i 0)) (e := fun s => T.2.getD (δ s) 0) (τ := σ) (fun r hr => hP _ (hS.lt _ (by omega))) (fun r t hr ht => ?_) (fun r hr j => ?_) (fun r hr => ?_) (siegel_room _ _ hM) (hB _ (by omega))
  ·show ex bs (rows, idRows rows.length) (σ r) (3 * σ t + 1) = _
   rw [hex _ _ (hS.lt _ (by omega))]
   by_cases e : r = t
   ·rw [if_pos (by rw [e]), if_pos e]
   ·rw [if_neg (fun e2 => e (hS.inj r t (by omega) (by omega) e2)), if_neg e]
  ·show ex bs (rows, idRows rows.length) (σ r) j = sumN (fun s => ex bs (rows, idRows rows.length) (σ r) (3 * T.2.getD (δ s) 0) * ex bs T.1 (δ s) j) n + ent rows (σ r) (T.2.getD i 0) * ex bs T.1 i j
   simp only [ex_row]
   rw [hS.eq r (by omega) j, if_neg (by omega), hn, sumN_skip (fun s => ent rows (σ r) (T.2.getD s 0) * ex bs T.1 s j) i n (by omega), hδ]
   grind
  ·have h1 := (hP _ (hS.lt r (by omega))).2.2 (3 * T.2.getD i 0)
   rw [ex_row] at h1
   exact h1
end Go.Proofs.YthnnbpnocefmgaaGreat
