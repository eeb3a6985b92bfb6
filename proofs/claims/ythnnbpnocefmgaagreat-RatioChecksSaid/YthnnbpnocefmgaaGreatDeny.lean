import Derived.Test.YthnnbpnocefmgaaGreatSolved
namespace Go.Proofs.YthnnbpnocefmgaaGreat
set_option linter.unusedVariables false
set_option linter.unusedSimpArgs false
open Go.RowKit
def denyRow (rows : List (List Rat)) (bs : List Rat) : List Rat :=
 divL ((solS rows).1.2.getD (denyK (solS rows).1.2 bs rows.length (solS rows).2.length) []) (dotL ((solS rows).1.2.getD (denyK (solS rows).1.2 bs rows.length (solS rows).2.length) []) bs)
def denied (rows : List (List Rat)) (bs : List Rat) : Prop := denyK (solS rows).1.2 bs rows.length (solS rows).2.length < rows.length
def DenyR (w : World) (rows : List (List Rat)) (bs : List Rat) (L : Nat) (v : Value) (w' : World) : Prop :=
 Below w.heap.size w w' ∧ ((denied rows bs ∧ ∃ u g, v = .tuple #[u, .bool true] ∧ RV w' u g (denyRow rows bs) L) ∨ (¬ denied rows bs ∧ v = .tuple #[.slice none 0 0, .bool false]))
theorem deny_bad (w : World) (va vb : Value) (rows : List (List Rat)) (bs : List Rat) (L : Nat) (ha : RowsV w va rows L) (hb : RowV w vb bs L) (hL : L ≤ 134217700) (hc : checkQ rows bs ≠ 0) :
  Calls Tryz.prog 16 #[va, vb] w (Ret (fun v w' => v = .tuple #[.slice none 0 0, .bool false] ∧ Below w.heap.size w w')) := by
 have HA := hide (ai ha hb)
 obtain ⟨A1, c1, rfl, hc1, hm1, hx⟩ := ha
 obtain ⟨A2, c2, rfl, hc2, hm2, hy⟩ := hb
 clear hx hy
 obtain ⟨q, hq⟩ : ∃ q, q = checkQ rows bs := ⟨_, rfl⟩
 rw [← hq] at hc
 have hcb : (q != 0) = true := by rw [bne_iff_ne]; exact hc
 have HQ := hide hq; clear hq
 go_enter Tryz.func16, Tryz.ntmps16
 go_wp2_with fail
 refine (check_c _ _ _ rows bs L HA.out.1 HA.out.2 (by omega)).mono ?_
 rintro e w1 ⟨_, rfl, rfl, hd1⟩
 rw [← HQ.out]
 go_wp2
 go_ret2
 exact ⟨_, rfl, rfl, hd1⟩
theorem deny_n (w : World) (va vb : Value) (rows : List (List Rat)) (bs : List Rat) (L wd : Nat) (ha : RowsV w va rows L) (hb : RowV w vb bs L) (hL : L ≤ 134217700) (hL1 : 1 ≤ L) (h0 : 0 < rows.length) (hn : rows.length ≤ 1073741824)
  (hwd : ∀ i, i < rows.length → (rows.getD i []).length = wd) (hw1 : wd ≤ 1073741824) (hbl : bs.length = rows.length) (hfit : SolveFit L rows bs) (hc : checkQ rows bs = 0) :
  Calls Tryz.prog 16 #[va, vb] w (Ret (DenyR w rows bs L)) := by
 have HA := hide (ai ha (ai hb (ai hwd (ai hbl (ai hfit hc))))); clear hwd hbl hfit hc
 obtain ⟨A1, c1, rfl, hc1, hm1, hx⟩ := ha
 obtain ⟨A2, c2, rfl, hc2, hm2, hy⟩ := hb
 clear hx hy
 have hnil : ∀ w : World, (binOp .neq 26 (.slice none 0 0) (.slice none 0 0)).run Tryz.prog w = .ok (.bool false) w := fun w => run_neq_slice_nil_any w _ _ _ _ _ _ _ Tryz.underlying26
 go_enter Tryz.func16, Tryz.ntmps16
 go_wp2_with fail
 refine (check_c _ _ _ rows bs L HA.out.1 HA.out.2.1 (by omega)).mono ?_
 rintro e w1 ⟨_, rfl, rfl, hd1⟩
 rw [HA.out.2.2.2.2.2]
 go_wp2_with fail
 refine (solved_c _ _ _ rows bs L wd (HA.out.1.below hd1) (HA.out.2.1.below hd1) hL hL1 h0 hn HA.out.2.2.1 hw1 HA.out.2.2.2.1 HA.out.2.2.2.2.1).mono ?_
 rintro e w2 ⟨_, rfl, hd2, hcase⟩
 have hb2 := bnx hd1 hd2
 rcases hcase with ⟨hdn, u, g, rfl, hu⟩ | ⟨hdn, u, g, c, cc, rfl, hu⟩
 ·obtain ⟨c, rfl, q1, q2, q3⟩ := id hu
  have hneq : ∀ (w : World) (n : Nat), (binOp .neq 26 (.slice (some ⟨g, 0, none⟩) n c) (.slice none 0 0)).run Tryz.prog w = .ok (.bool true) w := fun w n => run_neq_slice_nil_any w _ _ _ _ _ _ _ Tryz.underlying26
  have HU := hide (ai hdn (ai hu hb2)); clear hdn hu hb2 q1 q2 q3
  generalize hl : (divL ((solS rows).1.2.getD (denyK (solS rows).1.2 bs rows.length (solS rows).2.length) []) (dotL ((solS rows).1.2.getD (denyK (solS rows).1.2 bs rows.length (solS rows).2.length) []) bs)).length = l at *
  have HL := hide hl; clear hl
  go_wp2
  go_ret2
  exact ⟨_, rfl, HU.out.2.2, .inl ⟨HU.out.1, _, g, rfl, HU.out.2.1⟩⟩
 ·have HU := hide (ai hdn (ai hu hb2)); clear hdn hu hb2
  go_wp2
  go_ret2
  exact ⟨_, rfl, HU.out.2.2, .inr ⟨fun h => by have := HU.out.1; unfold denied at h; omega, rfl⟩⟩
theorem deny_c (w : World) (va vb : Value) (rows : List (List Rat)) (bs : List Rat) (L wd : Nat) (ha : RowsV w va rows L) (hb : RowV w vb bs L) (hL : L ≤ 134217700) (hL1 : 1 ≤ L) (h0 : 0 < rows.length) (hn : rows.length ≤ 1073741824)
  (hwd : ∀ i, i < rows.length → (rows.getD i []).length = wd) (hw0 : 0 < wd) (hw1 : wd ≤ 1073741824) (hbl : bs.length = rows.length) (hfit : SolveFit L rows bs) (hc : checkQ rows bs = 0) :
  Calls Tryz.prog 16 #[va, vb] w (Ret (DenyR w rows bs L)) := deny_n w va vb rows bs L wd ha hb hL hL1 h0 hn hwd hw1 hbl hfit hc
def fitB (L : Nat) (q : Rat) : Bool := decide ((q.num.natAbs : Int) < 4294967296 ^ L) && decide ((q.den : Int) ≤ 4294967296 ^ L)
theorem fit_of {L : Nat} {q : Rat} (h : fitB L q = true) : FitQ L q := by
 unfold fitB at h
 simp only [Bool.and_eq_true, decide_eq_true_eq] at h
 exact h
theorem fit_zero (L : Nat) : FitQ L 0 := by
 have h : (0 : Int) < 4294967296 ^ L := Int.pow_pos (by omega)
 exact ⟨h, by have : ((0 : Rat).den : Int) = 1 := rfl; omega⟩
def fitRow (L : Nat) (qs : List Rat) : Bool := qs.all (fitB L)
theorem fit_row {L : Nat} {qs : List Rat} (h : fitRow L qs = true) (j : Nat) : FitQ L (qs.getD j 0) := by
 by_cases hj : j < qs.length
 ·rw [List.getD, List.getElem?_eq_getElem hj]
  exact fit_of (List.all_eq_true.1 h _ (List.getElem_mem hj))
 ·rw [List.getD, List.getElem?_eq_none (by omega)]; exact fit_zero L
def fitRows (L : Nat) (l : List (List Rat)) : Bool := l.all (fitRow L)
theorem fit_rows {L : Nat} {l : List (List Rat)} (h : fitRows L l = true) (i j : Nat) : FitQ L (ent l i j) := by
 unfold ent
 by_cases hi : i < l.length
 ·rw [show l.getD i [] = l[i] by simp [List.getD, hi]]
  exact fit_row (List.all_eq_true.1 h _ (List.getElem_mem hi)) j
 ·rw [show l.getD i [] = [] by simp [List.getD, List.getElem?_eq_none (Nat.le_of_not_lt hi)]]; exact fit_zero L
def fitSB (L : Nat) (S : St) : Bool := fitRows L S.1 && fitRows L S.2
theorem fit_S {L : Nat} {S : St} (h : fitSB L S = true) : FitS L S := by
 unfold fitSB at h
 rw [Bool.and_eq_true] at h
 exact fun i j => ⟨fit_rows h.1 i j, fit_rows h.2 i j⟩
def awRows : List (List Rat) := [[1, 2], [2, 4]]
def awB : List Rat := [1, 3]
def echFitB (L cols : Nat) (S : St) : Bool :=
 (List.range cols).all fun n => (List.range (S.1.length + 1)).all fun i =>
  decide (findK (echN n S).1.1 n S.1.length (echN n S).2.length = S.1.length) ||
  fitSB L (clearN (echN n S).2.length n i (divS (echN n S).2.length n (swapS (echN n S).2.length (findK (echN n S).1.1 n S.1.length (echN n S).2.length) (echN n S).1)))
theorem ech_fit {L cols : Nat} {S : St} (h : echFitB L cols S = true) : EchFit L cols S := by
 intro n hn i hi hne
 have h1 := List.all_eq_true.1 h n (List.mem_range.2 hn)
 have h2 := List.all_eq_true.1 h1 i (List.mem_range.2 (by omega))
 simp only [Bool.or_eq_true, decide_eq_true_eq] at h2
 rcases h2 with h2 | h2
 ·exact absurd h2 hne
 ·exact fit_S h2
theorem awSol : solS awRows = (([[1, 2], [0, 0]], [[1, 0], [-2, 1]]), [0]) := by
 decide +kernel
theorem awFit : SolveFit 1 awRows awB := by
 refine ⟨ech_fit (by decide +kernel), ?_, ?_⟩
 ·rw [awSol]
  intro i hi k hk
  simp only [awRows, List.length_cons, List.length_nil] at hi hk
  have hi' : i = 0 ∨ i = 1 := by omega
  have hk' : k = 0 ∨ k = 1 ∨ k = 2 := by omega
  rcases hi' with rfl | rfl <;> rcases hk' with rfl | rfl | rfl <;> exact fit_of (by decide +kernel)
 ·rw [awSol]
  intro i hi j _
  simp only [awRows, List.length_cons, List.length_nil] at hi
  have hi' : i = 0 ∨ i = 1 := by omega
  rcases hi' with rfl | rfl
  ·have h := fit_row (L := 1) (qs := divL [1, 0] (dotL [1, 0] awB)) (by decide +kernel) j
   by_cases hj : j < 2
   ·rw [divL_get _ _ _ (by simpa using hj)] at h; exact h
   ·show FitQ 1 (([1, 0] : List Rat).getD j 0 / _)
    rw [show ([1, 0] : List Rat).getD j 0 = 0 from by rw [List.getD, List.getElem?_eq_none (by simp; omega)]; rfl]
    rw [Rat.div_def, Rat.zero_mul]; exact fit_zero 1
  ·have h := fit_row (L := 1) (qs := divL [-2, 1] (dotL [-2, 1] awB)) (by decide +kernel) j
   by_cases hj : j < 2
   ·rw [divL_get _ _ _ (by simpa using hj)] at h; exact h
   ·show FitQ 1 (([-2, 1] : List Rat).getD j 0 / _)
    rw [show ([-2, 1] : List Rat).getD j 0 = 0 from by rw [List.getD, List.getElem?_eq_none (by simp; omega)]; rfl]
    rw [Rat.div_def, Rat.zero_mul]; exact fit_zero 1
theorem awDenied : denied awRows awB := by
 unfold denied
 decide +kernel
theorem awRow : (denyRow awRows awB).length = 2 := by
 decide +kernel
theorem awCheck : checkQ awRows awB = 0 := by
 decide +kernel
theorem awSum : Rat.divInt 1 3 + Rat.divInt 1 6 = Rat.divInt 1 2 := by decide +kernel
theorem awText : ratText (Rat.divInt 1 3 + Rat.divInt 1 6) = [49, 47, 50] := by decide +kernel
theorem awSmall : SmallQ (Rat.divInt 1 3 + Rat.divInt 1 6) := by
 rw [awSum]
 have h1 : (Rat.divInt 1 2).num = 1 := by decide +kernel
 have h2 : (Rat.divInt 1 2).den = 2 := by decide +kernel
 have h3 := pow_le_pow' (B := 2) (by omega) (show 2 ≤ mostBits by unfold mostBits; omega)
 unfold SmallQ Small
 rw [h1, h2]
 constructor
 ·show (1 : Int) < _; omega
 ·show (2 : Int) < _; omega
theorem at3_of {w : World} {g o : Nat} {s : Bool} {A1 A2 : Option Addr} {n1 c1 n2 c2 : Nat} {q : Rat} {L : Nat} (h : RatV w (.agg #[.bool s, .slice A1 n1 c1, .slice A2 n2 c2]) q L)
  (h0 : w.cell? ⟨g, o, none⟩ = some (.bool s)) (h1 : w.cell? ⟨g, o + 1, none⟩ = some (.slice A1 n1 c1)) (h2 : w.cell? ⟨g, o + 2, none⟩ = some (.slice A2 n2 c2)) : At3 w g o q L := by
 obtain ⟨n, l, e, g1, g2⟩ := h
 injection e with e
 simp only [Array.mk.injEq, List.cons.injEq, Value.bool.injEq, and_true] at e
 obtain ⟨rfl, rfl, rfl⟩ := e
 exact ⟨A1, n1, c1, A2, n2, c2, h0, h1, h2, g1, g2⟩
theorem row2_new (w : World) {s t : Bool} {A1 A2 B1 B2 : Option Addr} {n1 c1 n2 c2 m1 d1 m2 d2 : Nat} {p q : Rat} {L : Nat}
  (hp : RatV w (.agg #[.bool s, .slice A1 n1 c1, .slice A2 n2 c2]) p L) (hq : RatV w (.agg #[.bool t, .slice B1 m1 d1, .slice B2 m2 d2]) q L) :
  RowV (w.alloc (.cells #[.bool s, .slice A1 n1 c1, .slice A2 n2 c2, .bool t, .slice B1 m1 d1, .slice B2 m2 d2] 35)) (.slice (some ⟨w.heap.size, 0, none⟩) 2 2) [p, q] L := by
 have hb : Below w.heap.size w (w.alloc (.cells #[.bool s, .slice A1 n1 c1, .slice A2 n2 c2, .bool t, .slice B1 m1 d1, .slice B2 m2 d2] 35)) := (Below.refl _ _).alloc (nr _) _
 have hh := heap_alloc_new w (.cells #[.bool s, .slice A1 n1 c1, .slice A2 n2 c2, .bool t, .slice B1 m1 d1, .slice B2 m2 d2] 35)
 revert hb hh
 generalize w.alloc _ = W
 intro hb hh
 refine ⟨_, 2, rfl, by simp, by simp [maxLen], fun _ => ⟨w.heap.size, 0, rfl, fun i hi => ?_⟩⟩
 have hi' : i = 0 ∨ i = 1 := by simp at hi; omega
 rcases hi' with rfl | rfl
 ·exact at3_of (hp.below hb) (by simp [World.cell?, hh]) (by simp [World.cell?, hh]) (by simp [World.cell?, hh])
 ·exact at3_of (hq.below hb) (by simp [World.cell?, hh]) (by simp [World.cell?, hh]) (by simp [World.cell?, hh])
theorem rows2_new (w : World) {u v : Value} {r1 r2 : List Rat} {L : Nat} (h1 : RowV w u r1 L) (h2 : RowV w v r2 L) :
  RowsV (w.alloc (.cells #[u, v] 26)) (.slice (some ⟨w.heap.size, 0, none⟩) 2 2) [r1, r2] L := by
 have hb : Below w.heap.size w (w.alloc (.cells #[u, v] 26)) := (Below.refl _ _).alloc (nr _) _
 have hh := heap_alloc_new w (.cells #[u, v] 26)
 revert hb hh
 generalize w.alloc _ = W
 intro hb hh
 refine ⟨_, 2, rfl, by simp, by simp [maxLen], fun _ => ⟨w.heap.size, 0, rfl, fun i hi => ?_⟩⟩
 have hi' : i = 0 ∨ i = 1 := by simp at hi; omega
 rcases hi' with rfl | rfl
 ·exact ⟨u, by simp [World.cell?, hh], h1.below hb⟩
 ·exact ⟨v, by simp [World.cell?, hh], h2.below hb⟩
end Go.Proofs.YthnnbpnocefmgaaGreat
