/- Walks: what is wrong with rows of fractions. -/
import Derived.Test.YthnnbpnocefmgaaGreatLong
import Derived.Test.YthnnbpnocefmgaaGreatNew
namespace Go.Proofs.YthnnbpnocefmgaaGreat
set_option linter.unusedVariables false
set_option linter.unusedSimpArgs false
open Go.RowKit
theorem RowsV.at_ {w : World} {A : Option Addr} {n c : Nat} {rows : List (List Rat)} {L : Nat} (h : RowsV w (.slice A n c) rows L) : n = rows.length ∧ rows.length ≤ c ∧ c ≤ maxLen ∧
    (0 < rows.length → ∃ b o, A = some ⟨b, o, none⟩ ∧ ∀ i, i < rows.length → ∃ u, w.cell? ⟨b, o + i, none⟩ = some u ∧ RowV w u (rows.getD i []) L) := by
  obtain ⟨A', c', e, h1, h2, h3⟩ := h
  injection e with e1 e2 e3
  subst e1 e2 e3
  exact ⟨rfl, h1, h2, h3⟩
/-- a row of another length than the first one -/
def shapeB (rows : List (List Rat)) (i : Nat) : Bool := decide ((rows.getD i []).length ≠ (rows.getD 0 []).length)
/-- a row with a long number -/
def longB (rows : List (List Rat)) (i : Nat) : Bool := anyB (fun j => longQ ((rows.getD i []).getD j 0)) (rows.getD i []).length
theorem shape_c (w : World) (B c i : Nat) (va u : Value) (rows : List (List Rat)) (L : Nat) (hB : w.cell? ⟨B, 0, none⟩ = some va) (ha : RowsV w va rows L) (hi : i < rows.length) (hu : RowV w u (rows.getD i []) L) :
    Calls Tryz.prog 101 #[u, .pointer (some ⟨B, 0, none⟩)] w (Ret (fun v w' => v = .bool (shapeB rows i) ∧ Below w.heap.size w w')) := by
  obtain ⟨A1, c1, rfl, hc1, hm1, hx⟩ := ha
  obtain ⟨b, o, rfl, hat⟩ := hx (by omega)
  obtain ⟨u0, hu0, A0, c0, rfl, _⟩ := hat 0 (by omega)
  obtain ⟨A2, c2, rfl, _⟩ := hu
  have h0 : 0 < rows.length := by omega
  have hs : shapeB rows i = (((rows.getD i []).length : Int) != ((rows.getD 0 []).length : Int)) := by
    unfold shapeB
    rw [Bool.eq_iff_iff, decide_eq_true_eq, bne_iff_ne]
    omega
  rw [hs]; clear hs
  rw [Nat.add_zero] at hu0
  generalize (rows.getD i []).length = m at *
  generalize (rows.getD 0 []).length = n at *
  clear hat hx
  go_enter Tryz.func101, Tryz.ntmps101
  go_wp2
  go_ret
  exact ⟨_, rfl, rfl, Below.refl _ _⟩
theorem longs_c (w : World) (i : Nat) (u : Value) (rows : List (List Rat)) (L : Nat) (hu : RowV w u (rows.getD i []) L) (hL : L ≤ 1073741800) :
    Calls Tryz.prog 104 #[u] w (Ret (fun v w' => v = .bool (longB rows i) ∧ Below w.heap.size w w')) := by
  have HU := hide hu
  obtain ⟨A2, c2, rfl, _⟩ := hu
  go_enter Tryz.func104, Tryz.ntmps104
  go_wp2_with fail
  refine (contains_q _ _ (rows.getD i []) L HU.out hL).mono ?_
  rintro e w1 ⟨_, rfl, rfl, hd1⟩
  go_wp2
  go_ret
  exact ⟨_, rfl, rfl, hd1⟩
set_option maxRecDepth 100000 in
theorem index_shape (w : World) (va : Value) (rows : List (List Rat)) (L : Nat) (B : Nat) (hB : w.cell? ⟨B, 0, none⟩ = some va) (ha : RowsV w va rows L) (hL : L ≤ 1073741800) :
    Calls Tryz.prog 137 #[va, .func (.func 101) #[] #[.pointer (some ⟨B, 0, none⟩)]] w (Ret (FoundR w (anyB (shapeB rows) rows.length))) := by
  have HA := hide ha
  obtain ⟨A1, c1, rfl, hc1, hm1, _⟩ := ha
  have HB := hide hB; clear hB
  unfold maxLen at hm1
  go_enter Tryz.func137, Tryz.ntmps137
  go_wp2
  go_loopw [8] (fun s8 wr => ∃ k : Nat, k ≤ rows.length ∧ s8 = .int .i64 k ∧ (∀ i, i < k → shapeB rows i = false) ∧ Below w.heap.size w wr) (fun s8 _ => rows.length - (intOf s8).toNat)
  case atStart => exact ⟨0, Nat.zero_le _, rfl, fun i hi => by omega, Below.refl _ _⟩
  case round =>
    obtain ⟨k, hk, rfl, hno, hbel⟩ := hrel
    by_cases hkl : k < rows.length
    · obtain ⟨_, _, _, hcell⟩ := (HA.out.below hbel).at_
      obtain ⟨g1, o1, rfl, hcl1⟩ := hcell (by omega)
      obtain ⟨u, hu, hr⟩ := hcl1 k hkl
      have HH := hide (And.intro hno (And.intro hbel (And.intro hr ((hbel.cell (lt_of_cell HB.out)).trans HB.out)))); clear hno hbel hr hcell hcl1
      rcases hp : shapeB rows k with _ | _
      · have HP := hide hp; clear hp
        go_wp2_with (go_at_call 101; refine (shape_c _ B 0 k _ _ rows L HH.out.2.2.2 (HA.out.below HH.out.2.1) hkl HH.out.2.2.1).mono ?_; rintro e w1 ⟨_, rfl, rfl, hd1⟩; rw [HP.out])
        go_roundw
        case rel =>
          refine ⟨k + 1, by omega, by go_num, fun i hi => ?_, below_next HH.out.2.1 hd1⟩
          by_cases h : i < k
          · exact HH.out.1 i h
          · obtain rfl : i = k := by omega
            exact HP.out
        case measure => simp [intOf]; omega
      · have HP := hide hp; clear hp
        go_wp2_with (go_at_call 101; refine (shape_c _ B 0 k _ _ rows L HH.out.2.2.2 (HA.out.below HH.out.2.1) hkl HH.out.2.2.1).mono ?_; rintro e w1 ⟨_, rfl, rfl, hd1⟩; rw [HP.out])
        go_ret
        exact ⟨_, rfl, k, rfl, by rw [anyB_of hkl HP.out]; simp, below_next HH.out.2.1 hd1⟩
    · obtain rfl : k = rows.length := by omega
      have HH := hide (And.intro hno hbel); clear hno hbel
      go_wp2
      go_ret
      exact ⟨_, rfl, -1, rfl, by rw [anyB_none HH.out.1]; rfl, HH.out.2⟩
theorem contains_shape (w : World) (va : Value) (rows : List (List Rat)) (L : Nat) (B : Nat) (hB : w.cell? ⟨B, 0, none⟩ = some va) (ha : RowsV w va rows L) (hL : L ≤ 1073741800) :
    Calls Tryz.prog 100 #[va, .func (.func 101) #[] #[.pointer (some ⟨B, 0, none⟩)]] w (Ret (fun v w' => v = .bool (anyB (shapeB rows) rows.length) ∧ Below w.heap.size w w')) := by
  have HA := hide ha
  obtain ⟨A1, c1, rfl, hc1, hm1, _⟩ := ha
  have HB := hide hB; clear hB
  go_enter Tryz.func100, Tryz.ntmps100
  go_wp2_with fail
  refine (index_shape _ _ rows L B HB.out HA.out hL).mono ?_
  rintro e w1 ⟨_, rfl, r, rfl, hr, hd1⟩
  have HR := hide hr; clear hr
  go_wp2
  go_ret
  exact ⟨_, rfl, by rw [← HR.out]; rfl, hd1⟩
set_option maxRecDepth 100000 in
theorem index_longs (w : World) (va : Value) (rows : List (List Rat)) (L : Nat) (ha : RowsV w va rows L) (hL : L ≤ 1073741800) :
    Calls Tryz.prog 137 #[va, .func (.func 104) #[] #[]] w (Ret (FoundR w (anyB (longB rows) rows.length))) := by
  have HA := hide ha
  obtain ⟨A1, c1, rfl, hc1, hm1, _⟩ := ha
  skip
  unfold maxLen at hm1
  go_enter Tryz.func137, Tryz.ntmps137
  go_wp2
  go_loopw [8] (fun s8 wr => ∃ k : Nat, k ≤ rows.length ∧ s8 = .int .i64 k ∧ (∀ i, i < k → longB rows i = false) ∧ Below w.heap.size w wr) (fun s8 _ => rows.length - (intOf s8).toNat)
  case atStart => exact ⟨0, Nat.zero_le _, rfl, fun i hi => by omega, Below.refl _ _⟩
  case round =>
    obtain ⟨k, hk, rfl, hno, hbel⟩ := hrel
    by_cases hkl : k < rows.length
    · obtain ⟨_, _, _, hcell⟩ := (HA.out.below hbel).at_
      obtain ⟨g1, o1, rfl, hcl1⟩ := hcell (by omega)
      obtain ⟨u, hu, hr⟩ := hcl1 k hkl
      have HH := hide (And.intro hno (And.intro hbel (And.intro hr trivial))); clear hno hbel hr hcell hcl1
      rcases hp : longB rows k with _ | _
      · have HP := hide hp; clear hp
        go_wp2_with (go_at_call 104; refine (longs_c _ k _ rows L HH.out.2.2.1 hL).mono ?_; rintro e w1 ⟨_, rfl, rfl, hd1⟩; rw [HP.out])
        go_roundw
        case rel =>
          refine ⟨k + 1, by omega, by go_num, fun i hi => ?_, below_next HH.out.2.1 hd1⟩
          by_cases h : i < k
          · exact HH.out.1 i h
          · obtain rfl : i = k := by omega
            exact HP.out
        case measure => simp [intOf]; omega
      · have HP := hide hp; clear hp
        go_wp2_with (go_at_call 104; refine (longs_c _ k _ rows L HH.out.2.2.1 hL).mono ?_; rintro e w1 ⟨_, rfl, rfl, hd1⟩; rw [HP.out])
        go_ret
        exact ⟨_, rfl, k, rfl, by rw [anyB_of hkl HP.out]; simp, below_next HH.out.2.1 hd1⟩
    · obtain rfl : k = rows.length := by omega
      have HH := hide (And.intro hno hbel); clear hno hbel
      go_wp2
      go_ret
      exact ⟨_, rfl, -1, rfl, by rw [anyB_none HH.out.1]; rfl, HH.out.2⟩
theorem contains_longs (w : World) (va : Value) (rows : List (List Rat)) (L : Nat) (ha : RowsV w va rows L) (hL : L ≤ 1073741800) :
    Calls Tryz.prog 100 #[va, .func (.func 104) #[] #[]] w (Ret (fun v w' => v = .bool (anyB (longB rows) rows.length) ∧ Below w.heap.size w w')) := by
  have HA := hide ha
  obtain ⟨A1, c1, rfl, hc1, hm1, _⟩ := ha
  skip
  go_enter Tryz.func100, Tryz.ntmps100
  go_wp2_with fail
  refine (index_longs _ _ rows L HA.out hL).mono ?_
  rintro e w1 ⟨_, rfl, r, rfl, hr, hd1⟩
  have HR := hide hr; clear hr
  go_wp2
  go_ret
  exact ⟨_, rfl, by rw [← HR.out]; rfl, hd1⟩
theorem width_c (w : World) (va : Value) (rows : List (List Rat)) (L : Nat) (ha : RowsV w va rows L) :
    Calls Tryz.prog 63 #[va] w (Ret (fun v w' => v = .int .i64 ((rows.getD 0 []).length : Nat) ∧ w = w')) := by
  obtain ⟨A1, c1, rfl, hc1, hm1, hx⟩ := ha
  rcases Nat.eq_zero_or_pos rows.length with h0 | h0
  · have hd : ((rows.length : Int) == 0) = true := by rw [h0]; rfl
    have e : rows = [] := List.eq_nil_of_length_eq_zero h0
    have hl : (rows.getD 0 []).length = 0 := by rw [e]; rfl
    rw [hl]; clear hl e hx
    generalize rows.length = n at *
    subst h0
    go_enter Tryz.func63, Tryz.ntmps63
    go_wp2
    go_ret
    exact ⟨_, rfl, rfl, rfl⟩
  · obtain ⟨b, o, rfl, hat⟩ := hx h0
    obtain ⟨u0, hu0, A0, c0, rfl, _⟩ := hat 0 h0
    rw [Nat.add_zero] at hu0
    have hd : ((rows.length : Int) == 0) = false := by rw [beq_eq_false_iff_ne]; omega
    generalize (rows.getD 0 []).length = n at *
    clear hat hx
    go_enter Tryz.func63, Tryz.ntmps63
    go_wp2
    go_ret
    exact ⟨_, rfl, rfl, rfl⟩
end Go.Proofs.YthnnbpnocefmgaaGreat
