import Derived.Test.YthnnbpnocefmgaaGreatRankG
import Derived.Test.YthnnbpnocefmgaaGreatDenR
namespace Go.Proofs.YthnnbpnocefmgaaGreat
set_option linter.unusedVariables false
set_option linter.unusedSimpArgs false
open Go.RowKit
def KpI (w w' : World) : Prop := ∀ b, Typed w b 3 → w'.heap[b]? = w.heap[b]?
theorem Below.kpI {w w' : World} (h : Below w.heap.size w w') : KpI w w' := fun b e => h.block b e.lt
theorem KpI.only {w w' : World} {g : Nat} {e : TypeId} (hg : w.grownBy w' (some g)) (ht : Typed w g e) (he : e ≠ 3) : KpI w w' :=
 fun b h => hg.block b h.lt (by intro e'; injection e' with e'; exact (h.ne ht (fun x => he x.symm)) e')
theorem LimV.kpI {w w' : World} {v : Value} {x : Int} {L : Nat} (h : LimV w v x L) (hk : KpI w w') : LimV w' v x L := by
 obtain ⟨A, c, xs, rfl, h1, h2, h3, h4⟩ := h
 refine ⟨A, c, xs, rfl, h1, h2, fun hx => ?_, h4⟩
 obtain ⟨b, o, rfl, ht, hc⟩ := h3 hx
 have e := hk b ht
 exact ⟨b, o, rfl, ht.same e, fun j hj => (World.cell?_of_block (w := w) e).trans (hc j hj)⟩
theorem QV.kpI {w w' : World} {v : Value} {q : Rat} {L : Nat} (h : QV w v q L) (hk : KpI w w') : QV w' v q L := by
 obtain ⟨n, d, rfl, h1, h2⟩ := h
 exact ⟨n, d, rfl, h1.kpI hk, h2.kpI hk⟩
def At4 (w : World) (b o : Nat) (q : Rat) (L : Nat) : Prop :=
 ∃ s A1 n1 c1 B1 m1 d1, w.cell? ⟨b, o, none⟩ = some (.bool s) ∧ w.cell? ⟨b, o + 1, none⟩ = some (.slice A1 n1 c1) ∧ w.cell? ⟨b, o + 2, none⟩ = some (.bool false) ∧ w.cell? ⟨b, o + 3, none⟩ = some (.slice B1 m1 d1) ∧
  QV w (.agg #[.bool s, .slice A1 n1 c1, .bool false, .slice B1 m1 d1]) q L
theorem At4.same {w w' : World} {b o : Nat} {q : Rat} {L : Nat} (h : At4 w b o q L) (hk : KpI w w') (hb : w'.heap[b]? = w.heap[b]?) : At4 w' b o q L := by
 obtain ⟨s, A1, n1, c1, B1, m1, d1, h0, h1, h2, h3, h4⟩ := h
 have e : ∀ j, w'.cell? ⟨b, j, none⟩ = w.cell? ⟨b, j, none⟩ := fun j => World.cell?_of_block (w := w) hb
 exact ⟨s, A1, n1, c1, B1, m1, d1, (e _).trans h0, (e _).trans h1, (e _).trans h2, (e _).trans h3, h4.kpI hk⟩
def QRowC (w : World) (g : Nat) (qs : List Rat) (L : Nat) : Prop :=
 (∃ cs, w.heap[g]? = some (.cells cs 41 (0, 0))) ∧ ∀ i, i < qs.length → At4 w g (i * 4) (qs.getD i 0) L
theorem QRowC.lt {w : World} {g : Nat} {qs : List Rat} {L : Nat} (h : QRowC w g qs L) : g < w.heap.size := by
 obtain ⟨⟨cs, h⟩, _⟩ := h; exact lt_of_block h
theorem QRowC.typed {w : World} {g : Nat} {qs : List Rat} {L : Nat} (h : QRowC w g qs L) : Typed w g 41 := by
 obtain ⟨⟨cs, h⟩, _⟩ := h; exact ⟨_, _, h⟩
theorem QRowC.frozen {w : World} {g : Nat} {qs : List Rat} {L : Nat} (h : QRowC w g qs L) (j : Nat) : w.frozen? ⟨g, j, none⟩ = false := by
 obtain ⟨⟨cs, h⟩, _⟩ := h; simp [World.frozen?, h]
theorem QRowC.same {w w' : World} {g : Nat} {qs : List Rat} {L : Nat} (h : QRowC w g qs L) (hk : KpI w w') (hb : w'.heap[g]? = w.heap[g]?) : QRowC w' g qs L := by
 obtain ⟨⟨cs, h0⟩, h1⟩ := h
 exact ⟨⟨cs, hb.trans h0⟩, fun i hi => (h1 i hi).same hk hb⟩
theorem QRowC.below {w w' : World} {g : Nat} {qs : List Rat} {L : Nat} (h : QRowC w g qs L) (hb : Below w.heap.size w w') : QRowC w' g qs L :=
 h.same (Below.kpI hb) (hb.block g h.lt)
theorem QRowC.set4 {w : World} {g : Nat} {qs : List Rat} {L : Nat} (h : QRowC w g qs L) {i : Nat} (hi : i < qs.length) {q : Rat} {A1 B1 : Option Addr} {n1 c1 m1 d1 : Nat} {s : Bool}
  (hq : QV w (.agg #[.bool s, .slice A1 n1 c1, .bool false, .slice B1 m1 d1]) q L) {w' : World}
  (hw : w' = (((w.setCell ⟨g, i * 4, none⟩ (.bool s)).setCell ⟨g, i * 4 + 1, none⟩ (.slice A1 n1 c1)).setCell ⟨g, i * 4 + 2, none⟩ (.bool false)).setCell ⟨g, i * 4 + 3, none⟩ (.slice B1 m1 d1)) :
  QRowC w' g (qs.set i q) L ∧ KpI w w' ∧ w.grownBy w' (some g) := by
 obtain ⟨⟨cs, h0⟩, h1⟩ := h
 obtain ⟨s0, D1, l1, e1, D2, l2, e2, k0, k1, k2, k3, _⟩ := h1 i hi
 have hgr : w.grownBy w' (some g) := by
  rw [hw]
  exact only_trans (only_trans (only_trans (setCell_only _ _ _ _) (setCell_only _ _ _ _)) (setCell_only _ _ _ _)) (setCell_only _ _ _ _)
 have hk := KpI.only hgr ⟨cs, _, h0⟩ (by decide)
 have hcl : ∀ (w : World) (j : Nat) (v : Value), (∃ cs, w.heap[g]? = some (.cells cs 41 (0, 0))) → ∃ cs, (w.setCell ⟨g, j, none⟩ v).heap[g]? = some (.cells cs 41 (0, 0)) := by
  rintro w j v ⟨cs, h⟩
  exact ⟨cs.setIfInBounds j v, by simp [World.setCell, Array.getElem?_modify, h]⟩
 have oth : ∀ j, (∀ r, r < 4 → j ≠ i * 4 + r) → w'.cell? ⟨g, j, none⟩ = w.cell? ⟨g, j, none⟩ := by
  intro j hj
  have a0 := hj 0 (by omega)
  have a1 := hj 1 (by omega)
  have a2 := hj 2 (by omega)
  have a3 := hj 3 (by omega)
  rw [hw]
  rw [World.cell?_setCell_other _ _ _ _ (by intro e; injection e with e1 e2; omega), World.cell?_setCell_other _ _ _ _ (by intro e; injection e with e1 e2; omega), World.cell?_setCell_other _ _ _ _ (by intro e; injection e with e1 e2; omega), World.cell?_setCell_other _ _ _ _ (by intro e; injection e with e1 e2; omega)]
 refine ⟨⟨by rw [hw]; exact hcl _ _ _ (hcl _ _ _ (hcl _ _ _ (hcl _ _ _ ⟨cs, h0⟩))), fun j hj => ?_⟩, hk, hgr⟩
 rw [List.length_set] at hj
 by_cases hij : i = j
 ·subst hij
  rw [show (qs.set i q).getD i 0 = q by simp [List.getD, hi]]
  refine ⟨s, A1, n1, c1, B1, m1, d1, ?_, ?_, ?_, ?_, hq.kpI hk⟩
  ·rw [hw, World.cell?_setCell_other _ _ _ _ (by intro e; injection e with e1 e2; omega), World.cell?_setCell_other _ _ _ _ (by intro e; injection e with e1 e2; omega), World.cell?_setCell_other _ _ _ _ (by intro e; injection e with e1 e2; omega)]
   exact World.cell?_setCell_same _ _ _ k0
  ·rw [hw, World.cell?_setCell_other _ _ _ _ (by intro e; injection e with e1 e2; omega), World.cell?_setCell_other _ _ _ _ (by intro e; injection e with e1 e2; omega)]
   refine World.cell?_setCell_same (u := .slice D1 l1 e1) _ _ _ ?_
   rw [World.cell?_setCell_other _ _ _ _ (by intro e; injection e with e1 e2; omega)]; exact k1
  ·rw [hw, World.cell?_setCell_other _ _ _ _ (by intro e; injection e with e1 e2; omega)]
   refine World.cell?_setCell_same (u := .bool false) _ _ _ ?_
   rw [World.cell?_setCell_other _ _ _ _ (by intro e; injection e with e1 e2; omega), World.cell?_setCell_other _ _ _ _ (by intro e; injection e with e1 e2; omega)]; exact k2
  ·rw [hw]
   refine World.cell?_setCell_same (u := .slice D2 l2 e2) _ _ _ ?_
   rw [World.cell?_setCell_other _ _ _ _ (by intro e; injection e with e1 e2; omega), World.cell?_setCell_other _ _ _ _ (by intro e; injection e with e1 e2; omega), World.cell?_setCell_other _ _ _ _ (by intro e; injection e with e1 e2; omega)]; exact k3
 ·rw [show (qs.set i q).getD j 0 = qs.getD j 0 by simp [List.getD, List.getElem?_set_ne hij]]
  obtain ⟨t, D3, l3, e3, D4, l4, e4, u0, u1, u2, u3, g4⟩ := h1 j hj
  exact ⟨t, D3, l3, e3, D4, l4, e4, (oth _ (fun r hr => by omega)).trans u0, (oth _ (fun r hr => by omega)).trans u1, (oth _ (fun r hr => by omega)).trans u2, (oth _ (fun r hr => by omega)).trans u3, g4.kpI hk⟩
structure MatQ (w : World) (base R cR : Nat) (vs rR : List Value) (gs : List Nat) (rows : List (List Rat)) (L : Nat) : Prop where
 bR : base ≤ R
 hR : VCel w R 27 vs rR
 n1 : vs.length = rows.length
 n4 : gs.length = rows.length
 c1 : rows.length ≤ cR
 c2 : cR ≤ maxLen
 rok : ∀ i, i < rows.length → base ≤ gs.getD i 0 ∧ (∃ c, vs.getD i undef = .slice (some ⟨gs.getD i 0, 0, none⟩) (rows.getD i []).length c ∧ (rows.getD i []).length ≤ c ∧ c ≤ maxLen) ∧ QRowC w (gs.getD i 0) (rows.getD i []) L
 dg : ∀ i j, i < rows.length → j < rows.length → i ≠ j → gs.getD i 0 ≠ gs.getD j 0
section
variable {w w' : World} {base R cR : Nat} {vs rR : List Value} {gs : List Nat} {rows : List (List Rat)} {L : Nat}
theorem MatQ.le (h : MatQ w base R cR vs rR gs rows L) : base ≤ w.heap.size := Nat.le_trans h.bR (Nat.le_of_lt h.hR.lt)
theorem MatQ.below (h : MatQ w base R cR vs rR gs rows L) (hb : Below w.heap.size w w') : MatQ w' base R cR vs rR gs rows L :=
 ⟨h.bR, (hb.block _ h.hR.lt).trans h.hR, h.n1, h.n4, h.c1, h.c2, fun i hi => by obtain ⟨q1, q2, q3⟩ := h.rok i hi; exact ⟨q1, q2, q3.below hb⟩, h.dg⟩
theorem MatQ.rowAt (h : MatQ w base R cR vs rR gs rows L) {i : Nat} (hi : i < rows.length) :
  ∃ g c, g = gs.getD i 0 ∧ w.cell? ⟨R, i, none⟩ = some (.slice (some ⟨g, 0, none⟩) (rows.getD i []).length c) ∧ (rows.getD i []).length ≤ c ∧ c ≤ maxLen ∧ QRowC w g (rows.getD i []) L ∧ base ≤ g := by
 obtain ⟨q1, ⟨c, q2, q3, q4⟩, q5⟩ := h.rok i hi
 have := h.hR.cell (j := i) (by rw [h.n1]; exact hi)
 exact ⟨_, c, rfl, by rw [this, q2], q3, q4, q5, q1⟩
theorem MatQ.sep (h : MatQ w base R cR vs rR gs rows L) {i : Nat} (hi : i < rows.length) : gs.getD i 0 ≠ R :=
 (h.rok i hi).2.2.typed.ne ⟨_, _, h.hR⟩ (by decide)
theorem MatQ.swap (h : MatQ w base R cR vs rR gs rows L) {i k : Nat} (hi : i < rows.length) (hk : k < rows.length)
  (hw : w' = (w.setCell ⟨R, k, none⟩ (vs.getD i undef)).setCell ⟨R, i, none⟩ (vs.getD k undef)) :
  MatQ w' base R cR (swapL vs i k undef) rR (swapL gs i k 0) (swapL rows i k []) L ∧ w.grownBy w' (some R) := by
 have hgr : w.grownBy w' (some R) := by rw [hw]; exact only_trans (setCell_only _ _ _ _) (setCell_only _ _ _ _)
 have hkp : KpI w w' := KpI.only hgr ⟨_, _, h.hR⟩ (by decide)
 have hv : VCel w' R 27 (swapL vs i k undef) rR := by
  have h1 := (h.hR.set_ (i := k) (vs.getD i undef) (by rw [h.n1]; exact hk)).set_ (i := i) (vs.getD k undef) (by rw [List.length_set, h.n1]; exact hi)
  rw [← hw] at h1
  have e : (vs.set k (vs.getD i undef)).set i (vs.getD k undef) = swapL vs i k undef := by
   unfold swapL
   by_cases e : i = k
   ·subst e; simp [List.set_set]
   ·rw [List.set_comm _ _ (fun e' => e e'.symm)]
  rwa [e] at h1
 refine ⟨⟨h.bR, hv, ?_, ?_, ?_, h.c2, ?_, ?_⟩, hgr⟩
 ·rw [swapL_length, swapL_length]; exact h.n1
 ·rw [swapL_length, swapL_length]; exact h.n4
 ·rw [swapL_length]; exact h.c1
 ·intro j hj
  rw [swapL_length] at hj
  have hs := sw_lt hi hk hj
  obtain ⟨q1, q2, q3⟩ := h.rok _ hs
  rw [swapL_get _ _ _ _ _ (by rw [h.n4]; exact hj), swapL_get _ _ _ _ _ (by rw [h.n1]; exact hj), swapL_get _ _ _ _ _ hj]
  exact ⟨q1, q2, q3.same hkp (hgr.block _ q3.lt (by intro e; injection e with e; exact h.sep hs e))⟩
 ·intro a b ha hb2 hne
  rw [swapL_length] at ha hb2
  rw [swapL_get _ _ _ _ _ (by rw [h.n4]; exact ha), swapL_get _ _ _ _ _ (by rw [h.n4]; exact hb2)]
  exact h.dg _ _ (sw_lt hi hk ha) (sw_lt hi hk hb2) (fun e => hne (sw_inj e))
theorem MatQ.row (h : MatQ w base R cR vs rR gs rows L) {i : Nat} (hi : i < rows.length) {qs : List Rat} (hl : qs.length = (rows.getD i []).length)
  (hq : QRowC w' (gs.getD i 0) qs L) (hk : KpI w w') (hg : w.grownBy w' (some (gs.getD i 0))) : MatQ w' base R cR vs rR gs (rows.set i qs) L := by
 have hbk : ∀ b, b < w.heap.size → b ≠ gs.getD i 0 → w'.heap[b]? = w.heap[b]? := fun b hb hne => hg.block b hb (by intro e; injection e with e; exact hne e)
 refine ⟨h.bR, (hbk R h.hR.lt (h.sep hi).symm).trans h.hR, ?_, ?_, ?_, h.c2, ?_, ?_⟩
 ·rw [List.length_set]; exact h.n1
 ·rw [List.length_set]; exact h.n4
 ·rw [List.length_set]; exact h.c1
 ·intro j hj
  rw [List.length_set] at hj
  obtain ⟨q1, q2, q3⟩ := h.rok j hj
  by_cases e : i = j
  ·subst e
   rw [show (rows.set i qs).getD i [] = qs by simp [List.getD, hj], hl]
   exact ⟨q1, q2, hq⟩
  ·rw [show (rows.set i qs).getD j [] = rows.getD j [] by simp [List.getD, List.getElem?_set_ne e]]
   exact ⟨q1, q2, q3.same hk (hbk _ q3.lt (fun e' => h.dg i j hi hj e e'.symm))⟩
 ·intro a b ha hb2 hne
  rw [List.length_set] at ha hb2
  exact h.dg a b ha hb2 hne
end
def mixL (new old : List Rat) (j : Nat) : List Rat := new.take j ++ old.drop j
theorem mixL_length {new old : List Rat} (hl : new.length = old.length) (j : Nat) : (mixL new old j).length = old.length := by
 unfold mixL; rw [List.length_append, List.length_take, List.length_drop]; omega
theorem mixL_get {new old : List Rat} (hl : new.length = old.length) (j i : Nat) : (mixL new old j).getD i 0 = if i < j then new.getD i 0 else old.getD i 0 := by
 unfold mixL
 by_cases h : i < j
 ·rw [if_pos h]
  by_cases hi : i < new.length
  ·simp only [List.getD_eq_getElem?_getD]
   rw [List.getElem?_append_left (by rw [List.length_take]; omega), List.getElem?_take_of_lt h]
  ·rw [getD_end (by rw [List.length_append, List.length_take, List.length_drop]; omega), getD_end (by omega)]
 ·rw [if_neg h]
  simp only [List.getD_eq_getElem?_getD]
  by_cases hj : j ≤ new.length
  ·rw [List.getElem?_append_right (by rw [List.length_take]; omega), List.length_take, List.getElem?_drop, show j + (i - min j new.length) = i by omega]
  ·rw [List.getElem?_eq_none (by rw [List.length_append, List.length_take, List.length_drop]; omega), List.getElem?_eq_none (by omega)]
theorem mixL_zero (new old : List Rat) : mixL new old 0 = old := by simp [mixL]
theorem mixL_all {new old : List Rat} (hl : new.length = old.length) : mixL new old old.length = new := by
 unfold mixL; rw [← hl, List.take_length, hl, List.drop_length, List.append_nil]
theorem ext_getD {l l' : List Rat} (hl : l.length = l'.length) (h : ∀ i, i < l.length → l.getD i 0 = l'.getD i 0) : l = l' := by
 refine List.ext_getElem hl fun i h1 h2 => ?_
 have := h i h1
 simpa [List.getD, h1, h2] using this
theorem mixL_set {new old : List Rat} (hl : new.length = old.length) {j : Nat} (hj : j < old.length) : (mixL new old j).set j (new.getD j 0) = mixL new old (j + 1) := by
 refine ext_getD (by rw [List.length_set, mixL_length hl, mixL_length hl]) fun i hi => ?_
 rw [List.length_set, mixL_length hl] at hi
 rw [getD_set _ _ _ _ _ (by rw [mixL_length hl]; exact hj), mixL_get hl, mixL_get hl]
 by_cases e : j = i
 ·subst e; rw [if_pos rfl, if_pos (by omega)]
 ·rw [if_neg e]
  by_cases h : i < j
  ·rw [if_pos h, if_pos (by omega)]
  ·rw [if_neg h, if_neg (by omega)]
end Go.Proofs.YthnnbpnocefmgaaGreat
