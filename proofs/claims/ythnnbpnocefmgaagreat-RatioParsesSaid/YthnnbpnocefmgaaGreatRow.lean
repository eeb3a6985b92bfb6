/- Rows of fractions in memory. -/
import Derived.Test.YthnnbpnocefmgaaGreatText
namespace Go.Proofs.YthnnbpnocefmgaaGreat
set_option linter.unusedVariables false
set_option linter.unusedSimpArgs false
open Go.RowKit
/-- every block of words is as it was -/
def Keeps (w w' : World) : Prop := ∀ b, Typed w b (tyOf .u32) → w'.heap[b]? = w.heap[b]?
theorem Keeps.refl (w : World) : Keeps w w := fun _ _ => rfl
theorem Keeps.trans {a b c : World} (h : Keeps a b) (g : Keeps b c) : Keeps a c := fun p e => (g p (e.same (h p e))).trans (h p e)
theorem Below.keeps {w w' : World} (h : Below w.heap.size w w') : Keeps w w' := fun b e => h.block b e.lt
theorem Keeps.only {w w' : World} {g : Nat} {e : TypeId} (hg : w.grownBy w' (some g)) (ht : Typed w g e) (he : e ≠ tyOf .u32) : Keeps w w' :=
  fun b h => hg.block b h.lt (by intro e'; injection e' with e'; exact (h.ne ht (fun x => he x.symm)) e')
theorem NatV.keeps {w w' : World} {v : Value} {x : Int} {L : Nat} (h : NatV w v x L) (hk : Keeps w w') : NatV w' v x L := by
  obtain ⟨A, c, xs, rfl, h1, h2, h3, h4⟩ := h
  refine ⟨A, c, xs, rfl, h1, h2, fun hx => ?_, h4⟩
  obtain ⟨b, o, rfl, ht, hc⟩ := h3 hx
  exact ⟨b, o, rfl, ht.same (hk b ht), fun j hj => (World.cell?_of_block (w := w) (hk b ht)).trans (hc j hj)⟩
theorem RatV.keeps {w w' : World} {v : Value} {q : Rat} {L : Nat} (h : RatV w v q L) (hk : Keeps w w') : RatV w' v q L := by
  obtain ⟨n, l, rfl, h1, h2⟩ := h; exact ⟨n, l, rfl, h1.keeps hk, h2.keeps hk⟩
/-- how many words a number has, by its value -/
theorem NatV.fit {w : World} {v : Value} {x : Int} {L L' : Nat} (h : NatV w v x L) (hx : x < 4294967296 ^ L') : NatV w v x L' := by
  obtain ⟨A, c, xs, rfl, h1, h2, h3, h4, h5, rfl, h7⟩ := h
  refine ⟨A, c, xs, rfl, h1, h2, h3, h4, h5, rfl, ?_⟩
  rcases Nat.lt_or_ge L' xs.length with hlt | hge
  · have a := le_val_of_norm (B := 4294967296) (by omega) h4 h5 (by intro e; subst e; simp at hlt)
    have b := pow_le_pow' (B := 4294967296) (by omega) (show L' ≤ xs.length - 1 by omega)
    omega
  · exact hge
/-- a fraction of at most L words above and below -/
def FitQ (L : Nat) (q : Rat) : Prop := (q.num.natAbs : Int) < 4294967296 ^ L ∧ (q.den : Int) ≤ 4294967296 ^ L
theorem RatV.fit {w : World} {v : Value} {q : Rat} {L L' : Nat} (h : RatV w v q L) (hq : FitQ L' q) : RatV w v q L' := by
  obtain ⟨n, l, rfl, h1, h2⟩ := h
  exact ⟨n, l, rfl, h1.fit hq.1, h2.fit (by have := hq.2; omega)⟩
/-- three cells from p on are this fraction -/
def At3 (w : World) (b o : Nat) (q : Rat) (L : Nat) : Prop :=
  ∃ A1 n1 c1 A2 n2 c2, w.cell? ⟨b, o, none⟩ = some (.bool (decide (q.num < 0))) ∧ w.cell? ⟨b, o + 1, none⟩ = some (.slice A1 n1 c1) ∧ w.cell? ⟨b, o + 2, none⟩ = some (.slice A2 n2 c2) ∧
    NatV w (.slice A1 n1 c1) (q.num.natAbs : Int) L ∧ NatV w (.slice A2 n2 c2) ((q.den : Int) - 1) L
theorem At3.rat {w : World} {b o : Nat} {q : Rat} {L : Nat} (h : At3 w b o q L) :
    ∃ s A1 n1 c1 A2 n2 c2, w.cell? ⟨b, o, none⟩ = some (.bool s) ∧ w.cell? ⟨b, o + 1, none⟩ = some (.slice A1 n1 c1) ∧ w.cell? ⟨b, o + 2, none⟩ = some (.slice A2 n2 c2) ∧ RatV w (.agg #[.bool s, .slice A1 n1 c1, .slice A2 n2 c2]) q L := by
  obtain ⟨A1, n1, c1, A2, n2, c2, h0, h1, h2, g1, g2⟩ := h
  exact ⟨_, A1, n1, c1, A2, n2, c2, h0, h1, h2, _, _, rfl, g1, g2⟩
theorem At3.same {w w' : World} {b o : Nat} {q : Rat} {L : Nat} (h : At3 w b o q L) (hk : Keeps w w') (hb : w'.heap[b]? = w.heap[b]?) : At3 w' b o q L := by
  obtain ⟨A1, n1, c1, A2, n2, c2, h0, h1, h2, g1, g2⟩ := h
  have e : ∀ j, w'.cell? ⟨b, j, none⟩ = w.cell? ⟨b, j, none⟩ := fun j => World.cell?_of_block (w := w) hb
  exact ⟨A1, n1, c1, A2, n2, c2, (e _).trans h0, (e _).trans h1, (e _).trans h2, g1.keeps hk, g2.keeps hk⟩
theorem At3.below {w w' : World} {b o : Nat} {q : Rat} {L : Nat} (h : At3 w b o q L) (hb : Below w.heap.size w w') : At3 w' b o q L := by
  refine h.same (Below.keeps hb) ?_
  obtain ⟨A1, n1, c1, A2, n2, c2, h0, _⟩ := h
  exact hb.block b (lt_of_cell h0)
theorem At3.fit {w : World} {b o : Nat} {q : Rat} {L L' : Nat} (h : At3 w b o q L) (hq : FitQ L' q) : At3 w b o q L' := by
  obtain ⟨A1, n1, c1, A2, n2, c2, h0, h1, h2, g1, g2⟩ := h
  exact ⟨A1, n1, c1, A2, n2, c2, h0, h1, h2, g1.fit hq.1, g2.fit (by have := hq.2; omega)⟩
/-- a slice of fractions that is read -/
def RowV (w : World) (v : Value) (qs : List Rat) (L : Nat) : Prop :=
  ∃ A c, v = .slice A qs.length c ∧ qs.length ≤ c ∧ c ≤ maxLen ∧ (0 < qs.length → ∃ b o, A = some ⟨b, o, none⟩ ∧ ∀ i, i < qs.length → At3 w b (o + i * 3) (qs.getD i 0) L)
theorem RowV.below {w w' : World} {v : Value} {qs : List Rat} {L : Nat} (h : RowV w v qs L) (hb : Below w.heap.size w w') : RowV w' v qs L := by
  obtain ⟨A, c, rfl, h1, h2, h3⟩ := h
  refine ⟨A, c, rfl, h1, h2, fun hx => ?_⟩
  obtain ⟨b, o, rfl, hc⟩ := h3 hx
  exact ⟨b, o, rfl, fun i hi => (hc i hi).below hb⟩
/-- a block of fractions that may be written -/
def RowC (w : World) (g : Nat) (qs : List Rat) (L : Nat) : Prop :=
  (∃ cs, w.heap[g]? = some (.cells cs 35 (0, 0))) ∧ ∀ i, i < qs.length → At3 w g (i * 3) (qs.getD i 0) L
theorem RowC.lt {w : World} {g : Nat} {qs : List Rat} {L : Nat} (h : RowC w g qs L) : g < w.heap.size := by
  obtain ⟨⟨cs, h⟩, _⟩ := h; exact lt_of_block h
theorem RowC.frozen {w : World} {g : Nat} {qs : List Rat} {L : Nat} (h : RowC w g qs L) (j : Nat) : w.frozen? ⟨g, j, none⟩ = false := by
  obtain ⟨⟨cs, h⟩, _⟩ := h; simp [World.frozen?, h]
theorem RowC.same {w w' : World} {g : Nat} {qs : List Rat} {L : Nat} (h : RowC w g qs L) (hk : Keeps w w') (hb : w'.heap[g]? = w.heap[g]?) : RowC w' g qs L := by
  obtain ⟨⟨cs, h0⟩, h1⟩ := h
  exact ⟨⟨cs, hb.trans h0⟩, fun i hi => (h1 i hi).same hk hb⟩
theorem RowC.below {w w' : World} {g : Nat} {qs : List Rat} {L : Nat} (h : RowC w g qs L) (hb : Below w.heap.size w w') : RowC w' g qs L :=
  h.same (Below.keeps hb) (hb.block g h.lt)
theorem RowC.row {w : World} {g : Nat} {qs : List Rat} {L c : Nat} (h : RowC w g qs L) (hc : qs.length ≤ c) (hm : c ≤ maxLen) : RowV w (.slice (some ⟨g, 0, none⟩) qs.length c) qs L :=
  ⟨_, c, rfl, hc, hm, fun _ => ⟨g, 0, rfl, fun i hi => by rw [Nat.zero_add]; exact h.2 i hi⟩⟩
/-- one fraction is written -/
theorem RowC.set3 {w : World} {g : Nat} {qs : List Rat} {L : Nat} (h : RowC w g qs L) {i : Nat} (hi : i < qs.length) {q : Rat} {A1 A2 : Option Addr} {n1 c1 n2 c2 : Nat} {s : Bool}
    (hq : RatV w (.agg #[.bool s, .slice A1 n1 c1, .slice A2 n2 c2]) q L) :
    RowC (((w.setCell ⟨g, i * 3, none⟩ (.bool s)).setCell ⟨g, i * 3 + 1, none⟩ (.slice A1 n1 c1)).setCell ⟨g, i * 3 + 2, none⟩ (.slice A2 n2 c2)) g (qs.set i q) L ∧
    Keeps w (((w.setCell ⟨g, i * 3, none⟩ (.bool s)).setCell ⟨g, i * 3 + 1, none⟩ (.slice A1 n1 c1)).setCell ⟨g, i * 3 + 2, none⟩ (.slice A2 n2 c2)) ∧
    w.grownBy (((w.setCell ⟨g, i * 3, none⟩ (.bool s)).setCell ⟨g, i * 3 + 1, none⟩ (.slice A1 n1 c1)).setCell ⟨g, i * 3 + 2, none⟩ (.slice A2 n2 c2)) (some g) := by
  obtain ⟨⟨cs, h0⟩, h1⟩ := h
  obtain ⟨B1, m1, d1, B2, m2, d2, k0, k1, k2, _, _⟩ := h1 i hi
  have k1' : (w.setCell ⟨g, i * 3, none⟩ (.bool s)).cell? ⟨g, i * 3 + 1, none⟩ = some (.slice B1 m1 d1) := by
    rw [World.cell?_setCell_other _ _ _ _ (by intro e; injection e with e1 e2; omega)]; exact k1
  have k2' : ((w.setCell ⟨g, i * 3, none⟩ (.bool s)).setCell ⟨g, i * 3 + 1, none⟩ (.slice A1 n1 c1)).cell? ⟨g, i * 3 + 2, none⟩ = some (.slice B2 m2 d2) := by
    rw [World.cell?_setCell_other _ _ _ _ (by intro e; injection e with e1 e2; omega), World.cell?_setCell_other _ _ _ _ (by intro e; injection e with e1 e2; omega)]; exact k2
  have hgr : w.grownBy (((w.setCell ⟨g, i * 3, none⟩ (.bool s)).setCell ⟨g, i * 3 + 1, none⟩ (.slice A1 n1 c1)).setCell ⟨g, i * 3 + 2, none⟩ (.slice A2 n2 c2)) (some g) :=
    ⟨rfl, rfl, rfl, by simp [World.setCell], fun b hb hne => by
      have e1 : g ≠ b := by intro e; exact hne (by rw [e])
      simp [World.setCell, Array.getElem?_modify, e1]⟩
  have hk := Keeps.only hgr ⟨cs, _, h0⟩ (by decide)
  have hcl : ∀ (w : World) (j : Nat) (v : Value), (∃ cs, w.heap[g]? = some (.cells cs 35 (0, 0))) → ∃ cs, (w.setCell ⟨g, j, none⟩ v).heap[g]? = some (.cells cs 35 (0, 0)) := by
    rintro w j v ⟨cs, h⟩
    exact ⟨cs.setIfInBounds j v, by simp [World.setCell, Array.getElem?_modify, h]⟩
  refine ⟨⟨hcl _ _ _ (hcl _ _ _ (hcl _ _ _ ⟨cs, h0⟩)), fun j hj => ?_⟩, hk, hgr⟩
  rw [List.length_set] at hj
  by_cases hij : i = j
  · subst hij
    rw [show (qs.set i q).getD i 0 = q by simp [List.getD, hi]]
    obtain ⟨n, l, e, g1, g2⟩ := hq
    injection e with e
    simp only [Array.mk.injEq, List.cons.injEq, Value.bool.injEq, and_true] at e
    obtain ⟨rfl, rfl, rfl⟩ := e
    refine ⟨A1, n1, c1, A2, n2, c2, ?_, ?_, ?_, g1.keeps hk, g2.keeps hk⟩
    · rw [World.cell?_setCell_other _ _ _ _ (by intro e; injection e with e1 e2; omega), World.cell?_setCell_other _ _ _ _ (by intro e; injection e with e1 e2; omega)]
      exact World.cell?_setCell_same _ _ _ k0
    · rw [World.cell?_setCell_other _ _ _ _ (by intro e; injection e with e1 e2; omega)]
      exact World.cell?_setCell_same _ _ _ k1'
    · exact World.cell?_setCell_same _ _ _ k2'
  · rw [show (qs.set i q).getD j 0 = qs.getD j 0 by simp [List.getD, List.getElem?_set_ne hij]]
    obtain ⟨D1, l1, f1, D2, l2, f2, u0, u1, u2, g1, g2⟩ := h1 j hj
    have e : ∀ r, r < 3 → (((w.setCell ⟨g, i * 3, none⟩ (.bool s)).setCell ⟨g, i * 3 + 1, none⟩ (.slice A1 n1 c1)).setCell ⟨g, i * 3 + 2, none⟩ (.slice A2 n2 c2)).cell? ⟨g, j * 3 + r, none⟩ = w.cell? ⟨g, j * 3 + r, none⟩ := by
      intro r hr
      rw [World.cell?_setCell_other _ _ _ _ (by intro e; injection e with e1 e2; omega), World.cell?_setCell_other _ _ _ _ (by intro e; injection e with e1 e2; omega), World.cell?_setCell_other _ _ _ _ (by intro e; injection e with e1 e2; omega)]
    exact ⟨D1, l1, f1, D2, l2, f2, (e 0 (by omega)).trans u0, (e 1 (by omega)).trans u1, (e 2 (by omega)).trans u2, g1.keeps hk, g2.keeps hk⟩
end Go.Proofs.YthnnbpnocefmgaaGreat
