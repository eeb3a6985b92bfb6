/- Slices of anything: what lies in them, element by element; one element more; what is kept when others grow. No program in sight. -/
import Derived.Test.YtpoahodnakhmiaaGreatApp
namespace Go.Proofs.YtpoahodnakhmiaaGreat
set_option linter.unusedVariables false
set_option linter.unusedSimpArgs false
open Go.RowKit
/-- the cells of values, one behind the other -/
def cellsL (us : List Value) : List Value := us.flatMap fun u => u.cells.toList
theorem cellsL_get {us : List Value} {sz : Nat} (h : ∀ u ∈ us, u.cells.size = sz) : ∀ (i : Nat) (u : Value), us[i]? = some u → ∀ j, j < sz → (cellsL us)[i * sz + j]? = some (u.cells.getD j undef) := by
  induction us with
  | nil => intro i u hi; simp at hi
  | cons a us ih =>
    intro i u hi j hj
    have ha := h a (List.mem_cons_self ..)
    unfold cellsL
    rw [List.flatMap_cons]
    cases i with
    | zero =>
      simp at hi
      subst hi
      rw [Nat.zero_mul, Nat.zero_add, List.getElem?_append_left (by rw [Array.length_toList]; omega)]
      simp [Array.getD, show j < a.cells.size by omega]
    | succ i =>
      rw [List.getElem?_append_right (by rw [Array.length_toList, ha, Nat.succ_mul]; omega), Array.length_toList, ha, show (i + 1) * sz + j - sz = i * sz + j by rw [Nat.succ_mul]; omega]
      exact ih (fun x hx => h x (List.mem_cons_of_mem _ hx)) i u (by simpa using hi) j hj
theorem cellsL_append (us vs : List Value) : cellsL (us ++ vs) = cellsL us ++ cellsL vs := by unfold cellsL; rw [List.flatMap_append]
theorem cellsL_one (u : Value) : cellsL [u] = u.cells.toList := by simp [cellsL]
/-- the cells from o on are this value's -/
def CellsAt (w : World) (b o : Nat) (u : Value) : Prop := ∀ j, j < u.cells.size → w.cell? ⟨b, o + j, none⟩ = some (u.cells.getD j undef)
/-- a slice whose elements are these -/
def LstV {α : Type} (T : TypeId) (sz : Nat) (R : World → Value → α → Prop) (w : World) (v : Value) (xs : List α) : Prop :=
  ∃ A c, v = .slice A xs.length c ∧ xs.length ≤ c ∧ c ≤ maxLen ∧ (0 < xs.length → ∃ b o, A = some ⟨b, o, none⟩ ∧ Typed w b T ∧ ∀ (i : Nat) (x : α), xs[i]? = some x → ∃ u, u.cells.size = sz ∧ CellsAt w b (o + i * sz) u ∧ R w u x)
/-- a slice of the call's own, that grows -/
def OwnG {α : Type} (T : TypeId) (sz : Nat) (R : World → Value → α → Prop) (w : World) (base : Nat) (v : Value) (xs : List α) : Prop :=
  ∃ us : List Value, us.length = xs.length ∧ w.ownsRow base T sz v xs.length (cellsL us) ∧ (∀ u ∈ us, u.cells.size = sz) ∧ ∀ (i : Nat) (u : Value) (x : α), us[i]? = some u → xs[i]? = some x → R w u x
theorem OwnG.nil {α : Type} (T : TypeId) (sz : Nat) (R : World → Value → α → Prop) (w : World) (base : Nat) : OwnG T sz R w base (.slice none 0 0) [] :=
  ⟨[], rfl, by have := World.ownsRow_nil w base T sz; simpa [cellsL] using this, fun u h => by simp at h, fun i u x h => by simp at h⟩
theorem OwnG.lst {α : Type} {T : TypeId} {sz : Nat} {R : World → Value → α → Prop} {w : World} {base : Nat} {v : Value} {xs : List α} (h : OwnG T sz R w base v xs) : LstV T sz R w v xs := by
  obtain ⟨us, hl, hown, hs, hR⟩ := h
  rcases hown.2 with ⟨hv, h0⟩ | ⟨g, cap, cur, hv, hbg, hg, hc, hm, hcs, ht⟩
  · exact ⟨none, 0, by rw [hv, h0], by omega, by simp [maxLen], fun hx => by omega⟩
  · refine ⟨_, cap, hv, hc, hm, fun _ => ⟨g, 0, rfl, ⟨cur, _, hg⟩, fun i x hx => ?_⟩⟩
    have hi : i < us.length := by rw [hl]; exact (List.getElem?_eq_some_iff.1 hx).1
    have hu : us[i]? = some us[i] := List.getElem?_eq_getElem hi
    refine ⟨us[i], hs _ (List.getElem_mem hi), fun j hj => ?_, hR i _ x hu hx⟩
    rw [hs _ (List.getElem_mem hi)] at hj
    have e := cellsL_get hs i _ hu j hj
    rw [← ht] at e
    have hlt : i * sz + j < xs.length * sz := by
      have := Nat.mul_le_mul_right sz (show i + 1 ≤ xs.length by omega)
      rw [Nat.succ_mul] at this; omega
    rw [List.getElem?_take_of_lt hlt] at e
    show (w.cell? ⟨g, 0 + i * sz + j, none⟩) = _
    unfold World.cell?
    simp only [hg]
    simpa using e
theorem OwnG.len {α : Type} {T : TypeId} {sz : Nat} {R : World → Value → α → Prop} {w : World} {base : Nat} {v : Value} {xs : List α} (h : OwnG T sz R w base v xs) : ∃ A c, v = .slice A xs.length c ∧ xs.length ≤ c ∧ c ≤ maxLen := by
  obtain ⟨A, c, e, h1, h2, _⟩ := h.lst
  exact ⟨A, c, e, h1, h2⟩
theorem OwnG.lt {α : Type} {T : TypeId} {sz : Nat} {R : World → Value → α → Prop} {w : World} {base : Nat} {v : Value} {xs : List α} (h : OwnG T sz R w base v xs) (g : Nat) (hg : v.ownBlock = some g) : base ≤ g ∧ g < w.heap.size ∧ Typed w g T := by
  obtain ⟨us, hl, hown, hs, hR⟩ := h
  have h1 := hown.lt g hg
  refine ⟨h1.1, h1.2, ?_⟩
  rcases hown.2 with ⟨hv, h0⟩ | ⟨g', cap, cur, hv, hbg, hgh, _⟩
  · rw [hv] at hg; cases hg
  · rw [hv] at hg
    obtain rfl : g' = g := by injection hg
    exact ⟨cur, _, hgh⟩
/-- every block of another type is as it was -/
def Kp (T : TypeId) (w w' : World) : Prop := ∀ b, b < w.heap.size → ¬ Typed w b T → w'.heap[b]? = w.heap[b]?
theorem Kp.typed {T e : TypeId} {w w' : World} (h : Kp T w w') {b : Nat} (hb : Typed w b e) (hne : e ≠ T) : w'.heap[b]? = w.heap[b]? :=
  h b hb.lt (fun g => hb.ne g hne rfl)
/-- what lies below is kept -/
def StB {α : Type} (R : World → Value → α → Prop) : Prop := ∀ w w' u x, Below w.heap.size w w' → R w u x → R w' u x
/-- it is kept when blocks of this type are written -/
def StK {α : Type} (T : TypeId) (R : World → Value → α → Prop) : Prop := ∀ w w' u x, Kp T w w' → R w u x → R w' u x
theorem OwnG.turn {α : Type} {T : TypeId} {sz : Nat} {R R' : World → Value → α → Prop} {w w' : World} {base : Nat} {v : Value} {xs : List α} (h : OwnG T sz R w base v xs) (hR : ∀ u x, R w u x → R' w' u x)
    (hb : ∀ g, v.ownBlock = some g → w'.heap[g]? = w.heap[g]?) : OwnG T sz R' w' base v xs := by
  obtain ⟨us, hl, hown, hs, h1⟩ := h
  refine ⟨us, hl, ⟨hown.1, ?_⟩, hs, fun i u x hu hx => hR u x (h1 i u x hu hx)⟩
  rcases hown.2 with h2 | ⟨g, cap, cur, hv, hg, hh, r⟩
  · exact .inl h2
  · exact .inr ⟨g, cap, cur, hv, hg, by rw [hb g (by rw [hv]; rfl)]; exact hh, r⟩
theorem OwnG.same {α : Type} {T : TypeId} {sz : Nat} {R : World → Value → α → Prop} {w w' : World} {base : Nat} {v : Value} {xs : List α} (h : OwnG T sz R w base v xs) (hR : ∀ u x, R w u x → R w' u x)
    (hb : ∀ g, v.ownBlock = some g → w'.heap[g]? = w.heap[g]?) : OwnG T sz R w' base v xs := h.turn hR hb
theorem OwnG.below {α : Type} {T : TypeId} {sz : Nat} {R : World → Value → α → Prop} (hR : StB R) {w w' : World} {base : Nat} {v : Value} {xs : List α} (h : OwnG T sz R w base v xs) (hb : Below w.heap.size w w') : OwnG T sz R w' base v xs :=
  h.same (fun u x => hR w w' u x hb) (fun g hg => hb.block g (h.lt g hg).2.1)
theorem OwnG.kp {α : Type} {T T' : TypeId} {sz : Nat} {R : World → Value → α → Prop} (hR : StK T' R) {w w' : World} {base : Nat} {v : Value} {xs : List α} (h : OwnG T sz R w base v xs) (hne : T ≠ T') (hk : Kp T' w w') : OwnG T sz R w' base v xs :=
  h.same (fun u x => hR w w' u x hk) (fun g hg => hk.typed (h.lt g hg).2.2 hne)
theorem LstV.same {α : Type} {T : TypeId} {sz : Nat} {R : World → Value → α → Prop} {w w' : World} {v : Value} {xs : List α} (h : LstV T sz R w v xs) (hR : ∀ u x, R w u x → R w' u x)
    (hb : ∀ b o n c, v = .slice (some ⟨b, o, none⟩) n c → Typed w b T → w'.heap[b]? = w.heap[b]?) : LstV T sz R w' v xs := by
  obtain ⟨A, c, rfl, h1, h2, h3⟩ := h
  refine ⟨A, c, rfl, h1, h2, fun hx => ?_⟩
  obtain ⟨b, o, rfl, ht, hc⟩ := h3 hx
  have e := hb b o _ _ rfl ht
  refine ⟨b, o, rfl, ht.same e, fun i x hi => ?_⟩
  obtain ⟨u, hs, hcu, hr⟩ := hc i x hi
  exact ⟨u, hs, fun j hj => (World.cell?_of_block (w := w) e).trans (hcu j hj), hR u x hr⟩
theorem LstV.below {α : Type} {T : TypeId} {sz : Nat} {R : World → Value → α → Prop} (hR : StB R) {w w' : World} {v : Value} {xs : List α} (h : LstV T sz R w v xs) (hb : Below w.heap.size w w') : LstV T sz R w' v xs :=
  h.same (fun u x => hR w w' u x hb) (fun b o n c _ ht => hb.block b ht.lt)
theorem LstV.kp {α : Type} {T T' : TypeId} {sz : Nat} {R : World → Value → α → Prop} (hR : StK T' R) (hne : T ≠ T') {w w' : World} {v : Value} {xs : List α} (h : LstV T sz R w v xs) (hk : Kp T' w w') : LstV T sz R w' v xs :=
  h.same (fun u x => hR w w' u x hk) (fun b o n c _ ht => hk.typed ht hne)
theorem stB_lst {α : Type} {T : TypeId} {sz : Nat} {R : World → Value → α → Prop} (hR : StB R) : StB (LstV T sz R) := fun w w' u x hb h => h.below hR hb
theorem stK_lst {α : Type} {T T' : TypeId} {sz : Nat} {R : World → Value → α → Prop} (hR : StK T' R) (hne : T ≠ T') : StK T' (LstV T sz R) := fun w w' u x hk h => h.kp hR hne hk
theorem LstV.imp {α : Type} {T : TypeId} {sz : Nat} {R R' : World → Value → α → Prop} {w : World} {v : Value} {xs : List α} (h : LstV T sz R w v xs) (hR : ∀ u x, x ∈ xs → R w u x → R' w u x) : LstV T sz R' w v xs := by
  obtain ⟨A, c, rfl, h1, h2, h3⟩ := h
  refine ⟨A, c, rfl, h1, h2, fun hx => ?_⟩
  obtain ⟨b, o, rfl, ht, hc⟩ := h3 hx
  exact ⟨b, o, rfl, ht, fun i x hi => by obtain ⟨u, a1, a2, a3⟩ := hc i x hi; exact ⟨u, a1, a2, hR u x (List.mem_of_getElem? hi) a3⟩⟩
theorem LstV.nil {α : Type} (T : TypeId) (sz : Nat) (R : World → Value → α → Prop) (w : World) : LstV T sz R w (.slice none 0 0) [] :=
  ⟨none, 0, rfl, Nat.le_refl _, by simp [maxLen], fun h => by simp at h⟩
/-- a type of slices, and of their elements -/
structure ElT (P : Program) (t e : TypeId) (sz bytes : Nat) : Prop where
  ht : P.underlying t = some (.slice e)
  hi : ∃ z, z.cells.size = sz ∧ (P.info? e).map (fun i => (i.zero, i.size, i.bytes)) = some (some z, sz, bytes)
  hs : 0 < sz
  hb : bytes ≤ 128
/-- how an append turns the world -/
structure Grew (w w' : World) (T : TypeId) (v : Value) (g : Nat) : Prop where
  by_ : w.grownBy w' v.ownBlock
  kp : Kp T w w'
  new : v.ownBlock = some g ∨ g = w.heap.size
  lt : g < w'.heap.size
/-- one element more -/
theorem appG {P : Program} {t e : TypeId} {sz bytes : Nat} (S : ElT P t e sz bytes) {α : Type} {R : World → Value → α → Prop} (hRk : StK e R) (w : World) {ops : Array Oper} {rest : List Oper} {o : Oper} {a : Act} {Q : Exit → Act → World → Prop} (hgd : o.guard = none) (s x : Operand)
    (ho : o.op = .call { callee := .builtin .append, args := #[s, x], argTypes := #[t, t] })
    (base : Nat) (v : Value) (xs : List α) (y : α) (hs : a.eval s = v) (hown : OwnG e sz R w base v xs)
    (ad : Addr) (c : Nat) (hx : a.eval x = .slice (some ad) 1 c) (u : Value) (hu : R w u y) (husz : u.cells.size = sz) (hcell : ∀ j, j < sz → w.cell? (ad.add j) = some (u.cells.getD j undef)) (hone : ∀ c ∈ u.cells.toList, c.oneCell' = true)
    (hlen : xs.length ≤ 1000000000000) (hbase : base ≤ w.heap.size)
    (h : ∀ g c' w', OwnG e sz R w' base (.slice (some ⟨g, 0, none⟩) (xs.length + 1) c') (xs ++ [y]) → Below base w w' → Grew w w' e v g →
      wpList P ops Q rest (a.put o.dst (.slice (some ⟨g, 0, none⟩) (xs.length + 1) c')) w') : wpList P ops Q (o :: rest) a w := by
  obtain ⟨z, hz0, hz1⟩ := S.hi
  obtain ⟨i, hi, hz, hsz, hby⟩ := info_parts hz1
  obtain ⟨us, hl, hown1, husz1, hR⟩ := id hown
  have hb := S.hb
  refine wpList_append_lies w hgd s x t ho base e i z sz bytes S.ht hi hz hsz hby hz0 S.hs v xs.length (cellsL us) hs hown1 ad 1 c u.cells.toList hx (by rw [Array.length_toList]; omega) ?_ hone (by omega) ?_ ?_ hbase w.heap.size rfl ?_
  · intro j d hj
    have hjl : j < sz := by
      have := (List.getElem?_eq_some_iff.1 hj).1
      rw [Array.length_toList] at this; omega
    rw [hcell j hjl]
    simp only [Array.getElem?_toList] at hj
    simp [Array.getD, show j < u.cells.size by omega] at hj ⊢
    exact hj
  · unfold maxLen; omega
  · have := Nat.mul_le_mul_left (xs.length + 1) hb; omega
  · intro g cap w' hown' hg hor hlt
    have hbl : Below base w w' := (Below.refl _ _).grown hg hbase fun g hgv => (hown.lt g hgv).1
    have hkp : Kp e w w' := fun b hb hnt => hg.block b hb (fun e' => hnt (hown.lt b e'.symm).2.2)
    have hown2 : OwnG e sz R w' base (.slice (some ⟨g, 0, none⟩) (xs.length + 1) cap) (xs ++ [y]) := by
      refine ⟨us ++ [u], by simp [hl], ?_, ?_, ?_⟩
      · rw [cellsL_append, cellsL_one, List.length_append, List.length_singleton]; exact hown'
      · intro d hd
        rcases List.mem_append.1 hd with hd | hd
        · exact husz1 d hd
        · rw [List.mem_singleton] at hd; rw [hd]; exact husz
      · intro j d y' hd hy'
        by_cases hj : j < us.length
        · rw [List.getElem?_append_left hj] at hd
          rw [List.getElem?_append_left (by omega)] at hy'
          exact hRk w w' d y' hkp (hR j d y' hd hy')
        · rw [List.getElem?_append_right (by omega)] at hd hy'
          have e1 : j - us.length = 0 := by have := (List.getElem?_eq_some_iff.1 hd).1; simp at this; omega
          rw [e1] at hd
          rw [show j - xs.length = 0 by omega] at hy'
          simp at hd hy'
          subst hd hy'
          exact hRk w w' u y hkp hu
    exact h g cap w' hown2 hbl ⟨hg, hkp, hor, hlt⟩
theorem below_al {w w' : World} (h : Below w.heap.size w w') (o : Obj) : Below w.heap.size w (w'.alloc o) := h.alloc h.size o
theorem cells_new (w : World) (cs : Array Value) (e : TypeId) {B : Nat} (hB : w.heap.size = B) {u : Value} (hu : u.cells = cs) {sz : Nat} (hs : cs.size = sz) (j : Nat) (hj : j < sz) : (w.alloc (.cells cs e)).cell? ((⟨B, 0, none⟩ : Addr).add j) = some (u.cells.getD j undef) := by
  subst hB
  have hh := heap_alloc_new w (.cells cs e)
  have ea : (⟨w.heap.size, 0, none⟩ : Addr).add j = ⟨w.heap.size, j, none⟩ := by unfold Addr.add; split <;> simp_all
  rw [ea, hu]
  unfold World.cell?
  simp only [hh]
  simp [Array.getD, show j < cs.size by omega]
theorem cells_new1 (w : World) (x : Value) (hx : x.cells = #[x]) (e : TypeId) {B : Nat} (hB : w.heap.size = B) (j : Nat) (hj : j < 1) : (w.alloc (.cells #[x] e)).cell? ((⟨B, 0, none⟩ : Addr).add j) = some (x.cells.getD j undef) :=
  cells_new w #[x] e hB hx rfl j hj
theorem cells_new3 (w : World) (x y z : Value) (e : TypeId) {B : Nat} (hB : w.heap.size = B) (j : Nat) (hj : j < 3) : (w.alloc (.cells #[x, y, z] e)).cell? ((⟨B, 0, none⟩ : Addr).add j) = some ((Value.agg #[x, y, z]).cells.getD j undef) :=
  cells_new w #[x, y, z] e hB rfl rfl j hj
theorem cells_new4 (w : World) (x y z u : Value) (e : TypeId) {B : Nat} (hB : w.heap.size = B) (j : Nat) (hj : j < 4) : (w.alloc (.cells #[x, y, z, u] e)).cell? ((⟨B, 0, none⟩ : Addr).add j) = some ((Value.agg #[x, y, z, u]).cells.getD j undef) :=
  cells_new w #[x, y, z, u] e hB rfl rfl j hj
end Go.Proofs.YtpoahodnakhmiaaGreat
