/- Walks: sums and products, or the error of what is too large. A row of integers grows: where its new block lies. Walks: a slice of bytes is turned round in place. -/
import Derived.Test.YthnnbpnocefmgaaGreatAttempt
import Derived.Test.YthnnbpnocefmgaaGreatDig
import Derived.Deep.AppendLies
namespace Go.Proofs.YthnnbpnocefmgaaGreat
set_option linter.unusedVariables false
set_option linter.unusedSimpArgs false
open Go.RowKit
theorem add_q (w : World) (a b : Value) (p q : Rat) (L : Nat) (ha : RatV w a p L) (hb : RatV w b q L) (hL : L ≤ 268435456) :
    Calls Tryz.prog 18 #[a, b] w (Ret (doneR w (p + q) (2 * L + 4))) := by
  have hmf : ∀ (fn : Fn) (first cap : Array Value) (w : World), (Instr.makeFunc fn first cap).run Tryz.prog w = .ok (.func fn first cap) w := fun _ _ _ _ => rfl
  have HA := hide (And.intro ha hb)
  obtain ⟨n1, l1, rfl, h1, g1⟩ := ha
  obtain ⟨n2, l2, rfl, h2, g2⟩ := hb
  obtain ⟨A1, c1, xs1, rfl, _⟩ := h1.open_
  obtain ⟨A2, c2, xs2, rfl, _⟩ := g1.open_
  obtain ⟨A3, c3, xs3, rfl, _⟩ := h2.open_
  obtain ⟨A4, c4, xs4, rfl, _⟩ := g2.open_
  clear h1 g1 h2 g2
  obtain ⟨b1, hs1⟩ : ∃ s, s = decide (p.num < 0) := ⟨_, rfl⟩
  obtain ⟨b2, hs2⟩ : ∃ s, s = decide (q.num < 0) := ⟨_, rfl⟩
  rw [← hs1, ← hs2] at HA
  rw [← hs1, ← hs2]
  clear hs1 hs2
  have hb0 : Below w.heap.size w (((w.alloc (.cells #[.bool b1, .slice A1 xs1.length c1, .slice A2 xs2.length c2] 35)).alloc (.cells #[.bool b2, .slice A3 xs3.length c3, .slice A4 xs4.length c4] 35)).alloc (.cells #[.bool false, .slice none 0 0, .slice none 0 0] 35)) := ((((Below.refl _ _).alloc (Nat.le_refl _) _).alloc (by simp) _).alloc (by simp; omega) _)
  have hs0 : Below (w.heap.size + 3) (((w.alloc (.cells #[.bool b1, .slice A1 xs1.length c1, .slice A2 xs2.length c2] 35)).alloc (.cells #[.bool b2, .slice A3 xs3.length c3, .slice A4 xs4.length c4] 35)).alloc (.cells #[.bool false, .slice none 0 0, .slice none 0 0] 35)) (((w.alloc (.cells #[.bool b1, .slice A1 xs1.length c1, .slice A2 xs2.length c2] 35)).alloc (.cells #[.bool b2, .slice A3 xs3.length c3, .slice A4 xs4.length c4] 35)).alloc (.cells #[.bool false, .slice none 0 0, .slice none 0 0] 35)) := (Below.refl _ _)
  go_enter Tryz.func18, Tryz.ntmps18
  go_wp2_with fail
  refine (plus_q _ _ _ p q L (HA.out.1.below hb0) (HA.out.2.below hb0) hL).mono ?_
  rintro e w1 ⟨u1, rfl, q1, hd1⟩
  have hs1 := below_more hs0 hd1 (by simp)
  have hb1 := below_next hb0 hd1
  go_wp2_with fail
  refine (attempt_kept _ u1 (p + q) (2 * L + 4) q1 (by omega)).mono ?_
  rintro e w2 ⟨_, rfl, hd2, ⟨hq, u2, rfl, n1, l1, rfl, q2, p2⟩ | ⟨hq, u2, rfl, n1, l1, rfl, q2, p2⟩⟩
  · have hs2 := below_more hs1 hd2 (by simp)
    have hb2 := below_next hb1 hd2
    obtain ⟨_, _, ⟨m0, m1, m2⟩, ⟨f0, f1, f2⟩, hz⟩ := boxes3 hs2
    obtain ⟨Ae, ce, xe, rfl, _⟩ := q2.open_
    obtain ⟨Af, cf, xf, rfl, _⟩ := p2.open_
    have HQ := hide hq; clear hq
    go_wp2
    refine bodyPost_ret (v := .tuple #[.agg #[.bool (decide ((p + q).num < 0)), .slice Ae xe.length ce, .slice Af xf.length cf], .int .i64 0]) ?_ rfl ?_
    · simp [results, Tryz.results18, go_sem, m0, m1, m2, hz]
    exact ⟨_, rfl, below_set3 hb2 (by omega) _ _ _, Or.inl ⟨HQ.out, _, rfl, _, _, rfl, q2.set3 m0 m1 m2, p2.set3 m0 m1 m2⟩⟩
  · have hs2 := below_more hs1 hd2 (by simp)
    have hb2 := below_next hb1 hd2
    obtain ⟨_, _, ⟨m0, m1, m2⟩, ⟨f0, f1, f2⟩, hz⟩ := boxes3 hs2
    obtain ⟨Ae, ce, xe, rfl, _⟩ := q2.open_
    obtain ⟨Af, cf, xf, rfl, _⟩ := p2.open_
    have HQ := hide hq; clear hq
    go_wp2
    refine bodyPost_ret (v := .tuple #[.agg #[.bool (decide ((0 : Rat).num < 0)), .slice Ae xe.length ce, .slice Af xf.length cf], .int .i64 11]) ?_ rfl ?_
    · simp [results, Tryz.results18, go_sem, m0, m1, m2, hz]
    exact ⟨_, rfl, below_set3 hb2 (by omega) _ _ _, Or.inr ⟨HQ.out, _, rfl, _, _, rfl, q2.set3 m0 m1 m2, p2.set3 m0 m1 m2⟩⟩
end Go.Proofs.YthnnbpnocefmgaaGreat
namespace Go.Proofs.YthnnbpnocefmgaaGreat
set_option linter.unusedVariables false
set_option linter.unusedSimpArgs false
open Go.RowKit
/-- one integer more; the row stays in its block, or moves to a new one -/
theorem app1x {P : Program} {t e : TypeId} {k : IntKind} {bytes : Nat} (S : IntT P t e k bytes) (w : World) {ops : Array Oper} {rest : List Oper} {o : Oper} {a : Act} {Q : Exit → Act → World → Prop} (hgd : o.guard = none) (s x : Operand)
    (ho : o.op = .call { callee := .builtin .append, args := #[s, x], argTypes := #[t, t] })
    (base : Nat) (v : Value) (xs : List Int) (d : Int) (hs : a.eval s = v) (hown : OwnI w base e k v xs)
    (ad : Addr) (c : Nat) (hx : a.eval x = .slice (some ad) 1 c) (hcell : w.cell? ad = some (.int k d))
    (hlen : xs.length ≤ 17592186044000) (hbase : base ≤ w.heap.size)
    (h : ∀ g c' w', OwnI w' base e k (.slice (some ⟨g, 0, none⟩) (xs.length + 1) c') (xs ++ [d]) → xs.length + 1 ≤ c' → c' ≤ maxLen → Below base w w' → w.grownBy w' v.ownBlock → (v.ownBlock = some g ∨ g = w.heap.size) → g < w'.heap.size →
      wpList P ops Q rest (a.put o.dst (.slice (some ⟨g, 0, none⟩) (xs.length + 1) c')) w') : wpList P ops Q (o :: rest) a w := by
  obtain ⟨i, hi, hz, hsz, hby⟩ := info_parts S.hi
  have hb := S.hb
  refine wpList_append_lies w hgd s x t ho base e i (.int k 0) 1 bytes S.ht hi hz hsz hby rfl (by decide) v xs.length (xs.map (Value.int k)) hs hown ad 1 c [.int k d] hx rfl ?_ ?_ (by omega) ?_ ?_ hbase w.heap.size rfl ?_
  · intro j u hj
    match j, hj with
    | 0, hj => simp at hj; subst hj; simpa [Addr.add] using hcell
  · intro u hu; simp at hu; subst hu; rfl
  · unfold maxLen; omega
  · have := Nat.mul_le_mul_left (xs.length + 1) hb; omega
  · intro g cap w' hown' hg hor hlt
    have hbl : Below base w w' := (Below.refl _ _).grown hg hbase fun g hgv => (hown.lt g hgv).1
    have hown2 : OwnI w' base e k (.slice (some ⟨g, 0, none⟩) (xs.length + 1) cap) (xs ++ [d]) := by unfold OwnI; simpa using hown'
    rcases hown'.2 with ⟨_, h0⟩ | ⟨g', cap', cur, hv, _, _, hc, hm, _, _⟩
    · omega
    · injection hv with e1 e2 e3
      subst e3
      exact h g cap w' hown2 hc hm hbl hg hor hlt
theorem Arr.only {w w' : World} {A : Option Addr} {k : IntKind} {xs : List Int} (h : Arr w A k xs) {r : Option Nat} (hg : w.grownBy w' r) (hne : ∀ b o, A = some ⟨b, o, none⟩ → r ≠ some b) : Arr w' A k xs := by
  intro hx
  obtain ⟨b, o, rfl, ht, hc⟩ := h hx
  have hbk := hg.block b ht.lt (fun e => hne b o rfl e.symm)
  refine ⟨b, o, rfl, ht.same hbk, fun j hj => ?_⟩
  rw [← hc j hj]
  exact World.cell?_of_block (w := w) hbk
theorem NatV.only {w w' : World} {b o n c : Nat} {x : Int} {L : Nat} (h : NatV w (.slice (some ⟨b, o, none⟩) n c) x L) {r : Option Nat} (hg : w.grownBy w' r) (hne : r ≠ some b) : NatV w' (.slice (some ⟨b, o, none⟩) n c) x L := by
  obtain ⟨A, c', xs, e, h1, h2, h3, h4⟩ := h
  injection e with e1 e2 e3
  subst e1 e2 e3
  exact ⟨_, _, xs, rfl, h1, h2, h3.only hg (by intro b' o' e; injection e with e; injection e with e1 e2; subst e1; exact hne), h4⟩
end Go.Proofs.YthnnbpnocefmgaaGreat
namespace Go.Proofs.YthnnbpnocefmgaaGreat
set_option linter.unusedVariables false
set_option linter.unusedSimpArgs false
open Go.RowKit
/-- block g begins with these integers, and may be written -/
def Cel (w : World) (g : Nat) (e : TypeId) (k : IntKind) (xs : List Int) (rest : List Value) : Prop := w.heap[g]? = some (.cells (xs.map (Value.int k) ++ rest).toArray e (0, 0))
section
variable {w w' : World} {g : Nat} {e : TypeId} {k : IntKind} {xs : List Int} {rest : List Value}
theorem Cel.lt (h : Cel w g e k xs rest) : g < w.heap.size := lt_of_block h
theorem Cel.cell (h : Cel w g e k xs rest) {j : Nat} (hj : j < xs.length) : w.cell? ⟨g, j, none⟩ = some (.int k (xs.getD j 0)) := by
  unfold Cel at h
  have hj2 : j < (xs.map (Value.int k)).length := by simpa using hj
  simp only [World.cell?, h, List.getElem?_toArray, List.getElem?_append_left hj2, List.getElem?_map, List.getElem?_eq_getElem hj]
  simp [List.getD, List.getElem?_eq_getElem hj]
theorem Cel.frozen (h : Cel w g e k xs rest) (j : Nat) : w.frozen? ⟨g, j, none⟩ = false := by unfold Cel at h; simp [World.frozen?, h]
theorem Cel.set_ (h : Cel w g e k xs rest) {i : Nat} (d : Int) (hi : i < xs.length) : Cel (w.setCell ⟨g, i, none⟩ (.int k d)) g e k (xs.set i d) rest := by
  unfold Cel at h ⊢
  have hj2 : i < (xs.map (Value.int k)).length := by simpa using hi
  simp [World.setCell, Array.getElem?_modify, h, List.map_set, List.set_append_left _ _ hj2]
theorem Cel.below {B : Nat} (h : Cel w g e k xs rest) (hb : Below B w w') (hg : g < B) : Cel w' g e k xs rest := (hb.block g hg).trans h
theorem Cel.drew (h : Cel w g e k xs rest) : Cel w.drew g e k xs rest := h
theorem Cel.arr (h : Cel w g e k xs rest) (he : e = tyOf k := by rfl) : Arr w (some ⟨g, 0, none⟩) k xs := fun _ => ⟨g, 0, rfl, ⟨_, _, by rw [← he]; exact h⟩, fun j hj => by rw [Nat.zero_add]; exact h.cell hj⟩
end
theorem OwnI.cel {w : World} {base : Nat} {e : TypeId} {k : IntKind} {v : Value} {xs : List Int} (h : OwnI w base e k v xs) (h0 : 0 < xs.length) :
    ∃ g c rest, v = .slice (some ⟨g, 0, none⟩) xs.length c ∧ base ≤ g ∧ xs.length ≤ c ∧ c ≤ maxLen ∧ Cel w g e k xs rest := by
  rcases h.2 with ⟨hv, h0⟩ | ⟨g, cap, cur, hv, hg, hh, hc, hm, hs, ht⟩
  · omega
  · refine ⟨g, cap, cur.toList.drop xs.length, hv, hg, hc, hm, ?_⟩
    unfold Cel
    rw [hh, ← ht, Nat.mul_one, List.take_append_drop]
/-- swapped at both ends as far as k -/
def RevTo (xs zs : List Int) (k : Nat) : Prop :=
  zs.length = xs.length ∧ ∀ m, m < xs.length → zs.getD m 0 = if m < k ∨ xs.length ≤ m + k then xs.getD (xs.length - 1 - m) 0 else xs.getD m 0
theorem revTo_zero (xs : List Int) : RevTo xs xs 0 := ⟨rfl, fun m hm => by rw [if_neg (by omega)]⟩
theorem revTo_end {xs zs : List Int} {k : Nat} (h : RevTo xs zs k) (hk : xs.length ≤ 2 * k + 1) : zs = xs.reverse := by
  obtain ⟨h1, h2⟩ := h
  apply List.ext_getElem (by simp [h1])
  intro i hi hi'
  have hx : i < xs.length := by omega
  have := h2 i hx
  rw [List.getElem_reverse]
  have e1 : zs.getD i 0 = zs[i] := by simp [List.getD, hi]
  rw [e1] at this
  rw [this]
  split
  · simp [List.getD, show xs.length - 1 - i < xs.length by omega]
  · have : xs.length - 1 - i = i := by omega
    simp [List.getD, hx, this]
theorem revTo_step {xs zs : List Int} {k : Nat} (h : RevTo xs zs k) (hk : 2 * k + 1 < xs.length) :
    RevTo xs ((zs.set k (zs.getD (xs.length - 1 - k) 0)).set (xs.length - 1 - k) (zs.getD k 0)) (k + 1) := by
  obtain ⟨h1, h2⟩ := h
  refine ⟨by simp [h1], fun m hm => ?_⟩
  have ha := h2 k (by omega)
  have hb := h2 (xs.length - 1 - k) (by omega)
  rw [if_neg (by omega)] at ha hb
  by_cases e1 : m = xs.length - 1 - k
  · subst e1
    rw [getD_set_eq (by simp [h1]; omega), ha, if_pos (by omega)]
    rw [show xs.length - 1 - (xs.length - 1 - k) = k by omega]
  · rw [getD_set_ne (fun e => e1 e.symm)]
    by_cases e2 : m = k
    · subst e2
      rw [getD_set_eq (by rw [h1]; omega), hb, if_pos (by omega)]
    · rw [getD_set_ne (fun e => e2 e.symm), h2 m hm]
      by_cases c : m < k ∨ xs.length ≤ m + k
      · rw [if_pos c, if_pos (by omega)]
      · rw [if_neg c, if_neg (by omega)]
theorem reverse_c (w : World) (g c : Nat) (xs : List Int) (rest : List Value) (h0 : 0 < xs.length) (hc : xs.length ≤ c) (hm : c ≤ maxLen) (h : Cel w g 5 .u8 xs rest) :
    Calls Tryz.prog 132 #[.slice (some ⟨g, 0, none⟩) xs.length c] w (Ret (fun v w' => v = .tuple #[] ∧ Cel w' g 5 .u8 xs.reverse rest ∧ w.grownBy w' (some g) ∧ w'.heap.size = w.heap.size)) := by
  unfold maxLen at hm
  have HC := hide h; clear h
  go_enter Tryz.func132, Tryz.ntmps132
  go_wp2
  go_loopw [2, 3] (fun s2 s3 wr => ∃ (k j : Nat) (zs : List Int), 2 * k ≤ xs.length ∧ k + j + 1 = xs.length ∧ s2 = .int .i64 k ∧ s3 = .int .i64 j ∧ RevTo xs zs k ∧ Cel wr g 5 .u8 zs rest ∧ w.grownBy wr (some g) ∧ wr.heap.size = w.heap.size) (fun s2 _ _ => xs.length - (intOf s2).toNat)
  case atStart => exact ⟨0, xs.length - 1, xs, by omega, by omega, rfl, by congr 1; omega, revTo_zero xs, HC.out, ⟨rfl, rfl, rfl, Nat.le_refl _, fun _ _ _ => rfl⟩, rfl⟩
  case round =>
    obtain ⟨k, j, zs, hk, hj, rfl, rfl, hrev, hcel, hgr, hsz⟩ := hrel
    have hzl := hrev.1
    by_cases hlt : k < j
    · have ci := hcel.cell (j := k) (by omega)
      have cj := hcel.cell (j := j) (by omega)
      have fi := hcel.frozen k
      have fj := hcel.frozen j
      obtain ⟨x, hx⟩ : ∃ x, x = zs.getD k 0 := ⟨_, rfl⟩
      obtain ⟨y, hy⟩ : ∃ y, y = zs.getD j 0 := ⟨_, rfl⟩
      rw [← hx] at ci
      rw [← hy] at cj
      have hne : ¬ k = j := by omega
      have hkl : k < xs.length := by omega
      have hjl : j < xs.length := by omega
      have HH := hide (And.intro hrev (And.intro hx (And.intro hy (And.intro hcel (And.intro hgr hsz))))); clear hrev hx hy hcel hgr hsz
      go_wp2
      go_region
      go_wp2
      go_roundw
      case rel =>
        obtain ⟨hrev, hx, hy, hcel, hgr, hsz⟩ := HH.out
        refine ⟨k + 1, j - 1, (zs.set k y).set j x, by omega, by omega, by go_num, by go_num, ?_, ?_, ?_, ?_⟩
        · have := revTo_step hrev (by omega)
          rw [show xs.length - 1 - k = j by omega, ← hx, ← hy] at this
          exact this
        · exact ((hcel.set_ y (by omega)).set_ x (by simp; omega)).drew
        · exact ⟨hgr.os, hgr.tape, hgr.output, by simpa using hgr.size, fun b hb hne => by
            have e1 : g ≠ b := by intro e; exact hne (by rw [e])
            have := hgr.block b hb hne
            rw [← this]
            simp [World.setCell, World.drew, Array.getElem?_modify, e1]⟩
        · simpa using hsz
      case measure => simp [intOf]; omega
    · have HH := hide (And.intro hrev (And.intro hcel (And.intro hgr hsz))); clear hrev hcel hgr hsz
      go_wp2
      go_end0
      obtain ⟨hrev, hcel, hgr, hsz⟩ := HH.out
      rw [revTo_end hrev (by omega)] at hcel
      exact ⟨_, rfl, rfl, hcel, hgr, hsz⟩
end Go.Proofs.YthnnbpnocefmgaaGreat
