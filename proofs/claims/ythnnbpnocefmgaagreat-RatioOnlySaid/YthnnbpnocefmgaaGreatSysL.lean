/- Walks: whether a list is a denial (the program). Walks of the reference: columns, what is wrong with a system, whether a list is a denial. Systems of small fractions: what the calls of the program say of them. -/
import Derived.Test.YthnnbpnocefmgaaGreatElimS
import Derived.Test.YthnnbpnocefmgaaGreatOpenS
import Derived.Test.YthnnbpnocefmgaaGreatKept
import Derived.Test.YthnnbpnocefmgaaGreatLen9
import Derived.Test.YthnnbpnocefmgaaGreatStr9
import Derived.Test.YthnnbpnocefmgaaGreatRead9
import Derived.Test.YthnnbpnocefmgaaGreatDeny
import Derived.Test.YthnnbpnocefmgaaGreatTame
import Derived.Deep.QuietTactic
import Derived.BigQuiet
namespace Go.Proofs.YthnnbpnocefmgaaGreat
set_option linter.unusedVariables false
set_option linter.unusedSimpArgs false
open Go.RowKit
/-- what a list makes of a column -/
def colW (rows : List (List Rat)) (ws : List Rat) (j t : Nat) : Rat := ws.getD t 0 * ent rows t j
def isDen (rows : List (List Rat)) (bs ws : List Rat) : Prop :=
  ws.length = rows.length ∧ (∀ j, j < (rows.getD 0 []).length → sumN (colW rows ws j) rows.length = 0) ∧ dotL ws bs = 1
end Go.Proofs.YthnnbpnocefmgaaGreat
namespace Go.Proofs.YthnnbpnocefmgaaGreat
set_option linter.unusedVariables false
set_option linter.unusedSimpArgs false
open Go.RowKit
theorem BoxQ.put4 {w : World} {g : Nat} {q q' : Rat} {L L' : Nat} (h : BoxQ w g q L) {t : Bool} {A B : Option Addr} {n c m d : Nat} (hq : QV w (.agg #[.bool t, .slice A n c, .bool false, .slice B m d]) q' L') :
    BoxQ ((((w.setCell ⟨g, 0, none⟩ (.bool t)).setCell ⟨g, 1, none⟩ (.slice A n c)).setCell ⟨g, 2, none⟩ (.bool false)).setCell ⟨g, 3, none⟩ (.slice B m d)) g q' L' := by
  obtain ⟨t0, A0, n0, c0, B0, m0, d0, h1, _⟩ := h
  obtain ⟨x, y, e, h2, h3⟩ := hq
  exact ⟨t, A, n, c, B, m, d, by simp [World.setCell, Array.getElem?_modify, h1], x, y, e, put4_lim h2 h1 (by decide), put4_lim h3 h1 (by decide)⟩
/-- one fraction of a row of the reference -/
theorem LstV.q_at {w : World} {A : Option Addr} {n c : Nat} {qs : List Rat} {L : Nat} (h : QRowE L w (.slice A n c) qs) : n = qs.length ∧ qs.length ≤ c ∧ c ≤ maxLen ∧ (0 < qs.length → ∃ b o, A = some ⟨b, o, none⟩ ∧ ∀ k, k < qs.length →
    ∃ s A1 n1 c1 B1 m1 d1, w.cell? ⟨b, o + k * 4, none⟩ = some (.bool s) ∧ w.cell? ⟨b, o + k * 4 + 1, none⟩ = some (.slice A1 n1 c1) ∧ w.cell? ⟨b, o + k * 4 + 2, none⟩ = some (.bool false) ∧ w.cell? ⟨b, o + k * 4 + 3, none⟩ = some (.slice B1 m1 d1) ∧
      QV w (.agg #[.bool s, .slice A1 n1 c1, .bool false, .slice B1 m1 d1]) (qs.getD k 0) L) := by
  obtain ⟨A', c', e, h1, h2, h3⟩ := h
  injection e with e1 e2 e3
  subst e1 e2 e3
  refine ⟨rfl, h1, h2, fun hx => ?_⟩
  obtain ⟨b, o, rfl, ht, hc⟩ := h3 hx
  refine ⟨b, o, rfl, fun k hk => ?_⟩
  obtain ⟨u, hs, hcu, hq⟩ := hc k (qs.getD k 0) (by simp [List.getD, hk])
  replace hq : QV w u (qs.getD k 0) L := hq
  obtain ⟨s, A1, n1, c1, B1, m1, d1, rfl, _⟩ := hq.parts
  exact ⟨s, A1, n1, c1, B1, m1, d1, hcu 0 (by rw [hs]; decide), hcu 1 (by rw [hs]; decide), hcu 2 (by rw [hs]; decide), hcu 3 (by rw [hs]; decide), hq⟩
/-- one row of rows -/
theorem LstV.row_at {α : Type} {T T' : TypeId} {sz : Nat} {R : World → Value → α → Prop} {w : World} {A : Option Addr} {n c : Nat} {rows : List (List α)} (h : LstV T 1 (LstV T' sz R) w (.slice A n c) rows) : n = rows.length ∧ rows.length ≤ c ∧ c ≤ maxLen ∧ (0 < rows.length → ∃ b o, A = some ⟨b, o, none⟩ ∧ ∀ k, k < rows.length →
    ∃ A1 c1, w.cell? ⟨b, o + k, none⟩ = some (.slice A1 (rows.getD k []).length c1) ∧ LstV T' sz R w (.slice A1 (rows.getD k []).length c1) (rows.getD k [])) := by
  obtain ⟨A', c', e, h1, h2, h3⟩ := h
  injection e with e1 e2 e3
  subst e1 e2 e3
  refine ⟨rfl, h1, h2, fun hx => ?_⟩
  obtain ⟨b, o, rfl, ht, hc⟩ := h3 hx
  refine ⟨b, o, rfl, fun k hk => ?_⟩
  obtain ⟨u, hs, hcu, hq⟩ := hc k (rows.getD k []) (by simp [List.getD, hk])
  obtain ⟨A1, c1, rfl, _⟩ := id hq
  have := hcu 0 (by rw [hs]; decide)
  rw [Nat.mul_one, Nat.add_zero] at this
  exact ⟨A1, c1, this, hq⟩
def QRows (L : Nat) : World → Value → List (List Rat) → Prop := LstV 27 1 (QRowE L)
theorem stB_qrows (L : Nat) : StB (QRows L) := stB_lst (stB_qrow L)
theorem QRows.below {w w' : World} {v : Value} {rows : List (List Rat)} {L : Nat} (h : QRows L w v rows) (hb : Below w.heap.size w w') : QRows L w' v rows := stB_qrows L _ _ _ _ hb h
theorem QRowE.below {w w' : World} {v : Value} {qs : List Rat} {L : Nat} (h : QRowE L w v qs) (hb : Below w.heap.size w w') : QRowE L w' v qs := stB_qrow L _ _ _ _ hb h
theorem columns_c (w : World) (v : Value) (rows : List (List Rat)) (L : Nat) (h : QRows L w v rows) :
    Calls Tryz.prog 51 #[v] w (Ret (fun v w' => v = .int .i64 ((rows.getD 0 []).length : Nat) ∧ w = w')) := by
  obtain ⟨A, c, rfl, hc, hm, _⟩ := id h
  obtain ⟨-, -, -, hat⟩ := LstV.row_at h
  unfold maxLen at hm
  by_cases h0 : 0 < rows.length
  · obtain ⟨b, o, rfl, hat2⟩ := hat h0
    obtain ⟨A1, c1, hc1, hr⟩ := hat2 0 h0
    obtain ⟨_, hr1, hr2, _⟩ := LstV.q_at hr
    unfold maxLen at hr2
    rw [Nat.add_zero] at hc1
    have hne : ((rows.length : Int) == 0) = false := by rw [beq_eq_false_iff_ne]; omega
    clear hat hat2 hr
    go_enter Tryz.func51, Tryz.ntmps51
    go_wp2
    go_ret
    exact ⟨_, rfl, rfl, rfl⟩
  · obtain ⟨n, hn⟩ : ∃ n, n = rows.length := ⟨_, rfl⟩
    have hn0 : n = 0 := by omega
    rw [← hn]
    subst hn0
    have hz : (rows.getD 0 []).length = 0 := by rw [List.eq_nil_of_length_eq_zero hn.symm]; rfl
    rw [hz]
    clear hat h hc hn hz h0
    go_enter Tryz.func51, Tryz.ntmps51
    go_wp2
    go_ret
    exact ⟨_, rfl, rfl, rfl⟩
end Go.Proofs.YthnnbpnocefmgaaGreat
namespace Go.Proofs.YthnnbpnocefmgaaGreat
set_option linter.unusedVariables false
set_option linter.unusedSimpArgs false
open Go.RowKit
theorem FracQ.lift {n n' : Nat} {q : Rat} (h : FracQ n q) (hn : n ≤ n') : FracQ n' q := by
  have := pow_le_pow' (B := 10) (by omega) hn
  exact ⟨by have := h.1; omega, by have := h.2; omega⟩
theorem FracQ.long {q : Rat} (h : FracQ 60 q) : longQ q = false := by
  unfold longQ
  have h1 : (decText (q.num.natAbs : Int)).length ≤ 60 := by
    by_cases e : (q.num.natAbs : Int) = 0
    · rw [e]; decide
    · exact dec_le (by omega) h.1
  have h2 : (decText (q.den : Int)).length ≤ 60 := dec_le (by have := q.den_pos; omega) h.2
  simp; omega
theorem RatE.rows {w : World} {v : Value} {rows : List (List Rat)} {L : Nat} (h : LstV 26 1 (RowE L) w v rows) : RowsV w v rows L := by
  obtain ⟨A, c, rfl, h1, h2, h3⟩ := h
  refine ⟨A, c, rfl, h1, h2, fun hx => ?_⟩
  obtain ⟨b, o, rfl, ht, hc⟩ := h3 hx
  refine ⟨b, o, rfl, fun i hi => ?_⟩
  obtain ⟨u, hs, hcu, hr⟩ := hc i (rows.getD i []) (by simp [List.getD, hi])
  obtain ⟨A1, c1, rfl, _⟩ := id hr
  have := hcu 0 (by rw [hs]; decide)
  rw [Nat.mul_one, Nat.add_zero] at this
  exact ⟨_, this, LstV.rowV hr⟩
theorem RowE.more {w : World} {v : Value} {qs : List Rat} {L L' : Nat} (h : RowE L w v qs) (hL : L ≤ L') : RowE L' w v qs := LstV.imp h fun u x _ hr => RatV.more hr hL
theorem RowsE.more {w : World} {v : Value} {rows : List (List Rat)} {L L' : Nat} (h : LstV 26 1 (RowE L) w v rows) (hL : L ≤ L') : LstV 26 1 (RowE L') w v rows := LstV.imp h fun u x _ hr => RowE.more hr hL
/-- the width as the program has it -/
theorem Sys.wd_eq {wd : Nat} {rows : List (List Rat)} {bs : List Rat} (h : Sys wd rows bs) (i : Nat) (hi : i < rows.length) : (rows.getD i []).length = (rows.getD 0 []).length := by
  rw [h.row i hi, h.row 0 (by omega)]
theorem Sys.wd_le {wd : Nat} {rows : List (List Rat)} {bs : List Rat} (h : Sys wd rows bs) : (rows.getD 0 []).length ≤ 6 := by
  by_cases h0 : 0 < rows.length
  · rw [h.row 0 h0]; exact h.w6
  · rw [List.eq_nil_of_length_eq_zero (show rows.length = 0 by omega)]; simp
theorem Sys.check {wd : Nat} {rows : List (List Rat)} {bs : List Rat} (h : Sys wd rows bs) : checkQ rows bs = 0 := by
  unfold checkQ
  have a := h.n6
  have b := h.wd_le
  rw [if_neg (by omega), if_neg, if_neg]
  · rintro (e | e)
    · rw [anyB_none (fun i _ => ((h.smallB i).lift (by omega)).long)] at e; cases e
    · rw [anyB_none (fun i hi => by unfold longB; exact anyB_none fun j _ => ((h.small i j).lift (by omega)).long)] at e; cases e
  · rintro (e | e)
    · exact e h.len
    · rw [anyB_none (fun i hi => by unfold shapeB; exact decide_eq_false (by rw [h.wd_eq i hi]; simp))] at e; cases e
theorem denyK_spec (done : List (List Rat)) (bs : List Rat) : ∀ (f k : Nat), k ≤ denyK done bs f k ∧ (∀ i, k ≤ i → i < denyK done bs f k → dotL (done.getD i []) bs = 0) ∧ (done.length ≤ k + f → denyK done bs f k < done.length → dotL (done.getD (denyK done bs f k) []) bs ≠ 0)
  | 0, k => ⟨Nat.le_refl _, fun i h1 h2 => by rw [denyK] at h2; omega, fun h1 h2 => by rw [denyK] at h2; omega⟩
  | f + 1, k => by
    by_cases h : k < done.length ∧ dotL (done.getD k []) bs = 0
    · rw [denyK_step _ _ _ _ h.1 h.2]
      obtain ⟨h1, h2, h3⟩ := denyK_spec done bs f (k + 1)
      refine ⟨by omega, fun i g1 g2 => ?_, fun g1 g2 => h3 (by omega) g2⟩
      by_cases e : i = k
      · rw [e]; exact h.2
      · exact h2 i (by omega) g2
    · rw [denyK_stop _ _ _ _ h]
      exact ⟨Nat.le_refl _, fun i h1 h2 => by omega, fun h1 h2 h3 => h ⟨h2, h3⟩⟩
theorem Sys.denied {wd : Nat} {rows : List (List Rat)} {bs : List Rat} (h : Sys wd rows bs) (hd : denied rows bs) : isDen rows bs (denyRow rows bs) ∧ ∀ j, FitQ 640 ((denyRow rows bs).getD j 0) := by
  unfold Go.Proofs.YthnnbpnocefmgaaGreat.denied at hd
  have h0 : 0 < rows.length := by omega
  have hrk := rect_echN wd (rect_id h.row)
  have hl : (echN wd (rows, idRows rows.length)).1.1.length = rows.length := echN_length _ _
  have hl2 : (echN wd (rows, idRows rows.length)).1.2.length = rows.length := by rw [hrk.len, hl]
  unfold denyRow
  rw [h.solS_eq h0] at hd ⊢
  obtain ⟨h1, h2, h3⟩ := denyK_spec (echN wd (rows, idRows rows.length)).1.2 bs rows.length (echN wd (rows, idRows rows.length)).2.length
  have hne := h3 (by omega) (by omega)
  obtain ⟨k, hk⟩ : ∃ k, k = denyK (echN wd (rows, idRows rows.length)).1.2 bs rows.length (echN wd (rows, idRows rows.length)).2.length := ⟨_, rfl⟩
  rw [← hk] at hd h1 hne ⊢
  obtain ⟨g1, g2, g3⟩ := denial_denies h.row k hd h1 hne
  refine ⟨⟨g1, fun j hj => ?_, g3⟩, fun j => ?_⟩
  · rw [h.row 0 h0] at hj
    exact g2 j hj
  · have hv := ((h.sbK wd h.w6) k (by rw [hl]; exact hd)).div 2 (by rw [ex_dot]; exact hne)
    have := hv.fit (L := 640) (by omega) (3 * j + 1)
    rw [ex_done, ex_dot] at this
    rw [divL_getA]
    exact this
theorem sumN_fit {f : Nat → Rat} {a : Nat} (h : ∀ k, FitQ a (f k)) : ∀ k, FitQ (k * (a + 1)) (sumN f k)
  | 0 => fit_zero _
  | k + 1 => by
    rw [sumN]
    exact ((sumN_fit h k).addA (h k)).more (by rw [Nat.succ_mul]; omega)
theorem getD_end {l : List Rat} {k : Nat} (h : l.length ≤ k) : l.getD k 0 = 0 := by
  rw [List.getD, List.getElem?_eq_none h]; rfl
end Go.Proofs.YthnnbpnocefmgaaGreat
