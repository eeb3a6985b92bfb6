import Derived.Test.YthnnbpnocefmgaaGreatApp
import Derived.Test.YthnnbpnocefmgaaGreatKept
import Derived.Test.YthnnbpnocefmgaaGreatParse
import Derived.Test.YthnnbpnocefmgaaGreatRead9
import Derived.Deep.RegionHeld3
namespace Go.Proofs.YthnnbpnocefmgaaGreat
open Go.RowKit
set_option linter.unusedVariables false
set_option linter.unusedSimpArgs false
def FracQ (most : Nat) (q : Rat) : Prop := (q.num.natAbs : Int) < 10 ^ most ∧ (q.den : Int) < 10 ^ most
def FracIs (most : Nat) (bs : List Int) (q : Rat) : Prop := (bs = ratText q ∧ bs.length ≤ most) ∨ ((¬ ∃ p : Rat, bs = ratText p ∧ bs.length ≤ most) ∧ q = 1)
theorem ratText_inj {p q : Rat} (h : ratText p = ratText q) : p = q := by
 have key : p.num = q.num ∧ p.den = q.den := by
  by_cases hs : (47 : Int) ∈ ratText p
  ·obtain ⟨xs, cs, e, hx⟩ := split_slash _ hs
   obtain ⟨a1, a2, _⟩ := ratText_cut p xs cs hx e.symm
   obtain ⟨b1, b2, _⟩ := ratText_cut q xs cs hx (e.symm.trans h)
   have e1 := intText_inj (a1.symm.trans b1)
   have e2 := intText_inj (a2.symm.trans b2)
   exact ⟨e1, by omega⟩
  ·obtain ⟨a1, a2⟩ := ratText_slash p _ hs rfl
   obtain ⟨b1, b2⟩ := ratText_slash q _ hs h
   exact ⟨intText_inj (a2.symm.trans b2), by omega⟩
 exact Rat.ext key.1 key.2
theorem FracIs.one {most : Nat} {bs : List Int} {p q : Rat} (h : FracIs most bs p) (g : FracIs most bs q) : p = q := by
 rcases h with ⟨h1, h2⟩ | ⟨h1, h2⟩ <;> rcases g with ⟨g1, g2⟩ | ⟨g1, g2⟩
 ·exact ratText_inj (h1.symm.trans g1)
 ·exact absurd ⟨p, h1, h2⟩ g1
 ·exact absurd ⟨q, g1, g2⟩ h1
 ·rw [h2, g2]
def fracRF (w : World) (most : Nat) (bs : List Int) (v : Value) (w' : World) : Prop :=
 ∃ (q : Rat) (s : Bool) (A : Option Addr) (n c : Nat) (B : Option Addr) (m d : Nat) (t : Bool) (A' : Option Addr) (n' c' : Nat) (B' : Option Addr) (m' d' : Nat),
  v = .tuple #[.agg #[.bool s, .slice A n c, .slice B m d], .agg #[.bool t, .slice A' n' c', .bool false, .slice B' m' d']] ∧ (FracQ most q ∧ FracIs most bs q) ∧
  RatV w' (.agg #[.bool s, .slice A n c, .slice B m d]) q (most / 9 + 1) ∧ QV w' (.agg #[.bool t, .slice A' n' c', .bool false, .slice B' m' d']) q (most / 9 + 1) ∧ Below w.heap.size w w'
theorem dec_lt (x : Int) (n : Nat) (h0 : 0 ≤ x) (h : (decText x).length ≤ n) (hn : 1 ≤ n) : x < 10 ^ n := by
 unfold decText at h
 have hp : (1 : Int) ≤ 10 ^ n := Int.pow_pos (by omega)
 by_cases hx : x = 0
 ·omega
 ·rw [if_neg hx, List.length_reverse, asc_length] at h
  have h1 := val_lt (B := 10) (by omega) (decOf_dig x.toNat)
  rw [decOf_val] at h1
  have h2 := pow_le_pow' (B := 10) (by omega) h
  omega
theorem dec_le {x : Int} {n : Nat} (h0 : 0 < x) (h : x < 10 ^ n) : (decText x).length ≤ n := by
 unfold decText
 rw [if_neg (by omega), List.length_reverse, asc_length]
 exact decOf_length x.toNat n (by omega)
theorem FracQ.of_text {q : Rat} {n : Nat} (h : (ratText q).length ≤ n) (hn : 1 ≤ n) : FracQ n q := by
 have h1 : (intText q.num).length ≤ n := by unfold ratText at h; rw [List.length_append] at h; omega
 have h2 : (decText (q.num.natAbs : Int)).length ≤ n := by have := intText_dec_len q.num; omega
 refine ⟨dec_lt _ n (by omega) h2 hn, ?_⟩
 have hp : (10 : Int) ^ 1 ≤ 10 ^ n := pow_le_pow' (by omega) hn
 by_cases hd : q.den = 1
 ·rw [hd]; omega
 ·refine dec_lt _ n (by omega) ?_ hn
  unfold ratText at h
  rw [if_neg hd, List.length_append, List.length_cons] at h
  omega
theorem FracQ.one (n : Nat) (hn : 1 ≤ n) : FracQ n (Rat.divInt 1 1) := by
 have hp : (10 : Int) ^ 1 ≤ 10 ^ n := pow_le_pow' (by omega) hn
 have e : Rat.divInt 1 1 = (1 : Rat) := Rat.num_divInt_den (1 : Rat)
 rw [e]
 exact ⟨by show ((1 : Int).natAbs : Int) < _; simp; omega, by show ((1 : Nat) : Int) < _; omega⟩
theorem ten_nine (n : Nat) : (10 : Int) ^ n ≤ 1000000000 ^ (n / 9 + 1) := by
 rw [lim_pow]
 exact pow_le_pow' (by omega) (by omega)
theorem nine_word (n : Nat) : (1000000000 : Int) ^ n ≤ 4294967296 ^ n := by
 induction n with
 | zero => simp
 | succ n ih =>
  rw [Int.pow_succ, Int.pow_succ]
  have h0 : (0 : Int) < 1000000000 ^ n := Int.pow_pos (by omega)
  omega
theorem FracQ.fit {n : Nat} {q : Rat} (h : FracQ n q) : FitQ (n / 9 + 1) q := by
 have h1 := ten_nine n
 have h2 := nine_word (n / 9 + 1)
 obtain ⟨a, b⟩ := h
 exact ⟨by omega, by omega⟩
theorem QV.fit {w : World} {v : Value} {q : Rat} {L n : Nat} (h : QV w v q L) (hq : FracQ n q) : QV w v q (n / 9 + 1) := by
 have h1 := ten_nine n
 obtain ⟨a, b, rfl, g1, g2⟩ := h
 exact ⟨a, b, rfl, g1.fit (by have := hq.1; omega), g2.fit (by have := hq.2; omega)⟩
theorem text_len {q : Rat} {n : Nat} (h : FracQ n q) (hn : 1 ≤ n) : (ratText q).length ≤ 2 * n + 2 := by
 obtain ⟨h1, h2⟩ := h
 have a : (intText q.num).length ≤ n + 1 := by
  have b : (decText (q.num.natAbs : Int)).length ≤ n := by
   by_cases h0 : q.num.natAbs = 0
   ·rw [h0]; simp [decText]; omega
   ·exact dec_le (by omega) h1
  unfold intText
  rw [List.length_append]
  split <;> simp <;> omega
 have hd := den_pos q
 have b : (decText (q.den : Int)).length ≤ n := dec_le (by omega) h2
 unfold ratText
 rw [List.length_append]
 split
 ·simp; omega
 ·rw [List.length_cons]; omega
theorem small_ten (n : Nat) (hn : n ≤ 20000) : (10 : Int) ^ n ≤ 2 ^ mostBits := by
 have h1 : (10 : Int) ^ n ≤ 16 ^ n := by
  induction n with
  | zero => simp
  | succ n ih =>
   have := ih (by omega)
   rw [Int.pow_succ, Int.pow_succ]
   have h0 : (0 : Int) < 10 ^ n := Int.pow_pos (by omega)
   omega
 have h2 : (16 : Int) ^ n = 2 ^ (4 * n) := by rw [Int.pow_mul]; rfl
 have h3 : (2 : Int) ^ (4 * n) ≤ 2 ^ mostBits := pow_le_pow' (by omega) (by unfold mostBits; omega)
 omega
theorem FracQ.small {n : Nat} {q : Rat} (h : FracQ n q) (hn : n ≤ 20000) : SmallQ q := by
 have := small_ten n hn
 exact ⟨by have := h.1; unfold Small; omega, by have := h.2; unfold Small; omega⟩
theorem Arr.put {w : World} {A : Option Addr} {k : IntKind} {xs : List Int} {B i : Nat} {v : Value} (h : Arr w A k xs) (ht : ∀ b, Typed w b (tyOf k) → b ≠ B) : Arr (w.setCell ⟨B, i, none⟩ v) A k xs := by
 intro hx
 obtain ⟨b, o, rfl, hty, hc⟩ := h hx
 have hne := ht b hty
 refine ⟨b, o, rfl, hty.setCell _ _, fun j hj => ?_⟩
 rw [World.cell?_setCell_other _ _ _ _ (by intro e; injection e with e1; exact hne e1.symm)]
 exact hc j hj
theorem typed_back {w : World} {b B i : Nat} {e : TypeId} {v : Value} (h : Typed (w.setCell ⟨B, i, none⟩ v) b e) : Typed w b e := by
 obtain ⟨cs, m, h⟩ := h
 simp only [World.setCell, Array.getElem?_modify] at h
 split at h
 ·cases hh : w.heap[b]? with
  | none => rw [hh] at h; simp at h
  | some o =>
   rw [hh] at h
   cases o <;> simp at h
   obtain ⟨_, rfl, rfl⟩ := h
   exact ⟨_, _, hh⟩
 ·exact ⟨cs, m, h⟩
theorem NatV.putq {w : World} {v : Value} {x : Int} {L B i : Nat} {u : Value} (h : NatV w v x L) (ht : ∀ b, Typed w b (tyOf .u32) → b ≠ B) : NatV (w.setCell ⟨B, i, none⟩ u) v x L := by
 obtain ⟨A, c, xs, rfl, h1, h2, h3, h4⟩ := h
 exact ⟨A, c, xs, rfl, h1, h2, h3.put ht, h4⟩
theorem LimV.putq {w : World} {v : Value} {x : Int} {L B i : Nat} {u : Value} (h : LimV w v x L) (ht : ∀ b, Typed w b (tyOf .i64) → b ≠ B) : LimV (w.setCell ⟨B, i, none⟩ u) v x L := by
 obtain ⟨A, c, xs, rfl, h1, h2, h3, h4⟩ := h
 exact ⟨A, c, xs, rfl, h1, h2, h3.put ht, h4⟩
theorem typed_ne {w : World} {B : Nat} {cs : Array Value} {e f : TypeId} (hB : w.heap[B]? = some (.cells cs e (0, 0))) (he : e ≠ f) : ∀ b, Typed w b f → b ≠ B :=
 fun b hb => Typed.ne hb ⟨_, _, hB⟩ (fun e' => he e'.symm)
theorem RatV.put4 {w : World} {v : Value} {q : Rat} {L B : Nat} {a b c d : Value} (h : RatV w v q L) {cs : Array Value} {e : TypeId} (hB : w.heap[B]? = some (.cells cs e (0, 0))) (he : e ≠ 126) :
  RatV ((((w.setCell ⟨B, 0, none⟩ a).setCell ⟨B, 1, none⟩ b).setCell ⟨B, 2, none⟩ c).setCell ⟨B, 3, none⟩ d) v q L := by
 obtain ⟨n, l, rfl, h1, h2⟩ := h
 have ht : ∀ b, Typed w b (tyOf .u32) → b ≠ B := typed_ne hB he
 have k : ∀ {x : Int} {v : Value}, NatV w v x L → NatV ((((w.setCell ⟨B, 0, none⟩ a).setCell ⟨B, 1, none⟩ b).setCell ⟨B, 2, none⟩ c).setCell ⟨B, 3, none⟩ d) v x L := fun h =>
  (((h.putq ht).putq fun b hb => ht b (typed_back hb)).putq fun b hb => ht b (typed_back (typed_back hb))).putq fun b hb => ht b (typed_back (typed_back (typed_back hb)))
 exact ⟨n, l, rfl, k h1, k h2⟩
theorem QV.putR {w : World} {v : Value} {q : Rat} {L B : Nat} {a b c : Value} (h : QV w v q L) {cs : Array Value} {e : TypeId} (hB : w.heap[B]? = some (.cells cs e (0, 0))) (he : e ≠ 3) :
  QV (((w.setCell ⟨B, 0, none⟩ a).setCell ⟨B, 1, none⟩ b).setCell ⟨B, 2, none⟩ c) v q L := by
 obtain ⟨n, l, rfl, h1, h2⟩ := h
 have ht : ∀ b, Typed w b (tyOf .i64) → b ≠ B := typed_ne hB he
 have k : ∀ {x : Int} {v : Value}, LimV w v x L → LimV (((w.setCell ⟨B, 0, none⟩ a).setCell ⟨B, 1, none⟩ b).setCell ⟨B, 2, none⟩ c) v x L := fun h =>
  ((h.putq ht).putq fun b hb => ht b (typed_back hb)).putq fun b hb => ht b (typed_back (typed_back hb))
 exact ⟨n, l, rfl, k h1, k h2⟩
theorem put4_other {w : World} {B b j : Nat} {x y z u : Value} (h : b ≠ B) : ((((w.setCell ⟨B, 0, none⟩ x).setCell ⟨B, 1, none⟩ y).setCell ⟨B, 2, none⟩ z).setCell ⟨B, 3, none⟩ u).cell? ⟨b, j, none⟩ = w.cell? ⟨b, j, none⟩ := by
 have n : ∀ i, (⟨B, i, none⟩ : Addr) ≠ ⟨b, j, none⟩ := by intro i e; injection e with e1; exact h e1.symm
 rw [World.cell?_setCell_other _ _ _ _ (n 3), World.cell?_setCell_other _ _ _ _ (n 2), World.cell?_setCell_other _ _ _ _ (n 1), World.cell?_setCell_other _ _ _ _ (n 0)]
theorem cell_drew (w : World) (p : Addr) : w.drew.cell? p = w.cell? p := rfl
theorem keep7_set3 {w : World} {B b1 b2 : Nat} {x y z a0 a1 a2 c0 c1 c2 c3 : Value} (h : ((w).cell? ⟨b1, 0, none⟩ = some a0 ∧ (w).cell? ⟨b1, 1, none⟩ = some a1 ∧ (w).cell? ⟨b1, 2, none⟩ = some a2) ∧ ((w).cell? ⟨b2, 0, none⟩ = some c0 ∧ (w).cell? ⟨b2, 1, none⟩ = some c1 ∧ (w).cell? ⟨b2, 2, none⟩ = some c2 ∧ (w).cell? ⟨b2, 3, none⟩ = some c3)) (h1 : b1 ≠ B) (h2 : b2 ≠ B) :
  (((((w.setCell ⟨B, 0, none⟩ x).setCell ⟨B, 1, none⟩ y).setCell ⟨B, 2, none⟩ z).drew).cell? ⟨b1, 0, none⟩ = some a0 ∧ ((((w.setCell ⟨B, 0, none⟩ x).setCell ⟨B, 1, none⟩ y).setCell ⟨B, 2, none⟩ z).drew).cell? ⟨b1, 1, none⟩ = some a1 ∧ ((((w.setCell ⟨B, 0, none⟩ x).setCell ⟨B, 1, none⟩ y).setCell ⟨B, 2, none⟩ z).drew).cell? ⟨b1, 2, none⟩ = some a2) ∧ (((((w.setCell ⟨B, 0, none⟩ x).setCell ⟨B, 1, none⟩ y).setCell ⟨B, 2, none⟩ z).drew).cell? ⟨b2, 0, none⟩ = some c0 ∧ ((((w.setCell ⟨B, 0, none⟩ x).setCell ⟨B, 1, none⟩ y).setCell ⟨B, 2, none⟩ z).drew).cell? ⟨b2, 1, none⟩ = some c1 ∧ ((((w.setCell ⟨B, 0, none⟩ x).setCell ⟨B, 1, none⟩ y).setCell ⟨B, 2, none⟩ z).drew).cell? ⟨b2, 2, none⟩ = some c2 ∧ ((((w.setCell ⟨B, 0, none⟩ x).setCell ⟨B, 1, none⟩ y).setCell ⟨B, 2, none⟩ z).drew).cell? ⟨b2, 3, none⟩ = some c3) := by
 obtain ⟨⟨g0, g1, g2⟩, g3, g4, g5, g6⟩ := h
 simp only [cell_drew]
 exact ⟨⟨(set3_other h1).trans g0, (set3_other h1).trans g1, (set3_other h1).trans g2⟩, (set3_other h2).trans g3, (set3_other h2).trans g4, (set3_other h2).trans g5, (set3_other h2).trans g6⟩
theorem keep7_put4 {w : World} {B b1 b2 : Nat} {x y z u a0 a1 a2 c0 c1 c2 c3 : Value} (h : ((w.drew).cell? ⟨b1, 0, none⟩ = some a0 ∧ (w.drew).cell? ⟨b1, 1, none⟩ = some a1 ∧ (w.drew).cell? ⟨b1, 2, none⟩ = some a2) ∧ ((w.drew).cell? ⟨b2, 0, none⟩ = some c0 ∧ (w.drew).cell? ⟨b2, 1, none⟩ = some c1 ∧ (w.drew).cell? ⟨b2, 2, none⟩ = some c2 ∧ (w.drew).cell? ⟨b2, 3, none⟩ = some c3)) (h1 : b1 ≠ B) (h2 : b2 ≠ B) :
  ((((((w.setCell ⟨B, 0, none⟩ x).setCell ⟨B, 1, none⟩ y).setCell ⟨B, 2, none⟩ z).setCell ⟨B, 3, none⟩ u).drew).cell? ⟨b1, 0, none⟩ = some a0 ∧ (((((w.setCell ⟨B, 0, none⟩ x).setCell ⟨B, 1, none⟩ y).setCell ⟨B, 2, none⟩ z).setCell ⟨B, 3, none⟩ u).drew).cell? ⟨b1, 1, none⟩ = some a1 ∧ (((((w.setCell ⟨B, 0, none⟩ x).setCell ⟨B, 1, none⟩ y).setCell ⟨B, 2, none⟩ z).setCell ⟨B, 3, none⟩ u).drew).cell? ⟨b1, 2, none⟩ = some a2) ∧ ((((((w.setCell ⟨B, 0, none⟩ x).setCell ⟨B, 1, none⟩ y).setCell ⟨B, 2, none⟩ z).setCell ⟨B, 3, none⟩ u).drew).cell? ⟨b2, 0, none⟩ = some c0 ∧ (((((w.setCell ⟨B, 0, none⟩ x).setCell ⟨B, 1, none⟩ y).setCell ⟨B, 2, none⟩ z).setCell ⟨B, 3, none⟩ u).drew).cell? ⟨b2, 1, none⟩ = some c1 ∧ (((((w.setCell ⟨B, 0, none⟩ x).setCell ⟨B, 1, none⟩ y).setCell ⟨B, 2, none⟩ z).setCell ⟨B, 3, none⟩ u).drew).cell? ⟨b2, 2, none⟩ = some c2 ∧ (((((w.setCell ⟨B, 0, none⟩ x).setCell ⟨B, 1, none⟩ y).setCell ⟨B, 2, none⟩ z).setCell ⟨B, 3, none⟩ u).drew).cell? ⟨b2, 3, none⟩ = some c3) := by
 obtain ⟨⟨g0, g1, g2⟩, g3, g4, g5, g6⟩ := h
 simp only [cell_drew] at *
 exact ⟨⟨(put4_other h1).trans g0, (put4_other h1).trans g1, (put4_other h1).trans g2⟩, (put4_other h2).trans g3, (put4_other h2).trans g4, (put4_other h2).trans g5, (put4_other h2).trans g6⟩
theorem set3_heap {w : World} {B b : Nat} {x y z : Value} {o : Obj} (h : w.heap[b]? = some o) (hne : b ≠ B) : (((w.setCell ⟨B, 0, none⟩ x).setCell ⟨B, 1, none⟩ y).setCell ⟨B, 2, none⟩ z).heap[b]? = some o := by
 simp [World.setCell, Array.getElem?_modify, Ne.symm hne, h]
set_option maxRecDepth 100000 in
set_option maxHeartbeats 4000000 in
theorem frac_f (w : World) (s : ByteArray) (hs : s.size ≤ 140737488355328) (most : Nat) (hm0 : 1 ≤ most) (hm1 : most ≤ 1000) :
  Calls Tryz.prog 13 #[.string s, .int .i64 most] w (Ret (fracRF w most (bytesOf s))) := by
 have hss : s.size = (bytesOf s).length := (bytesOf_length s).symm
 have hm2 : (most : Int) ≤ 1000 := by omega
 have HB := hide (ai (bytesOf_byts s) (ai (str_bytes s).symm (ai hss hm0))); clear hss hm0
 obtain ⟨W, hW⟩ : ∃ W, W = (w.alloc (.cells #[.bool false, .slice none 0 0, .slice none 0 0] 35)).alloc (.cells #[.bool false, .slice none 0 0, .bool false, .slice none 0 0] 41) := ⟨_, rfl⟩
 have hb0 : Below w.heap.size w W := by rw [hW]; exact ((Below.refl _ _).alloc (nr _) _).alloc (by simp) _
 have hr1 : W.heap[w.heap.size]? = some (.cells #[.bool false, .slice none 0 0, .slice none 0 0] 35) := by rw [hW]; exact at_old (at_new _ _) _
 have hr2 : W.heap[w.heap.size + 1]? = some (.cells #[.bool false, .slice none 0 0, .bool false, .slice none 0 0] 41) := by rw [hW]; exact at_new' _ (by simp)
 have HW := hide (ai hW (ai hb0 (ai hr1 hr2))); clear hW hb0 hr1 hr2
 go_enter Tryz.func13, Tryz.ntmps13
 go_wp2_with fail
 rw [← HW.out.1]
 refine (show Calls _ _ _ _ _ from by rw [HB.out.2.1]; exact read9_c _ _ HB.out.1 (by have := HB.out.2.2.1; omega)).mono ?_
 rintro e w1 ⟨_, rfl, u, ok, rfl, hd1, hor⟩
 obtain ⟨t, A, n, c, B, m, d, rfl⟩ : ∃ t A n c B m d, u = .agg #[.bool t, .slice A n c, .bool false, .slice B m d] := by
  rcases hor with ⟨_, q, _, hq⟩ | ⟨_, _, h⟩
  ·obtain ⟨t, A, n, c, B, m, d, e, _⟩ := hq.parts
   exact ⟨t, A, n, c, B, m, d, e⟩
  ·exact ⟨_, _, _, _, _, _, _, h⟩
 obtain ⟨W2, hW2⟩ : ∃ W2, W2 = w1.alloc (.cells #[.bool t, .slice A n c, .bool false, .slice B m d] 41) := ⟨_, rfl⟩
 have hda : Below w1.heap.size w1 W2 := by rw [hW2]; exact (Below.refl _ _).alloc (nr _) _
 have hn2 : W2.heap[w1.heap.size]? = some (.cells #[.bool t, .slice A n c, .bool false, .slice B m d] 41) := by rw [hW2]; exact at_new _ _
 have hor2 : (ok = true ∧ ∃ q : Rat, bytesOf s = ratText q ∧ QV W2 (.agg #[.bool t, .slice A n c, .bool false, .slice B m d]) q ((bytesOf s).length / 9 + 3)) ∨ (ok = false ∧ ∀ q : Rat, bytesOf s ≠ ratText q) := by
  rcases hor with ⟨h, q, h1, hq⟩ | ⟨h, hno, _⟩
  ·exact Or.inl ⟨h, q, h1, hq.below hda⟩
  ·exact Or.inr ⟨h, hno⟩
 have HA := hide (ai hW2 (ai (bnx hd1 hda) (ai hn2 hor2))); clear hn2 hor2 hor hda hW2
 go_upto_region 2 with fail
 rw [← HA.out.1]
 obtain ⟨bad, hbad⟩ : ∃ bad : Bool, bad = (!ok || decide (most < s.size)) := ⟨_, rfl⟩
 have HD := hide hbad; clear hbad
 go_cut [22] (fun s22 wx => s22 = .bool bad ∧ wx = W2)
 case first =>
  cases ok with
  | false =>
   go_wp2
   go_meet
   exact ⟨by rw [HD.out]; rfl, rfl⟩
  | true =>
   by_cases hsm : most < s.size
   ·go_wp2
    go_meet
    exact ⟨by rw [HD.out]; simp [hsm], rfl⟩
   ·go_wp2
    go_meet
    exact ⟨by rw [HD.out]; simp [hsm], rfl⟩
 case rest =>
 obtain ⟨rfl, rfl⟩ := hcut
 go_upto_if 22 with fail
 go_cut [22] (fun s22 wx => ∃ (q : Rat) (t : Bool) (A : Option Addr) (n c : Nat) (B : Option Addr) (m d : Nat), wx.heap[w1.heap.size]? = some (.cells #[.bool t, .slice A n c, .bool false, .slice B m d] 41 (0, 0)) ∧ QV wx (.agg #[.bool t, .slice A n c, .bool false, .slice B m d]) q (most / 9 + 1) ∧ (FracQ most q ∧ FracIs most (bytesOf s) q) ∧ Below W.heap.size W wx)
 case first =>
  cases bad with
  | false =>
   go_wp2
   go_meet
   have hd := HD.out
   simp at hd
   rcases HA.out.2.2.2 with ⟨_, q, h1, hq⟩ | ⟨h, _⟩
   ·have hfq : FracQ most q := FracQ.of_text (by rw [← h1]; have := HB.out.2.2.1; omega) HB.out.2.2.2
    exact ⟨q, t, A, n, c, B, m, d, HA.out.2.2.1, hq.fit hfq, ⟨hfq, Or.inl ⟨h1, by have := HB.out.2.2.1; omega⟩⟩, HA.out.2.1⟩
   ·rw [h] at hd; simp at hd
  | true =>
    have hnone : ¬ ∃ p : Rat, bytesOf s = ratText p ∧ (bytesOf s).length ≤ most := by
     rintro ⟨p, h1, h2⟩
     have hd := HD.out
     simp at hd
     rcases hd with hd | hd
     ·rcases HA.out.2.2.2 with ⟨h, _⟩ | ⟨_, h⟩
      ·rw [h] at hd; cases hd
      ·exact h p h1
     ·have := HB.out.2.2.1; omega
    have HNO := hide hnone; clear hnone
    go_wp2_with fail
    refine (frac9_c _ 1 1 (by omega) (by omega) (by omega) (by omega) (by omega)).mono ?_
    rintro e w4 ⟨_, rfl, hq4, hd4⟩
    obtain ⟨t4, A4, n4, c4, B4, m4, d4, rfl, _⟩ := hq4.parts
    have hn4 := at_later HA.out.2.2.1 hd4
    have hbl : Below W.heap.size W w4 := bnx HA.out.2.1 hd4
    obtain ⟨y0, y1, y2, y3, f0, f1, f2, f3⟩ := four_cells hn4
    have HF := hide (ai hq4 (ai hn4 hbl)); clear hq4 hn4 hbl hd4
    go_wp2
    go_meet
    exact ⟨_, t4, A4, n4, c4, B4, m4, d4, put4_same HF.out.2.1, (HF.out.1.put4 HF.out.2.1 (by decide)).fit (FracQ.one _ HB.out.2.2.2), ⟨FracQ.one _ HB.out.2.2.2, Or.inr ⟨HNO.out, Rat.num_divInt_den 1⟩⟩, below_put4 HF.out.2.2 (by have := hd1.size; omega)⟩
 case rest =>
  obtain ⟨q, t', A', n', c', B', m', d', hbx, hqv, hfq, hbel⟩ := hcut
  obtain ⟨y0, y1, y2, y3, f0, f1, f2, f3⟩ := four_cells hbx
  have HF := hide (ai hqv (ai hfq (ai hbx hbel))); clear hqv hfq hbx hbel
  clear f0 f1 f2 f3
  go_wp2_with fail
  refine (form9_c _ _ q _ HF.out.1 (by omega)).mono ?_
  rintro e w5 ⟨_, rfl, rfl, hd5⟩
  go_wp2_with fail
  refine (parse_c _ q (by have := text_len HF.out.2.1.1 HB.out.2.2.2; omega)).mono ?_
  rintro e w6 ⟨_, rfl, hd6, hor⟩
  rcases hor with ⟨hq, v6, rfl, hv6⟩ | ⟨hq, _⟩
  ·replace hv6 := hv6.fit HF.out.2.1.1.fit
   obtain ⟨s6, A6, n6, c6, B6, m6, d6, rfl⟩ := hv6.shape
   have hd56 := bnx hd5 hd6
   obtain ⟨W7, hW7⟩ : ∃ W7, W7 = w6.alloc (.cells #[.bool s6, .slice A6 n6 c6, .slice B6 m6 d6] 35) := ⟨_, rfl⟩
   have hda : Below w6.heap.size w6 W7 := by rw [hW7]; exact (Below.refl _ _).alloc (nr _) _
   have hn7 : W7.heap[w6.heap.size]? = some (.cells #[.bool s6, .slice A6 n6 c6, .slice B6 m6 d6] 35) := by rw [hW7]; exact at_new _ _
   have hbl7 := HF.out.2.2.2.trans ((bnx hd56 hda).mono HF.out.2.2.2.size)
   have hq7 := (HF.out.1.below hd56).below hda
   have hx7 := at_later (at_later HF.out.2.2.1 hd56) hda
   have hR1 := at_later HW.out.2.2.1 hbl7
   have hR2 := at_later HW.out.2.2.2 hbl7
   have hG := ai (hv6.below hda) (ai hq7 (ai hbl7 (ai hR1 hR2)))
   have hbw7 : w6.heap.size < W7.heap.size := lt_of_block hn7
   obtain ⟨k0, k1, k2⟩ := three_cells hn7
   obtain ⟨x0, x1, x2, x3, _⟩ := four_cells hx7
   obtain ⟨r0, r1, r2⟩ := three_cells hR1
   obtain ⟨g0, g1, g2⟩ := three_frozen hR1
   obtain ⟨q0, q1, q2, q3, e0, e1, e2, e3⟩ := four_cells hR2
   have hS : ∀ w', Below W7.heap.size W7 w' → (w'.cell? ⟨w6.heap.size, 0, none⟩ = some (.bool s6) ∧ w'.cell? ⟨w6.heap.size, 1, none⟩ = some (.slice A6 n6 c6) ∧ w'.cell? ⟨w6.heap.size, 2, none⟩ = some (.slice B6 m6 d6)) ∧ (w'.cell? ⟨w1.heap.size, 0, none⟩ = some (.bool t') ∧ w'.cell? ⟨w1.heap.size, 1, none⟩ = some (.slice A' n' c') ∧ w'.cell? ⟨w1.heap.size, 2, none⟩ = some (.bool false) ∧ w'.cell? ⟨w1.heap.size, 3, none⟩ = some (.slice B' m' d')) := fun w' h => by
    obtain ⟨a, b, c⟩ := three_cells (at_later hn7 h)
    obtain ⟨a', b', c', d', _⟩ := four_cells (at_later hx7 h)
    exact ⟨⟨a, b, c⟩, a', b', c', d'⟩
   have HSS := hide hS
   have HG := hide (ai hG hW7); clear hG hW7 hn7 hx7 hR1 hR2 hbl7 hq7 hv6 hda hd56 hS y0 y1 y2 y3
   have hlt1 := lt_of_block HG.out.1.2.2.2.1
   have hlt2 := lt_of_block HG.out.1.2.2.2.2
   clear k0 k1 k2 x0 x1 x2 x3
   go_wp2
   rw [← HG.out.2]
   have hw0 : w.heap.size + 1 < w1.heap.size := by have := lt_of_block HW.out.2.2.2; have := hd1.size; omega
   have hw1 : w1.heap.size < w6.heap.size := by have := lt_of_block HF.out.2.2.1; have := hd5.size; have := hd6.size; omega
   have hw2 : ¬ w.heap.size = w6.heap.size := by omega
   have hw3 : ¬ w.heap.size = w1.heap.size := by omega
   have hw4 : ¬ w.heap.size + 1 = w6.heap.size := by omega
   have hw5 : ¬ w.heap.size + 1 = w1.heap.size := by omega
   have hC := HSS.out _ (Below.refl _ _)
   have hS0 := HSS.out _ (Below.refl _ _).drew
   go_region_held3 (fun w' => (w'.cell? ⟨w6.heap.size, 0, none⟩ = some (.bool s6) ∧ w'.cell? ⟨w6.heap.size, 1, none⟩ = some (.slice A6 n6 c6) ∧ w'.cell? ⟨w6.heap.size, 2, none⟩ = some (.slice B6 m6 d6)) ∧ (w'.cell? ⟨w1.heap.size, 0, none⟩ = some (.bool t') ∧ w'.cell? ⟨w1.heap.size, 1, none⟩ = some (.slice A' n' c') ∧ w'.cell? ⟨w1.heap.size, 2, none⟩ = some (.bool false) ∧ w'.cell? ⟨w1.heap.size, 3, none⟩ = some (.slice B' m' d'))) (first | (with_reducible exact hS0) | (with_reducible exact keep7_set3 hC (Ne.symm hw2) (Ne.symm hw3)) | (with_reducible exact keep7_put4 (keep7_set3 hC (Ne.symm hw2) (Ne.symm hw3)) (Ne.symm hw4) (Ne.symm hw5))) (fail)
   go_wp2
   refine bodyPost_ret (v := .tuple #[.agg #[.bool s6, .slice A6 n6 c6, .slice B6 m6 d6], .agg #[.bool t', .slice A' n' c', .bool false, .slice B' m' d']]) ?_ rfl ?_
   ·simp [results, Tryz.results13, go_sem, r0, r1, r2, q0, q1, q2, q3, hlt1, hlt2]
   obtain ⟨hv, hq7, hb, hR1, hR2⟩ := HG.out.1
   have hR3 := set3_heap (x := .bool s6) (y := .slice A6 n6 c6) (z := .slice B6 m6 d6) hR2 (show w.heap.size + 1 ≠ w.heap.size by omega)
   refine ⟨_, rfl, q, _, _, _, _, _, _, _, _, _, _, _, _, _, _, rfl, HF.out.2.1, ?_, ?_, ?_⟩
   ·exact ((hv.put3 hR1).put4 hR3 (by decide)).below (Below.refl _ _).drew
   ·exact ((hq7.putR hR1 (by decide)).put4 hR3 (by decide)).below (Below.refl _ _).drew
   ·exact (below_put4 (below_set3 (bnx HW.out.2.1 hb) (by omega) _ _ _) (by omega)).drew
  ·exact absurd (HF.out.2.1.1.small (by omega)) hq
theorem divInt_le (n d : Int) (hd : 0 < d) : (Rat.divInt n d).num.natAbs ≤ n.natAbs ∧ ((Rat.divInt n d).den : Int) ≤ d := by
 have hg : 0 < Int.gcd d n := Int.gcd_pos_of_ne_zero_left n (by omega)
 constructor
 ·rw [Rat.num_divInt, Int.sign_eq_one_of_pos hd, Int.one_mul, Int.natAbs_ediv_of_dvd (Int.gcd_dvd_right d n)]
  exact Nat.div_le_self _ _
 ·rw [Rat.den_divInt, if_neg (by omega)]
  have := Nat.div_le_self d.natAbs (Int.gcd d n)
  omega
theorem fit_divInt {L : Nat} {n d : Int} (hd : 0 < d) (h1 : (n.natAbs : Int) < 4294967296 ^ L) (h2 : d ≤ 4294967296 ^ L) : FitQ L (Rat.divInt n d) := by
 obtain ⟨a, b⟩ := divInt_le n d hd
 exact ⟨by omega, by omega⟩
theorem FitQ.more {L L' : Nat} {q : Rat} (h : FitQ L q) (hL : L ≤ L') : FitQ L' q := by
 have := pow_le_pow' (B := 4294967296) (by omega) hL
 exact ⟨by have := h.1; omega, by have := h.2; omega⟩
theorem mul_lt' {a b B : Int} (ha : 0 ≤ a) (hb : 0 ≤ b) (h1 : a ≤ B) (h2 : b ≤ B) : a * b ≤ B * B :=
 Int.mul_le_mul h1 h2 hb (by omega)
theorem pow_dbl (B : Int) (L : Nat) : B ^ (2 * L) = B ^ L * B ^ L := by rw [← Int.pow_add]; congr 1; omega
theorem FitQ.add {L : Nat} {p q : Rat} (hp : FitQ L p) (hq : FitQ L q) : FitQ (2 * L + 1) (p + q) := by
 have hpd := den_pos p
 have hqd := den_pos q
 have e : p + q = Rat.divInt (p.num * q.den + q.num * p.den) (p.den * q.den) := by
  conv => lhs; rw [← Rat.num_divInt_den p, ← Rat.num_divInt_den q]
  exact Rat.divInt_add_divInt _ _ (by omega) (by omega)
 rw [e]
 have hB := pow_dbl 4294967296 L
 have hB1 : (4294967296 : Int) ^ (2 * L + 1) = 4294967296 ^ (2 * L) * 4294967296 := Int.pow_succ _ _
 have hB0 : (0 : Int) < 4294967296 ^ L := Int.pow_pos (by omega)
 have h1 := mul_lt' (a := (p.num.natAbs : Int)) (b := (q.den : Int)) (by omega) (by omega) (by have := hp.1; omega) hq.2
 have h2 := mul_lt' (a := (q.num.natAbs : Int)) (b := (p.den : Int)) (by omega) (by omega) (by have := hq.1; omega) hp.2
 have h3 := mul_lt' (a := (p.den : Int)) (b := (q.den : Int)) (by omega) (by omega) hp.2 hq.2
 have h0 : (0 : Int) < 4294967296 ^ L * 4294967296 ^ L := Int.mul_pos hB0 hB0
 refine fit_divInt (Int.mul_pos hpd hqd) ?_ (by omega)
 have t := Int.natAbs_add_le (p.num * q.den) (q.num * p.den)
 rw [Int.natAbs_mul, Int.natAbs_mul, Int.natAbs_natCast, Int.natAbs_natCast] at t
 have t2 : ((p.num * q.den + q.num * p.den).natAbs : Int) ≤ (p.num.natAbs : Int) * (q.den : Int) + (q.num.natAbs : Int) * (p.den : Int) := by exact_mod_cast t
 omega
theorem FitQ.mul {L : Nat} {p q : Rat} (hp : FitQ L p) (hq : FitQ L q) : FitQ (2 * L + 1) (p * q) := by
 have hpd := den_pos p
 have hqd := den_pos q
 have e : p * q = Rat.divInt (p.num * q.num) (p.den * q.den) := by
  conv => lhs; rw [← Rat.num_divInt_den p, ← Rat.num_divInt_den q]
  exact Rat.divInt_mul_divInt _ _
 rw [e]
 have hB := pow_dbl 4294967296 L
 have hB1 : (4294967296 : Int) ^ (2 * L + 1) = 4294967296 ^ (2 * L) * 4294967296 := Int.pow_succ _ _
 have hB0 : (0 : Int) < 4294967296 ^ L := Int.pow_pos (by omega)
 have h1 := mul_lt' (a := (p.num.natAbs : Int)) (b := (q.num.natAbs : Int)) (B := 4294967296 ^ L) (by omega) (by omega) (by have := hp.1; omega) (by have := hq.1; omega)
 have h3 := mul_lt' (a := (p.den : Int)) (b := (q.den : Int)) (by omega) (by omega) hp.2 hq.2
 have h0 : (0 : Int) < 4294967296 ^ L * 4294967296 ^ L := Int.mul_pos hB0 hB0
 refine fit_divInt (Int.mul_pos hpd hqd) ?_ (by omega)
 rw [Int.natAbs_mul, Int.natCast_mul]
 omega
theorem FitQ.inv {L : Nat} {q : Rat} (hq : FitQ L q) (h0 : q ≠ 0) : FitQ (L + 1) q⁻¹ := by
 have hqd := den_pos q
 have hn : q.num ≠ 0 := fun e => h0 (Rat.num_eq_zero.1 e)
 have hB1 : (4294967296 : Int) ^ (L + 1) = 4294967296 ^ L * 4294967296 := Int.pow_succ _ _
 have hB0 : (0 : Int) < 4294967296 ^ L := Int.pow_pos (by omega)
 obtain ⟨a, b⟩ := hq
 rw [Rat.inv_def]
 by_cases hneg : q.num < 0
 ·rw [← Rat.neg_divInt_neg]
  refine fit_divInt (by omega) ?_ (by omega)
  rw [Int.natAbs_neg, Int.natAbs_natCast]
  omega
 ·exact fit_divInt (by omega) (by rw [Int.natAbs_natCast]; omega) (by omega)
theorem FitQ.div {L : Nat} {p q : Rat} (hp : FitQ L p) (hq : FitQ L q) (h0 : q ≠ 0) : FitQ (2 * L + 3) (p / q) := by
 rw [Rat.div_def]
 have := (hp.more (show L ≤ L + 1 by omega)).mul (hq.inv h0)
 exact this.more (by omega)
theorem BoxR.below {w w' : World} {g : Nat} {q : Rat} {L : Nat} (h : BoxR w g q L) (hb : Below w.heap.size w w') : BoxR w' g q L := by
 obtain ⟨s, A, n, c, B, m, d, h1, h2⟩ := h
 exact ⟨s, A, n, c, B, m, d, at_later h1 hb, h2.below hb⟩
def BoxQ (w : World) (g : Nat) (q : Rat) (L : Nat) : Prop := ∃ t A n c B m d, w.heap[g]? = some (.cells #[.bool t, .slice A n c, .bool false, .slice B m d] 41 (0, 0)) ∧ QV w (.agg #[.bool t, .slice A n c, .bool false, .slice B m d]) q L
theorem BoxQ.below {w w' : World} {g : Nat} {q : Rat} {L : Nat} (h : BoxQ w g q L) (hb : Below w.heap.size w w') : BoxQ w' g q L := by
 obtain ⟨s, A, n, c, B, m, d, h1, h2⟩ := h
 exact ⟨s, A, n, c, B, m, d, at_later h1 hb, h2.below hb⟩
theorem neg_num (q : Rat) : q < 0 ↔ q.num < 0 := by
 rw [Rat.lt_iff]
 show q.num * ((1 : Nat) : Int) < (0 : Int) * q.den ↔ _
 simp
end Go.Proofs.YthnnbpnocefmgaaGreat
