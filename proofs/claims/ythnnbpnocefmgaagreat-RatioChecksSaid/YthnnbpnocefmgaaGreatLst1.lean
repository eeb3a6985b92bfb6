import Derived.Test.YthnnbpnocefmgaaGreatLong
import Derived.Test.YthnnbpnocefmgaaGreatNew
import Derived.Test.YthnnbpnocefmgaaGreatList
import Derived.Test.YthnnbpnocefmgaaGreatCalc2
namespace Go.Proofs.YthnnbpnocefmgaaGreat
set_option linter.unusedVariables false
set_option linter.unusedSimpArgs false
open Go.RowKit
theorem RowsV.at_ {w : World} {A : Option Addr} {n c : Nat} {rows : List (List Rat)} {L : Nat} (h : RowsV w (.slice A n c) rows L) : n = rows.length ∧ rows.length ≤ c ∧ c ≤ maxLen ∧
  (0 < rows.length → ∃ b o, A = some ⟨b, o, none⟩ ∧ ∀ i, i < rows.length → ∃ u, w.cell? ⟨b, o + i, none⟩ = some u ∧ RowV w u (rows.getD i []) L) := by
 obtain ⟨A', c', e, h1, h2, h3⟩ := h
 injection e with e1 e2 e3
 subst e1 e2 e3
 exact ⟨rfl, h1, h2, h3⟩
def shapeB (rows : List (List Rat)) (i : Nat) : Bool := decide ((rows.getD i []).length ≠ (rows.getD 0 []).length)
def longB (rows : List (List Rat)) (i : Nat) : Bool := anyB (fun j => longQ ((rows.getD i []).getD j 0)) (rows.getD i []).length
theorem shape_c (w : World) (B c i : Nat) (va u : Value) (rows : List (List Rat)) (L : Nat) (hB : w.cell? ⟨B, 0, none⟩ = some va) (ha : RowsV w va rows L) (hi : i < rows.length) (hu : RowV w u (rows.getD i []) L) :
  Calls Tryz.prog 101 #[u, .pointer (some ⟨B, 0, none⟩)] w (Ret (fun v w' => v = .bool (shapeB rows i) ∧ Below w.heap.size w w')) := by
 obtain ⟨A1, c1, rfl, hc1, hm1, hx⟩ := ha
 obtain ⟨b, o, rfl, hat⟩ := hx (by omega)
 obtain ⟨u0, hu0, A0, c0, rfl, _⟩ := hat 0 (by omega)
 obtain ⟨A2, c2, rfl, _⟩ := hu
 have h0 : 0 < rows.length := by omega
 have hs : shapeB rows i = (((rows.getD i []).length : Int) != ((rows.getD 0 []).length : Int)) := by
  unfold shapeB
  rw [Bool.eq_iff_iff, decide_eq_true_eq, bne_iff_ne]
  omega
 rw [hs]; clear hs
 rw [Nat.add_zero] at hu0
 generalize (rows.getD i []).length = m at *
 generalize (rows.getD 0 []).length = n at *
 clear hat hx
 go_enter Tryz.func101, Tryz.ntmps101
 go_wp2
 go_ret
 exact ⟨_, rfl, rfl, Below.refl _ _⟩
theorem longs_c (w : World) (i : Nat) (u : Value) (rows : List (List Rat)) (L : Nat) (hu : RowV w u (rows.getD i []) L) (hL : L ≤ 1073741800) :
  Calls Tryz.prog 104 #[u] w (Ret (fun v w' => v = .bool (longB rows i) ∧ Below w.heap.size w w')) := by
 have HU := hide hu
 obtain ⟨A2, c2, rfl, _⟩ := hu
 go_enter Tryz.func104, Tryz.ntmps104
 go_wp2_with fail
 refine (contains_q _ _ (rows.getD i []) L HU.out hL).mono ?_
 rintro e w1 ⟨_, rfl, rfl, hd1⟩
 go_wp2
 go_ret
 exact ⟨_, rfl, rfl, hd1⟩
set_option maxRecDepth 100000 in
theorem index_shape (w : World) (va : Value) (rows : List (List Rat)) (L : Nat) (B : Nat) (hB : w.cell? ⟨B, 0, none⟩ = some va) (ha : RowsV w va rows L) (hL : L ≤ 1073741800) :
  Calls Tryz.prog 137 #[va, .func (.func 101) #[] #[.pointer (some ⟨B, 0, none⟩)]] w (Ret (FoundR w (anyB (shapeB rows) rows.length))) := by
 have HA := hide ha
 obtain ⟨A1, c1, rfl, hc1, hm1, _⟩ := ha
 have HB := hide hB; clear hB
 unfold maxLen at hm1
 go_enter Tryz.func137, Tryz.ntmps137
 go_wp2
 go_loopw [8] (fun s8 wr => ∃ k : Nat, k ≤ rows.length ∧ s8 = .int .i64 k ∧ (∀ i, i < k → shapeB rows i = false) ∧ Below w.heap.size w wr) (fun s8 _ => rows.length - (intOf s8).toNat)
 case atStart => exact ⟨0, Nat.zero_le _, rfl, fun i hi => by omega, Below.refl _ _⟩
 case round =>
  obtain ⟨k, hk, rfl, hno, hbel⟩ := hrel
  by_cases hkl : k < rows.length
  ·obtain ⟨_, _, _, hcell⟩ := (HA.out.below hbel).at_
   obtain ⟨g1, o1, rfl, hcl1⟩ := hcell (by omega)
   obtain ⟨u, hu, hr⟩ := hcl1 k hkl
   have HH := hide (ai hno (ai hbel (ai hr ((hbel.cell (lt_of_cell HB.out)).trans HB.out)))); clear hno hbel hr hcell hcl1
   rcases hp : shapeB rows k with _ | _
   ·have HP := hide hp; clear hp
    go_wp2_with (go_at_call 101; refine (shape_c _ B 0 k _ _ rows L HH.out.2.2.2 (HA.out.below HH.out.2.1) hkl HH.out.2.2.1).mono ?_; rintro e w1 ⟨_, rfl, rfl, hd1⟩; rw [HP.out])
    go_roundw
    case rel =>
     refine ⟨k + 1, by omega, by go_num, fun i hi => ?_, bnx HH.out.2.1 hd1⟩
     by_cases h : i < k
     ·exact HH.out.1 i h
     ·obtain rfl : i = k := by omega
      exact HP.out
    case measure => simp [intOf]; omega
   ·have HP := hide hp; clear hp
    go_wp2_with (go_at_call 101; refine (shape_c _ B 0 k _ _ rows L HH.out.2.2.2 (HA.out.below HH.out.2.1) hkl HH.out.2.2.1).mono ?_; rintro e w1 ⟨_, rfl, rfl, hd1⟩; rw [HP.out])
    go_ret
    exact ⟨_, rfl, k, rfl, by rw [anyB_of hkl HP.out]; simp, bnx HH.out.2.1 hd1⟩
  ·obtain rfl : k = rows.length := by omega
   have HH := hide (ai hno hbel); clear hno hbel
   go_wp2
   go_ret
   exact ⟨_, rfl, -1, rfl, by rw [anyB_none HH.out.1]; rfl, HH.out.2⟩
theorem contains_shape (w : World) (va : Value) (rows : List (List Rat)) (L : Nat) (B : Nat) (hB : w.cell? ⟨B, 0, none⟩ = some va) (ha : RowsV w va rows L) (hL : L ≤ 1073741800) :
  Calls Tryz.prog 100 #[va, .func (.func 101) #[] #[.pointer (some ⟨B, 0, none⟩)]] w (Ret (fun v w' => v = .bool (anyB (shapeB rows) rows.length) ∧ Below w.heap.size w w')) := by
 have HA := hide ha
 obtain ⟨A1, c1, rfl, hc1, hm1, _⟩ := ha
 have HB := hide hB; clear hB
 go_enter Tryz.func100, Tryz.ntmps100
 go_wp2_with fail
 refine (index_shape _ _ rows L B HB.out HA.out hL).mono ?_
 rintro e w1 ⟨_, rfl, r, rfl, hr, hd1⟩
 have HR := hide hr; clear hr
 go_wp2
 go_ret
 exact ⟨_, rfl, by rw [← HR.out]; rfl, hd1⟩
set_option maxRecDepth 100000 in
theorem index_longs (w : World) (va : Value) (rows : List (List Rat)) (L : Nat) (ha : RowsV w va rows L) (hL : L ≤ 1073741800) :
  Calls Tryz.prog 137 #[va, .func (.func 104) #[] #[]] w (Ret (FoundR w (anyB (longB rows) rows.length))) := by
 have HA := hide ha
 obtain ⟨A1, c1, rfl, hc1, hm1, _⟩ := ha
 skip
 unfold maxLen at hm1
 go_enter Tryz.func137, Tryz.ntmps137
 go_wp2
 go_loopw [8] (fun s8 wr => ∃ k : Nat, k ≤ rows.length ∧ s8 = .int .i64 k ∧ (∀ i, i < k → longB rows i = false) ∧ Below w.heap.size w wr) (fun s8 _ => rows.length - (intOf s8).toNat)
 case atStart => exact ⟨0, Nat.zero_le _, rfl, fun i hi => by omega, Below.refl _ _⟩
 case round =>
  obtain ⟨k, hk, rfl, hno, hbel⟩ := hrel
  by_cases hkl : k < rows.length
  ·obtain ⟨_, _, _, hcell⟩ := (HA.out.below hbel).at_
   obtain ⟨g1, o1, rfl, hcl1⟩ := hcell (by omega)
   obtain ⟨u, hu, hr⟩ := hcl1 k hkl
   have HH := hide (ai hno (ai hbel (ai hr trivial))); clear hno hbel hr hcell hcl1
   rcases hp : longB rows k with _ | _
   ·have HP := hide hp; clear hp
    go_wp2_with (go_at_call 104; refine (longs_c _ k _ rows L HH.out.2.2.1 hL).mono ?_; rintro e w1 ⟨_, rfl, rfl, hd1⟩; rw [HP.out])
    go_roundw
    case rel =>
     refine ⟨k + 1, by omega, by go_num, fun i hi => ?_, bnx HH.out.2.1 hd1⟩
     by_cases h : i < k
     ·exact HH.out.1 i h
     ·obtain rfl : i = k := by omega
      exact HP.out
    case measure => simp [intOf]; omega
   ·have HP := hide hp; clear hp
    go_wp2_with (go_at_call 104; refine (longs_c _ k _ rows L HH.out.2.2.1 hL).mono ?_; rintro e w1 ⟨_, rfl, rfl, hd1⟩; rw [HP.out])
    go_ret
    exact ⟨_, rfl, k, rfl, by rw [anyB_of hkl HP.out]; simp, bnx HH.out.2.1 hd1⟩
  ·obtain rfl : k = rows.length := by omega
   have HH := hide (ai hno hbel); clear hno hbel
   go_wp2
   go_ret
   exact ⟨_, rfl, -1, rfl, by rw [anyB_none HH.out.1]; rfl, HH.out.2⟩
theorem contains_longs (w : World) (va : Value) (rows : List (List Rat)) (L : Nat) (ha : RowsV w va rows L) (hL : L ≤ 1073741800) :
  Calls Tryz.prog 100 #[va, .func (.func 104) #[] #[]] w (Ret (fun v w' => v = .bool (anyB (longB rows) rows.length) ∧ Below w.heap.size w w')) := by
 have HA := hide ha
 obtain ⟨A1, c1, rfl, hc1, hm1, _⟩ := ha
 skip
 go_enter Tryz.func100, Tryz.ntmps100
 go_wp2_with fail
 refine (index_longs _ _ rows L HA.out hL).mono ?_
 rintro e w1 ⟨_, rfl, r, rfl, hr, hd1⟩
 have HR := hide hr; clear hr
 go_wp2
 go_ret
 exact ⟨_, rfl, by rw [← HR.out]; rfl, hd1⟩
theorem width_c (w : World) (va : Value) (rows : List (List Rat)) (L : Nat) (ha : RowsV w va rows L) :
  Calls Tryz.prog 63 #[va] w (Ret (fun v w' => v = .int .i64 ((rows.getD 0 []).length : Nat) ∧ w = w')) := by
 obtain ⟨A1, c1, rfl, hc1, hm1, hx⟩ := ha
 rcases Nat.eq_zero_or_pos rows.length with h0 | h0
 ·have hd : ((rows.length : Int) == 0) = true := by rw [h0]; rfl
  have e : rows = [] := List.eq_nil_of_length_eq_zero h0
  have hl : (rows.getD 0 []).length = 0 := by rw [e]; rfl
  rw [hl]; clear hl e hx
  generalize rows.length = n at *
  subst h0
  go_enter Tryz.func63, Tryz.ntmps63
  go_wp2
  go_ret
  exact ⟨_, rfl, rfl, rfl⟩
 ·obtain ⟨b, o, rfl, hat⟩ := hx h0
  obtain ⟨u0, hu0, A0, c0, rfl, _⟩ := hat 0 h0
  rw [Nat.add_zero] at hu0
  have hd : ((rows.length : Int) == 0) = false := by rw [beq_eq_false_iff_ne]; omega
  generalize (rows.getD 0 []).length = n at *
  clear hat hx
  go_enter Tryz.func63, Tryz.ntmps63
  go_wp2
  go_ret
  exact ⟨_, rfl, rfl, rfl⟩
def RatE (L : Nat) (w : World) (u : Value) (q : Rat) : Prop := RatV w u q L
def QE (L : Nat) (w : World) (u : Value) (q : Rat) : Prop := QV w u q L
def StrE (w : World) (u : Value) (s : ByteArray) : Prop := u = .string s ∧ s.size ≤ 140737488355328
theorem Kp.keeps {T : TypeId} {w w' : World} (h : Kp T w w') (hT : 126 ≠ T) : Keeps w w' := fun b hb => h.typed hb hT
theorem LimV.kp {T : TypeId} {w w' : World} {v : Value} {x : Int} {L : Nat} (h : LimV w v x L) (hk : Kp T w w') (hT : 3 ≠ T) : LimV w' v x L := by
 obtain ⟨A, c, xs, rfl, h1, h2, h3, h4⟩ := h
 refine ⟨A, c, xs, rfl, h1, h2, fun hx => ?_, h4⟩
 obtain ⟨b, o, rfl, ht, hc⟩ := h3 hx
 have e := hk.typed (e := 3) ht hT
 exact ⟨b, o, rfl, ht.same e, fun j hj => (World.cell?_of_block (w := w) e).trans (hc j hj)⟩
theorem stB_rat (L : Nat) : StB (RatE L) := fun w w' u x hb h => RatV.below h hb
theorem stK_rat {T : TypeId} (L : Nat) (hT : 126 ≠ T) : StK T (RatE L) := fun w w' u x hk h => RatV.keeps h (hk.keeps hT)
theorem stB_q (L : Nat) : StB (QE L) := fun w w' u x hb h => QV.below h hb
theorem stK_q {T : TypeId} (L : Nat) (hT : 3 ≠ T) : StK T (QE L) := by
 rintro w w' u x hk ⟨n, d, rfl, h1, h2⟩
 exact ⟨n, d, rfl, h1.kp hk hT, h2.kp hk hT⟩
theorem stB_str : StB StrE := fun w w' u x hb h => h
theorem Tryz.ratE : ElT Tryz.prog 26 35 3 56 := ⟨Tryz.underlying26, ⟨.agg #[.bool false, .slice none 0 0, .slice none 0 0], rfl, by kernel_rfl⟩, by decide, by decide⟩
theorem Tryz.qE : ElT Tryz.prog 27 41 4 64 := ⟨Tryz.underlying27, ⟨.agg #[.bool false, .slice none 0 0, .bool false, .slice none 0 0], rfl, by kernel_rfl⟩, by decide, by decide⟩
theorem LstV.rowV {w : World} {v : Value} {qs : List Rat} {L : Nat} (h : LstV 35 3 (RatE L) w v qs) : RowV w v qs L := by
 obtain ⟨A, c, rfl, h1, h2, h3⟩ := h
 refine ⟨A, c, rfl, h1, h2, fun hx => ?_⟩
 obtain ⟨b, o, rfl, ht, hc⟩ := h3 hx
 refine ⟨b, o, rfl, fun i hi => ?_⟩
 obtain ⟨u, hs, hcu, n, l, rfl, g1, g2⟩ := hc i (qs.getD i 0) (by simp [List.getD, hi])
 obtain ⟨A1, n1, c1, e1⟩ : ∃ A1 n1 c1, n = .slice A1 n1 c1 := by obtain ⟨A1, c1, xs, e, _⟩ := g1; exact ⟨_, _, _, e⟩
 obtain ⟨A2, n2, c2, e2⟩ : ∃ A1 n1 c1, l = .slice A1 n1 c1 := by obtain ⟨A1, c1, xs, e, _⟩ := g2; exact ⟨_, _, _, e⟩
 subst e1 e2
 exact ⟨A1, n1, c1, A2, n2, c2, hcu 0 (by rw [hs]; decide), hcu 1 (by rw [hs]; decide), hcu 2 (by rw [hs]; decide), g1, g2⟩
noncomputable def fracOf (most : Nat) (s : ByteArray) : Rat := Classical.epsilon (FracIs most (bytesOf s))
theorem fracOf_is (most : Nat) (s : ByteArray) : FracIs most (bytesOf s) (fracOf most s) := by
 refine Classical.epsilon_spec (p := FracIs most (bytesOf s)) ?_
 by_cases h : ∃ p : Rat, bytesOf s = ratText p ∧ (bytesOf s).length ≤ most
 ·obtain ⟨p, h1, h2⟩ := h; exact ⟨p, Or.inl ⟨h1, h2⟩⟩
 ·exact ⟨1, Or.inr ⟨h, rfl⟩⟩
theorem FracIs.eq {most : Nat} {s : ByteArray} {q : Rat} (h : FracIs most (bytesOf s) q) : q = fracOf most s := h.one (fracOf_is most s)
def listR (w : World) (ss : List ByteArray) (v : Value) (w' : World) : Prop :=
 ∃ va vb, v = .tuple #[va, vb] ∧ LstV 35 3 (RatE 23) w' va (ss.map (fracOf 200)) ∧ LstV 41 4 (QE 23) w' vb (ss.map (fracOf 200)) ∧ Below w.heap.size w w'
theorem take_snoc_map {α β : Type} (f : α → β) {l : List α} {k : Nat} {s : α} (h : l[k]? = some s) : (l.take (k + 1)).map f = (l.take k).map f ++ [f s] := by
 obtain ⟨hk, e⟩ := List.getElem?_eq_some_iff.1 h
 rw [List.take_succ_eq_append_getElem hk, List.map_append, e]
 rfl
theorem one_rat (s : Bool) (A : Option Addr) (n c : Nat) (B : Option Addr) (m d : Nat) : ∀ x ∈ (Value.agg #[.bool s, .slice A n c, .slice B m d]).cells.toList, x.oneCell' = true := by
 intro x hx
 simp [Value.cells] at hx
 rcases hx with rfl | rfl | rfl <;> rfl
theorem one_q (s : Bool) (A : Option Addr) (n c : Nat) (t : Bool) (B : Option Addr) (m d : Nat) : ∀ x ∈ (Value.agg #[.bool s, .slice A n c, .bool t, .slice B m d]).cells.toList, x.oneCell' = true := by
 intro x hx
 simp [Value.cells] at hx
 rcases hx with rfl | rfl | rfl | rfl <;> rfl
set_option maxRecDepth 100000 in
set_option maxHeartbeats 4000000 in
theorem list_c (w : World) (v : Value) (ss : List ByteArray) (m : Nat) {T : TypeId} (hv : LstV T 1 StrE w v ss) (hm : m ≤ 1000) :
  Calls Tryz.prog 12 #[v, .int .i64 m] w (Ret (listR w (ss.take m))) := by
 obtain ⟨A, c, rfl, hc1, hc2, hc3⟩ := hv
 unfold maxLen at hc2
 have HC := hide hc3; clear hc3
 go_enter Tryz.func12, Tryz.ntmps12
 go_wp2
 go_loopw [6, 7, 8] (fun s6 s7 s8 wr => ∃ k : Nat, k ≤ ss.length ∧ k ≤ m ∧ s8 = .int .i64 k ∧ OwnG 35 3 (RatE 23) wr w.heap.size s6 ((ss.take k).map (fracOf 200)) ∧ OwnG 41 4 (QE 23) wr w.heap.size s7 ((ss.take k).map (fracOf 200)) ∧ Below w.heap.size w wr) (fun _ _ s8 _ => ss.length - (intOf s8).toNat)
 case atStart => exact ⟨0, by omega, by omega, rfl, OwnG.nil _ _ _ _ _, OwnG.nil _ _ _ _ _, Below.refl _ _⟩
 case round =>
  obtain ⟨k, hk, hkm, rfl, hoa, hob, hbel⟩ := hrel
  have HO := hide (ai hoa (ai hob hbel))
  obtain ⟨Aa, ca, ea, _⟩ := hoa.len
  obtain ⟨Ab, cb, eb, _⟩ := hob.len
  have hlk : ((ss.take k).map (fracOf 200)).length = k := by simp; omega
  rw [hlk] at ea eb
  clear hlk hoa hob hbel
  subst ea eb
  by_cases hkl : k < ss.length
  ·have d1 : decide (k < ss.length) = true := decide_eq_true hkl
   by_cases hkm2 : k < m
   ·have d2 : decide (k < m) = true := decide_eq_true hkm2
    obtain ⟨b, o, rfl, ht, hcl⟩ := HC.out (by omega)
    have hsk : ss[k]? = some ss[k] := List.getElem?_eq_getElem hkl
    obtain ⟨s, hs⟩ : ∃ s, s = ss[k] := ⟨_, rfl⟩
    rw [← hs] at hsk
    obtain ⟨u, hu1, hu2, hu3, hu4⟩ := hcl k s hsk
    subst hu3
    have hcell : wr.cell? ⟨b, o + k, none⟩ = some (.string s) := by
     have := (HO.out.2.2.cell (p := ⟨b, o + k * 1 + 0, none⟩) ht.lt).trans (hu2 0 (by rw [hu1]; decide))
     rw [Nat.mul_one, Nat.add_zero] at this
     exact this
    have HF := hide (fun w1 => frac_f w1 s hu4 200 (by omega) (by omega))
    have HS := hide hsk
    clear hcl hu1 hu2 hu4 ht hs hsk
    go_wp2_with fail
    refine (HF.out _).mono ?_
    rintro e w1 ⟨_, rfl, q, s1, A1, n1, c1, B1, m1, d1', t1, A1', n1', c1', B1', m1', d1'', rfl, hfq, hv, hv', hd⟩
    replace hv : RatV _ _ q 23 := hv
    replace hv' : QV _ _ q 23 := hv'
    obtain rfl := FracIs.eq hfq.2
    obtain ⟨q, hq⟩ : ∃ q, q = fracOf 200 s := ⟨_, rfl⟩
    rw [← hq] at hv hv'
    have HV := hide (ai hv (ai hv' (ai hd hq)))
    clear hv hv' hd hfq hq hcell
    have hwk : ((ss.take k).map (fracOf 200)).length = k := by simp; omega
    have HWK := hide hwk; clear hwk
    have hbw1 : w.heap.size ≤ w1.heap.size := by have := HO.out.2.2.size; have := HV.out.2.2.1.size; omega
    go_wp2_with (first
     | (at_builtin; refine appG Tryz.ratE (stK_rat 23 (by decide)) _ rfl _ _ rfl w.heap.size _ ((ss.take k).map (fracOf 200)) q rfl (OwnG.below (stB_rat 23) HO.out.1 (below_al (below_al (below_al HV.out.2.2.1 _) _) _)) ⟨w1.heap.size + 1 + 1, 0, none⟩ _ rfl (.agg #[.bool s1, .slice A1 n1 c1, .slice B1 m1 d1']) (RatV.below HV.out.1 (below_al (below_al (below_al (Below.refl _ _) _) _) _)) rfl (cells_new3 _ _ _ _ _ (by simp)) (one_rat _ _ _ _ _ _ _) (by rw [HWK.out]; omega) (by simp; omega) ?_; intro g5 c5 w5 hown5 hb5 hg5; rw [HWK.out];
        have hq5 := QV.below HV.out.2.1 (below_al (below_al (below_al (Below.refl _ _) (.cells #[.bool s1, .slice A1 n1 c1, .slice B1 m1 d1'] 35)) (.cells #[.bool t1, .slice A1' n1' c1', .bool false, .slice B1' m1' d1''] 41)) (.cells #[.bool s1, .slice A1 n1 c1, .slice B1 m1 d1'] 35));
        have hown7 := OwnG.kp (stK_q 23 (by decide)) (OwnG.below (stB_q 23) HO.out.2.1 (below_al (below_al (below_al HV.out.2.2.1 (.cells #[.bool s1, .slice A1 n1 c1, .slice B1 m1 d1'] 35)) (.cells #[.bool t1, .slice A1' n1' c1', .bool false, .slice B1' m1' d1''] 41)) (.cells #[.bool s1, .slice A1 n1 c1, .slice B1 m1 d1'] 35))) (by decide) hg5.kp;
        have hbox := at_old (at_new' (w := w1.alloc (.cells #[.bool s1, .slice A1 n1 c1, .slice B1 m1 d1'] 35)) (b := w1.heap.size + 1) (.cells #[.bool t1, .slice A1' n1' c1', .bool false, .slice B1' m1' d1''] 41) (by simp)) (.cells #[.bool s1, .slice A1 n1 c1, .slice B1 m1 d1'] 35);
        have hbox5 := (hg5.kp.typed ⟨_, _, hbox⟩ (by decide)).trans hbox;
        obtain ⟨k0, k1, k2, k3, _⟩ := four_cells hbox5;
        have H5 := hide (ai hown5 (ai (stK_q 23 (by decide) _ _ _ _ hg5.kp hq5) (ai hown7 hb5)));
        have hsz5 : w1.heap.size + 1 + 1 < w5.heap.size := (by have := hg5.by_.size; simp at this; omega);
        clear hown5 hb5 hg5 hq5 hown7 hbox hbox5)
     | (at_builtin; refine appG Tryz.qE (stK_q 23 (by decide)) _ rfl _ _ rfl w.heap.size _ ((ss.take k).map (fracOf 200)) q rfl (OwnG.below (stB_q 23) H5.out.2.2.1 (below_al (Below.refl _ _) _)) ⟨w5.heap.size, 0, none⟩ _ rfl (.agg #[.bool t1, .slice A1' n1' c1', .bool false, .slice B1' m1' d1'']) (QV.below H5.out.2.1 (below_al (Below.refl _ _) _)) rfl (cells_new4 _ _ _ _ _ _ rfl) (one_q _ _ _ _ _ _ _ _) (by rw [HWK.out]; omega) (by simp; omega) ?_; intro g6 c6 w6 hown6 hb6 hg6; rw [HWK.out];
        have hownr := OwnG.kp (stK_rat 23 (by decide)) (OwnG.below (stB_rat 23) H5.out.1 (below_al (Below.refl _ _) (.cells #[.bool t1, .slice A1' n1' c1', .bool false, .slice B1' m1' d1''] 41))) (by decide) hg6.kp;
        have hbl6 := ((HO.out.2.2.trans ((below_al (below_al (below_al HV.out.2.2.1 (.cells #[.bool s1, .slice A1 n1 c1, .slice B1 m1 d1'] 35)) (.cells #[.bool t1, .slice A1' n1' c1', .bool false, .slice B1' m1' d1''] 41)) (.cells #[.bool s1, .slice A1 n1 c1, .slice B1 m1 d1'] 35)).mono HO.out.2.2.size)).trans H5.out.2.2.2).trans (((Below.refl _ _).alloc (by omega) (.cells #[.bool t1, .slice A1' n1' c1', .bool false, .slice B1' m1' d1''] 41)).trans hb6);
        rw [HWK.out] at hown6 hownr;
        have H6 := hide (ai hownr (ai hown6 hbl6));
        clear hown6 hb6 hg6 hownr hbl6 k0 k1 k2 k3))
    have hsn := take_snoc_map (fracOf 200) HS.out
    rw [← HV.out.2.2.2] at hsn
    have HSN := hide hsn
    clear hsn
    go_wp2
    case roundEnd => exact ⟨⟨k + 1, by omega, by omega, by go_num, by rw [HSN.out]; exact H6.out.1, by rw [HSN.out]; exact H6.out.2.1, H6.out.2.2⟩, by simp [intOf]; omega⟩
   ·have d2 : decide (k < m) = false := decide_eq_false hkm2
    have hkm3 : ss.take m = ss.take k := by rw [show k = m by omega]
    have HKM := hide hkm3; clear hkm3
    go_wp2
    refine bodyPost_ret (v := .tuple #[.slice Aa k ca, .slice Ab k cb]) ?_ rfl ?_
    ·simp [results, Tryz.results12, go_sem]
    rw [HKM.out]
    exact ⟨_, rfl, _, _, rfl, HO.out.1.lst, HO.out.2.1.lst, HO.out.2.2⟩
  ·have d1 : decide (k < ss.length) = false := decide_eq_false hkl
   have hkm3 : ss.take m = ss.take k := by rw [List.take_of_length_le (by omega), List.take_of_length_le (by omega)]
   have HKM := hide hkm3; clear hkm3
   go_wp2
   refine bodyPost_ret (v := .tuple #[.slice Aa k ca, .slice Ab k cb]) ?_ rfl ?_
   ·simp [results, Tryz.results12, go_sem]
   rw [HKM.out]
   exact ⟨_, rfl, _, _, rfl, HO.out.1.lst, HO.out.2.1.lst, HO.out.2.2⟩
end Go.Proofs.YthnnbpnocefmgaaGreat
