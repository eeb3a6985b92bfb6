import Derived.Test.YthnnbpnocefmgaaGreatSieg
import Derived.Test.YthnnbpnocefmgaaGreatOpenS
import Derived.Test.YthnnbpnocefmgaaGreatKept
import Derived.Test.YthnnbpnocefmgaaGreatQop9
import Derived.Deep.QuietTactic
import Derived.BigQuiet
namespace Go.Proofs.YthnnbpnocefmgaaGreat
set_option linter.unusedVariables false
set_option linter.unusedSimpArgs false
theorem natp (a : Nat) : (4294967296 : Int) ^ a = ((4294967296 ^ a : Nat) : Int) := by rw [Int.natCast_pow]; rfl
theorem FitQ.mulA {a b : Nat} {p q : Rat} (hp : FitQ a p) (hq : FitQ b q) : FitQ (a + b) (p * q) := by
 have hpd := den_pos p
 have hqd := den_pos q
 have e : p * q = Rat.divInt (p.num * q.num) (p.den * q.den) := by
  conv => lhs; rw [← Rat.num_divInt_den p, ← Rat.num_divInt_den q]
  exact Rat.divInt_mul_divInt _ _
 have h1 : p.num.natAbs < 4294967296 ^ a := by have := hp.1; rw [natp] at this; omega
 have h2 : q.num.natAbs < 4294967296 ^ b := by have := hq.1; rw [natp] at this; omega
 have h3 : p.den ≤ 4294967296 ^ a := by have := hp.2; rw [natp] at this; omega
 have h4 : q.den ≤ 4294967296 ^ b := by have := hq.2; rw [natp] at this; omega
 have g1 : p.num.natAbs * q.num.natAbs < 4294967296 ^ a * 4294967296 ^ b := Nat.mul_lt_mul'' h1 h2
 have g2 : p.den * q.den ≤ 4294967296 ^ a * 4294967296 ^ b := Nat.mul_le_mul h3 h4
 rw [← Nat.pow_add] at g1 g2
 rw [e]
 refine fit_divInt (Int.mul_pos hpd hqd) ?_ (by rw [natp, ← Int.natCast_mul]; exact Int.ofNat_le.2 g2)
 rw [Int.natAbs_mul, natp]
 exact Int.ofNat_lt.2 g1
theorem FitQ.addA {a b : Nat} {p q : Rat} (hp : FitQ a p) (hq : FitQ b q) : FitQ (a + b + 1) (p + q) := by
 have hpd := den_pos p
 have hqd := den_pos q
 have e : p + q = Rat.divInt (p.num * q.den + q.num * p.den) (p.den * q.den) := by
  conv => lhs; rw [← Rat.num_divInt_den p, ← Rat.num_divInt_den q]
  exact Rat.divInt_add_divInt _ _ (by omega) (by omega)
 have h1 : p.num.natAbs < 4294967296 ^ a := by have := hp.1; rw [natp] at this; omega
 have h2 : q.num.natAbs < 4294967296 ^ b := by have := hq.1; rw [natp] at this; omega
 have h3 : p.den ≤ 4294967296 ^ a := by have := hp.2; rw [natp] at this; omega
 have h4 : q.den ≤ 4294967296 ^ b := by have := hq.2; rw [natp] at this; omega
 have g1 : p.num.natAbs * q.den ≤ 4294967296 ^ a * 4294967296 ^ b := Nat.mul_le_mul (by omega) h4
 have g2 : q.num.natAbs * p.den ≤ 4294967296 ^ b * 4294967296 ^ a := Nat.mul_le_mul (by omega) h3
 have g3 : p.den * q.den ≤ 4294967296 ^ a * 4294967296 ^ b := Nat.mul_le_mul h3 h4
 have g4 : (0 : Nat) < 4294967296 ^ (a + b) := Nat.pow_pos (by omega)
 rw [Nat.mul_comm (4294967296 ^ b)] at g2
 rw [← Nat.pow_add] at g1 g2 g3
 have g5 : 4294967296 ^ (a + b + 1) = 4294967296 ^ (a + b) * 4294967296 := Nat.pow_succ _ _
 have t := Int.natAbs_add_le (p.num * q.den) (q.num * p.den)
 rw [Int.natAbs_mul, Int.natAbs_mul, Int.natAbs_natCast, Int.natAbs_natCast] at t
 rw [e]
 refine fit_divInt (Int.mul_pos hpd hqd) ?_ ?_
 ·have : (p.num * q.den + q.num * p.den).natAbs < 4294967296 ^ (a + b + 1) := by omega
  rw [natp]
  exact Int.ofNat_lt.2 this
 ·have : p.den * q.den ≤ 4294967296 ^ (a + b + 1) := by omega
  rw [natp, ← Int.natCast_mul]
  exact Int.ofNat_le.2 this
theorem one_den (D : Nat) (hD : 1 ≤ D) : ∀ (l : List Rat), (∀ x ∈ l, x.num.natAbs < D ∧ x.den < D) →
  ∃ m : Nat, 0 < m ∧ m ≤ D ^ (l.length + 1) ∧ ∀ x ∈ l, ∃ z : Int, x * (m : Int) = z ∧ z.natAbs ≤ D ^ (l.length + 1)
 | [], _ => ⟨1, by omega, Nat.pow_pos hD, fun x hx => by cases hx⟩
 | x :: l, h => by
  obtain ⟨m, h0, h1, h2⟩ := one_den D hD l (fun y hy => h y (List.mem_cons_of_mem _ hy))
  obtain ⟨hn, hd⟩ := h x (List.mem_cons_self ..)
  have hx : x * ((x.den : Int) : Rat) = (x.num : Rat) := by
   have h1 := Rat.num_divInt_den x
   rw [Rat.divInt_eq_div] at h1
   have h2 := castZ (z := (x.den : Int)) (by have := x.den_pos; omega)
   grind
  have hp : D ^ ((x :: l).length + 1) = D ^ (l.length + 1) * D := by rw [List.length_cons, Nat.pow_succ]
  have e2 : (((x.den * m : Nat) : Int) : Rat) = ((x.den : Int) : Rat) * ((m : Int) : Rat) := by simp
  refine ⟨x.den * m, Nat.mul_pos x.den_pos h0, ?_, fun y hy => ?_⟩
  ·rw [hp, Nat.mul_comm]; exact Nat.mul_le_mul h1 (by omega)
  ·rcases List.mem_cons.1 hy with rfl | hy
   ·refine ⟨y.num * m, ?_, ?_⟩
    ·have e1 : ((y.num * m : Int) : Rat) = (y.num : Rat) * ((m : Int) : Rat) := by simp
     rw [e1, e2]; grind
    ·rw [Int.natAbs_mul, Int.natAbs_natCast, hp, Nat.mul_comm]; exact Nat.mul_le_mul h1 (by omega)
   ·obtain ⟨z, a, b⟩ := h2 y hy
    refine ⟨z * x.den, ?_, ?_⟩
    ·have e1 : ((z * x.den : Int) : Rat) = (z : Rat) * ((x.den : Int) : Rat) := by simp
     rw [e1, e2]; grind
    ·rw [Int.natAbs_mul, Int.natAbs_natCast, hp]; exact Nat.mul_le_mul b (by omega)
structure Sys (wd : Nat) (rows : List (List Rat)) (bs : List Rat) : Prop where
 n6 : rows.length ≤ 6
 w6 : wd ≤ 6
 row : ∀ i, i < rows.length → (rows.getD i []).length = wd
 len : bs.length = rows.length
 small : ∀ i j, FracQ 12 (ent rows i j)
 smallB : ∀ i, FracQ 12 (bs.getD i 0)
theorem mem_getD {l : List Rat} {x : Rat} (h : x ∈ l) : ∃ j, l.getD j 0 = x := by
 obtain ⟨j, hj, e⟩ := List.mem_iff_getElem.1 h
 exact ⟨j, by simp [List.getD, hj, e]⟩
theorem getD_mem {l : List Rat} (j : Nat) (hj : j < l.length) : l.getD j 0 ∈ l := by
 simp [List.getD, hj]
theorem Sys.sb {wd : Nat} {rows : List (List Rat)} {bs : List Rat} (h : Sys wd rows bs) : SB 319 bs (rows, idRows rows.length) := by
 obtain ⟨N, hN⟩ : ∃ N, N = 319 := ⟨_, rfl⟩
 rw [← hN]
 have HNN := hide hN
 clear hN
 intro i hi
 replace hi : i < rows.length := hi
 have hF : ∀ {q : Rat}, FracQ 12 q → q.num.natAbs < 1000000000000 ∧ q.den < 1000000000000 := fun hq => ⟨by have := hq.1; omega, by have := hq.2; omega⟩
 obtain ⟨m, h0, h1, h2⟩ := one_den 1000000000000 (by omega) (rows.getD i [] ++ [bs.getD i 0]) (fun x hx => by
  rcases List.mem_append.1 hx with hx | hx
  ·obtain ⟨j, rfl⟩ := mem_getD hx; exact hF (h.small i j)
  ·rw [List.mem_singleton] at hx; subst hx; exact hF (h.smallB i))
 have hlen : (rows.getD i [] ++ [bs.getD i 0]).length + 1 ≤ 8 := by
  have := h.row i hi
  have := h.w6
  rw [List.length_append, List.length_singleton]; omega
 have hp := Nat.pow_le_pow_right (n := 1000000000000) (by omega) hlen
 have hq : 1000000000000 ^ 8 < 2 ^ N := by
  obtain ⟨a, b, ha, hb, hab⟩ : ∃ a b, a = 200 ∧ b = 119 ∧ N = a + b := ⟨200, 119, rfl, rfl, HNN.out⟩
  rw [hab, Nat.pow_add, ha, hb]
  decide +kernel
 refine ⟨m, h0, by omega, fun j => ?_⟩
 unfold ex
 split
 ·by_cases hj : j / 3 < (rows.getD i []).length
  ·obtain ⟨z, a, b⟩ := h2 _ (List.mem_append_left _ (getD_mem (j / 3) hj))
   exact ⟨z, a, by omega⟩
  ·refine ⟨0, ?_, by rw [Int.natAbs_zero]; exact Nat.pow_pos (by omega)⟩
   have : ent rows i (j / 3) = 0 := by unfold ent; simp only [List.getD_eq_getElem?_getD] at hj ⊢; rw [List.getElem?_eq_none (by omega)]; rfl
   show ent rows i (j / 3) * _ = _
   rw [this]; grind
 ·split
  ·show ∃ z : Int, ent (idRows rows.length) i (j / 3) * _ = _ ∧ _
   rw [ent_id _ _ _ hi]
   by_cases hk : i = j / 3
   ·rw [if_pos hk]; exact ⟨m, by grind, by rw [Int.natAbs_natCast]; omega⟩
   ·rw [if_neg hk]; exact ⟨0, by grind, by rw [Int.natAbs_zero]; exact Nat.pow_pos (by omega)⟩
  ·show ∃ z : Int, dotL ((idRows rows.length).getD i []) bs * _ = _ ∧ _
   rw [dotL_one _ _ _ hi]
   obtain ⟨z, a, b⟩ := h2 _ (List.mem_append_right _ (List.mem_singleton.2 rfl))
   exact ⟨z, a, by omega⟩
theorem Sys.width {wd : Nat} {rows : List (List Rat)} {bs : List Rat} (h : Sys wd rows bs) (h0 : 0 < rows.length) : (rows.getD 0 []).length = wd := h.row 0 h0
theorem Sys.solS_eq {wd : Nat} {rows : List (List Rat)} {bs : List Rat} (h : Sys wd rows bs) (h0 : 0 < rows.length) : solS rows = echN wd (rows, idRows rows.length) := by
 unfold solS; rw [h.width h0]
theorem bitsN_le (k : Nat) (hk : k ≤ 6) : bitsN 319 k ≤ 20479 := Nat.le_trans (bitsN_mono 319 hk) (by decide)
theorem Sys.sbK {wd : Nat} {rows : List (List Rat)} {bs : List Rat} (h : Sys wd rows bs) (k : Nat) (hk : k ≤ 6) : SB 20479 bs (echN k (rows, idRows rows.length)).1 :=
 (sb_ech bs (rect_id h.row) h.sb k).more (bitsN_le k hk)
theorem dotN_fit {ps ss : List Rat} {a b : Nat} (h1 : ∀ i, FitQ a (ps.getD i 0)) (h2 : ∀ i, FitQ b (ss.getD i 0)) : ∀ k, FitQ (k * (a + b + 1)) (dotN ps ss k)
 | 0 => fit_zero _
 | k + 1 => by
  rw [dotN]
  exact ((dotN_fit h1 h2 k).addA ((h1 k).mulA (h2 k))).more (by rw [Nat.succ_mul]; omega)
theorem FracQ.fit2 {q : Rat} (h : FracQ 12 q) : FitQ 2 q := h.fit
theorem Sys.fit {wd : Nat} {rows : List (List Rat)} {bs : List Rat} (h : Sys wd rows bs) (h0 : 0 < rows.length) : SolveFit 4000 rows bs := by
 have hk := h.sbK wd h.w6
 have hl : (echN wd (rows, idRows rows.length)).1.1.length = rows.length := echN_length _ _
 have hrk := rect_echN wd (rect_id h.row)
 refine ⟨?_, ?_, ?_⟩
 ·rw [h.width h0]
  exact ech_fitB bs (rect_id h.row) h.sb (Nat.le_trans (bitsN_le wd h.w6) (by omega))
 ·intro i hi k hk2
  rw [h.solS_eq h0]
  have hn := h.n6
  have := dotN_fit (a := 640) (b := 2) (ps := (echN wd (rows, idRows rows.length)).1.2.getD i []) (ss := bs) (fun j => (hk.fit (L := 640) hrk.len (by omega) i j).2) (fun j => (h.smallB j).fit2) k
  refine this.more ?_
  have : k * (640 + 2 + 1) ≤ 6 * (640 + 2 + 1) := Nat.mul_le_mul_right _ (by omega)
  omega
 ·intro i hi j hne
  rw [h.solS_eq h0] at hne ⊢
  have hv := (hk i (by rw [hl]; exact hi)).div 2 (by rw [ex_dot]; exact hne)
  have := hv.fit (L := 640) (by omega) (3 * j + 1)
  rw [ex_done, ex_dot] at this
  exact this.more (by omega)
open Go.RowKit
theorem BoxQ.put4 {w : World} {g : Nat} {q q' : Rat} {L L' : Nat} (h : BoxQ w g q L) {t : Bool} {A B : Option Addr} {n c m d : Nat} (hq : QV w (.agg #[.bool t, .slice A n c, .bool false, .slice B m d]) q' L') :
  BoxQ ((((w.setCell ⟨g, 0, none⟩ (.bool t)).setCell ⟨g, 1, none⟩ (.slice A n c)).setCell ⟨g, 2, none⟩ (.bool false)).setCell ⟨g, 3, none⟩ (.slice B m d)) g q' L' := by
 obtain ⟨t0, A0, n0, c0, B0, m0, d0, h1, _⟩ := h
 obtain ⟨x, y, e, h2, h3⟩ := hq
 exact ⟨t, A, n, c, B, m, d, by simp [World.setCell, Array.getElem?_modify, h1], x, y, e, put4_lim h2 h1 (by decide), put4_lim h3 h1 (by decide)⟩
theorem LstV.q_at {w : World} {A : Option Addr} {n c : Nat} {qs : List Rat} {L : Nat} (h : QRowE L w (.slice A n c) qs) : n = qs.length ∧ qs.length ≤ c ∧ c ≤ maxLen ∧ (0 < qs.length → ∃ b o, A = some ⟨b, o, none⟩ ∧ ∀ k, k < qs.length →
  ∃ s A1 n1 c1 B1 m1 d1, w.cell? ⟨b, o + k * 4, none⟩ = some (.bool s) ∧ w.cell? ⟨b, o + k * 4 + 1, none⟩ = some (.slice A1 n1 c1) ∧ w.cell? ⟨b, o + k * 4 + 2, none⟩ = some (.bool false) ∧ w.cell? ⟨b, o + k * 4 + 3, none⟩ = some (.slice B1 m1 d1) ∧
   QV w (.agg #[.bool s, .slice A1 n1 c1, .bool false, .slice B1 m1 d1]) (qs.getD k 0) L) := by
 obtain ⟨A', c', e, h1, h2, h3⟩ := h
 injection e with e1 e2 e3
 subst e1 e2 e3
 refine ⟨rfl, h1, h2, fun hx => ?_⟩
 obtain ⟨b, o, rfl, ht, hc⟩ := h3 hx
 refine ⟨b, o, rfl, fun k hk => ?_⟩
 obtain ⟨u, hs, hcu, hq⟩ := hc k (qs.getD k 0) (by simp [List.getD, hk])
 replace hq : QV w u (qs.getD k 0) L := hq
 obtain ⟨s, A1, n1, c1, B1, m1, d1, rfl, _⟩ := hq.parts
 exact ⟨s, A1, n1, c1, B1, m1, d1, hcu 0 (by rw [hs]; decide), hcu 1 (by rw [hs]; decide), hcu 2 (by rw [hs]; decide), hcu 3 (by rw [hs]; decide), hq⟩
theorem LstV.row_at {α : Type} {T T' : TypeId} {sz : Nat} {R : World → Value → α → Prop} {w : World} {A : Option Addr} {n c : Nat} {rows : List (List α)} (h : LstV T 1 (LstV T' sz R) w (.slice A n c) rows) : n = rows.length ∧ rows.length ≤ c ∧ c ≤ maxLen ∧ (0 < rows.length → ∃ b o, A = some ⟨b, o, none⟩ ∧ ∀ k, k < rows.length →
  ∃ A1 c1, w.cell? ⟨b, o + k, none⟩ = some (.slice A1 (rows.getD k []).length c1) ∧ LstV T' sz R w (.slice A1 (rows.getD k []).length c1) (rows.getD k [])) := by
 obtain ⟨A', c', e, h1, h2, h3⟩ := h
 injection e with e1 e2 e3
 subst e1 e2 e3
 refine ⟨rfl, h1, h2, fun hx => ?_⟩
 obtain ⟨b, o, rfl, ht, hc⟩ := h3 hx
 refine ⟨b, o, rfl, fun k hk => ?_⟩
 obtain ⟨u, hs, hcu, hq⟩ := hc k (rows.getD k []) (by simp [List.getD, hk])
 obtain ⟨A1, c1, rfl, _⟩ := id hq
 have := hcu 0 (by rw [hs]; decide)
 rw [Nat.mul_one, Nat.add_zero] at this
 exact ⟨A1, c1, this, hq⟩
def QRows (L : Nat) : World → Value → List (List Rat) → Prop := LstV 27 1 (QRowE L)
theorem stB_qrows (L : Nat) : StB (QRows L) := stB_lst (stB_qrow L)
theorem QRows.below {w w' : World} {v : Value} {rows : List (List Rat)} {L : Nat} (h : QRows L w v rows) (hb : Below w.heap.size w w') : QRows L w' v rows := stB_qrows L _ _ _ _ hb h
theorem QRowE.below {w w' : World} {v : Value} {qs : List Rat} {L : Nat} (h : QRowE L w v qs) (hb : Below w.heap.size w w') : QRowE L w' v qs := stB_qrow L _ _ _ _ hb h
theorem sgnQ_nz {x : Rat} (h : x ≠ 0) : sgnQ x ≠ 0 := by
 have hn : x.num ≠ 0 := fun e => h (Rat.num_eq_zero.1 e)
 unfold sgnQ
 split
 ·omega
 ·rw [if_pos (by omega)]; omega
theorem columns_c (w : World) (v : Value) (rows : List (List Rat)) (L : Nat) (h : QRows L w v rows) :
  Calls Tryz.prog 51 #[v] w (Ret (fun v w' => v = .int .i64 ((rows.getD 0 []).length : Nat) ∧ w = w')) := by
 obtain ⟨A, c, rfl, hc, hm, _⟩ := id h
 obtain ⟨-, -, -, hat⟩ := LstV.row_at h
 unfold maxLen at hm
 by_cases h0 : 0 < rows.length
 ·obtain ⟨b, o, rfl, hat2⟩ := hat h0
  obtain ⟨A1, c1, hc1, hr⟩ := hat2 0 h0
  obtain ⟨_, hr1, hr2, _⟩ := LstV.q_at hr
  unfold maxLen at hr2
  rw [Nat.add_zero] at hc1
  have hne : ((rows.length : Int) == 0) = false := by rw [beq_eq_false_iff_ne]; omega
  clear hat hat2 hr
  go_enter Tryz.func51, Tryz.ntmps51
  go_wp2
  go_ret
  exact ⟨_, rfl, rfl, rfl⟩
 ·obtain ⟨n, hn⟩ : ∃ n, n = rows.length := ⟨_, rfl⟩
  have hn0 : n = 0 := by omega
  rw [← hn]
  subst hn0
  have hz : (rows.getD 0 []).length = 0 := by rw [List.eq_nil_of_length_eq_zero hn.symm]; rfl
  rw [hz]
  clear hat h hc hn hz h0
  go_enter Tryz.func51, Tryz.ntmps51
  go_wp2
  go_ret
  exact ⟨_, rfl, rfl, rfl⟩
end Go.Proofs.YthnnbpnocefmgaaGreat
