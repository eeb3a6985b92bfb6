/- Systems of small numbers, without memory: sizes of all that solving meets; denials deny; a solution solves. Lists of fractions, and of strings. Walks: list of the law. Walks of the reference: the sum of two naturals. Walks of the reference: the product of two naturals. Walks of the reference: sums, differences, products and the order of integers of any signs. Lists of lists of fractions, and of strings. Walks: matrix of the law, Digits of the reference. Walks: whole numbers as int64s; numerators and denominators. Systems of small fractions: what the calls of the program say of them. -/
import Derived.Test.YtpoahodnakhmiaaGreatSieg
import Derived.Test.YtpoahodnakhmiaaGreatList
import Derived.Test.YtpoahodnakhmiaaGreatCalc2
import Derived.Test.YtpoahodnakhmiaaGreatChk
import Derived.Test.YtpoahodnakhmiaaGreatZ9
import Derived.Test.YtpoahodnakhmiaaGreatStr9
import Derived.Test.YtpoahodnakhmiaaGreatKept
import Derived.Test.YtpoahodnakhmiaaGreatParse
import Derived.Test.YtpoahodnakhmiaaGreatElimE
namespace Go.Proofs.YtpoahodnakhmiaaGreat
set_option linter.unusedVariables false
set_option linter.unusedSimpArgs false
theorem natp (a : Nat) : (4294967296 : Int) ^ a = ((4294967296 ^ a : Nat) : Int) := by rw [Int.natCast_pow]; rfl
theorem FitQ.mulA {a b : Nat} {p q : Rat} (hp : FitQ a p) (hq : FitQ b q) : FitQ (a + b) (p * q) := by
  have hpd := den_pos p
  have hqd := den_pos q
  have e : p * q = Rat.divInt (p.num * q.num) (p.den * q.den) := by
    conv => lhs; rw [← Rat.num_divInt_den p, ← Rat.num_divInt_den q]
    exact Rat.divInt_mul_divInt _ _
  have h1 : p.num.natAbs < 4294967296 ^ a := by have := hp.1; rw [natp] at this; omega
  have h2 : q.num.natAbs < 4294967296 ^ b := by have := hq.1; rw [natp] at this; omega
  have h3 : p.den ≤ 4294967296 ^ a := by have := hp.2; rw [natp] at this; omega
  have h4 : q.den ≤ 4294967296 ^ b := by have := hq.2; rw [natp] at this; omega
  have g1 : p.num.natAbs * q.num.natAbs < 4294967296 ^ a * 4294967296 ^ b := Nat.mul_lt_mul'' h1 h2
  have g2 : p.den * q.den ≤ 4294967296 ^ a * 4294967296 ^ b := Nat.mul_le_mul h3 h4
  rw [← Nat.pow_add] at g1 g2
  rw [e]
  refine fit_divInt (Int.mul_pos hpd hqd) ?_ (by rw [natp, ← Int.natCast_mul]; exact Int.ofNat_le.2 g2)
  rw [Int.natAbs_mul, natp]
  exact Int.ofNat_lt.2 g1
theorem FitQ.addA {a b : Nat} {p q : Rat} (hp : FitQ a p) (hq : FitQ b q) : FitQ (a + b + 1) (p + q) := by
  have hpd := den_pos p
  have hqd := den_pos q
  have e : p + q = Rat.divInt (p.num * q.den + q.num * p.den) (p.den * q.den) := by
    conv => lhs; rw [← Rat.num_divInt_den p, ← Rat.num_divInt_den q]
    exact Rat.divInt_add_divInt _ _ (by omega) (by omega)
  have h1 : p.num.natAbs < 4294967296 ^ a := by have := hp.1; rw [natp] at this; omega
  have h2 : q.num.natAbs < 4294967296 ^ b := by have := hq.1; rw [natp] at this; omega
  have h3 : p.den ≤ 4294967296 ^ a := by have := hp.2; rw [natp] at this; omega
  have h4 : q.den ≤ 4294967296 ^ b := by have := hq.2; rw [natp] at this; omega
  have g1 : p.num.natAbs * q.den ≤ 4294967296 ^ a * 4294967296 ^ b := Nat.mul_le_mul (by omega) h4
  have g2 : q.num.natAbs * p.den ≤ 4294967296 ^ b * 4294967296 ^ a := Nat.mul_le_mul (by omega) h3
  have g3 : p.den * q.den ≤ 4294967296 ^ a * 4294967296 ^ b := Nat.mul_le_mul h3 h4
  have g4 : (0 : Nat) < 4294967296 ^ (a + b) := Nat.pow_pos (by omega)
  rw [Nat.mul_comm (4294967296 ^ b)] at g2
  rw [← Nat.pow_add] at g1 g2 g3
  have g5 : 4294967296 ^ (a + b + 1) = 4294967296 ^ (a + b) * 4294967296 := Nat.pow_succ _ _
  have t := Int.natAbs_add_le (p.num * q.den) (q.num * p.den)
  rw [Int.natAbs_mul, Int.natAbs_mul, Int.natAbs_natCast, Int.natAbs_natCast] at t
  rw [e]
  refine fit_divInt (Int.mul_pos hpd hqd) ?_ ?_
  · have : (p.num * q.den + q.num * p.den).natAbs < 4294967296 ^ (a + b + 1) := by omega
    rw [natp]
    exact Int.ofNat_lt.2 this
  · have : p.den * q.den ≤ 4294967296 ^ (a + b + 1) := by omega
    rw [natp, ← Int.natCast_mul]
    exact Int.ofNat_le.2 this
/-- numbers that have one denominator -/
theorem one_den (D : Nat) (hD : 1 ≤ D) : ∀ (l : List Rat), (∀ x ∈ l, x.num.natAbs < D ∧ x.den < D) →
    ∃ m : Nat, 0 < m ∧ m ≤ D ^ (l.length + 1) ∧ ∀ x ∈ l, ∃ z : Int, x * (m : Int) = z ∧ z.natAbs ≤ D ^ (l.length + 1)
  | [], _ => ⟨1, by omega, Nat.pow_pos hD, fun x hx => by cases hx⟩
  | x :: l, h => by
    obtain ⟨m, h0, h1, h2⟩ := one_den D hD l (fun y hy => h y (List.mem_cons_of_mem _ hy))
    obtain ⟨hn, hd⟩ := h x (List.mem_cons_self ..)
    have hx : x * ((x.den : Int) : Rat) = (x.num : Rat) := by
      have h1 := Rat.num_divInt_den x
      rw [Rat.divInt_eq_div] at h1
      have h2 := castZ (z := (x.den : Int)) (by have := x.den_pos; omega)
      grind
    have hp : D ^ ((x :: l).length + 1) = D ^ (l.length + 1) * D := by rw [List.length_cons, Nat.pow_succ]
    have e2 : (((x.den * m : Nat) : Int) : Rat) = ((x.den : Int) : Rat) * ((m : Int) : Rat) := by simp
    refine ⟨x.den * m, Nat.mul_pos x.den_pos h0, ?_, fun y hy => ?_⟩
    · rw [hp, Nat.mul_comm]; exact Nat.mul_le_mul h1 (by omega)
    · rcases List.mem_cons.1 hy with rfl | hy
      · refine ⟨y.num * m, ?_, ?_⟩
        · have e1 : ((y.num * m : Int) : Rat) = (y.num : Rat) * ((m : Int) : Rat) := by simp
          rw [e1, e2]; grind
        · rw [Int.natAbs_mul, Int.natAbs_natCast, hp, Nat.mul_comm]; exact Nat.mul_le_mul h1 (by omega)
      · obtain ⟨z, a, b⟩ := h2 y hy
        refine ⟨z * x.den, ?_, ?_⟩
        · have e1 : ((z * x.den : Int) : Rat) = (z : Rat) * ((x.den : Int) : Rat) := by simp
          rw [e1, e2]; grind
        · rw [Int.natAbs_mul, Int.natAbs_natCast, hp]; exact Nat.mul_le_mul b (by omega)
/-- a system of few numbers of twelve digits -/
structure Sys (wd : Nat) (rows : List (List Rat)) (bs : List Rat) : Prop where
  n6 : rows.length ≤ 6
  w6 : wd ≤ 6
  row : ∀ i, i < rows.length → (rows.getD i []).length = wd
  len : bs.length = rows.length
  small : ∀ i j, FracQ 12 (ent rows i j)
  smallB : ∀ i, FracQ 12 (bs.getD i 0)
theorem mem_getD {l : List Rat} {x : Rat} (h : x ∈ l) : ∃ j, l.getD j 0 = x := by
  obtain ⟨j, hj, e⟩ := List.mem_iff_getElem.1 h
  exact ⟨j, by simp [List.getD, hj, e]⟩
theorem getD_mem {l : List Rat} (j : Nat) (hj : j < l.length) : l.getD j 0 ∈ l := by
  simp [List.getD, hj]
theorem Sys.sb {wd : Nat} {rows : List (List Rat)} {bs : List Rat} (h : Sys wd rows bs) : SB 319 bs (rows, idRows rows.length) := by
  obtain ⟨N, hN⟩ : ∃ N, N = 319 := ⟨_, rfl⟩
  rw [← hN]
  have HNN := hide hN
  clear hN
  intro i hi
  replace hi : i < rows.length := hi
  have hF : ∀ {q : Rat}, FracQ 12 q → q.num.natAbs < 1000000000000 ∧ q.den < 1000000000000 := fun hq => ⟨by have := hq.1; omega, by have := hq.2; omega⟩
  obtain ⟨m, h0, h1, h2⟩ := one_den 1000000000000 (by omega) (rows.getD i [] ++ [bs.getD i 0]) (fun x hx => by
    rcases List.mem_append.1 hx with hx | hx
    · obtain ⟨j, rfl⟩ := mem_getD hx; exact hF (h.small i j)
    · rw [List.mem_singleton] at hx; subst hx; exact hF (h.smallB i))
  have hlen : (rows.getD i [] ++ [bs.getD i 0]).length + 1 ≤ 8 := by
    have := h.row i hi
    have := h.w6
    rw [List.length_append, List.length_singleton]; omega
  have hp := Nat.pow_le_pow_right (n := 1000000000000) (by omega) hlen
  have hq : 1000000000000 ^ 8 < 2 ^ N := by
    obtain ⟨a, b, ha, hb, hab⟩ : ∃ a b, a = 200 ∧ b = 119 ∧ N = a + b := ⟨200, 119, rfl, rfl, HNN.out⟩
    rw [hab, Nat.pow_add, ha, hb]
    decide +kernel
  refine ⟨m, h0, by omega, fun j => ?_⟩
  unfold ex
  split
  · by_cases hj : j / 3 < (rows.getD i []).length
    · obtain ⟨z, a, b⟩ := h2 _ (List.mem_append_left _ (getD_mem (j / 3) hj))
      exact ⟨z, a, by omega⟩
    · refine ⟨0, ?_, by rw [Int.natAbs_zero]; exact Nat.pow_pos (by omega)⟩
      have : ent rows i (j / 3) = 0 := by unfold ent; simp only [List.getD_eq_getElem?_getD] at hj ⊢; rw [List.getElem?_eq_none (by omega)]; rfl
      show ent rows i (j / 3) * _ = _
      rw [this]; grind
  · split
    · show ∃ z : Int, ent (idRows rows.length) i (j / 3) * _ = _ ∧ _
      rw [ent_id _ _ _ hi]
      by_cases hk : i = j / 3
      · rw [if_pos hk]; exact ⟨m, by grind, by rw [Int.natAbs_natCast]; omega⟩
      · rw [if_neg hk]; exact ⟨0, by grind, by rw [Int.natAbs_zero]; exact Nat.pow_pos (by omega)⟩
    · show ∃ z : Int, dotL ((idRows rows.length).getD i []) bs * _ = _ ∧ _
      rw [dotL_one _ _ _ hi]
      obtain ⟨z, a, b⟩ := h2 _ (List.mem_append_right _ (List.mem_singleton.2 rfl))
      exact ⟨z, a, by omega⟩
theorem Sys.width {wd : Nat} {rows : List (List Rat)} {bs : List Rat} (h : Sys wd rows bs) (h0 : 0 < rows.length) : (rows.getD 0 []).length = wd := h.row 0 h0
theorem Sys.solS_eq {wd : Nat} {rows : List (List Rat)} {bs : List Rat} (h : Sys wd rows bs) (h0 : 0 < rows.length) : solS rows = echN wd (rows, idRows rows.length) := by
  unfold solS; rw [h.width h0]
theorem bitsN_le (k : Nat) (hk : k ≤ 6) : bitsN 319 k ≤ 20479 := Nat.le_trans (bitsN_mono 319 hk) (by decide)
theorem Sys.sbK {wd : Nat} {rows : List (List Rat)} {bs : List Rat} (h : Sys wd rows bs) (k : Nat) (hk : k ≤ 6) : SB 20479 bs (echN k (rows, idRows rows.length)).1 :=
  (sb_ech bs (rect_id h.row) h.sb k).more (bitsN_le k hk)
theorem dotN_fit {ps ss : List Rat} {a b : Nat} (h1 : ∀ i, FitQ a (ps.getD i 0)) (h2 : ∀ i, FitQ b (ss.getD i 0)) : ∀ k, FitQ (k * (a + b + 1)) (dotN ps ss k)
  | 0 => fit_zero _
  | k + 1 => by
    rw [dotN]
    exact ((dotN_fit h1 h2 k).addA ((h1 k).mulA (h2 k))).more (by rw [Nat.succ_mul]; omega)
theorem FracQ.fit2 {q : Rat} (h : FracQ 12 q) : FitQ 2 q := h.fit
theorem Sys.fit {wd : Nat} {rows : List (List Rat)} {bs : List Rat} (h : Sys wd rows bs) (h0 : 0 < rows.length) : SolveFit 4000 rows bs := by
  have hk := h.sbK wd h.w6
  have hl : (echN wd (rows, idRows rows.length)).1.1.length = rows.length := echN_length _ _
  have hrk := rect_echN wd (rect_id h.row)
  refine ⟨?_, ?_, ?_⟩
  · rw [h.width h0]
    exact ech_fitB bs (rect_id h.row) h.sb (Nat.le_trans (bitsN_le wd h.w6) (by omega))
  · intro i hi k hk2
    rw [h.solS_eq h0]
    have hn := h.n6
    have := dotN_fit (a := 640) (b := 2) (ps := (echN wd (rows, idRows rows.length)).1.2.getD i []) (ss := bs) (fun j => (hk.fit (L := 640) hrk.len (by omega) i j).2) (fun j => (h.smallB j).fit2) k
    refine this.more ?_
    have : k * (640 + 2 + 1) ≤ 6 * (640 + 2 + 1) := Nat.mul_le_mul_right _ (by omega)
    omega
  · intro i hi j hne
    rw [h.solS_eq h0] at hne ⊢
    have hv := (hk i (by rw [hl]; exact hi)).div 2 (by rw [ex_dot]; exact hne)
    have := hv.fit (L := 640) (by omega) (3 * j + 1)
    rw [ex_done, ex_dot] at this
    exact this.more (by omega)
/-- with as many rows of their own as columns these are all columns -/
theorem cols_all {wd : Nat} {rows : List (List Rat)} (hrow : ∀ i, i < rows.length → (rows.getD i []).length = wd) (hall : (echN wd (rows, idRows rows.length)).2.length = wd) : ∀ r, r < wd → (echN wd (rows, idRows rows.length)).2.getD r 0 = r := by
  have hI := echI (rect_id hrow) wd
  have hge : ∀ r, r < wd → r ≤ (echN wd (rows, idRows rows.length)).2.getD r 0 := by
    intro r
    induction r with
    | zero => intro _; omega
    | succ r ih => intro hr; have := hI.mono r (r + 1) (by omega) (by omega); have := ih (by omega); omega
  have hle : ∀ t, t < wd → (echN wd (rows, idRows rows.length)).2.getD (wd - 1 - t) 0 ≤ wd - 1 - t := by
    intro t
    induction t with
    | zero => intro h; have := hI.lt (wd - 1 - 0) (by omega); omega
    | succ t ih => intro h; have := hI.mono (wd - 1 - (t + 1)) (wd - 1 - t) (by omega) (by omega); have := ih (by omega); omega
  intro r hr
  have a := hge r hr
  have b := hle (wd - 1 - r) (by omega)
  rw [show wd - 1 - (wd - 1 - r) = r by omega] at b
  omega
/-- with as many rows of their own as columns, and without a denial, the products with the list solve the system -/
theorem sol_solves {wd : Nat} {rows : List (List Rat)} {bs : List Rat} (hrow : ∀ i, i < rows.length → (rows.getD i []).length = wd) (x : Nat → Rat)
    (hall : (echN wd (rows, idRows rows.length)).2.length = wd)
    (hx : ∀ i, i < wd → x i = dotL ((echN wd (rows, idRows rows.length)).1.2.getD i []) bs)
    (hno : ∀ i, wd ≤ i → i < rows.length → dotL ((echN wd (rows, idRows rows.length)).1.2.getD i []) bs = 0) (i : Nat) (hi : i < rows.length) :
    sumN (fun j => ent rows i j * x j) wd = bs.getD i 0 := by
  have hl : (echN wd (rows, idRows rows.length)).1.1.length = rows.length := echN_length _ _
  have hI := echI (rect_id hrow) wd
  have hout := cols_all hrow hall
  have hφ : Lin (fun f => sumN (fun j => f (3 * j) * x j) wd - f 2) := by
    constructor
    · intro f c
      show sumN (fun j => f (3 * j) / c * x j) wd - f 2 / c = _
      rw [show (fun j => f (3 * j) / c * x j) = (fun j => (f (3 * j) * x j) / c) from by funext t; grind, sumN_div]
      grind
    · intro f g c
      show sumN (fun j => (f (3 * j) - c * g (3 * j)) * x j) wd - (f 2 - c * g 2) = _
      rw [show (fun j => (f (3 * j) - c * g (3 * j)) * x j) = (fun j => (f (3 * j) * x j) - c * (g (3 * j) * x j)) from by funext t; grind, sumN_take]
      grind
  have h1 := (lin_ech hφ bs (rect_id hrow) wd).2 (fun i hi => by
    replace hi : i < rows.length := hi
    show sumN (fun j => ex bs _ i (3 * j) * x j) wd - ex bs _ i 2 = 0
    rw [ex_dot]
    by_cases hlow : i < wd
    · rw [sumN_one wd i hlow]
      · have := hI.one i (by omega)
        rw [hout i hlow] at this
        show ex bs _ i (3 * i) * x i - _ = 0
        rw [ex_row, this, hx i hlow]; grind
      · intro j hj hne
        have := hI.alone j i (by omega) (by rw [hl]; exact hi) (by omega)
        rw [hout j hj] at this
        show ex bs _ i (3 * j) * x j = 0
        rw [ex_row, this]; grind
    · rw [hno i (by omega) hi, sumN_zero]
      · grind
      · intro j hj
        have := hI.low i j (by omega) (by rw [hl]; exact hi) hj
        show ex bs _ i (3 * j) * x j = 0
        rw [ex_row, this]; grind) i hi
  simp only [ex_row, ex_dot] at h1
  have e : dotL ((idRows rows.length).getD i []) bs = bs.getD i 0 := dotL_one _ _ _ hi
  change sumN (fun j => ent rows i j * x j) wd - dotL ((idRows rows.length).getD i []) bs = 0 at h1
  rw [e] at h1
  grind
end Go.Proofs.YtpoahodnakhmiaaGreat
namespace Go.Proofs.YtpoahodnakhmiaaGreat
set_option linter.unusedVariables false
set_option linter.unusedSimpArgs false
open Go.RowKit
def RatE (L : Nat) (w : World) (u : Value) (q : Rat) : Prop := RatV w u q L
def QE (L : Nat) (w : World) (u : Value) (q : Rat) : Prop := QV w u q L
theorem Kp.keeps {T : TypeId} {w w' : World} (h : Kp T w w') (hT : 190 ≠ T) : Keeps w w' := fun b hb => h.typed hb hT
theorem LimV.kp {T : TypeId} {w w' : World} {v : Value} {x : Int} {L : Nat} (h : LimV w v x L) (hk : Kp T w w') (hT : 3 ≠ T) : LimV w' v x L := by
  obtain ⟨A, c, xs, rfl, h1, h2, h3, h4⟩ := h
  refine ⟨A, c, xs, rfl, h1, h2, fun hx => ?_, h4⟩
  obtain ⟨b, o, rfl, ht, hc⟩ := h3 hx
  have e := hk.typed (e := 3) ht hT
  exact ⟨b, o, rfl, ht.same e, fun j hj => (World.cell?_of_block (w := w) e).trans (hc j hj)⟩
theorem stB_rat (L : Nat) : StB (RatE L) := fun w w' u x hb h => RatV.below h hb
theorem stK_rat {T : TypeId} (L : Nat) (hT : 190 ≠ T) : StK T (RatE L) := fun w w' u x hk h => RatV.keeps h (hk.keeps hT)
theorem stB_q (L : Nat) : StB (QE L) := fun w w' u x hb h => QV.below h hb
theorem stK_q {T : TypeId} (L : Nat) (hT : 3 ≠ T) : StK T (QE L) := by
  rintro w w' u x hk ⟨n, d, rfl, h1, h2⟩
  exact ⟨n, d, rfl, h1.kp hk hT, h2.kp hk hT⟩
theorem Tryz.ratE : ElT Tryz.prog 30 43 3 56 := ⟨Tryz.underlying30, ⟨.agg #[.bool false, .slice none 0 0, .slice none 0 0], rfl, by kernel_rfl⟩, by decide, by decide⟩
theorem Tryz.qE : ElT Tryz.prog 25 55 4 64 := ⟨Tryz.underlying25, ⟨.agg #[.bool false, .slice none 0 0, .bool false, .slice none 0 0], rfl, by kernel_rfl⟩, by decide, by decide⟩
/-- a list of fractions is a row -/
theorem LstV.rowV {w : World} {v : Value} {qs : List Rat} {L : Nat} (h : LstV 43 3 (RatE L) w v qs) : RowV w v qs L := by
  obtain ⟨A, c, rfl, h1, h2, h3⟩ := h
  refine ⟨A, c, rfl, h1, h2, fun hx => ?_⟩
  obtain ⟨b, o, rfl, ht, hc⟩ := h3 hx
  refine ⟨b, o, rfl, fun i hi => ?_⟩
  obtain ⟨u, hs, hcu, n, l, rfl, g1, g2⟩ := hc i (qs.getD i 0) (by simp [List.getD, hi])
  obtain ⟨A1, n1, c1, e1⟩ : ∃ A1 n1 c1, n = .slice A1 n1 c1 := by obtain ⟨A1, c1, xs, e, _⟩ := g1; exact ⟨_, _, _, e⟩
  obtain ⟨A2, n2, c2, e2⟩ : ∃ A1 n1 c1, l = .slice A1 n1 c1 := by obtain ⟨A1, c1, xs, e, _⟩ := g2; exact ⟨_, _, _, e⟩
  subst e1 e2
  exact ⟨A1, n1, c1, A2, n2, c2, hcu 0 (by rw [hs]; decide), hcu 1 (by rw [hs]; decide), hcu 2 (by rw [hs]; decide), g1, g2⟩
/-- the fraction that a string is, or 1 -/
noncomputable def fracOf (most : Nat) (s : ByteArray) : Rat := Classical.epsilon (FracIs most (bytesOf s))
theorem fracOf_is (most : Nat) (s : ByteArray) : FracIs most (bytesOf s) (fracOf most s) := by
  refine Classical.epsilon_spec (p := FracIs most (bytesOf s)) ?_
  by_cases h : ∃ p : Rat, bytesOf s = ratText p ∧ (bytesOf s).length ≤ most
  · obtain ⟨p, h1, h2⟩ := h; exact ⟨p, Or.inl ⟨h1, h2⟩⟩
  · exact ⟨1, Or.inr ⟨h, rfl⟩⟩
theorem FracIs.eq {most : Nat} {s : ByteArray} {q : Rat} (h : FracIs most (bytesOf s) q) : q = fracOf most s := h.one (fracOf_is most s)
theorem one_rat (s : Bool) (A : Option Addr) (n c : Nat) (B : Option Addr) (m d : Nat) : ∀ x ∈ (Value.agg #[.bool s, .slice A n c, .slice B m d]).cells.toList, x.oneCell' = true := by
  intro x hx
  simp [Value.cells] at hx
  rcases hx with rfl | rfl | rfl <;> rfl
theorem one_q (s : Bool) (A : Option Addr) (n c : Nat) (t : Bool) (B : Option Addr) (m d : Nat) : ∀ x ∈ (Value.agg #[.bool s, .slice A n c, .bool t, .slice B m d]).cells.toList, x.oneCell' = true := by
  intro x hx
  simp [Value.cells] at hx
  rcases hx with rfl | rfl | rfl | rfl <;> rfl
end Go.Proofs.YtpoahodnakhmiaaGreat
namespace Go.Proofs.YtpoahodnakhmiaaGreat
open Go.RowKit
set_option linter.unusedVariables false
set_option linter.unusedSimpArgs false
end Go.Proofs.YtpoahodnakhmiaaGreat
namespace Go.Proofs.YtpoahodnakhmiaaGreat
set_option linter.unusedVariables false
set_option linter.unusedSimpArgs false
open Go.RowKit
theorem Blk.drewN {w : World} {g : Nat} {e : TypeId} {k : IntKind} {xs : List Int} (h : Blk w g e k xs) (n : Nat) : Blk (w.drewN n) g e k xs := h
end Go.Proofs.YtpoahodnakhmiaaGreat
namespace Go.Proofs.YtpoahodnakhmiaaGreat
set_option linter.unusedVariables false
set_option linter.unusedSimpArgs false
open Go.RowKit
end Go.Proofs.YtpoahodnakhmiaaGreat
namespace Go.Proofs.YtpoahodnakhmiaaGreat
set_option linter.unusedVariables false
set_option linter.unusedSimpArgs false
open Go.RowKit
/-- a row of fractions, of the program and of the reference; a row of strings -/
def RowE (L : Nat) : World → Value → List Rat → Prop := LstV 43 3 (RatE L)
def QRowE (L : Nat) : World → Value → List Rat → Prop := LstV 55 4 (QE L)
theorem stB_row (L : Nat) : StB (RowE L) := stB_lst (stB_rat L)
theorem stB_qrow (L : Nat) : StB (QRowE L) := stB_lst (stB_q L)
theorem stK_row {T : TypeId} (L : Nat) (hT : 190 ≠ T) (hT2 : 43 ≠ T) : StK T (RowE L) := stK_lst (stK_rat L hT) hT2
theorem stK_qrow {T : TypeId} (L : Nat) (hT : 3 ≠ T) (hT2 : 55 ≠ T) : StK T (QRowE L) := stK_lst (stK_q L hT) hT2
theorem Tryz.rowE : ElT Tryz.prog 31 30 1 24 := ⟨Tryz.underlying31, ⟨.slice none 0 0, rfl, by kernel_rfl⟩, by decide, by decide⟩
theorem Tryz.qrowE : ElT Tryz.prog 26 25 1 24 := ⟨Tryz.underlying26, ⟨.slice none 0 0, rfl, by kernel_rfl⟩, by decide, by decide⟩
theorem one_slice (A : Option Addr) (n c : Nat) : ∀ x ∈ (Value.slice A n c).cells.toList, x.oneCell' = true := by
  intro x hx
  simp [Value.cells] at hx
  subst hx; rfl
end Go.Proofs.YtpoahodnakhmiaaGreat
namespace Go.Proofs.YtpoahodnakhmiaaGreat
set_option linter.unusedVariables false
set_option linter.unusedSimpArgs false
open Go.RowKit
theorem num_q (w : World) (a : Value) (p : Rat) (L : Nat) (ha : RatV w a p L) :
    Calls Tryz.prog 163 #[a] w (Ret (ratR w ((p.num : Int) : Rat) L)) := by
  obtain ⟨n, l, rfl, h1, g1⟩ := ha
  obtain ⟨A1, c1, xs, rfl, -⟩ := h1.open_
  obtain ⟨A2, c2, ys, rfl, -⟩ := g1.open_
  obtain ⟨neg, hneg⟩ : ∃ b, b = decide (p.num < 0) := ⟨_, rfl⟩
  rw [← hneg]
  have HX := hide (And.intro h1 hneg)
  clear h1 g1 hneg
  go_enter Tryz.func163, Tryz.ntmps163
  go_wp2
  have hb : Below w.heap.size w ((w.alloc (.cells #[.bool neg, .slice A1 xs.length c1, .slice A2 ys.length c2] 43)).alloc (.cells #[.bool neg, .slice A1 xs.length c1, .slice none 0 0] 43)) := ((Below.refl _ _).alloc (Nat.le_refl _) _).alloc (by simp) _
  have e1 : (((p.num : Int) : Rat)).num = p.num := Rat.num_intCast _
  have e2 : (((p.num : Int) : Rat)).den = 1 := Rat.den_intCast _
  refine bodyPost_ret (v := .agg #[.bool neg, .slice A1 xs.length c1, .slice none 0 0]) ?_ rfl ?_
  · simp [results, Tryz.results163, go_sem]
  exact ⟨_, rfl, ⟨_, _, by rw [e1, HX.out.2], by rw [e1]; exact HX.out.1.below hb, by rw [e2]; exact NatV.nil _ _⟩, hb⟩
set_option maxRecDepth 100000 in
theorem den_q (w : World) (a : Value) (p : Rat) (L : Nat) (ha : RatV w a p L) (hL : L ≤ 1073741800) :
    Calls Tryz.prog 164 #[a] w (Ret (ratR w ((p.den : Int) : Rat) (L + 2))) := by
  obtain ⟨n, l, rfl, h1, g1⟩ := ha
  obtain ⟨A1, c1, xs, rfl, -⟩ := h1.open_
  obtain ⟨A2, c2, ys, rfl, -⟩ := g1.open_
  obtain ⟨neg, hneg⟩ : ∃ b, b = decide (p.num < 0) := ⟨_, rfl⟩
  rw [← hneg]
  obtain ⟨W, hW⟩ : ∃ W, W = (w.alloc (.cells #[.bool neg, .slice A1 xs.length c1, .slice A2 ys.length c2] 43)).alloc (.cells #[.bool false, .slice none 0 0, .slice none 0 0] 43) := ⟨_, rfl⟩
  have hbW : Below w.heap.size w W := by rw [hW]; exact ((Below.refl _ _).alloc (Nat.le_refl _) _).alloc (by simp) _
  have hr : W.heap[w.heap.size + 1]? = some (.cells #[.bool false, .slice none 0 0, .slice none 0 0] 43) := by rw [hW]; exact at_new' _ (by simp)
  have HX := hide (And.intro g1 (And.intro hbW hr))
  have HL := hide hW
  clear h1 g1 hneg hW hbW hr
  go_enter Tryz.func164, Tryz.ntmps164
  go_wp2_with fail
  rw [← HL.out]
  refine (den_c _ _ _ _ _ L (HX.out.1.below HX.out.2.1) hL).mono ?_
  rintro e w1 ⟨v1, rfl, q1, hd1⟩
  have hr1 := at_later HX.out.2.2 hd1
  obtain ⟨x0, x1, x2⟩ := three_cells hr1
  obtain ⟨f0, f1, f2⟩ := three_frozen hr1
  have hlt := lt_of_block hr1
  rw [show ((p.den : Int) - 1 + 1) = (p.den : Int) by omega] at q1
  obtain ⟨A3, c3, zs, rfl, -⟩ := q1.open_
  have HF := hide (And.intro q1 (And.intro hr1 (below_next HX.out.2.1 hd1)))
  clear q1 hr1 hd1
  go_wp2
  refine bodyPost_ret (v := .agg #[.bool false, .slice A3 zs.length c3, .slice none 0 0]) ?_ rfl ?_
  · simp [results, Tryz.results164, go_sem, x0, x1, x2, hlt]
  have e1 : (((p.den : Int) : Rat)).num = (p.den : Int) := Rat.num_intCast _
  have e2 : (((p.den : Int) : Rat)).den = 1 := Rat.den_intCast _
  have hq : RatV w1 (.agg #[.bool false, .slice A3 zs.length c3, .slice none 0 0]) ((p.den : Int) : Rat) (L + 2) :=
    ⟨_, _, by rw [e1, decide_eq_false (show ¬ (p.den : Int) < 0 by omega)], by rw [e1]; exact HF.out.1, by rw [e2]; exact NatV.nil _ _⟩
  exact ⟨_, rfl, hq.put3 HF.out.2.1, below_set3 HF.out.2.2 (by omega) _ _ _⟩
end Go.Proofs.YtpoahodnakhmiaaGreat
namespace Go.Proofs.YtpoahodnakhmiaaGreat
set_option linter.unusedVariables false
set_option linter.unusedSimpArgs false
open Go.RowKit
theorem FracQ.lift {n n' : Nat} {q : Rat} (h : FracQ n q) (hn : n ≤ n') : FracQ n' q := by
  have := pow_le_pow' (B := 10) (by omega) hn
  exact ⟨by have := h.1; omega, by have := h.2; omega⟩
theorem FracQ.long {q : Rat} (h : FracQ 60 q) : longQ q = false := by
  unfold longQ
  have h1 : (decText (q.num.natAbs : Int)).length ≤ 60 := by
    by_cases e : (q.num.natAbs : Int) = 0
    · rw [e]; decide
    · exact dec_le (by omega) h.1
  have h2 : (decText (q.den : Int)).length ≤ 60 := dec_le (by have := q.den_pos; omega) h.2
  simp; omega
theorem RatE.rows {w : World} {v : Value} {rows : List (List Rat)} {L : Nat} (h : LstV 30 1 (RowE L) w v rows) : RowsV w v rows L := by
  obtain ⟨A, c, rfl, h1, h2, h3⟩ := h
  refine ⟨A, c, rfl, h1, h2, fun hx => ?_⟩
  obtain ⟨b, o, rfl, ht, hc⟩ := h3 hx
  refine ⟨b, o, rfl, fun i hi => ?_⟩
  obtain ⟨u, hs, hcu, hr⟩ := hc i (rows.getD i []) (by simp [List.getD, hi])
  obtain ⟨A1, c1, rfl, _⟩ := id hr
  have := hcu 0 (by rw [hs]; decide)
  rw [Nat.mul_one, Nat.add_zero] at this
  exact ⟨_, this, LstV.rowV hr⟩
theorem RowE.more {w : World} {v : Value} {qs : List Rat} {L L' : Nat} (h : RowE L w v qs) (hL : L ≤ L') : RowE L' w v qs := LstV.imp h fun u x _ hr => RatV.more hr hL
theorem RowsE.more {w : World} {v : Value} {rows : List (List Rat)} {L L' : Nat} (h : LstV 30 1 (RowE L) w v rows) (hL : L ≤ L') : LstV 30 1 (RowE L') w v rows := LstV.imp h fun u x _ hr => RowE.more hr hL
/-- the width as the program has it -/
theorem Sys.wd_eq {wd : Nat} {rows : List (List Rat)} {bs : List Rat} (h : Sys wd rows bs) (i : Nat) (hi : i < rows.length) : (rows.getD i []).length = (rows.getD 0 []).length := by
  rw [h.row i hi, h.row 0 (by omega)]
theorem Sys.wd_le {wd : Nat} {rows : List (List Rat)} {bs : List Rat} (h : Sys wd rows bs) : (rows.getD 0 []).length ≤ 6 := by
  by_cases h0 : 0 < rows.length
  · rw [h.row 0 h0]; exact h.w6
  · rw [List.eq_nil_of_length_eq_zero (show rows.length = 0 by omega)]; simp
theorem Sys.check {wd : Nat} {rows : List (List Rat)} {bs : List Rat} (h : Sys wd rows bs) : checkQ rows bs = 0 := by
  unfold checkQ
  have a := h.n6
  have b := h.wd_le
  rw [if_neg (by omega), if_neg, if_neg]
  · rintro (e | e)
    · rw [anyB_none (fun i _ => ((h.smallB i).lift (by omega)).long)] at e; cases e
    · rw [anyB_none (fun i hi => by unfold longB; exact anyB_none fun j _ => ((h.small i j).lift (by omega)).long)] at e; cases e
  · rintro (e | e)
    · exact e h.len
    · rw [anyB_none (fun i hi => by unfold shapeB; exact decide_eq_false (by rw [h.wd_eq i hi]; simp))] at e; cases e
theorem denyK_spec (done : List (List Rat)) (bs : List Rat) : ∀ (f k : Nat), k ≤ denyK done bs f k ∧ (∀ i, k ≤ i → i < denyK done bs f k → dotL (done.getD i []) bs = 0) ∧ (done.length ≤ k + f → denyK done bs f k < done.length → dotL (done.getD (denyK done bs f k) []) bs ≠ 0)
  | 0, k => ⟨Nat.le_refl _, fun i h1 h2 => by rw [denyK] at h2; omega, fun h1 h2 => by rw [denyK] at h2; omega⟩
  | f + 1, k => by
    by_cases h : k < done.length ∧ dotL (done.getD k []) bs = 0
    · rw [denyK_step _ _ _ _ h.1 h.2]
      obtain ⟨h1, h2, h3⟩ := denyK_spec done bs f (k + 1)
      refine ⟨by omega, fun i g1 g2 => ?_, fun g1 g2 => h3 (by omega) g2⟩
      by_cases e : i = k
      · rw [e]; exact h.2
      · exact h2 i (by omega) g2
    · rw [denyK_stop _ _ _ _ h]
      exact ⟨Nat.le_refl _, fun i h1 h2 => by omega, fun h1 h2 h3 => h ⟨h2, h3⟩⟩
theorem getD_end {l : List Rat} {k : Nat} (h : l.length ≤ k) : l.getD k 0 = 0 := by
  rw [List.getD, List.getElem?_eq_none h]; rfl
end Go.Proofs.YtpoahodnakhmiaaGreat
