/- Systems of small numbers, without memory: sizes of all that solving meets; denials deny; a solution solves. -/
import Derived.Test.YthnnbpnocefmgaaGreatElimL
namespace Go.Proofs.YthnnbpnocefmgaaGreat
set_option linter.unusedVariables false
set_option linter.unusedSimpArgs false
theorem natp (a : Nat) : (4294967296 : Int) ^ a = ((4294967296 ^ a : Nat) : Int) := by rw [Int.natCast_pow]; rfl
theorem FitQ.mulA {a b : Nat} {p q : Rat} (hp : FitQ a p) (hq : FitQ b q) : FitQ (a + b) (p * q) := by
  have hpd := den_pos p
  have hqd := den_pos q
  have e : p * q = Rat.divInt (p.num * q.num) (p.den * q.den) := by
    conv => lhs; rw [← Rat.num_divInt_den p, ← Rat.num_divInt_den q]
    exact Rat.divInt_mul_divInt _ _
  have h1 : p.num.natAbs < 4294967296 ^ a := by have := hp.1; rw [natp] at this; omega
  have h2 : q.num.natAbs < 4294967296 ^ b := by have := hq.1; rw [natp] at this; omega
  have h3 : p.den ≤ 4294967296 ^ a := by have := hp.2; rw [natp] at this; omega
  have h4 : q.den ≤ 4294967296 ^ b := by have := hq.2; rw [natp] at this; omega
  have g1 : p.num.natAbs * q.num.natAbs < 4294967296 ^ a * 4294967296 ^ b := Nat.mul_lt_mul'' h1 h2
  have g2 : p.den * q.den ≤ 4294967296 ^ a * 4294967296 ^ b := Nat.mul_le_mul h3 h4
  rw [← Nat.pow_add] at g1 g2
  rw [e]
  refine fit_divInt (Int.mul_pos hpd hqd) ?_ (by rw [natp, ← Int.natCast_mul]; exact Int.ofNat_le.2 g2)
  rw [Int.natAbs_mul, natp]
  exact Int.ofNat_lt.2 g1
theorem FitQ.addA {a b : Nat} {p q : Rat} (hp : FitQ a p) (hq : FitQ b q) : FitQ (a + b + 1) (p + q) := by
  have hpd := den_pos p
  have hqd := den_pos q
  have e : p + q = Rat.divInt (p.num * q.den + q.num * p.den) (p.den * q.den) := by
    conv => lhs; rw [← Rat.num_divInt_den p, ← Rat.num_divInt_den q]
    exact Rat.divInt_add_divInt _ _ (by omega) (by omega)
  have h1 : p.num.natAbs < 4294967296 ^ a := by have := hp.1; rw [natp] at this; omega
  have h2 : q.num.natAbs < 4294967296 ^ b := by have := hq.1; rw [natp] at this; omega
  have h3 : p.den ≤ 4294967296 ^ a := by have := hp.2; rw [natp] at this; omega
  have h4 : q.den ≤ 4294967296 ^ b := by have := hq.2; rw [natp] at this; omega
  have g1 : p.num.natAbs * q.den ≤ 4294967296 ^ a * 4294967296 ^ b := Nat.mul_le_mul (by omega) h4
  have g2 : q.num.natAbs * p.den ≤ 4294967296 ^ b * 4294967296 ^ a := Nat.mul_le_mul (by omega) h3
  have g3 : p.den * q.den ≤ 4294967296 ^ a * 4294967296 ^ b := Nat.mul_le_mul h3 h4
  have g4 : (0 : Nat) < 4294967296 ^ (a + b) := Nat.pow_pos (by omega)
  rw [Nat.mul_comm (4294967296 ^ b)] at g2
  rw [← Nat.pow_add] at g1 g2 g3
  have g5 : 4294967296 ^ (a + b + 1) = 4294967296 ^ (a + b) * 4294967296 := Nat.pow_succ _ _
  have t := Int.natAbs_add_le (p.num * q.den) (q.num * p.den)
  rw [Int.natAbs_mul, Int.natAbs_mul, Int.natAbs_natCast, Int.natAbs_natCast] at t
  rw [e]
  refine fit_divInt (Int.mul_pos hpd hqd) ?_ ?_
  · have : (p.num * q.den + q.num * p.den).natAbs < 4294967296 ^ (a + b + 1) := by omega
    rw [natp]
    exact Int.ofNat_lt.2 this
  · have : p.den * q.den ≤ 4294967296 ^ (a + b + 1) := by omega
    rw [natp, ← Int.natCast_mul]
    exact Int.ofNat_le.2 this
/-- numbers that have one denominator -/
theorem one_den (D : Nat) (hD : 1 ≤ D) : ∀ (l : List Rat), (∀ x ∈ l, x.num.natAbs < D ∧ x.den < D) →
    ∃ m : Nat, 0 < m ∧ m ≤ D ^ (l.length + 1) ∧ ∀ x ∈ l, ∃ z : Int, x * (m : Int) = z ∧ z.natAbs ≤ D ^ (l.length + 1)
  | [], _ => ⟨1, by omega, Nat.pow_pos hD, fun x hx => by cases hx⟩
  | x :: l, h => by
    obtain ⟨m, h0, h1, h2⟩ := one_den D hD l (fun y hy => h y (List.mem_cons_of_mem _ hy))
    obtain ⟨hn, hd⟩ := h x (List.mem_cons_self ..)
    have hx : x * ((x.den : Int) : Rat) = (x.num : Rat) := by
      have h1 := Rat.num_divInt_den x
      rw [Rat.divInt_eq_div] at h1
      have h2 := castZ (z := (x.den : Int)) (by have := x.den_pos; omega)
      grind
    have hp : D ^ ((x :: l).length + 1) = D ^ (l.length + 1) * D := by rw [List.length_cons, Nat.pow_succ]
    have e2 : (((x.den * m : Nat) : Int) : Rat) = ((x.den : Int) : Rat) * ((m : Int) : Rat) := by simp
    refine ⟨x.den * m, Nat.mul_pos x.den_pos h0, ?_, fun y hy => ?_⟩
    · rw [hp, Nat.mul_comm]; exact Nat.mul_le_mul h1 (by omega)
    · rcases List.mem_cons.1 hy with rfl | hy
      · refine ⟨y.num * m, ?_, ?_⟩
        · have e1 : ((y.num * m : Int) : Rat) = (y.num : Rat) * ((m : Int) : Rat) := by simp
          rw [e1, e2]; grind
        · rw [Int.natAbs_mul, Int.natAbs_natCast, hp, Nat.mul_comm]; exact Nat.mul_le_mul h1 (by omega)
      · obtain ⟨z, a, b⟩ := h2 y hy
        refine ⟨z * x.den, ?_, ?_⟩
        · have e1 : ((z * x.den : Int) : Rat) = (z : Rat) * ((x.den : Int) : Rat) := by simp
          rw [e1, e2]; grind
        · rw [Int.natAbs_mul, Int.natAbs_natCast, hp]; exact Nat.mul_le_mul b (by omega)
/-- a system of few numbers of twelve digits -/
structure Sys (wd : Nat) (rows : List (List Rat)) (bs : List Rat) : Prop where
  n6 : rows.length ≤ 6
  w6 : wd ≤ 6
  row : ∀ i, i < rows.length → (rows.getD i []).length = wd
  len : bs.length = rows.length
  small : ∀ i j, FracQ 12 (ent rows i j)
  smallB : ∀ i, FracQ 12 (bs.getD i 0)
theorem mem_getD {l : List Rat} {x : Rat} (h : x ∈ l) : ∃ j, l.getD j 0 = x := by
  obtain ⟨j, hj, e⟩ := List.mem_iff_getElem.1 h
  exact ⟨j, by simp [List.getD, hj, e]⟩
theorem getD_mem {l : List Rat} (j : Nat) (hj : j < l.length) : l.getD j 0 ∈ l := by
  simp [List.getD, hj]
theorem Sys.sb {wd : Nat} {rows : List (List Rat)} {bs : List Rat} (h : Sys wd rows bs) : SB 319 bs (rows, idRows rows.length) := by
  obtain ⟨N, hN⟩ : ∃ N, N = 319 := ⟨_, rfl⟩
  rw [← hN]
  have HNN := hide hN
  clear hN
  intro i hi
  replace hi : i < rows.length := hi
  have hF : ∀ {q : Rat}, FracQ 12 q → q.num.natAbs < 1000000000000 ∧ q.den < 1000000000000 := fun hq => ⟨by have := hq.1; omega, by have := hq.2; omega⟩
  obtain ⟨m, h0, h1, h2⟩ := one_den 1000000000000 (by omega) (rows.getD i [] ++ [bs.getD i 0]) (fun x hx => by
    rcases List.mem_append.1 hx with hx | hx
    · obtain ⟨j, rfl⟩ := mem_getD hx; exact hF (h.small i j)
    · rw [List.mem_singleton] at hx; subst hx; exact hF (h.smallB i))
  have hlen : (rows.getD i [] ++ [bs.getD i 0]).length + 1 ≤ 8 := by
    have := h.row i hi
    have := h.w6
    rw [List.length_append, List.length_singleton]; omega
  have hp := Nat.pow_le_pow_right (n := 1000000000000) (by omega) hlen
  have hq : 1000000000000 ^ 8 < 2 ^ N := by
    obtain ⟨a, b, ha, hb, hab⟩ : ∃ a b, a = 200 ∧ b = 119 ∧ N = a + b := ⟨200, 119, rfl, rfl, HNN.out⟩
    rw [hab, Nat.pow_add, ha, hb]
    decide +kernel
  refine ⟨m, h0, by omega, fun j => ?_⟩
  unfold ex
  split
  · by_cases hj : j / 3 < (rows.getD i []).length
    · obtain ⟨z, a, b⟩ := h2 _ (List.mem_append_left _ (getD_mem (j / 3) hj))
      exact ⟨z, a, by omega⟩
    · refine ⟨0, ?_, by rw [Int.natAbs_zero]; exact Nat.pow_pos (by omega)⟩
      have : ent rows i (j / 3) = 0 := by unfold ent; simp only [List.getD_eq_getElem?_getD] at hj ⊢; rw [List.getElem?_eq_none (by omega)]; rfl
      show ent rows i (j / 3) * _ = _
      rw [this]; grind
  · split
    · show ∃ z : Int, ent (idRows rows.length) i (j / 3) * _ = _ ∧ _
      rw [ent_id _ _ _ hi]
      by_cases hk : i = j / 3
      · rw [if_pos hk]; exact ⟨m, by grind, by rw [Int.natAbs_natCast]; omega⟩
      · rw [if_neg hk]; exact ⟨0, by grind, by rw [Int.natAbs_zero]; exact Nat.pow_pos (by omega)⟩
    · show ∃ z : Int, dotL ((idRows rows.length).getD i []) bs * _ = _ ∧ _
      rw [dotL_one _ _ _ hi]
      obtain ⟨z, a, b⟩ := h2 _ (List.mem_append_right _ (List.mem_singleton.2 rfl))
      exact ⟨z, a, by omega⟩
theorem Sys.width {wd : Nat} {rows : List (List Rat)} {bs : List Rat} (h : Sys wd rows bs) (h0 : 0 < rows.length) : (rows.getD 0 []).length = wd := h.row 0 h0
theorem Sys.solS_eq {wd : Nat} {rows : List (List Rat)} {bs : List Rat} (h : Sys wd rows bs) (h0 : 0 < rows.length) : solS rows = echN wd (rows, idRows rows.length) := by
  unfold solS; rw [h.width h0]
theorem bitsN_le (k : Nat) (hk : k ≤ 6) : bitsN 319 k ≤ 20479 := Nat.le_trans (bitsN_mono 319 hk) (by decide)
theorem Sys.sbK {wd : Nat} {rows : List (List Rat)} {bs : List Rat} (h : Sys wd rows bs) (k : Nat) (hk : k ≤ 6) : SB 20479 bs (echN k (rows, idRows rows.length)).1 :=
  (sb_ech bs (rect_id h.row) h.sb k).more (bitsN_le k hk)
theorem dotN_fit {ps ss : List Rat} {a b : Nat} (h1 : ∀ i, FitQ a (ps.getD i 0)) (h2 : ∀ i, FitQ b (ss.getD i 0)) : ∀ k, FitQ (k * (a + b + 1)) (dotN ps ss k)
  | 0 => fit_zero _
  | k + 1 => by
    rw [dotN]
    exact ((dotN_fit h1 h2 k).addA ((h1 k).mulA (h2 k))).more (by rw [Nat.succ_mul]; omega)
theorem FracQ.fit2 {q : Rat} (h : FracQ 12 q) : FitQ 2 q := h.fit
theorem Sys.fit {wd : Nat} {rows : List (List Rat)} {bs : List Rat} (h : Sys wd rows bs) (h0 : 0 < rows.length) : SolveFit 4000 rows bs := by
  have hk := h.sbK wd h.w6
  have hl : (echN wd (rows, idRows rows.length)).1.1.length = rows.length := echN_length _ _
  have hrk := rect_echN wd (rect_id h.row)
  refine ⟨?_, ?_, ?_⟩
  · rw [h.width h0]
    exact ech_fitB bs (rect_id h.row) h.sb (Nat.le_trans (bitsN_le wd h.w6) (by omega))
  · intro i hi k hk2
    rw [h.solS_eq h0]
    have hn := h.n6
    have := dotN_fit (a := 640) (b := 2) (ps := (echN wd (rows, idRows rows.length)).1.2.getD i []) (ss := bs) (fun j => (hk.fit (L := 640) hrk.len (by omega) i j).2) (fun j => (h.smallB j).fit2) k
    refine this.more ?_
    have : k * (640 + 2 + 1) ≤ 6 * (640 + 2 + 1) := Nat.mul_le_mul_right _ (by omega)
    omega
  · intro i hi j hne
    rw [h.solS_eq h0] at hne ⊢
    have hv := (hk i (by rw [hl]; exact hi)).div 2 (by rw [ex_dot]; exact hne)
    have := hv.fit (L := 640) (by omega) (3 * j + 1)
    rw [ex_done, ex_dot] at this
    exact this.more (by omega)
/-- a list that denies a system -/
def deniesQ (wd : Nat) (rows : List (List Rat)) (bs d : List Rat) : Prop := d.length = rows.length ∧ (∀ j, j < wd → sumN (fun t => d.getD t 0 * ent rows t j) rows.length = 0) ∧ dotL d bs = 1
theorem denial_denies {wd : Nat} {rows : List (List Rat)} {bs : List Rat} (hrow : ∀ i, i < rows.length → (rows.getD i []).length = wd) (k : Nat) (hk : k < rows.length)
    (hr : (echN wd (rows, idRows rows.length)).2.length ≤ k) (hne : dotL ((echN wd (rows, idRows rows.length)).1.2.getD k []) bs ≠ 0) :
    deniesQ wd rows bs (divL ((echN wd (rows, idRows rows.length)).1.2.getD k []) (dotL ((echN wd (rows, idRows rows.length)).1.2.getD k []) bs)) := by
  have hl : (echN wd (rows, idRows rows.length)).1.1.length = rows.length := echN_length _ _
  have hrk := rect_echN wd (rect_id hrow)
  refine ⟨?_, fun j hj => ?_, ?_⟩
  · rw [divL_length, hrk.done k (by rw [hl]; exact hk), hl]
  · have hc := comb_ech hrow wd k j hk
    rw [(echI (rect_id hrow) wd).low k j hr (by rw [hl]; exact hk) hj] at hc
    rw [show (fun t => (divL ((echN wd (rows, idRows rows.length)).1.2.getD k []) (dotL ((echN wd (rows, idRows rows.length)).1.2.getD k []) bs)).getD t 0 * ent rows t j) = (fun t => (ent (echN wd (rows, idRows rows.length)).1.2 k t * ent rows t j) / dotL ((echN wd (rows, idRows rows.length)).1.2.getD k []) bs) from by
      funext t; rw [divL_getA]; unfold ent; grind, sumN_div, hc]
    grind
  · rw [dotL_div]; grind
/-- with as many rows of their own as columns these are all columns -/
theorem cols_all {wd : Nat} {rows : List (List Rat)} (hrow : ∀ i, i < rows.length → (rows.getD i []).length = wd) (hall : (echN wd (rows, idRows rows.length)).2.length = wd) : ∀ r, r < wd → (echN wd (rows, idRows rows.length)).2.getD r 0 = r := by
  have hI := echI (rect_id hrow) wd
  have hge : ∀ r, r < wd → r ≤ (echN wd (rows, idRows rows.length)).2.getD r 0 := by
    intro r
    induction r with
    | zero => intro _; omega
    | succ r ih => intro hr; have := hI.mono r (r + 1) (by omega) (by omega); have := ih (by omega); omega
  have hle : ∀ t, t < wd → (echN wd (rows, idRows rows.length)).2.getD (wd - 1 - t) 0 ≤ wd - 1 - t := by
    intro t
    induction t with
    | zero => intro h; have := hI.lt (wd - 1 - 0) (by omega); omega
    | succ t ih => intro h; have := hI.mono (wd - 1 - (t + 1)) (wd - 1 - t) (by omega) (by omega); have := ih (by omega); omega
  intro r hr
  have a := hge r hr
  have b := hle (wd - 1 - r) (by omega)
  rw [show wd - 1 - (wd - 1 - r) = r by omega] at b
  omega
/-- with as many rows of their own as columns, and without a denial, the products with the list solve the system -/
theorem sol_solves {wd : Nat} {rows : List (List Rat)} {bs : List Rat} (hrow : ∀ i, i < rows.length → (rows.getD i []).length = wd) (x : Nat → Rat)
    (hall : (echN wd (rows, idRows rows.length)).2.length = wd)
    (hx : ∀ i, i < wd → x i = dotL ((echN wd (rows, idRows rows.length)).1.2.getD i []) bs)
    (hno : ∀ i, wd ≤ i → i < rows.length → dotL ((echN wd (rows, idRows rows.length)).1.2.getD i []) bs = 0) (i : Nat) (hi : i < rows.length) :
    sumN (fun j => ent rows i j * x j) wd = bs.getD i 0 := by
  have hl : (echN wd (rows, idRows rows.length)).1.1.length = rows.length := echN_length _ _
  have hI := echI (rect_id hrow) wd
  have hout := cols_all hrow hall
  have hφ : Lin (fun f => sumN (fun j => f (3 * j) * x j) wd - f 2) := by
    constructor
    · intro f c
      show sumN (fun j => f (3 * j) / c * x j) wd - f 2 / c = _
      rw [show (fun j => f (3 * j) / c * x j) = (fun j => (f (3 * j) * x j) / c) from by funext t; grind, sumN_div]
      grind
    · intro f g c
      show sumN (fun j => (f (3 * j) - c * g (3 * j)) * x j) wd - (f 2 - c * g 2) = _
      rw [show (fun j => (f (3 * j) - c * g (3 * j)) * x j) = (fun j => (f (3 * j) * x j) - c * (g (3 * j) * x j)) from by funext t; grind, sumN_take]
      grind
  have h1 := (lin_ech hφ bs (rect_id hrow) wd).2 (fun i hi => by
    replace hi : i < rows.length := hi
    show sumN (fun j => ex bs _ i (3 * j) * x j) wd - ex bs _ i 2 = 0
    rw [ex_dot]
    by_cases hlow : i < wd
    · rw [sumN_one wd i hlow]
      · have := hI.one i (by omega)
        rw [hout i hlow] at this
        show ex bs _ i (3 * i) * x i - _ = 0
        rw [ex_row, this, hx i hlow]; grind
      · intro j hj hne
        have := hI.alone j i (by omega) (by rw [hl]; exact hi) (by omega)
        rw [hout j hj] at this
        show ex bs _ i (3 * j) * x j = 0
        rw [ex_row, this]; grind
    · rw [hno i (by omega) hi, sumN_zero]
      · grind
      · intro j hj
        have := hI.low i j (by omega) (by rw [hl]; exact hi) hj
        show ex bs _ i (3 * j) * x j = 0
        rw [ex_row, this]; grind) i hi
  simp only [ex_row, ex_dot] at h1
  have e : dotL ((idRows rows.length).getD i []) bs = bs.getD i 0 := dotL_one _ _ _ hi
  change sumN (fun j => ent rows i j * x j) wd - dotL ((idRows rows.length).getD i []) bs = 0 at h1
  rw [e] at h1
  grind
end Go.Proofs.YthnnbpnocefmgaaGreat
