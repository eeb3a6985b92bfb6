/- Walks: the sum of the products of two rows. Walks: what is wrong with a row of fractions. -/
import Derived.Test.YtpoahodnakhmiaaGreatTake
namespace Go.Proofs.YtpoahodnakhmiaaGreat
set_option linter.unusedVariables false
set_option linter.unusedSimpArgs false
open Go.RowKit
/-- the sum of the first k products -/
def dotN (ps ss : List Rat) : Nat → Rat
  | 0 => 0
  | k + 1 => dotN ps ss k + ps.getD k 0 * ss.getD k 0
theorem RowV.at_ {w : World} {A : Option Addr} {n c : Nat} {qs : List Rat} {L : Nat} (h : RowV w (.slice A n c) qs L) : n = qs.length ∧ qs.length ≤ c ∧ c ≤ maxLen ∧ (0 < qs.length → ∃ b o, A = some ⟨b, o, none⟩ ∧ ∀ i, i < qs.length → At3 w b (o + i * 3) (qs.getD i 0) L) := by
  obtain ⟨A', c', e, h1, h2, h3⟩ := h
  injection e with e1 e2 e3
  subst e1 e2 e3
  exact ⟨rfl, h1, h2, h3⟩
theorem row_zero (w : World) (L : Nat) : RowC (w.alloc (.cells #[.bool false, .slice none 0 0, .slice none 0 0] 43)) w.heap.size [0] L := by
  have hh := heap_alloc_new w (.cells #[.bool false, .slice none 0 0, .slice none 0 0] 43)
  refine ⟨⟨_, hh⟩, fun i hi => ?_⟩
  obtain rfl : i = 0 := by simpa using hi
  obtain ⟨k0, k1, k2, _⟩ := box3 (below_start w (.cells #[.bool false, .slice none 0 0, .slice none 0 0] 43))
  exact ⟨none, 0, 0, none, 0, 0, k0, k1, k2, NatV.nil _ _, NatV.nil _ _⟩
set_option maxRecDepth 100000 in
set_option maxHeartbeats 4000000 in
theorem dot_c (w : World) (va vb : Value) (ps ss : List Rat) (L : Nat) (ha : RowV w va ps L) (hb : RowV w vb ss L) (hL : L ≤ 134217700) (hlen : ps.length ≤ ss.length)
    (hfit : ∀ k, k ≤ ps.length → FitQ L (dotN ps ss k)) :
    Calls Tryz.prog 193 #[va, vb] w (Ret (ratR w (dotN ps ss ps.length) L)) := by
  have HA := hide (And.intro ha (And.intro hb hfit))
  obtain ⟨A1, c1, rfl, hc1, hm1, _⟩ := ha
  obtain ⟨A2, c2, rfl, hc2, hm2, _⟩ := hb
  clear hfit
  unfold maxLen at hm1 hm2
  have hb0 : Below w.heap.size w ((w.alloc (.cells #[.bool false, .slice none 0 0, .slice none 0 0] 43)).alloc (.cells #[.bool false, .slice none 0 0, .slice none 0 0] 43)) := ((Below.refl _ _).alloc (Nat.le_refl _) _).alloc (by simp) _
  go_enter Tryz.func193, Tryz.ntmps193
  go_wp2
  go_loopw [10] (fun s8 wr => ∃ (k : Nat), k ≤ ps.length ∧ s8 = .int .i64 k ∧ RowC wr (w.heap.size + 1) [dotN ps ss k] L ∧ RowC wr w.heap.size [0] L ∧ Below w.heap.size w wr) (fun s8 _ => ps.length - (intOf s8).toNat)
  case atStart =>
    refine ⟨0, Nat.zero_le _, rfl, ?_, ?_, hb0⟩
    · have := row_zero (w.alloc (.cells #[.bool false, .slice none 0 0, .slice none 0 0] 43)) L
      rw [show (w.alloc (.cells #[.bool false, .slice none 0 0, .slice none 0 0] 43)).heap.size = w.heap.size + 1 by simp] at this
      exact this
    · exact (row_zero w L).below ((Below.refl _ _).alloc (Nat.le_refl _) _)
  case round =>
    obtain ⟨k, hk, rfl, hacc, hres, hbel⟩ := hrel
    by_cases hkl : k < ps.length
    · obtain ⟨_, _, _, hcell⟩ := (HA.out.1.below hbel).at_
      obtain ⟨g1, o1, rfl, hcl1⟩ := hcell (by omega)
      obtain ⟨s, B1, m1, d1, B2, m2, d2, e0, e1, e2, hr⟩ := (hcl1 k hkl).rat
      obtain ⟨_, _, _, hcell2⟩ := (HA.out.2.1.below hbel).at_
      obtain ⟨g2, o2, rfl, hcl2⟩ := hcell2 (by omega)
      obtain ⟨s3, B3, m3, d3, B4, m4, d4, e3, e4, e5, hr2⟩ := (hcl2 k (by omega)).rat
      obtain ⟨s5, B5, m5, d5, B6, m6, d6, e6, e7, e8, hr3⟩ := (hacc.2 0 (by simp)).rat
      simp only [Nat.zero_mul, Nat.zero_add] at e6 e7 e8
      have hkb : k < ss.length := by omega
      have HH := hide (And.intro hacc (And.intro hres (And.intro hbel (And.intro hr (And.intro hr2 hr3))))); clear hacc hres hbel hr hr2 hr3 hcell hcell2 hcl1 hcl2
      go_wp2_with fail
      have hba : Below wr.heap.size wr (wr.alloc (.cells #[.bool s, .slice B1 m1 d1, .slice B2 m2 d2] 43)).drew := ((Below.refl _ _).alloc (Nat.le_refl _) _).drew
      have hbx : Below (wr.heap.size + 1) (wr.alloc (.cells #[.bool s, .slice B1 m1 d1, .slice B2 m2 d2] 43)) (wr.alloc (.cells #[.bool s, .slice B1 m1 d1, .slice B2 m2 d2] 43)).drew := (below_start _ _).drew
      have l1 := lt_of_cell e6
      have l2 := lt_of_cell e3
      simp only at l1 l2
      have p0 := (hba.cell (p := ⟨w.heap.size + 1, 0, none⟩) (by exact l1)).trans e6
      have p1 := (hba.cell (p := ⟨w.heap.size + 1, 1, none⟩) (by exact l1)).trans e7
      have p2 := (hba.cell (p := ⟨w.heap.size + 1, 2, none⟩) (by exact l1)).trans e8
      have y0 := (hba.cell (p := ⟨g2, o2 + k * 3, none⟩) (by exact l2)).trans e3
      have y1 := (hba.cell (p := ⟨g2, o2 + k * 3 + 1, none⟩) (by exact l2)).trans e4
      have y2 := (hba.cell (p := ⟨g2, o2 + k * 3 + 2, none⟩) (by exact l2)).trans e5
      obtain ⟨k0, k1, k2, _, _, _, _⟩ := box3 hbx
      clear hbx e0 e1 e2 e3 e4 e5 e6 e7 e8
      go_region_law (first
        | (go_simp; go_at_call 73; refine (times_q _ _ _ (ps.getD k 0) (ss.getD k 0) L (HH.out.2.2.2.1.below hba) (HH.out.2.2.2.2.1.below hba) (by omega)).mono ?_; rintro e w1 ⟨u1, rfl, hu1, hd1⟩; have p0 := (hd1.cell (p := ⟨w.heap.size + 1, 0, none⟩) (by simp; omega)).trans p0; have p1 := (hd1.cell (p := ⟨w.heap.size + 1, 1, none⟩) (by simp; omega)).trans p1; have p2 := (hd1.cell (p := ⟨w.heap.size + 1, 2, none⟩) (by simp; omega)).trans p2)
        | (go_simp; go_at_call 97; refine (plus_q _ _ _ (dotN ps ss k) (ps.getD k 0 * ss.getD k 0) (2 * L + 4) (((HH.out.2.2.2.2.2.below hba).below hd1).more (by omega)) hu1 (by omega)).mono ?_; rintro e w2 ⟨u2, rfl, hu2, hd2⟩; have hb2 := below_next (below_next hba hd1) hd2; have hrow2 := HH.out.1.below hb2; replace hu2 := hu2.fit (L' := L) (HA.out.2.2 (k + 1) (by omega)); generalize hX : dotN ps ss k + ps.getD k 0 * ss.getD k 0 = X at hu2;
            obtain ⟨s', B1', m1', d1', B2', m2', d2', e0', e1', e2', _⟩ := (hrow2.2 0 (by simp)).rat;
            simp only [Nat.zero_mul, Nat.zero_add] at e0' e1' e2';
            have f0 := hrow2.frozen 0; have f1 := hrow2.frozen 1; have f2 := hrow2.frozen 2;
            obtain ⟨rn, rl, rfl, r1, r2⟩ := id hu2; obtain ⟨A5, c5, xs5, rfl, _⟩ := r1.open_; obtain ⟨A6, c6, xs6, rfl, _⟩ := r2.open_;
            have HU := hide (And.intro hu2 (And.intro hrow2 (And.intro hb2 hX))); clear hu2 hrow2 hb2 r1 r2 hX p0 p1 p2 y0 y1 y2 k0 k1 k2))
      all_goals
        go_wp2
        go_roundw
        case rel =>
          obtain ⟨hacc, hres, hbel, hr, _⟩ := HH.out
          obtain ⟨hu, hrow2, hb2, hX⟩ := HU.out
          obtain ⟨t1, t2, t3⟩ := hrow2.set3 (i := 0) (by simp) hu
          simp only [Nat.zero_mul, Nat.zero_add] at t1 t2 t3
          refine ⟨k + 1, by omega, by go_num, ?_, ?_, ?_⟩
          · rw [dotN, hX]; exact t1
          · exact (hres.below hb2).same t2 (t3.block _ (by have := hb2.size; omega) (by intro e; injection e with e; omega))
          · exact only_below (below_next hbel hb2) t3 (by have := hbel.size; have := hb2.size; omega) (by omega)
        case measure => simp [intOf]; omega
    · obtain rfl : k = ps.length := by omega
      obtain ⟨s5, B5, m5, d5, B6, m6, d6, e6, e7, e8, hr3⟩ := (hacc.2 0 (by simp)).rat
      obtain ⟨_, _, _, _, _, _, _, e9, e10, e11, _⟩ := (hres.2 0 (by simp)).rat
      simp only [Nat.zero_mul, Nat.zero_add] at e6 e7 e8 e9 e10 e11
      have f0 := hres.frozen 0
      have f1 := hres.frozen 1
      have f2 := hres.frozen 2
      have HH := hide (And.intro hacc (And.intro hres (And.intro hbel hr3))); clear hacc hres hbel hr3
      go_wp2
      have hsz := lt_of_cell e9
      refine bodyPost_ret (v := .agg #[.bool s5, .slice B5 m5 d5, .slice B6 m6 d6]) ?_ rfl ?_
      · simp [results, Tryz.results193, go_sem, e9, e10, e11]
      have hr := HH.out.2.2.2
      simp only [List.getD_cons_zero] at hr
      obtain ⟨rn, rl, e, r1, r2⟩ := hr
      injection e with e
      simp only [Array.mk.injEq, List.cons.injEq, Value.bool.injEq, and_true] at e
      obtain ⟨rfl, rfl, rfl⟩ := e
      exact ⟨_, rfl, ⟨_, _, rfl, r1.set3 e9 e10 e11, r2.set3 e9 e10 e11⟩, below_set3 HH.out.2.2.1 (Nat.le_refl _) _ _ _⟩
end Go.Proofs.YtpoahodnakhmiaaGreat
namespace Go.Proofs.YtpoahodnakhmiaaGreat
set_option linter.unusedVariables false
set_option linter.unusedSimpArgs false
open Go.RowKit
/-- too many digits -/
def longQ (q : Rat) : Bool := decide (60 < (decText (q.num.natAbs : Int)).length) || decide (60 < (decText (q.den : Int)).length)
theorem isLong_c (w : World) (a : Value) (q : Rat) (L : Nat) (ha : RatV w a q L) (hL : L ≤ 1073741800) :
    Calls Tryz.prog 188 #[a] w (Ret (fun v w' => v = .bool (longQ q) ∧ Below w.heap.size w w')) := by
  obtain ⟨n1, l1, rfl, h1, g1⟩ := ha
  obtain ⟨A1, c1, xs1, rfl, _⟩ := h1.open_
  obtain ⟨A2, c2, xs2, rfl, _⟩ := g1.open_
  have z1 := h1.text_size (by omega)
  have hb0 : Below w.heap.size w (w.alloc (.cells #[.bool (decide (q.num < 0)), .slice A1 xs1.length c1, .slice A2 xs2.length c2] 43)) := (Below.refl _ _).alloc (Nat.le_refl _) _
  have hs0 := below_start w (.cells #[.bool (decide (q.num < 0)), .slice A1 xs1.length c1, .slice A2 xs2.length c2] 43)
  obtain ⟨b1, hs1⟩ : ∃ s, s = decide (q.num < 0) := ⟨_, rfl⟩
  rw [← hs1] at hb0 hs0 ⊢; clear hs1
  have HA := hide (And.intro h1 g1); clear h1 g1
  rw [str_size] at z1
  obtain ⟨x, hx⟩ : ∃ x, x = (q.num.natAbs : Int) := ⟨_, rfl⟩
  have hlq : longQ q = (decide (60 < (decText x).length) || decide (60 < (decText (q.den : Int)).length)) := by rw [hx]; rfl
  rw [hlq]; clear hlq
  rw [← hx] at HA z1; clear hx
  obtain ⟨y, hy⟩ : ∃ y, y = (q.den : Int) := ⟨_, rfl⟩
  rw [← hy] at HA ⊢; clear hy
  by_cases hd : 60 < (decText x).length
  · have hdd : decide (60 < (decText x).length) = true := by simp [hd]
    go_enter Tryz.func188, Tryz.ntmps188
    go_wp2_with fail
    refine (text_c _ _ x L (HA.out.1.below hb0) (by omega)).mono ?_
    rintro e w1 ⟨_, rfl, rfl, hd1⟩
    rw [show (str (decText x)) = str (decText x) from rfl]
    have hsz := str_size (decText x)
    go_wp2
    go_ret
    exact ⟨_, rfl, by simp [hd], below_next hb0 hd1⟩
  · have hdd : decide (60 < (decText x).length) = false := by simp only [decide_eq_false_iff_not]; exact hd
    have hD := hide hdd; clear hdd
    go_enter Tryz.func188, Tryz.ntmps188
    go_wp2_with fail
    refine (text_c _ _ x L (HA.out.1.below hb0) (by omega)).mono ?_
    rintro e w1 ⟨_, rfl, rfl, hd1⟩
    obtain ⟨k0, k1, k2, f0, f1, f2, ks⟩ := box3 (below_more hs0 hd1 (by simp))
    have hsz := str_size (decText x)
    have hdd := hD.out
    have hb1 := below_next hb0 hd1
    go_wp2_with fail
    refine (den_c _ _ _ _ (y - 1) L (HA.out.2.below hb1) hL).mono ?_
    rintro e w2 ⟨u2, rfl, hu2, hd2⟩
    rw [show y - 1 + 1 = y by omega] at hu2
    have z2 := hu2.text_size (by omega)
    rw [str_size] at z2
    have HU := hide hu2; clear hu2
    go_wp2_with fail
    refine (text_c _ _ y (L + 2) HU.out (by omega)).mono ?_
    rintro e w3 ⟨_, rfl, rfl, hd3⟩
    have hsz2 := str_size (decText y)
    clear k0 k1 k2 f0 f1 f2
    go_wp2
    go_ret
    refine ⟨_, rfl, ?_, below_next (below_next hb1 hd2) hd3⟩
    rw [hD.out, Bool.false_or]
    have h6 : ¬ (60 : Int) < ((decText x).length : Int) := by omega
    rw [decide_eq_false h6, Bool.false_or]
    show Value.bool (decide ((60 : Int) < ((decText y).length : Int))) = Value.bool _
    congr 1
    rw [decide_eq_decide]; omega
/-- a value that a function says of each of the first n -/
def anyB (p : Nat → Bool) (n : Nat) : Bool := (List.range n).any p
theorem anyB_of {p : Nat → Bool} {n k : Nat} (hk : k < n) (h : p k = true) : anyB p n = true := List.any_eq_true.2 ⟨k, List.mem_range.2 hk, h⟩
theorem anyB_none {p : Nat → Bool} {n : Nat} (h : ∀ i, i < n → p i = false) : anyB p n = false := by
  rw [Bool.eq_false_iff]
  intro h1
  obtain ⟨k, hk, h2⟩ := List.any_eq_true.1 h1
  rw [h k (List.mem_range.1 hk)] at h2
  cases h2
/-- the number that is found, if there is one -/
def FoundR (w : World) (b : Bool) (v : Value) (w' : World) : Prop := ∃ r : Int, v = .int .i64 r ∧ decide (0 ≤ r) = b ∧ Below w.heap.size w w'
set_option maxRecDepth 100000 in
theorem index_q (w : World) (va : Value) (qs : List Rat) (L : Nat) (ha : RowV w va qs L) (hL : L ≤ 1073741800) :
    Calls Tryz.prog 162 #[va, .func (.func 188) #[] #[]] w (Ret (FoundR w (anyB (fun i => longQ (qs.getD i 0)) qs.length))) := by
  have HA := hide ha
  obtain ⟨A1, c1, rfl, hc1, hm1, _⟩ := ha
  unfold maxLen at hm1
  go_enter Tryz.func162, Tryz.ntmps162
  go_wp2
  go_loopw [8] (fun s8 wr => ∃ k : Nat, k ≤ qs.length ∧ s8 = .int .i64 k ∧ (∀ i, i < k → longQ (qs.getD i 0) = false) ∧ Below w.heap.size w wr) (fun s8 _ => qs.length - (intOf s8).toNat)
  case atStart => exact ⟨0, Nat.zero_le _, rfl, fun i hi => by omega, Below.refl _ _⟩
  case round =>
    obtain ⟨k, hk, rfl, hno, hbel⟩ := hrel
    by_cases hkl : k < qs.length
    · obtain ⟨_, _, _, hcell⟩ := (HA.out.below hbel).at_
      obtain ⟨g1, o1, rfl, hcl1⟩ := hcell (by omega)
      obtain ⟨s, B1, m1, d1, B2, m2, d2, e0, e1, e2, hr⟩ := (hcl1 k hkl).rat
      have HH := hide (And.intro hno (And.intro hbel hr)); clear hno hbel hr hcell hcl1
      rcases hp : longQ (qs.getD k 0) with _ | _
      · have HP := hide hp; clear hp
        go_wp2_with (go_at_call 188; refine (isLong_c _ _ (qs.getD k 0) L HH.out.2.2 hL).mono ?_; rintro e w1 ⟨_, rfl, rfl, hd1⟩; rw [HP.out])
        go_roundw
        case rel =>
          refine ⟨k + 1, by omega, by go_num, fun i hi => ?_, below_next HH.out.2.1 hd1⟩
          by_cases h : i < k
          · exact HH.out.1 i h
          · obtain rfl : i = k := by omega
            exact HP.out
        case measure => simp [intOf]; omega
      · have HP := hide hp; clear hp
        go_wp2_with (go_at_call 188; refine (isLong_c _ _ (qs.getD k 0) L HH.out.2.2 hL).mono ?_; rintro e w1 ⟨_, rfl, rfl, hd1⟩; rw [HP.out])
        go_ret
        exact ⟨_, rfl, k, rfl, by rw [anyB_of hkl HP.out]; simp, below_next HH.out.2.1 hd1⟩
    · obtain rfl : k = qs.length := by omega
      have HH := hide (And.intro hno hbel); clear hno hbel
      go_wp2
      go_ret
      exact ⟨_, rfl, -1, rfl, by rw [anyB_none HH.out.1]; rfl, HH.out.2⟩
theorem contains_q (w : World) (va : Value) (qs : List Rat) (L : Nat) (ha : RowV w va qs L) (hL : L ≤ 1073741800) :
    Calls Tryz.prog 114 #[va, .func (.func 188) #[] #[]] w (Ret (fun v w' => v = .bool (anyB (fun i => longQ (qs.getD i 0)) qs.length) ∧ Below w.heap.size w w')) := by
  have HA := hide ha
  obtain ⟨A1, c1, rfl, hc1, hm1, _⟩ := ha
  go_enter Tryz.func114, Tryz.ntmps114
  go_wp2_with fail
  refine (index_q _ _ qs L HA.out hL).mono ?_
  rintro e w1 ⟨_, rfl, r, rfl, hr, hd1⟩
  have HR := hide hr; clear hr
  go_wp2
  go_ret
  exact ⟨_, rfl, by rw [← HR.out]; rfl, hd1⟩
end Go.Proofs.YtpoahodnakhmiaaGreat
