/- Walks of the reference: how many digits a number has; whether numbers are small. Walks of the reference: quotients and remainders of integers, floors of fractions. Walks of the law: what a call returns is the fraction. -/
import Derived.Test.YthnnbpnocefmgaaGreatQop9
import Derived.Test.YthnnbpnocefmgaaGreatCalc2
import Derived.Test.YthnnbpnocefmgaaGreatStr9
namespace Go.Proofs.YthnnbpnocefmgaaGreat
set_option linter.unusedVariables false
set_option linter.unusedSimpArgs false
open Go.RowKit

/-- how many decimal digits -/
def lenR (w : World) (x : Int) (v : Value) (w' : World) : Prop := ∃ n : Nat, v = .int .i64 n ∧ 1 ≤ n ∧ (x = 0 → n = 1) ∧ (0 < x → 10 ^ (n - 1) ≤ x) ∧ x < 10 ^ n ∧ w = w'

theorem top_split (xs : List Int) (h : 0 < xs.length) : val 1000000000 xs = val 1000000000 (xs.take (xs.length - 1)) + 1000000000 ^ (xs.length - 1) * xs.getD (xs.length - 1) 0 := by
  have := val_take_succ 1000000000 xs (xs.length - 1) (by omega)
  rw [show xs.length - 1 + 1 = xs.length by omega, List.take_length] at this
  exact this

theorem len9_c (w : World) (v : Value) (x : Int) (L : Nat) (hx : LimV w v x L) (hL : L ≤ 17592186000000) :
    Calls Tryz.prog 105 #[v] w (Ret (lenR w x)) := by
  obtain ⟨A, c, xs, rfl, hc, hm, ha, hd, hn, rfl, hl⟩ := hx
  unfold maxLen at hm
  by_cases h0 : xs.length = 0
  · obtain rfl : xs = [] := List.eq_nil_of_length_eq_zero h0
    clear ha hd hn
    go_enter Tryz.func105, Tryz.ntmps105
    go_wp2
    go_ret
    exact ⟨_, rfl, 1, rfl, by omega, fun _ => rfl, fun h => by simp [val] at h, by simp [val], rfl⟩
  · have hp : 0 < xs.length := by omega
    have hb0 : ((xs.length : Int) == 0) = false := by rw [beq_eq_false_iff_ne]; omega
    obtain ⟨b, o, rfl, hbl, hcell⟩ := ha.at_ hp
    have htc := hcell (xs.length - 1) (by omega)
    have htb := hd.at_ (k := xs.length - 1) (by omega)
    have hts := top_split xs hp
    have htn := hn.last hp
    obtain ⟨t, ht⟩ : ∃ t, t = xs.getD (xs.length - 1) 0 := ⟨_, rfl⟩
    rw [← ht] at htc htb hts htn
    have hlow := val_nonneg (B := 1000000000) (by omega) (hd.take (xs.length - 1))
    have hlow2 := val_lt (B := 1000000000) (by omega) (hd.take (xs.length - 1))
    rw [List.length_take, show min (xs.length - 1) xs.length = xs.length - 1 by omega] at hlow2
    have ht1 : 0 < t := by omega
    have HT := hide (And.intro hts (And.intro hlow (And.intro hlow2 (And.intro htb ht1)))); clear hts hlow hlow2 htb ht htn hcell hd hn ha
    have hm0 : (0 : Int) ≤ (xs.length : Int) - 1 := by omega
    have hm1 : (xs.length : Int) - 1 < (xs.length : Int) := by omega
    obtain ⟨k, hk⟩ : ∃ k : Nat, xs.length = k + 1 := ⟨xs.length - 1, by omega⟩
    have HK := hide hk; clear hk
    go_enter Tryz.func105, Tryz.ntmps105
    go_wp2
    go_loop [3, 4] (fun s3 s4 => ∃ c : Nat, c ≤ 9 ∧ s3 = .int .i64 (9 * ((xs.length : Int) - 1) + c) ∧ s4 = .int .i64 (t / 10 ^ c) ∧ (0 < c → 10 ^ (c - 1) ≤ t)) (fun _ s4 => (intOf s4).toNat)
    case atStart => exact ⟨0, by omega, by simp, by simp, fun h => by omega⟩
    case round =>
      obtain ⟨c', hc9, rfl, rfl, hc10⟩ := hrel
      have hpc : (0 : Int) < 10 ^ c' := Int.pow_pos (by omega)
      have hv0 : 0 ≤ t / 10 ^ c' := Int.ediv_nonneg (by have := HT.out.2.2.2.2; omega) (by omega)
      have hv1 : t / 10 ^ c' ≤ 999999999 := by
        have h1 := Int.ediv_le_self (10 ^ c' : Int) (show 0 ≤ t by have := HT.out.2.2.2.2; omega)
        have := HT.out.2.2.2.1.2
        omega
      have hdd : t / 10 ^ c' / 10 = t / 10 ^ (c' + 1) := by rw [Int.pow_succ, Int.ediv_ediv_of_nonneg (by omega)]
      have hge : 0 < t / 10 ^ c' → 10 ^ c' ≤ t := fun h => by
        have := (Int.le_ediv_iff_mul_le hpc).1 (show 1 ≤ t / 10 ^ c' by omega)
        omega
      have hend : ¬ 0 < t / 10 ^ c' → t < 10 ^ c' := fun h => by
        have e : t / 10 ^ c' = 0 := by omega
        have := Int.emod_add_mul_ediv t (10 ^ c')
        have := Int.emod_lt_of_pos t hpc
        rw [e] at *
        omega
      obtain ⟨u, hu⟩ : ∃ u, u = t / 10 ^ c' := ⟨_, rfl⟩
      rw [← hu] at hv0 hv1 hdd hge hend ⊢
      have hc8 : 0 < u → c' ≤ 8 := fun h => by
        rcases Nat.lt_or_ge c' 9 with h9 | h9
        · omega
        · have h1 := hge h
          have h2 := pow_le_pow' (B := 10) (by omega) h9
          have h3 : (10 : Int) ^ 9 = 1000000000 := by decide
          have := HT.out.2.2.2.1.2
          omega
      have HC := hide (And.intro hdd (And.intro hge (And.intro hend (And.intro hc10 (And.intro hc8 hu))))); clear hdd hge hend hc10 hu hpc hc8
      by_cases hlt : 0 < u
      · go_wp2
        go_round
        case rel =>
          obtain ⟨e1, e2, e3, e4, e5, e6⟩ := HC.out
          exact ⟨c' + 1, by have := e5 hlt; omega, by go_num, by rw [e1], fun _ => by simpa using e2 hlt⟩
        case measure => simp [intOf]; omega
      · go_wp2
        go_ret
        obtain ⟨e1, e2, e3, e4, e5, e6⟩ := HC.out
        obtain ⟨f1, f2, f3, f4, f5⟩ := HT.out
        have e3 := e3 hlt
        have hc1 : 0 < c' := by
          rcases Nat.eq_zero_or_pos c' with h | h
          · subst h; simp at e3; omega
          · exact h
        have e4 := e4 hc1
        rw [HK.out, show k + 1 - 1 = k by omega] at f1 f2 f3
        have hP : (1000000000 : Int) ^ k = 10 ^ (9 * k) := by rw [Int.pow_mul]; rfl
        rw [hP] at f1 f3
        have hP0 : (0 : Int) < 10 ^ (9 * k) := Int.pow_pos (by omega)
        have g1 : (10 : Int) ^ (9 * k + (c' - 1)) = 10 ^ (9 * k) * 10 ^ (c' - 1) := Int.pow_add ..
        have g2 : (10 : Int) ^ (9 * k + c') = 10 ^ (9 * k) * 10 ^ c' := Int.pow_add ..
        have g3 : (10 : Int) ^ (9 * k) * 10 ^ (c' - 1) ≤ 10 ^ (9 * k) * t := Int.mul_le_mul_of_nonneg_left e4 (by omega)
        have g4 : (10 : Int) ^ (9 * k) * (t + 1) ≤ 10 ^ (9 * k) * 10 ^ c' := Int.mul_le_mul_of_nonneg_left (by omega) (by omega)
        rw [Int.mul_add, Int.mul_one] at g4
        have g5 : (0 : Int) < 10 ^ (9 * k) * 10 ^ (c' - 1) := Int.mul_pos hP0 (Int.pow_pos (by omega))
        refine ⟨_, rfl, 9 * k + c', congrArg (Value.int .i64) (by have := HK.out; omega), by omega, fun h => by omega, fun _ => ?_, ?_, rfl⟩
        · rw [show 9 * k + c' - 1 = 9 * k + (c' - 1) by omega, g1]; omega
        · rw [g2]; omega

theorem lenR_le {x : Int} {n L : Nat} (h1 : 1 ≤ n) (h2 : x = 0 → n = 1) (h3 : 0 < x → 10 ^ (n - 1) ≤ x) (hx0 : 0 ≤ x) (hx : x < 10 ^ L) (hL : 1 ≤ L) : n ≤ L := by
  by_cases h0 : x = 0
  · have := h2 h0; omega
  · have := h3 (by omega)
    rcases Nat.lt_or_ge L n with h | h
    · have := pow_le_pow' (B := 10) (by omega) (show L ≤ n - 1 by omega)
      omega
    · exact h

set_option maxRecDepth 100000 in
theorem small9_yes (w : World) (v : Value) (z : Int) (L : Nat) (hz : ZV w v z L) (hL : L ≤ 3000) :
    Calls Tryz.prog 92 #[v] w (Ret (fun v w' => v = .bool true ∧ Below w.heap.size w w')) := by
  obtain ⟨s, A, n, c, rfl, hs, hm⟩ := hz.parts
  have hb0 : Below w.heap.size w (w.alloc (.cells #[.bool s, .slice A n c] 39)) := (Below.refl _ _).alloc (Nat.le_refl _) _
  have HM := hide (hm.below hb0)
  have hlt := hm.lt
  clear hm hz hs
  go_enter Tryz.func92, Tryz.ntmps92
  go_wp2_with fail
  refine (len9_c _ _ _ L HM.out (by omega)).mono ?_
  rintro e w1 ⟨_, rfl, k, rfl, h1, h2, h3, h4, rfl⟩
  have hk : k ≤ 9 * L + 1 := lenR_le h1 h2 h3 (by omega) (L := 9 * L + 1) (by
    rw [show (1000000000 : Int) ^ L = 10 ^ (9 * L) by rw [Int.pow_mul]; rfl] at hlt
    have := pow_le_pow' (B := 10) (by omega) (show 9 * L ≤ 9 * L + 1 by omega)
    omega) (by omega)
  have hk2 : (k : Int) < 30103 := by omega
  have HB := hide hb0
  clear h1 h2 h3 h4 hk hlt hb0
  go_wp2
  go_ret
  exact ⟨_, rfl, rfl, HB.out⟩

set_option maxRecDepth 100000 in
theorem fits9_yes (w : World) (v : Value) (q : Rat) (L : Nat) (hq : QV w v q L) (hL : L ≤ 3000) :
    Calls Tryz.prog 39 #[v] w (Ret (fun v w' => v = .bool true ∧ Below w.heap.size w w')) := by
  obtain ⟨s, A, n, c, B, m, d, rfl, hz, hy⟩ := hq.parts
  obtain ⟨W, hW⟩ : ∃ W, W = w.alloc (.cells #[.bool s, .slice A n c, .bool false, .slice B m d] 41) := ⟨_, rfl⟩
  have hb0 : Below w.heap.size w W := by rw [hW]; exact (Below.refl _ _).alloc (Nat.le_refl _) _
  have hr : W.heap[w.heap.size]? = some (.cells #[.bool s, .slice A n c, .bool false, .slice B m d] 41) := by rw [hW]; exact at_new _ _
  have HW := hide (And.intro hW (And.intro hb0 (And.intro hr (And.intro (hz.below hb0) (hy.below hb0))))); clear hW hb0 hr hz hy hq
  go_enter Tryz.func39, Tryz.ntmps39
  go_wp2_with fail
  rw [← HW.out.1]
  refine (small9_yes _ _ _ L HW.out.2.2.2.1 hL).mono ?_
  rintro e w1 ⟨_, rfl, rfl, hd1⟩
  obtain ⟨y0, y1, y2, y3, _⟩ := four_cells (at_later HW.out.2.2.1 hd1)
  have hy1 := hide (HW.out.2.2.2.2.below hd1)
  have hb1 := below_next HW.out.2.1 hd1
  clear hd1
  go_wp2_with fail
  refine (small9_yes _ _ _ L hy1.out hL).mono ?_
  rintro e w2 ⟨_, rfl, rfl, hd2⟩
  have HB := hide (below_next hb1 hd2)
  clear hb1 hd2 y0 y1 y2 y3
  go_wp2
  go_ret
  exact ⟨_, rfl, rfl, HB.out⟩
end Go.Proofs.YthnnbpnocefmgaaGreat
namespace Go.Proofs.YthnnbpnocefmgaaGreat
set_option linter.unusedVariables false
set_option linter.unusedSimpArgs false
open Go.RowKit

theorem lim_one (w : World) : LimV (w.alloc (.cells #[.int .i64 1] 3)) (.slice (some ⟨w.heap.size, 0, none⟩) 1 1) 1 1 :=
  ⟨_, 1, [1], rfl, Nat.le_refl _, by simp [maxLen], Arr.new (xs := [1]) rfl, by intro d hd; simp at hd; subst hd; omega, by simp [Norm], by simp [val], Nat.le_refl _⟩

theorem emod_neg {n d : Int} (hd : 0 < d) (hn : n < 0) (h : 0 < (n.natAbs : Int) % d) : n % d = d - (n.natAbs : Int) % d := by
  have h1 := floor_neg1 hd hn h
  have h2 := Int.emod_add_mul_ediv n d
  have h3 := Int.emod_add_mul_ediv (n.natAbs : Int) d
  rw [h1, Int.mul_neg, Int.mul_add, Int.mul_one] at h2
  omega
theorem emod_neg0 {n d : Int} (hd : 0 < d) (hn : n < 0) (h : (n.natAbs : Int) % d = 0) : n % d = 0 := by
  have h1 := (floor_neg0 hd hn h).1
  have h2 := Int.emod_add_mul_ediv n d
  have h3 := Int.emod_add_mul_ediv (n.natAbs : Int) d
  rw [h1, Int.mul_neg] at h2
  omega

theorem put2_far {w : World} {B b : Nat} {u v : Value} {o : Obj} (h : w.heap[b]? = some o) (hne : b ≠ B) : ((w.setCell ⟨B, 0, none⟩ u).setCell ⟨B, 1, none⟩ v).heap[b]? = some o := (put2_other hne).trans h

def divZR (w : World) (x y : Int) (L L' : Nat) (v : Value) (w' : World) : Prop := ∃ s A n c t B m d, v = .tuple #[.agg #[.bool s, .slice A n c], .agg #[.bool t, .slice B m d]] ∧ ZV w' (.agg #[.bool s, .slice A n c]) (x / y) (L + 1) ∧ ZV w' (.agg #[.bool t, .slice B m d]) (x % y) L' ∧ Below w.heap.size w w'


set_option maxRecDepth 100000 in
set_option maxHeartbeats 2000000 in
theorem divz_pos (w : World) (v v' : Value) (x y : Int) (L L' : Nat) (hx : ZV w v x L) (hy : ZV w v' y L') (hL : L ≤ 1000000000) (hL' : L' ≤ 1000000000) (hy0 : 0 < y) (hx0 : 0 ≤ x) :
    Calls Tryz.prog 80 #[v, v'] w (Ret (divZR w x y L L')) := by
  obtain ⟨s, A, n, c, rfl, hs, hm⟩ := hx.parts
  obtain ⟨t, B, m, d, rfl, ht, hn⟩ := hy.parts
  have ey : (y.natAbs : Int) = y := by omega
  rw [ey] at hn
  obtain rfl : t = false := by rw [ht]; simp; omega
  obtain ⟨W, hW⟩ : ∃ W, W = (((w.alloc (.cells #[.bool s, .slice A n c] 39)).alloc (.cells #[.bool false, .slice B m d] 39)).alloc (.cells #[.bool false, .slice none 0 0] 39)).alloc (.cells #[.bool false, .slice none 0 0] 39) := ⟨_, rfl⟩
  have hb0 : Below w.heap.size w W := by rw [hW]; exact ((((Below.refl _ _).alloc (Nat.le_refl _) _).alloc (by simp) _).alloc (by simp; omega) _).alloc (by simp; omega) _
  have h0 : W.heap[w.heap.size]? = some (.cells #[.bool s, .slice A n c] 39) := by rw [hW]; exact at_old (at_old (at_old (at_new _ _) _) _) _
  have h1 : W.heap[w.heap.size + 1]? = some (.cells #[.bool false, .slice B m d] 39) := by rw [hW]; exact at_old (at_old (at_new' _ (by simp)) _) _
  have h2 : W.heap[w.heap.size + 2]? = some (.cells #[.bool false, .slice none 0 0] 39) := by rw [hW]; exact at_old (at_new' _ (by simp)) _
  have h3 : W.heap[w.heap.size + 3]? = some (.cells #[.bool false, .slice none 0 0] 39) := by rw [hW]; exact at_new' _ (by simp)
  have HW := hide (And.intro hW (And.intro hb0 (And.intro h0 (And.intro h1 (And.intro h2 (And.intro h3 (And.intro (hm.below hb0) (And.intro (hn.below hb0) hs)))))))); clear hW hb0 h0 h1 h2 h3 hm hn hx hy hs ht ey
  obtain ⟨x0, x1, _, _⟩ := two_cells HW.out.2.2.1
  obtain ⟨y0, y1, _, _⟩ := two_cells HW.out.2.2.2.1
  rw [HW.out.1] at x0 x1 y0 y1
  go_enter Tryz.func80, Tryz.ntmps80
  go_wp2_with fail
  rw [← HW.out.1]
  clear x0 x1 y0 y1
  refine (div9_c _ _ _ (x.natAbs : Int) y L L' HW.out.2.2.2.2.2.2.1 HW.out.2.2.2.2.2.2.2.1 (by omega) (by omega) hy0).mono ?_
  rintro e w1 ⟨_, rfl, q1, r1, rfl, hq1, hr1, hd1⟩
  obtain ⟨A1, c1, xs1, rfl, _⟩ := hq1.open_
  obtain ⟨A2, c2, xs2, rfl, _⟩ := hr1.open_
  have hz2 := lim_zero hr1
  have hr0 := hr1.nonneg
  have HQ := hide (And.intro hq1 hr1)
  clear hq1 hr1
  obtain rfl : s = false := by rw [HW.out.2.2.2.2.2.2.2.2]; simp; omega
  clear hz2 hr0
  have E1 := hide (show sgd false ((x.natAbs : Int) / y) = x / y by rw [show (x.natAbs : Int) = x by omega]; rfl)
  have E2 := hide (show sgd false ((x.natAbs : Int) % y) = x % y by rw [show (x.natAbs : Int) = x by omega]; rfl)
  obtain ⟨x0, x1, _, _⟩ := two_cells (at_later HW.out.2.2.1 hd1)
  obtain ⟨y0, y1, _, _⟩ := two_cells (at_later HW.out.2.2.2.1 hd1)
  go_wp2_with fail
  clear x0 x1 y0 y1
  refine (int9_c _ _ _ ((x.natAbs : Int) / y) L HQ.out.1 (by omega)).mono ?_
  rintro e w2 ⟨_, rfl, hz3, hd2⟩
  obtain ⟨s3, A3, n3, c3, rfl, hs3, _⟩ := hz3.parts
  clear hs3
  have hr2 := HQ.out.2.below hd2
  have H3 := hide (And.intro hz3 hr2); clear hz3 hr2
  go_wp2_with fail
  refine (int9_c _ _ _ ((x.natAbs : Int) % y) L' H3.out.2 (by omega)).mono ?_
  rintro e w3 ⟨_, rfl, hz4, hd3⟩
  obtain ⟨s4, A4, n4, c4, rfl, hs4, _⟩ := hz4.parts
  clear hs4
  have HG := below_next (below_next hd1 hd2) hd3
  have HZ1 : ZV w3 (.agg #[.bool s3, .slice A3 n3 c3]) (x / y) (L + 1) := by rw [← E1.out]; exact (H3.out.1.below hd3).more (by omega)
  have HZ2 : ZV w3 (.agg #[.bool s4, .slice A4 n4 c4]) (x % y) L' := by rw [← E2.out]; exact hz4
  have h4 := at_later HW.out.2.2.2.2.1 HG
  have h5 := at_later HW.out.2.2.2.2.2.1 HG
  obtain ⟨p0, p1, f0, f1⟩ := two_cells h4
  obtain ⟨r0, r1, g0, g1⟩ := two_cells h5
  have hlt := lt_of_block h5
  have HF := hide (And.intro h4 (And.intro h5 (And.intro (below_next HW.out.2.1 HG) (And.intro HZ1 HZ2)))); clear h4 h5
  clear HZ1 HZ2 hz4 hd1 hd2 hd3
  go_wp2
  refine bodyPost_ret (v := .tuple #[.agg #[.bool s3, .slice A3 n3 c3], .agg #[.bool s4, .slice A4 n4 c4]]) ?_ rfl ?_
  · simp [results, Tryz.results80, go_sem, p0, p1, r0, r1, hlt, show w.heap.size + 2 < w3.heap.size by omega]
  obtain ⟨h4, h5, hb, hz1, hz2⟩ := HF.out
  have h6 := put2_far (u := .bool s3) (v := .slice A3 n3 c3) h5 (show w.heap.size + 3 ≠ w.heap.size + 2 by omega)
  exact ⟨_, rfl, _, _, _, _, _, _, _, _, rfl, zv_put2 (zv_put2 hz1 h4 (by decide)) h6 (by decide), zv_put2 (zv_put2 hz2 h4 (by decide)) h6 (by decide), below_put2 (below_put2 hb (by omega)) (by omega)⟩

set_option maxRecDepth 100000 in
set_option maxHeartbeats 2000000 in
theorem divz_neg0 (w : World) (v v' : Value) (x y : Int) (L L' : Nat) (hx : ZV w v x L) (hy : ZV w v' y L') (hL : L ≤ 1000000000) (hL' : L' ≤ 1000000000) (hy0 : 0 < y) (hx0 : x < 0) (hr : (x.natAbs : Int) % y = 0) :
    Calls Tryz.prog 80 #[v, v'] w (Ret (divZR w x y L L')) := by
  obtain ⟨s, A, n, c, rfl, hs, hm⟩ := hx.parts
  obtain ⟨t, B, m, d, rfl, ht, hn⟩ := hy.parts
  have ey : (y.natAbs : Int) = y := by omega
  rw [ey] at hn
  obtain rfl : t = false := by rw [ht]; simp; omega
  obtain ⟨W, hW⟩ : ∃ W, W = (((w.alloc (.cells #[.bool s, .slice A n c] 39)).alloc (.cells #[.bool false, .slice B m d] 39)).alloc (.cells #[.bool false, .slice none 0 0] 39)).alloc (.cells #[.bool false, .slice none 0 0] 39) := ⟨_, rfl⟩
  have hb0 : Below w.heap.size w W := by rw [hW]; exact ((((Below.refl _ _).alloc (Nat.le_refl _) _).alloc (by simp) _).alloc (by simp; omega) _).alloc (by simp; omega) _
  have h0 : W.heap[w.heap.size]? = some (.cells #[.bool s, .slice A n c] 39) := by rw [hW]; exact at_old (at_old (at_old (at_new _ _) _) _) _
  have h1 : W.heap[w.heap.size + 1]? = some (.cells #[.bool false, .slice B m d] 39) := by rw [hW]; exact at_old (at_old (at_new' _ (by simp)) _) _
  have h2 : W.heap[w.heap.size + 2]? = some (.cells #[.bool false, .slice none 0 0] 39) := by rw [hW]; exact at_old (at_new' _ (by simp)) _
  have h3 : W.heap[w.heap.size + 3]? = some (.cells #[.bool false, .slice none 0 0] 39) := by rw [hW]; exact at_new' _ (by simp)
  have HW := hide (And.intro hW (And.intro hb0 (And.intro h0 (And.intro h1 (And.intro h2 (And.intro h3 (And.intro (hm.below hb0) (And.intro (hn.below hb0) hs)))))))); clear hW hb0 h0 h1 h2 h3 hm hn hx hy hs ht ey
  obtain ⟨x0, x1, _, _⟩ := two_cells HW.out.2.2.1
  obtain ⟨y0, y1, _, _⟩ := two_cells HW.out.2.2.2.1
  rw [HW.out.1] at x0 x1 y0 y1
  go_enter Tryz.func80, Tryz.ntmps80
  go_wp2_with fail
  rw [← HW.out.1]
  clear x0 x1 y0 y1
  refine (div9_c _ _ _ (x.natAbs : Int) y L L' HW.out.2.2.2.2.2.2.1 HW.out.2.2.2.2.2.2.2.1 (by omega) (by omega) hy0).mono ?_
  rintro e w1 ⟨_, rfl, q1, r1, rfl, hq1, hr1, hd1⟩
  obtain ⟨A1, c1, xs1, rfl, _⟩ := hq1.open_
  obtain ⟨A2, c2, xs2, rfl, _⟩ := hr1.open_
  have hz2 := lim_zero hr1
  have hr0 := hr1.nonneg
  have HQ := hide (And.intro hq1 hr1)
  clear hq1 hr1
  obtain rfl : s = true := by rw [HW.out.2.2.2.2.2.2.2.2]; simp [hx0]
  have hl2 : xs2.length = 0 := hz2.2 hr
  rw [hl2] at HQ ⊢
  clear hz2 hr0 hl2
  have E1 := hide (show sgd true ((x.natAbs : Int) / y) = x / y by rw [(floor_neg0 hy0 hx0 hr).1]; rfl)
  have E2 := hide (show sgd false ((x.natAbs : Int) % y) = x % y by rw [emod_neg0 hy0 hx0 hr, hr]; rfl)
  obtain ⟨x0, x1, _, _⟩ := two_cells (at_later HW.out.2.2.1 hd1)
  obtain ⟨y0, y1, _, _⟩ := two_cells (at_later HW.out.2.2.2.1 hd1)
  go_wp2_with fail
  clear x0 x1 y0 y1
  refine (int9_c _ _ _ ((x.natAbs : Int) / y) L HQ.out.1 (by omega)).mono ?_
  rintro e w2 ⟨_, rfl, hz3, hd2⟩
  obtain ⟨s3, A3, n3, c3, rfl, hs3, _⟩ := hz3.parts
  clear hs3
  have hr2 := HQ.out.2.below hd2
  have H3 := hide (And.intro hz3 hr2); clear hz3 hr2
  go_wp2_with fail
  refine (int9_c _ _ _ ((x.natAbs : Int) % y) L' H3.out.2 (by omega)).mono ?_
  rintro e w3 ⟨_, rfl, hz4, hd3⟩
  obtain ⟨s4, A4, n4, c4, rfl, hs4, _⟩ := hz4.parts
  clear hs4
  have HG := below_next (below_next hd1 hd2) hd3
  have HZ1 : ZV w3 (.agg #[.bool s3, .slice A3 n3 c3]) (x / y) (L + 1) := by rw [← E1.out]; exact (H3.out.1.below hd3).more (by omega)
  have HZ2 : ZV w3 (.agg #[.bool s4, .slice A4 n4 c4]) (x % y) L' := by rw [← E2.out]; exact hz4
  have h4 := at_later HW.out.2.2.2.2.1 HG
  have h5 := at_later HW.out.2.2.2.2.2.1 HG
  obtain ⟨p0, p1, f0, f1⟩ := two_cells h4
  obtain ⟨r0, r1, g0, g1⟩ := two_cells h5
  have hlt := lt_of_block h5
  have HF := hide (And.intro h4 (And.intro h5 (And.intro (below_next HW.out.2.1 HG) (And.intro HZ1 HZ2)))); clear h4 h5
  clear HZ1 HZ2 hz4 hd1 hd2 hd3
  go_wp2
  refine bodyPost_ret (v := .tuple #[.agg #[.bool s3, .slice A3 n3 c3], .agg #[.bool s4, .slice A4 n4 c4]]) ?_ rfl ?_
  · simp [results, Tryz.results80, go_sem, p0, p1, r0, r1, hlt, show w.heap.size + 2 < w3.heap.size by omega]
  obtain ⟨h4, h5, hb, hz1, hz2⟩ := HF.out
  have h6 := put2_far (u := .bool s3) (v := .slice A3 n3 c3) h5 (show w.heap.size + 3 ≠ w.heap.size + 2 by omega)
  exact ⟨_, rfl, _, _, _, _, _, _, _, _, rfl, zv_put2 (zv_put2 hz1 h4 (by decide)) h6 (by decide), zv_put2 (zv_put2 hz2 h4 (by decide)) h6 (by decide), below_put2 (below_put2 hb (by omega)) (by omega)⟩

set_option maxRecDepth 100000 in
set_option maxHeartbeats 2000000 in
theorem divz_neg1 (w : World) (v v' : Value) (x y : Int) (L L' : Nat) (hx : ZV w v x L) (hy : ZV w v' y L') (hL : L ≤ 1000000000) (hL' : L' ≤ 1000000000) (hy0 : 0 < y) (hx0 : x < 0) (hr : 0 < (x.natAbs : Int) % y) :
    Calls Tryz.prog 80 #[v, v'] w (Ret (divZR w x y L L')) := by
  obtain ⟨s, A, n, c, rfl, hs, hm⟩ := hx.parts
  obtain ⟨t, B, m, d, rfl, ht, hn⟩ := hy.parts
  have ey : (y.natAbs : Int) = y := by omega
  rw [ey] at hn
  obtain rfl : t = false := by rw [ht]; simp; omega
  obtain ⟨W, hW⟩ : ∃ W, W = (((w.alloc (.cells #[.bool s, .slice A n c] 39)).alloc (.cells #[.bool false, .slice B m d] 39)).alloc (.cells #[.bool false, .slice none 0 0] 39)).alloc (.cells #[.bool false, .slice none 0 0] 39) := ⟨_, rfl⟩
  have hb0 : Below w.heap.size w W := by rw [hW]; exact ((((Below.refl _ _).alloc (Nat.le_refl _) _).alloc (by simp) _).alloc (by simp; omega) _).alloc (by simp; omega) _
  have h0 : W.heap[w.heap.size]? = some (.cells #[.bool s, .slice A n c] 39) := by rw [hW]; exact at_old (at_old (at_old (at_new _ _) _) _) _
  have h1 : W.heap[w.heap.size + 1]? = some (.cells #[.bool false, .slice B m d] 39) := by rw [hW]; exact at_old (at_old (at_new' _ (by simp)) _) _
  have h2 : W.heap[w.heap.size + 2]? = some (.cells #[.bool false, .slice none 0 0] 39) := by rw [hW]; exact at_old (at_new' _ (by simp)) _
  have h3 : W.heap[w.heap.size + 3]? = some (.cells #[.bool false, .slice none 0 0] 39) := by rw [hW]; exact at_new' _ (by simp)
  have HW := hide (And.intro hW (And.intro hb0 (And.intro h0 (And.intro h1 (And.intro h2 (And.intro h3 (And.intro (hm.below hb0) (And.intro (hn.below hb0) hs)))))))); clear hW hb0 h0 h1 h2 h3 hm hn hx hy hs ht ey
  obtain ⟨x0, x1, _, _⟩ := two_cells HW.out.2.2.1
  obtain ⟨y0, y1, _, _⟩ := two_cells HW.out.2.2.2.1
  rw [HW.out.1] at x0 x1 y0 y1
  go_enter Tryz.func80, Tryz.ntmps80
  go_wp2_with fail
  rw [← HW.out.1]
  clear x0 x1 y0 y1
  refine (div9_c _ _ _ (x.natAbs : Int) y L L' HW.out.2.2.2.2.2.2.1 HW.out.2.2.2.2.2.2.2.1 (by omega) (by omega) hy0).mono ?_
  rintro e w1 ⟨_, rfl, q1, r1, rfl, hq1, hr1, hd1⟩
  obtain ⟨A1, c1, xs1, rfl, _⟩ := hq1.open_
  obtain ⟨A2, c2, xs2, rfl, _⟩ := hr1.open_
  have hz2 := lim_zero hr1
  have hr0 := hr1.nonneg
  have HQ := hide (And.intro hq1 hr1)
  clear hq1 hr1
  obtain rfl : s = true := by rw [HW.out.2.2.2.2.2.2.2.2]; simp [hx0]
  have hl2 : 0 < xs2.length := by
    rcases Nat.eq_zero_or_pos xs2.length with h | h
    · have := hz2.1 h; omega
    · exact h
  have hlt2 := Int.emod_lt_of_pos (x.natAbs : Int) hy0
  have E1 := hide (show sgd true ((x.natAbs : Int) / y + 1) = x / y by rw [floor_neg1 hy0 hx0 hr]; rfl)
  have E2 := hide (show sgd false (y - (x.natAbs : Int) % y) = x % y by rw [emod_neg hy0 hx0 hr]; rfl)
  clear hz2 hr0
  obtain ⟨x0, x1, _, _⟩ := two_cells (at_later HW.out.2.2.1 hd1)
  obtain ⟨y0, y1, _, _⟩ := two_cells (at_later HW.out.2.2.2.1 hd1)
  have hS : ∀ w', Below w1.heap.size w1 w' → (w'.cell? ⟨w.heap.size, 0, none⟩ = some (.bool true) ∧ w'.cell? ⟨w.heap.size, 1, none⟩ = some (.slice A n c)) ∧ w'.cell? ⟨w.heap.size + 1, 0, none⟩ = some (.bool false) ∧ w'.cell? ⟨w.heap.size + 1, 1, none⟩ = some (.slice B m d) := fun w' h => by
    have k0 := two_cells (at_later (at_later HW.out.2.2.1 hd1) h)
    have k1 := two_cells (at_later (at_later HW.out.2.2.2.1 hd1) h)
    exact ⟨⟨k0.1, k0.2.1⟩, k1.1, k1.2.1⟩
  have hdr : Below w1.heap.size w1 w1.drew := (Below.refl _ _).drew
  have HSS := hide hS; clear hS
  have hY := hide (HW.out.2.2.2.2.2.2.2.1.below hd1)
  go_wp2
  refine till_begin (fun w' => (w'.cell? ⟨w.heap.size, 0, none⟩ = some (.bool true) ∧ w'.cell? ⟨w.heap.size, 1, none⟩ = some (.slice A n c)) ∧ w'.cell? ⟨w.heap.size + 1, 0, none⟩ = some (.bool false) ∧ w'.cell? ⟨w.heap.size + 1, 1, none⟩ = some (.slice B m d)) [0, 1, 2, 3, 4, 5, 6, 7, 8, 9, 10, 11, 12, 13, 14] (by kernel_rfl) (HSS.out _ hdr) (fun hHeld => ?_)
  refine till_take (i := 0) (v := ?vv1) rfl (by kernel_rfl) (by kernel_rfl) (by kernel_rfl) (by kernel_rfl) (fun _ _ _ h => h) (by rfl) ?hy1 hHeld (some 33) rfl ?rest1
  case hy1 => (intro w hSw; (try dsimp only at hSw); first | (go_simp; done) | (go_simp; with_reducible rfl))
  try simp only [Act.put, List.setIfInBounds_toArray, List.set_cons_zero, List.set_cons_succ]
  refine till_take (i := 2) (v := ?vv2) rfl (by kernel_rfl) (by kernel_rfl) (by kernel_rfl) (by kernel_rfl) (fun _ _ _ h => h) (by rfl) ?hy2 hHeld (some 35) rfl ?rest2
  case hy2 => (intro w hSw; (try dsimp only at hSw); first | (go_simp; done) | (go_simp; with_reducible rfl))
  try simp only [Act.put, List.setIfInBounds_toArray, List.set_cons_zero, List.set_cons_succ]
  refine till_take (i := 5) (v := ?vv3) rfl (by kernel_rfl) (by kernel_rfl) (by kernel_rfl) (by kernel_rfl) (fun _ _ _ h => h) (by rfl) ?hy3 hHeld (some 38) rfl ?rest3
  case hy3 => (intro w hSw; (try dsimp only at hSw); first | (go_simp; done) | (go_simp; with_reducible rfl))
  try simp only [Act.put, List.setIfInBounds_toArray, List.set_cons_zero, List.set_cons_succ]
  refine till_take (i := 9) (v := ?vv4) rfl (by kernel_rfl) (by kernel_rfl) (by kernel_rfl) (by kernel_rfl) (fun _ _ _ h => h) (by rfl) ?hy4 hHeld (some 42) rfl ?rest4
  case hy4 => (intro w hSw; (try dsimp only at hSw); first | (go_simp; done) | (go_simp; with_reducible rfl))
  try simp only [Act.put, List.setIfInBounds_toArray, List.set_cons_zero, List.set_cons_succ]
  refine till_take (i := 11) (v := ?vv5) rfl (by kernel_rfl) (by kernel_rfl) (by kernel_rfl) (by kernel_rfl) (fun _ _ _ h => h) (by rfl) ?hy5 hHeld (some 44) rfl ?rest5
  case hy5 => (intro w hSw; (try dsimp only at hSw); first | (go_simp; done) | (go_simp; with_reducible rfl))
  try simp only [Act.put, List.setIfInBounds_toArray, List.set_cons_zero, List.set_cons_succ]
  refine till_take (i := 1) (v := ?vv6) rfl (by kernel_rfl) (by kernel_rfl) (by kernel_rfl) (by kernel_rfl) (fun _ _ _ h => h) (by rfl) ?hy6 hHeld (some 34) rfl ?rest6
  case hy6 => (intro w hSw; (try dsimp only at hSw); first | (go_simp; done) | (go_simp; with_reducible rfl))
  try simp only [Act.put, List.setIfInBounds_toArray, List.set_cons_zero, List.set_cons_succ]
  refine till_take (i := 3) (v := ?vv7) rfl (by kernel_rfl) (by kernel_rfl) (by kernel_rfl) (by kernel_rfl) (fun _ _ _ h => h) (by rfl) ?hy7 hHeld (some 36) rfl ?rest7
  case hy7 => (intro w hSw; (try dsimp only at hSw); first | (go_simp; done) | (go_simp; with_reducible rfl))
  try simp only [Act.put, List.setIfInBounds_toArray, List.set_cons_zero, List.set_cons_succ]
  refine till_take (i := 4) (v := ?vv8) rfl (by kernel_rfl) (by kernel_rfl) (by kernel_rfl) (by kernel_rfl) (fun _ _ _ h => h) (by rfl) ?hy8 hHeld (some 37) rfl ?rest8
  case hy8 => (intro w hSw; (try dsimp only at hSw); first | (go_simp; done) | (go_simp; with_reducible rfl))
  try simp only [Act.put, List.setIfInBounds_toArray, List.set_cons_zero, List.set_cons_succ]
  refine till_take (i := 10) (v := ?vv9) rfl (by kernel_rfl) (by kernel_rfl) (by kernel_rfl) (by kernel_rfl) (fun _ _ _ h => h) (by rfl) ?hy9 hHeld (some 43) rfl ?rest9
  case hy9 => (intro w hSw; (try dsimp only at hSw); first | (go_simp; done) | (go_simp; with_reducible rfl))
  try simp only [Act.put, List.setIfInBounds_toArray, List.set_cons_zero, List.set_cons_succ]
  refine till_ready (rs := [6]) (by kernel_rfl) (by simp) ?_
  refine List.forall_mem_cons.2 ⟨?_, fun _ h => absurd h List.not_mem_nil⟩
  refine till_step rfl (fun K hK => ?_)
  go_simp
  have hg1 : Below w1.heap.size w1 (w1.drew.alloc (.cells #[.int .i64 1] 3)) := hdr.alloc (by exact Nat.le_refl _) _
  have HO := hide (lim_one w1.drew)
  refine hK.out _ _ (HSS.out _ hg1) (fun hHeld => ?_)
  clear hK K
  try simp only [Act.put, List.setIfInBounds_toArray, List.set_cons_zero, List.set_cons_succ]
  refine till_ready (rs := [7]) (by kernel_rfl) (by simp) ?_
  refine List.forall_mem_cons.2 ⟨?_, fun _ h => absurd h List.not_mem_nil⟩
  refine till_step rfl (fun K hK => ?_)
  go_simp
  go_at_call 114
  refine (addn_c _ _ _ ((x.natAbs : Int) / y) 1 L 1 (HQ.out.1.below hg1) HO.out (by omega) (by omega)).mono ?_
  rintro e u2 ⟨v3, rfl, hv3, hd⟩
  have hg2 : Below w1.heap.size w1 u2 := hg1.trans (hd.mono hg1.size)
  obtain ⟨A3, c3, xs3, rfl, _⟩ := hv3.open_
  have H3 := hide (hv3.fit (L' := L + 1) (by have h1 := HQ.out.1.lt; have h2 : (1000000000 : Int) ^ (L + 1) = 1000000000 ^ L * 1000000000 := Int.pow_succ _ _; have h3 : (0 : Int) < 1000000000 ^ L := Int.pow_pos (by omega); omega))
  clear hv3
  clear hd
  go_wp2_with fail
  refine hK.out _ _ (HSS.out _ hg2) (fun hHeld => ?_)
  clear hK K
  try simp only [Act.put, List.setIfInBounds_toArray, List.set_cons_zero, List.set_cons_succ]
  refine till_ready (rs := [8]) (by kernel_rfl) (by simp) ?_
  refine List.forall_mem_cons.2 ⟨?_, fun _ h => absurd h List.not_mem_nil⟩
  refine till_step rfl (fun K hK => ?_)
  go_simp
  go_at_call 81
  refine (int9_c _ _ _ ((x.natAbs : Int) / y + 1) (L + 1) H3.out (by omega)).mono ?_
  rintro e u3 ⟨_, rfl, hz3, hd⟩
  have hg3 : Below w1.heap.size w1 u3 := hg2.trans (hd.mono hg2.size)
  obtain ⟨s4, A4, n4, c4, rfl, hs4, _⟩ := hz3.parts
  clear hs4
  have H4 := hide hz3
  clear hz3
  clear hd
  go_wp2_with fail
  refine hK.out _ _ (HSS.out _ hg3) (fun hHeld => ?_)
  clear hK K
  try simp only [Act.put, List.setIfInBounds_toArray, List.set_cons_zero, List.set_cons_succ]
  refine till_ready (rs := [12]) (by kernel_rfl) (by simp) ?_
  refine List.forall_mem_cons.2 ⟨?_, fun _ h => absurd h List.not_mem_nil⟩
  refine till_step rfl (fun K hK => ?_)
  go_simp
  go_at_call 116
  refine (sub9_c _ _ _ y ((x.natAbs : Int) % y) L' L' (hY.out.below hg3) (HQ.out.2.below hg3) (by omega) (by omega)).mono ?_
  rintro e u4 ⟨v5, rfl, hv5, hd, _⟩
  have hg4 : Below w1.heap.size w1 u4 := hg3.trans (hd.mono hg3.size)
  obtain ⟨A5, c5, xs5, rfl, _⟩ := hv5.open_
  have H5 := hide hv5
  clear hv5
  replace H4 := hide (H4.out.below hd)
  clear hd
  go_wp2_with fail
  refine hK.out _ _ (HSS.out _ hg4) (fun hHeld => ?_)
  clear hK K
  try simp only [Act.put, List.setIfInBounds_toArray, List.set_cons_zero, List.set_cons_succ]
  refine till_ready (rs := [13]) (by kernel_rfl) (by simp) ?_
  refine List.forall_mem_cons.2 ⟨?_, fun _ h => absurd h List.not_mem_nil⟩
  refine till_step rfl (fun K hK => ?_)
  go_simp
  go_at_call 81
  refine (int9_c _ _ _ (y - (x.natAbs : Int) % y) L' H5.out (by omega)).mono ?_
  rintro e u5 ⟨_, rfl, hz6, hd⟩
  have hg5 : Below w1.heap.size w1 u5 := hg4.trans (hd.mono hg4.size)
  obtain ⟨s6, A6, n6, c6, rfl, hs6, _⟩ := hz6.parts
  clear hs6
  have H6 := hide hz6
  clear hz6
  replace H4 := hide (H4.out.below hd)
  have hp := two_cells (at_later HW.out.2.2.2.2.1 (below_next hd1 hg5))
  obtain ⟨p0, p1, f0, f1⟩ := hp
  clear hd
  go_wp2_with fail
  refine hK.out _ _ (HSS.out _ hg5) (fun hHeld => ?_)
  clear hK K
  try simp only [Act.put, List.setIfInBounds_toArray, List.set_cons_zero, List.set_cons_succ]
  refine till_ready (rs := [14]) (by kernel_rfl) (by simp) ?_
  refine List.forall_mem_cons.2 ⟨?_, fun _ h => absurd h List.not_mem_nil⟩
  refine till_step rfl (fun K hK => ?_)
  go_simp
  skip
  refine hK.out _ _ (⟨⟨(put2_cell (by omega)).trans (HSS.out _ hg5).1.1, (put2_cell (by omega)).trans (HSS.out _ hg5).1.2⟩, (put2_cell (by omega)).trans (HSS.out _ hg5).2.1, (put2_cell (by omega)).trans (HSS.out _ hg5).2.2⟩) (fun hHeld => ?_)
  clear hK K
  try simp only [Act.put, List.setIfInBounds_toArray, List.set_cons_zero, List.set_cons_succ]
  refine till_end (k := 15) (by rfl) (by rfl) (by kernel_rfl) ?_
  simp only [List.drop_succ_cons, List.drop_zero]
  clear p0 p1 f0 f1
  have HG := below_next hd1 hg5
  have HZ1 : ZV u5 (.agg #[.bool s4, .slice A4 n4 c4]) (x / y) (L + 1) := by rw [← E1.out]; exact H4.out
  have HZ2 : ZV u5 (.agg #[.bool s6, .slice A6 n6 c6]) (x % y) L' := by rw [← E2.out]; exact H6.out
  have h4 := at_later HW.out.2.2.2.2.1 HG
  have h5 := at_later HW.out.2.2.2.2.2.1 HG
  obtain ⟨p0, p1, f0, f1⟩ := two_cells h4
  obtain ⟨r0, r1, g0, g1⟩ := two_cells h5
  have hlt := lt_of_block h5
  have HF := hide (And.intro h4 (And.intro h5 (And.intro (below_next HW.out.2.1 HG) (And.intro HZ1 HZ2)))); clear h4 h5
  clear HZ1 HZ2 hHeld
  go_wp2
  refine bodyPost_ret (v := .tuple #[.agg #[.bool s4, .slice A4 n4 c4], .agg #[.bool s6, .slice A6 n6 c6]]) ?_ rfl ?_
  · simp [results, Tryz.results80, go_sem, p0, p1, r0, r1, hlt, show w.heap.size + 2 < u5.heap.size by omega]
  obtain ⟨h4, h5, hb, hz1, hz2⟩ := HF.out
  have h6 := put2_far (u := .bool s4) (v := .slice A4 n4 c4) h5 (show w.heap.size + 3 ≠ w.heap.size + 2 by omega)
  exact ⟨_, rfl, _, _, _, _, _, _, _, _, rfl, zv_put2 (zv_put2 hz1 h4 (by decide)) h6 (by decide), zv_put2 (zv_put2 hz2 h4 (by decide)) h6 (by decide), below_put2 (below_put2 hb (by omega)) (by omega)⟩

theorem divz_c (w : World) (v v' : Value) (x y : Int) (L L' : Nat) (hx : ZV w v x L) (hy : ZV w v' y L') (hL : L ≤ 1000000000) (hL' : L' ≤ 1000000000) (hy0 : 0 < y) :
    Calls Tryz.prog 80 #[v, v'] w (Ret (divZR w x y L L')) := by
  by_cases h : 0 ≤ x
  · exact divz_pos w v v' x y L L' hx hy hL hL' hy0 h
  · have := Int.emod_nonneg (x.natAbs : Int) (show y ≠ 0 by omega)
    by_cases hr : (x.natAbs : Int) % y = 0
    · exact divz_neg0 w v v' x y L L' hx hy hL hL' hy0 (by omega) hr
    · exact divz_neg1 w v v' x y L L' hx hy hL hL' hy0 (by omega) (by omega)


set_option maxRecDepth 100000 in
set_option maxHeartbeats 1000000 in
theorem floor9_c (w : World) (v : Value) (q : Rat) (L : Nat) (hq : QV w v q L) (hL : L ≤ 1000000000) :
    Calls Tryz.prog 30 #[v] w (Ret (zR w (flQ q) (L + 1))) := by
  obtain ⟨s, A, n, c, B, m, d, rfl, hz, hy⟩ := hq.parts
  obtain ⟨W, hW⟩ : ∃ W, W = (w.alloc (.cells #[.bool s, .slice A n c, .bool false, .slice B m d] 41)).alloc (.cells #[.bool false, .slice none 0 0] 39) := ⟨_, rfl⟩
  have hb0 : Below w.heap.size w W := by rw [hW]; exact ((Below.refl _ _).alloc (Nat.le_refl _) _).alloc (by simp) _
  have h1 : W.heap[w.heap.size + 1]? = some (.cells #[.bool false, .slice none 0 0] 39) := by rw [hW]; exact at_new' _ (by simp)
  have HW := hide (And.intro hW (And.intro hb0 (And.intro h1 (And.intro (hz.below hb0) (hy.below hb0))))); clear hW hb0 h1 hz hy hq
  go_enter Tryz.func30, Tryz.ntmps30
  go_wp2_with fail
  rw [← HW.out.1]
  refine (divz_c _ _ _ q.num (q.den : Int) L L HW.out.2.2.2.1 HW.out.2.2.2.2 (by omega) (by omega) (den_pos q)).mono ?_
  rintro e w1 ⟨_, rfl, s1, A1, n1, c1, t1, B1, m1, d1, rfl, hz1, hz2, hd1⟩
  obtain ⟨W2, hW2⟩ : ∃ W2, W2 = (w1.alloc (.cells #[.bool s1, .slice A1 n1 c1] 39)).alloc (.cells #[.bool t1, .slice B1 m1 d1] 39) := ⟨_, rfl⟩
  have hda : Below w1.heap.size w1 W2 := by rw [hW2]; exact ((Below.refl _ _).alloc (Nat.le_refl _) _).alloc (by simp) _
  have h2 := at_later (at_later HW.out.2.2.1 hd1) hda
  obtain ⟨x0, x1, f0, f1⟩ := two_cells h2
  have hlt := lt_of_block h2
  rw [hW2] at x0 x1 f0 f1 hlt
  have HF := hide (And.intro h2 (And.intro (below_next (below_next HW.out.2.1 hd1) hda) (And.intro (hz1.below hda) hW2))); clear h2 hz1 hz2 hd1 hda hW2
  go_wp2
  refine bodyPost_ret (v := .agg #[.bool s1, .slice A1 n1 c1]) ?_ rfl ?_
  · simp [results, Tryz.results30, go_sem, x0, x1]
    try omega
  rw [← HF.out.2.2.2]
  exact ⟨_, rfl, zv_put2 HF.out.2.2.1 HF.out.1 (by decide), below_put2 HF.out.2.1 (by omega)⟩
end Go.Proofs.YthnnbpnocefmgaaGreat
namespace Go.Proofs.YthnnbpnocefmgaaGreat
set_option linter.unusedVariables false
set_option linter.unusedSimpArgs false
open Go.RowKit

set_option maxRecDepth 100000 in
theorem done_c (w : World) (a v : Value) (q : Rat) (L : Nat) (ha : RatV w a q L) (hv : QV w v q L) (hL : L ≤ 3000) :
    Calls Tryz.prog 22 #[a, .int .i64 0, v] w (Ret (fun v w' => v = .bool true ∧ Below w.heap.size w w')) := by
  have ha' := ha
  obtain ⟨t, A1, n1, c1, A2, n2, c2, rfl⟩ := ha.shape
  obtain ⟨s, A, n, c, B, m, d, rfl, _⟩ := hv.parts
  obtain ⟨W, hW⟩ : ∃ W, W = (w.alloc (.cells #[.bool t, .slice A1 n1 c1, .slice A2 n2 c2] 35)).alloc (.cells #[.bool s, .slice A n c, .bool false, .slice B m d] 41) := ⟨_, rfl⟩
  have hb0 : Below w.heap.size w W := by rw [hW]; exact ((Below.refl _ _).alloc (Nat.le_refl _) _).alloc (by simp) _
  have hr : W.heap[w.heap.size]? = some (.cells #[.bool t, .slice A1 n1 c1, .slice A2 n2 c2] 35) := by rw [hW]; exact at_old (at_new _ _) _
  have hr2 : W.heap[w.heap.size + 1]? = some (.cells #[.bool s, .slice A n c, .bool false, .slice B m d] 41) := by rw [hW]; exact at_new' _ (by simp)
  have HW := hide (And.intro hW (And.intro hb0 (And.intro hr (And.intro hr2 (And.intro (ha'.below hb0) (hv.below hb0)))))); clear hW hb0 hr hr2 ha' ha hv
  go_enter Tryz.func22, Tryz.ntmps22
  go_wp2_with fail
  rw [← HW.out.1]
  refine (fits9_yes _ _ q L HW.out.2.2.2.2.2 hL).mono ?_
  rintro e w1 ⟨_, rfl, rfl, hd1⟩
  obtain ⟨k0, k1, k2⟩ := three_cells (at_later HW.out.2.2.1 hd1)
  obtain ⟨y0, y1, y2, y3, _⟩ := four_cells (at_later HW.out.2.2.2.1 hd1)
  have hv1 := hide (And.intro (HW.out.2.2.2.2.1.below hd1) (HW.out.2.2.2.2.2.below hd1))
  have hb1 := hide (below_next HW.out.2.1 hd1)
  clear hd1
  go_wp2_with fail
  refine (is_c _ _ _ q L hv1.out.1 hv1.out.2 (by omega)).mono ?_
  rintro e w2 ⟨_, rfl, rfl, hd2⟩
  have HB := hide (below_next hb1.out hd2)
  clear hd2 k0 k1 k2 y0 y1 y2 y3
  go_wp2
  go_ret
  exact ⟨_, rfl, rfl, HB.out⟩
end Go.Proofs.YthnnbpnocefmgaaGreat
