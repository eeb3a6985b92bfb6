/- Walks: what a job that comes to a station sees. -/
import Derived.Test.YtpoahodnakhmiaaGreatQChance
namespace Go.Proofs.YtpoahodnakhmiaaGreat
set_option linter.unusedVariables false
set_option linter.unusedSimpArgs false
open Go.RowKit
/-- a state with one job more at a station -/
def moreV (xs : List Int) (i : Nat) : List Int := xs.set i (xs.getD i 0 + 1)
theorem moreV_length (xs : List Int) (i : Nat) : (moreV xs i).length = xs.length := by simp [moreV]
theorem moreV_bound {xs : List Int} (h : ∀ x ∈ xs, 0 ≤ x ∧ x ≤ 11) (i : Nat) : ∀ x ∈ moreV xs i, 0 ≤ x ∧ x ≤ 12 := by
  intro x hx
  rcases List.mem_or_eq_of_mem_set hx with h2 | rfl
  · have := h x h2; omega
  · by_cases hi : i < xs.length
    · have := h (xs.getD i 0) (by rw [show xs.getD i 0 = xs[i] by simp [List.getD, hi]]; exact List.getElem_mem hi)
      omega
    · rw [show xs.getD i 0 = 0 by simp [List.getD, show xs[i]? = none from List.getElem?_eq_none (by omega)]]; omega
theorem moreV_sum : ∀ (xs : List Int) (i : Nat), i < xs.length → (moreV xs i).sum = xs.sum + 1
  | [], i, h => by simp at h
  | a :: l, 0, _ => by unfold moreV; simp; omega
  | a :: l, i + 1, h => by
    have := moreV_sum l i (by simpa using h)
    unfold moreV at this ⊢
    rw [List.set_cons_succ, List.sum_cons, List.sum_cons, List.getD_cons_succ, this]
    omega
/-- the flow that comes to a station with the others in a state -/
def seeN (m : Nat) (R : List Rat) (Ws : List (List Rat)) (st : Nat) (xs : List Int) (i : Nat) : Rat := R.getD i 0 * ent Ws i st * chQ (ldF m R Ws) m (moreV xs i)
def seeQ (m : Nat) (R : List Rat) (Ws : List (List Rat)) (st : Nat) (xs : List Int) : Rat := sumN (seeN m R Ws st xs) m / spQ m R Ws st (xs.sum + 1)
/-- three numbers in a row of their own -/
theorem row_three {w : World} {s t u : Bool} {A B C D E F : Option Addr} {n c m d n' c' m' d' n2 c2 m2 d2 : Nat} {p q r : Rat} {L : Nat} (hp : RatV w (.agg #[.bool s, .slice A n c, .slice B m d]) p L) (hq : RatV w (.agg #[.bool t, .slice C n' c', .slice D m' d']) q L) (hr : RatV w (.agg #[.bool u, .slice E n2 c2, .slice F m2 d2]) r L) :
    RowV (w.alloc (.cells #[.bool s, .slice A n c, .slice B m d, .bool t, .slice C n' c', .slice D m' d', .bool u, .slice E n2 c2, .slice F m2 d2] 43)) (.slice (some ⟨w.heap.size, 0, none⟩) 3 3) [p, q, r] L := by
  have hb : Below w.heap.size w (w.alloc (.cells #[.bool s, .slice A n c, .slice B m d, .bool t, .slice C n' c', .slice D m' d', .bool u, .slice E n2 c2, .slice F m2 d2] 43)) := below_al (Below.refl _ _) _
  have hh := heap_alloc_new w (.cells #[.bool s, .slice A n c, .slice B m d, .bool t, .slice C n' c', .slice D m' d', .bool u, .slice E n2 c2, .slice F m2 d2] 43)
  refine ⟨_, 3, rfl, Nat.le_refl _, by simp [maxLen], fun _ => ⟨w.heap.size, 0, rfl, fun i hi => ?_⟩⟩
  have hcell : ∀ (j : Nat) (v : Value), #[Value.bool s, .slice A n c, .slice B m d, .bool t, .slice C n' c', .slice D m' d', .bool u, .slice E n2 c2, .slice F m2 d2][j]? = some v → (w.alloc (.cells #[.bool s, .slice A n c, .slice B m d, .bool t, .slice C n' c', .slice D m' d', .bool u, .slice E n2 c2, .slice F m2 d2] 43)).cell? ⟨w.heap.size, j, none⟩ = some v := fun j v hj => by
    unfold World.cell?
    simp only [hh]
    simpa using hj
  obtain ⟨p1, p2, ep, p3, p4⟩ := hp
  obtain ⟨q1, q2, eq, q3, q4⟩ := hq
  obtain ⟨r1, r2, er, r3, r4⟩ := hr
  simp only [Value.agg.injEq, Array.mk.injEq, List.cons.injEq, Value.bool.injEq, and_true] at ep eq er
  obtain ⟨rfl, rfl, rfl⟩ := ep
  obtain ⟨rfl, rfl, rfl⟩ := eq
  obtain ⟨rfl, rfl, rfl⟩ := er
  rcases (show i = 0 ∨ i = 1 ∨ i = 2 by simp at hi; omega) with e | e | e <;> subst e
  · exact ⟨_, _, _, _, _, _, hcell 0 _ rfl, hcell 1 _ rfl, hcell 2 _ rfl, p3.below hb, p4.below hb⟩
  · exact ⟨_, _, _, _, _, _, hcell 3 _ rfl, hcell 4 _ rfl, hcell 5 _ rfl, q3.below hb, q4.below hb⟩
  · exact ⟨_, _, _, _, _, _, hcell 6 _ rfl, hcell 7 _ rfl, hcell 8 _ rfl, r3.below hb, r4.below hb⟩
theorem prod3 (a b c : Rat) : prodN (fun i => [a, b, c].getD i 0) 3 = a * b * c := by simp [prodN, Rat.one_mul]
theorem prod3_fit {L : Nat} {a b c : Rat} (hL : 1 ≤ L) (ha : FitQ L a) (hab : FitQ L (a * b)) (habc : FitQ L (a * b * c)) (k : Nat) (hk : k ≤ 3) : FitQ L (prodN (fun i => [a, b, c].getD i 0) k) := by
  rcases (show k = 0 ∨ k = 1 ∨ k = 2 ∨ k = 3 by omega) with e | e | e | e <;> subst e
  · exact fit_one1 hL
  · simpa [prodN, Rat.one_mul] using ha
  · simpa [prodN, Rat.one_mul] using hab
  · rw [prod3]; exact habc
theorem ShopG.see_fit {m : Nat} {R : List Rat} {Ws : List (List Rat)} (h : ShopG m R Ws) (hw : ∀ i j, i < m → j < m → FitQ 10 (ent Ws i j)) (st : Nat) (hst : st < m) (xs : List Int) (hx : ∀ x ∈ xs, 0 ≤ x ∧ x ≤ 11) (hl : m ≤ xs.length) (hs : xs.sum ≤ 11) (i : Nat) (hi : i < m) :
    FitQ 20 (R.getD i 0 * ent Ws i st) ∧ FitQ 280 (seeN m R Ws st xs i) := by
  have h1 := (h.rf i hi).mulA (hw i st hi hst)
  have h2 := h1.mulA (h.ld.ch_fit (moreV xs i) (moreV_bound hx i) (by rw [moreV_sum xs i (by omega)]; omega))
  exact ⟨h1.more (by omega), h2.more (by omega)⟩
theorem ShopG.sp_ne {m : Nat} {R : List Rat} {Ws : List (List Rat)} (h : ShopG m R Ws) (st : Nat) (hst : st < m) (n : Int) (h1 : 1 ≤ n) (h2 : n ≤ 12) : spQ m R Ws st n ≠ 0 := by
  have ha : R.getD st 0 ≠ 0 := h.ok.r0 st hst
  have hb : 0 < atQ (ldF m R Ws) m st 1 n := by
    unfold atQ
    rw [if_neg (by omega), if_neg (by omega)]
    have hp : 0 < powN (ldF m R Ws st) (1 : Int).toNat := by
      show 0 < 1 * ldF m R Ws st
      rw [Rat.one_mul]; exact h.ld.pos st hst
    exact divR_pos (Rat.mul_pos hp (h.ld.g_pos _)) (h.ld.g_pos _)
  unfold spQ
  grind
theorem stOf_bound11 {ks : List Int} (h : ∀ x ∈ ks, 0 ≤ x) (hs : ks.sum ≤ 11) : ∀ x ∈ stOf ks, 0 ≤ x ∧ x ≤ 11 := by
  intro x hx
  unfold stOf at hx
  obtain ⟨j, -, rfl⟩ := List.mem_map.1 hx
  by_cases hj : j < ks.length
  · have h1 := sum_take_step ks j hj
    have h2 := sum_take_le h j
    have h3 := sum_take_le h (j + 1)
    have h4 : 0 ≤ ks.getD j 0 := h _ (by rw [show ks.getD j 0 = ks[j] by simp [List.getD, hj]]; exact List.getElem_mem hj)
    omega
  · rw [show ks.getD j 0 = 0 by simp [List.getD, show ks[j]? = none from List.getElem?_eq_none (by omega)]]
    omega
set_option maxRecDepth 100000 in
set_option maxHeartbeats 8000000 in
theorem Seen1_c (w : World) (bl bs gx m st c : Nat) (A : Option Addr) (ks : List Int) (R : List Rat) (Ws : List (List Rat)) (hs : ShopG m R Ws) (hwf : ∀ i j, i < m → j < m → FitQ 10 (ent Ws i j)) (hx : OpenG w gx m R Ws) (hb1 : w.heap[bl]? = some (.cells #[.slice A ks.length c] 22 (0, 0))) (hb2 : w.heap[bs]? = some (.cells #[.int .i64 (st : Int)] 3 (0, 0)))
    (hst : st < m) (hk : Arr w A .i64 ks) (hc : ks.length ≤ c) (hm : c ≤ maxLen) (hl : ks.length = m) (h0 : ∀ x ∈ ks, 0 ≤ x) (hsum : ks.sum ≤ 11) :
    Calls Tryz.prog 81 (#[.pointer (some ⟨gx, 0, none⟩)] ++ #[.pointer (some ⟨bl, 0, none⟩), .pointer (some ⟨bs, 0, none⟩)]) w (Ret (ratR w (seeQ m R Ws st (stOf ks)) 3000)) := by
  generalize hq : seeQ m R Ws st (stOf ks) = q
  obtain ⟨W, hW⟩ : ∃ W, W = w.alloc (.cells #[.bool false, .slice none 0 0, .slice none 0 0] 43) := ⟨_, rfl⟩
  have hb0 : Below w.heap.size w W := by rw [hW]; exact below_al (Below.refl _ _) _
  have hbr : RowC W w.heap.size [0] 3000 := by rw [hW]; exact row_zero w 3000
  obtain ⟨z0, -⟩ := one_cell (at_later hb1 hb0)
  have hlb := lt_of_block hb1
  have hlb2 := lt_of_block hb2
  have hrl := hide hs.ok.shop.rl
  have hwl := hide hs.ok.shop.wl
  have hm8 := hs.ok.shop.n8
  have hm1 := hs.ok.shop.n1
  have hlh := hide hl
  have H0 := hide (And.intro hb0 (And.intro hbr (And.intro hx (And.intro hb2 (And.intro (hk.below hb0) (And.intro h0 hq))))))
  have HL := hide hW
  clear hx hb0 hbr hb1 hb2 hW hk hl h0 hq
  rw [show #[Value.pointer (some ⟨gx, 0, none⟩)] ++ #[.pointer (some ⟨bl, 0, none⟩), .pointer (some ⟨bs, 0, none⟩)] = #[Value.pointer (some ⟨gx, 0, none⟩), .pointer (some ⟨bl, 0, none⟩), .pointer (some ⟨bs, 0, none⟩)] from rfl]
  go_enter Tryz.func81, Tryz.ntmps81
  go_upto_region 1 with fail
  rw [← HL.out]
  go_wp2_with fail
  refine (stateOf_c W gx 3000 c A 11 ks R _ _ Ws (OpenG.below H0.out.2.2.1 H0.out.1) H0.out.2.2.2.2.1 hc hm (by rw [hlh.out, hrl.out]) (by rw [hrl.out]; exact hm8) H0.out.2.2.2.2.2.1 hsum (by omega)).mono ?_
  rintro e wS ⟨_, rfl, rfl, hd1⟩
  obtain ⟨xs, hxs⟩ : ∃ xs, xs = stOf ks := ⟨_, rfl⟩
  have h8 : xs.length = 8 := by rw [hxs]; exact stOf_length ks
  have hx12 : ∀ x ∈ xs, 0 ≤ x ∧ x ≤ 11 := by rw [hxs]; exact stOf_bound11 H0.out.2.2.2.2.2.1 hsum
  have hxsum : xs.sum ≤ 11 := by rw [hxs, stOf_sum ks (by rw [hlh.out]; exact hm8)]; exact hsum
  have hq := H0.out.2.2.2.2.2.2
  rw [← hxs] at hq ⊢
  obtain ⟨x0, x1, x2, x3, x4, x5, x6, x7, hxe⟩ := eight h8
  rw [show stV xs = .agg #[.int .i64 x0, .int .i64 x1, .int .i64 x2, .int .i64 x3, .int .i64 x4, .int .i64 x5, .int .i64 x6, .int .i64 x7] by rw [hxe]; rfl]
  obtain ⟨W2, hW2⟩ : ∃ W2, W2 = (wS.alloc (.cells #[.int .i64 x0, .int .i64 x1, .int .i64 x2, .int .i64 x3, .int .i64 x4, .int .i64 x5, .int .i64 x6, .int .i64 x7] 116)).alloc (.cells #[.bool false, .slice none 0 0, .slice none 0 0] 43) := ⟨_, rfl⟩
  have hb2 : Below wS.heap.size wS W2 := by rw [hW2]; exact below_al (below_al (Below.refl _ _) _) _
  have hst2 : Blk W2 wS.heap.size 116 .i64 xs := by rw [hW2, hxe]; exact (Blk.new wS 116 .i64 [x0, x1, x2, x3, x4, x5, x6, x7]).keep (below_al (Below.refl _ _) _)
  have hout : RowC W2 (wS.heap.size + 1) [0] 3000 := by
    have := row_zero (wS.alloc (.cells #[.int .i64 x0, .int .i64 x1, .int .i64 x2, .int .i64 x3, .int .i64 x4, .int .i64 x5, .int .i64 x6, .int .i64 x7] 116)) 3000
    rw [show (wS.alloc (.cells #[.int .i64 x0, .int .i64 x1, .int .i64 x2, .int .i64 x3, .int .i64 x4, .int .i64 x5, .int .i64 x6, .int .i64 x7] 116)).heap.size = wS.heap.size + 1 by simp] at this
    rw [hW2]; exact this
  have hd2 := below_next hd1 hb2
  obtain ⟨va, vb, vc, vd, hbox, hvR, hvW, -, -⟩ := OpenS.box H0.out.2.2.1
  obtain ⟨AR, cr, rfl, hcr, hmr, -⟩ := id hvR
  obtain ⟨AW, cw, rfl, hcw, hmw, -⟩ := id hvW
  unfold maxLen at hmr hmw
  have hww := below_next H0.out.1 hd2
  obtain ⟨y0', y1', y2', y3', -⟩ := four_cells (at_later hbox hww)
  have hgl := lt_of_block (at_later hbox hww)
  have hsz1 : w.heap.size < wS.heap.size := by have h1 := H0.out.2.1.lt; have h2 := hd1.size; omega
  have H2 := hide (And.intro hst2 (And.intro hout (And.intro (H0.out.2.1.below hd2) hww)))
  have HXX0 := hide (And.intro hx12 (And.intro hxsum (And.intro hxe hq)))
  have HB := hide (And.intro hbox (And.intro hvR hvW))
  have HL2 := hide hW2
  have h8h := hide h8
  clear hd1 hb2 hst2 hout hd2 hww hbox hvR hvW hW2 z0 hx12 hxsum hxe hq h8 hxs
  go_upto_region 5 with fail
  rw [← HL2.out]
  go_wp2_with fail
  go_loopw [27] (fun s27 wr => ∃ i : Nat, i ≤ R.length ∧ s27 = .int .i64 i ∧ RowC wr (wS.heap.size + 1) [sumN (seeN m R Ws st xs) i] 3000 ∧ RowC wr w.heap.size [0] 3000 ∧ Blk wr wS.heap.size 116 .i64 xs ∧ Below w.heap.size w wr) (fun s27 _ => R.length - (intOf s27).toNat)
  case atStart => exact ⟨0, Nat.zero_le _, rfl, H2.out.2.1, H2.out.2.2.1, H2.out.1, H2.out.2.2.2⟩
  case round =>
    obtain ⟨i, hi, rfl, hacc, hres, hstb, hbel⟩ := hrel
    have hbsr := at_later H0.out.2.2.2.1 hbel
    obtain ⟨v0, -⟩ := one_cell hbsr
    have hlacc := hacc.lt
    have hlst := hstb.lt
    have hxe := HXX0.out.2.2.1
    have hst' := hstb
    rw [hxe] at hst'
    have q0 : wr.cell? ⟨wS.heap.size, 0, none⟩ = some (.int .i64 x0) := hst'.cell (j := 0) (by simp)
    have q1 : wr.cell? ⟨wS.heap.size, 1, none⟩ = some (.int .i64 x1) := hst'.cell (j := 1) (by simp)
    have q2 : wr.cell? ⟨wS.heap.size, 2, none⟩ = some (.int .i64 x2) := hst'.cell (j := 2) (by simp)
    have q3 : wr.cell? ⟨wS.heap.size, 3, none⟩ = some (.int .i64 x3) := hst'.cell (j := 3) (by simp)
    have q4 : wr.cell? ⟨wS.heap.size, 4, none⟩ = some (.int .i64 x4) := hst'.cell (j := 4) (by simp)
    have q5 : wr.cell? ⟨wS.heap.size, 5, none⟩ = some (.int .i64 x5) := hst'.cell (j := 5) (by simp)
    have q6 : wr.cell? ⟨wS.heap.size, 6, none⟩ = some (.int .i64 x6) := hst'.cell (j := 6) (by simp)
    have q7 : wr.cell? ⟨wS.heap.size, 7, none⟩ = some (.int .i64 x7) := hst'.cell (j := 7) (by simp)
    by_cases hlt : i < R.length
    · have i1 : (i : Int) < (R.length : Int) := by omega
      have him : i < m := by have := hrl.out; omega
      have hww2 : Below w.heap.size w wr := hbel
      -- the rates and the ways
      obtain ⟨-, -, -, hcR⟩ := (HB.out.2.1.below hbel).at_
      obtain ⟨br, orr, eR, hclR⟩ := hcR (by omega)
      subst eR
      obtain ⟨s2, A2, n2, c2, B2, m2, d2, e3, e4, e5, hq2⟩ := (hclR i hlt).rat
      obtain ⟨-, -, -, hcW⟩ := (HB.out.2.2.below hbel).at_
      obtain ⟨bw, ow, eW, hclW⟩ := hcW (by rw [hwl.out]; omega)
      subst eW
      obtain ⟨u, hu0, hur⟩ := hclW i (by rw [hwl.out]; exact him)
      obtain ⟨Ai, ci, rfl, hci, hmi, -⟩ := id hur
      have hrowl := hs.ok.shop.rows i him
      obtain ⟨-, -, -, hcI⟩ := hur.at_
      obtain ⟨bi, oi, eI, hclI⟩ := hcI (by rw [hrowl]; omega)
      subst eI
      obtain ⟨s3, A3, n3, c3, B3, m3, d3, e6, e7, e8, hq3⟩ := (hclI st (by rw [hrowl]; exact hst)).rat
      rw [hrowl] at hu0 hci
      unfold maxLen at hmi
      obtain ⟨s1, A1, n1, c1, B1, m1, d1, e0, e1, e2, hq1⟩ := (hacc.2 0 (by simp)).rat
      simp only [Nat.zero_mul, Nat.zero_add] at e0 e1 e2
      simp only [List.getD_cons_zero] at hq1
      obtain ⟨g0, g1, g2, g3, -⟩ := four_cells (at_later HB.out.1 hbel)
      have hglr := lt_of_block (at_later HB.out.1 hbel)
      -- the state with one more
      obtain ⟨WA, hWA⟩ : ∃ WA, WA = wr.alloc (.cells #[.int .i64 x0, .int .i64 x1, .int .i64 x2, .int .i64 x3, .int .i64 x4, .int .i64 x5, .int .i64 x6, .int .i64 x7] 116) := ⟨_, rfl⟩
      have hbA : Below wr.heap.size wr WA := by rw [hWA]; exact below_al (Below.refl _ _) _
      have hmA : Blk WA wr.heap.size 116 .i64 xs := by rw [hWA, hxe]; exact Blk.new wr 116 .i64 [x0, x1, x2, x3, x4, x5, x6, x7]
      have hh8 := h8h.out
      have k0 := hmA.cell (j := i) (by omega)
      have kf := hmA.frozen i
      obtain ⟨xi, hxi0⟩ : ∃ xi, xi = xs.getD i 0 := ⟨_, rfl⟩
      rw [← hxi0] at k0
      have hlA := hmA.lt
      obtain ⟨WB, hWB⟩ : ∃ WB, WB = WA.setCell ⟨wr.heap.size, i, none⟩ (.int .i64 (xi + 1)) := ⟨_, rfl⟩
      have hmB : Blk WB wr.heap.size 116 .i64 (moreV xs i) := by rw [hWB, hxi0]; exact hmA.set_ i _
      have hbB : Below wr.heap.size wr WB := by rw [hWB]; exact hbA.setCell (Nat.le_refl _) _
      have hxi : 0 ≤ xi ∧ xi ≤ 11 := by rw [hxi0]; exact HXX0.out.1 _ (by rw [show xs.getD i 0 = xs[i] by simp [List.getD, show i < xs.length by omega]]; exact List.getElem_mem _)
      have iw : IntKind.i64.wrap (xi + 1) = xi + 1 := IntWalk.i64_in _ (by omega)
      have h8y : (moreV xs i).length = 8 := by rw [moreV_length]; exact hh8
      have hYb := moreV_bound HXX0.out.1 i
      have hYs : (moreV xs i).sum ≤ 12 := by rw [moreV_sum xs i (by omega)]; have := HXX0.out.2.1; omega
      obtain ⟨y0, y1, y2, y3, y4, y5, y6, y7, hye⟩ := eight h8y
      have HY0 := hide hye
      rw [hye] at hmB hYb hYs h8y
      have hfs := hs.see_fit hwf st hst xs HXX0.out.1 (by omega) HXX0.out.2.1
      have hfsum : ∀ k, k ≤ m → FitQ 3000 (sumN (seeN m R Ws st xs) k) := fun k hk => (fit_sum (L := 280) k (fun j hj => (hfs j (by omega)).2)).more (by omega)
      have hS : ∀ w', Below WB.heap.size WB w' → (w'.cell? ⟨wS.heap.size + 1, 0, none⟩ = some (.bool s1) ∧ w'.cell? ⟨wS.heap.size + 1, 1, none⟩ = some (.slice A1 n1 c1) ∧ w'.cell? ⟨wS.heap.size + 1, 2, none⟩ = some (.slice B1 m1 d1)) ∧ w'.cell? ⟨gx, 0, none⟩ = some (.slice (some ⟨br, orr, none⟩) R.length cr) ∧ w'.cell? ⟨gx, 1, none⟩ = some (.slice (some ⟨bw, ow, none⟩) Ws.length cw) ∧ (w'.cell? ⟨br, orr + i * 3, none⟩ = some (.bool s2) ∧ w'.cell? ⟨br, orr + i * 3 + 1, none⟩ = some (.slice A2 n2 c2) ∧ w'.cell? ⟨br, orr + i * 3 + 2, none⟩ = some (.slice B2 m2 d2)) ∧ w'.cell? ⟨bw, ow + i, none⟩ = some (.slice (some ⟨bi, oi, none⟩) m ci) ∧ (w'.cell? ⟨bi, oi + st * 3, none⟩ = some (.bool s3) ∧ w'.cell? ⟨bi, oi + st * 3 + 1, none⟩ = some (.slice A3 n3 c3) ∧ w'.cell? ⟨bi, oi + st * 3 + 2, none⟩ = some (.slice B3 m3 d3)) ∧ w'.cell? ⟨bs, 0, none⟩ = some (.int .i64 (st : Int)) ∧ w'.cell? ⟨wr.heap.size, 0, none⟩ = some (.int .i64 y0) ∧ w'.cell? ⟨wr.heap.size, 1, none⟩ = some (.int .i64 y1) ∧ w'.cell? ⟨wr.heap.size, 2, none⟩ = some (.int .i64 y2) ∧ w'.cell? ⟨wr.heap.size, 3, none⟩ = some (.int .i64 y3) ∧ w'.cell? ⟨wr.heap.size, 4, none⟩ = some (.int .i64 y4) ∧ w'.cell? ⟨wr.heap.size, 5, none⟩ = some (.int .i64 y5) ∧ w'.cell? ⟨wr.heap.size, 6, none⟩ = some (.int .i64 y6) ∧ w'.cell? ⟨wr.heap.size, 7, none⟩ = some (.int .i64 y7) := fun w' h => by
        have e : ∀ b o v, wr.cell? ⟨b, o, none⟩ = some v → w'.cell? ⟨b, o, none⟩ = some v := fun b o v hv => ((below_next hbB h).cell (lt_of_cell hv)).trans hv
        have ey : ∀ o v, WB.cell? ⟨wr.heap.size, o, none⟩ = some v → w'.cell? ⟨wr.heap.size, o, none⟩ = some v := fun o v hv => (h.cell (lt_of_cell hv)).trans hv
        exact ⟨⟨e _ _ _ e0, e _ _ _ e1, e _ _ _ e2⟩, e _ _ _ g0, e _ _ _ g1, ⟨e _ _ _ e3, e _ _ _ e4, e _ _ _ e5⟩, e _ _ _ hu0, ⟨e _ _ _ e6, e _ _ _ e7, e _ _ _ e8⟩, e _ _ _ v0, ey _ _ (hmB.cell (j := 0) (by simp)), ey _ _ (hmB.cell (j := 1) (by simp)), ey _ _ (hmB.cell (j := 2) (by simp)), ey _ _ (hmB.cell (j := 3) (by simp)), ey _ _ (hmB.cell (j := 4) (by simp)), ey _ _ (hmB.cell (j := 5) (by simp)), ey _ _ (hmB.cell (j := 6) (by simp)), ey _ _ (hmB.cell (j := 7) (by simp))⟩
      have hdr : Below WB.heap.size WB WB.drew := (Below.refl _ _).drew
      have HSS := hide hS
      have HY := hide (And.intro hYb (And.intro hYs (show chQ (ldF m R Ws) m (moreV xs i) = chQ (ldF m R Ws) m [y0, y1, y2, y3, y4, y5, y6, y7] by rw [hye])))
      have HQ := hide (And.intro (hq1.below hbB) (And.intro (hq2.below hbB) (show RatV WB _ (ent Ws i st) 3000 from hq3.below hbB)))
      have HI := hide (And.intro (hacc.below hbB) (And.intro (hres.below hbB) (And.intro (hstb.keep hbB) (hbel.trans (hbB.mono hbel.size)))))
      have HXB := hide (OpenG.below (OpenG.below H0.out.2.2.1 hbel) hbB)
      have HF := hide (And.intro ((hs.rf i him).more (show 10 ≤ 3000 by omega)) (And.intro ((hfs i him).1.more (show 20 ≤ 3000 by omega)) (And.intro ((hfs i him).2.more (show 280 ≤ 3000 by omega)) (And.intro (hfsum i (by omega)) (show FitQ 3000 (sumN (seeN m R Ws st xs) i + seeN m R Ws st xs i) from hfsum (i + 1) (by omega))))))
      have i2 : (i : Int) < 8 := by omega
      have i3 : (i : Int) < (m : Int) := by omega
      have i4 : (st : Int) < (m : Int) := by omega
      have i5 : (i : Int) < (Ws.length : Int) := by rw [hwl.out]; omega
      have HLA := hide hWA
      have HLB := hide hWB
      clear hS hacc hres hstb hbel hww2 hq1 hq2 hq3 hcR hclR hcW hclW hur hcI hclI hu0 e0 e1 e2 e3 e4 e5 e6 e7 e8 hbA hmA hmB hbB hWA hWB hYb hYs hye hfs hfsum hst' hxe hh8 hbsr g0 g1 g2 g3 hrowl hxi0
      go_upto_region 9 with fail
      rw [← HLA.out]
      clear q0 q1 q2 q3 q4 q5 q6 q7
      go_upto_region 10 with fail
      rw [← HLB.out]
      clear k0 kf v0
      refine till_begin (fun w' => (w'.cell? ⟨wS.heap.size + 1, 0, none⟩ = some (.bool s1) ∧ w'.cell? ⟨wS.heap.size + 1, 1, none⟩ = some (.slice A1 n1 c1) ∧ w'.cell? ⟨wS.heap.size + 1, 2, none⟩ = some (.slice B1 m1 d1)) ∧ w'.cell? ⟨gx, 0, none⟩ = some (.slice (some ⟨br, orr, none⟩) R.length cr) ∧ w'.cell? ⟨gx, 1, none⟩ = some (.slice (some ⟨bw, ow, none⟩) Ws.length cw) ∧ (w'.cell? ⟨br, orr + i * 3, none⟩ = some (.bool s2) ∧ w'.cell? ⟨br, orr + i * 3 + 1, none⟩ = some (.slice A2 n2 c2) ∧ w'.cell? ⟨br, orr + i * 3 + 2, none⟩ = some (.slice B2 m2 d2)) ∧ w'.cell? ⟨bw, ow + i, none⟩ = some (.slice (some ⟨bi, oi, none⟩) m ci) ∧ (w'.cell? ⟨bi, oi + st * 3, none⟩ = some (.bool s3) ∧ w'.cell? ⟨bi, oi + st * 3 + 1, none⟩ = some (.slice A3 n3 c3) ∧ w'.cell? ⟨bi, oi + st * 3 + 2, none⟩ = some (.slice B3 m3 d3)) ∧ w'.cell? ⟨bs, 0, none⟩ = some (.int .i64 (st : Int)) ∧ w'.cell? ⟨wr.heap.size, 0, none⟩ = some (.int .i64 y0) ∧ w'.cell? ⟨wr.heap.size, 1, none⟩ = some (.int .i64 y1) ∧ w'.cell? ⟨wr.heap.size, 2, none⟩ = some (.int .i64 y2) ∧ w'.cell? ⟨wr.heap.size, 3, none⟩ = some (.int .i64 y3) ∧ w'.cell? ⟨wr.heap.size, 4, none⟩ = some (.int .i64 y4) ∧ w'.cell? ⟨wr.heap.size, 5, none⟩ = some (.int .i64 y5) ∧ w'.cell? ⟨wr.heap.size, 6, none⟩ = some (.int .i64 y6) ∧ w'.cell? ⟨wr.heap.size, 7, none⟩ = some (.int .i64 y7)) [0, 1, 2, 3, 4, 5, 6, 7, 8, 9, 10, 11, 12, 13, 14, 15, 16, 17, 18, 19, 20, 21, 22, 23, 24, 25, 26] (by kernel_rfl) (HSS.out _ hdr) (fun hHeld => ?_)
      refine tt (i := 1) hHeld (some 37) ?_
      try simp only [Act.put, ptA, ptB, ptC]
      refine tt (i := 2) hHeld (some 38) ?_
      try simp only [Act.put, ptA, ptB, ptC]
      refine tt (i := 3) hHeld (some 39) ?_
      try simp only [Act.put, ptA, ptB, ptC]
      refine tt (i := 4) hHeld (some 40) ?_
      try simp only [Act.put, ptA, ptB, ptC]
      refine tt (i := 6) hHeld (some 42) ?_
      try simp only [Act.put, ptA, ptB, ptC]
      refine tt (i := 9) hHeld (some 45) ?_
      try simp only [Act.put, ptA, ptB, ptC]
      refine tt (i := 10) hHeld (some 46) ?_
      try simp only [Act.put, ptA, ptB, ptC]
      refine tt (i := 11) hHeld (some 47) ?_
      try simp only [Act.put, ptA, ptB, ptC]
      refine tt (i := 12) hHeld (some 48) ?_
      try simp only [Act.put, ptA, ptB, ptC]
      refine tt (i := 14) hHeld (some 50) ?_
      try simp only [Act.put, ptA, ptB, ptC]
      refine tt (i := 20) hHeld (some 56) ?_
      try simp only [Act.put, ptA, ptB, ptC]
      refine tt (i := 0) hHeld (some 36) ?_
      try simp only [Act.put, ptA, ptB, ptC]
      refine tt (i := 5) hHeld (some 41) ?_
      try simp only [Act.put, ptA, ptB, ptC]
      refine tt (i := 7) hHeld (some 43) ?_
      try simp only [Act.put, ptA, ptB, ptC]
      refine tt (i := 8) hHeld (some 44) ?_
      try simp only [Act.put, ptA, ptB, ptC]
      refine tt (i := 13) hHeld (some 49) ?_
      try simp only [Act.put, ptA, ptB, ptC]
      refine tt (i := 15) hHeld (some 51) ?_
      try simp only [Act.put, ptA, ptB, ptC]
      refine tt (i := 16) hHeld (some 52) ?_
      try simp only [Act.put, ptA, ptB, ptC]
      refine tt (i := 17) hHeld (some 53) ?_
      try simp only [Act.put, ptA, ptB, ptC]
      refine tt (i := 18) hHeld (some 54) ?_
      try simp only [Act.put, ptA, ptB, ptC]
      refine tt (i := 19) hHeld (some 55) ?_
      try simp only [Act.put, ptA, ptB, ptC]
      refine tt (i := 21) hHeld (some 57) ?_
      try simp only [Act.put, ptA, ptB, ptC]
      refine till_ready (rs := [22]) (by kernel_rfl) (by simp) ?_
      refine mem1 ?_
      refine till_step rfl (fun K hK => ?_)
      go_simp
      go_at_call 85
      refine (chance_c _ gx [y0, y1, y2, y3, y4, y5, y6, y7] h8y HY.out.1 HY.out.2.1 R _ (ldV m R Ws) Ws (OpenG.below HXB.out hdr) hs.ld').mono ?_
      rintro e w1 ⟨v4, rfl, hr4, hd⟩
      replace hr4 : RatV w1 v4 (chQ (ldF m R Ws) m (moreV xs i)) 3000 := by rw [HY.out.2.2]; rw [hs.len] at hr4; exact hr4
      obtain ⟨s4, A4, n4, c4, B4, m4, d4, rfl⟩ := hr4.shape
      have H4 := hide hr4
      clear hr4
      have hg1 : Below WB.heap.size WB w1 := hdr.trans (hd.mono hdr.size)
      clear hd
      go_wp2_with fail
      refine hK.out _ _ (HSS.out _ hg1) (fun hHeld => ?_)
      clear hK K
      try simp only [Act.put, ptA, ptB, ptC]
      refine till_ready (rs := [23]) (by kernel_rfl) (by simp) ?_
      refine mem1 ?_
      refine till_step rfl (fun K hK => ?_)
      go_simp
      have HP2 := row_three (HQ.out.2.1.below hg1) (HQ.out.2.2.below hg1) (H4.out)
      have hg2 := below_al hg1 (.cells #[.bool s2, .slice A2 n2 c2, .slice B2 m2 d2, .bool s3, .slice A3 n3 c3, .slice B3 m3 d3, .bool s4, .slice A4 n4 c4, .slice B4 m4 d4] 43)
      have HP := hide HP2
      clear HP2
      refine hK.out _ _ (HSS.out _ hg2) (fun hHeld => ?_)
      clear hK K
      try simp only [Act.put, ptA, ptB, ptC]
      refine till_ready (rs := [24]) (by kernel_rfl) (by simp) ?_
      refine mem1 ?_
      refine till_step rfl (fun K hK => ?_)
      go_simp
      go_at_call 84
      refine (product_c _ _ [R.getD i 0, ent Ws i st, chQ (ldF m R Ws) m (moreV xs i)] 3000 HP.out (by omega) (by omega) (prod3_fit (by omega) HF.out.1 HF.out.2.1 HF.out.2.2.1)).mono ?_
      rintro e w3 ⟨v5, rfl, hr5, hd⟩
      replace hr5 : RatV w3 v5 (seeN m R Ws st xs i) 3000 := by unfold seeN; rw [← prod3]; exact hr5
      obtain ⟨s5, A5, n5, c5, B5, m5, d5, rfl⟩ := hr5.shape
      have H5 := hide hr5
      clear hr5
      have hg3 : Below WB.heap.size WB w3 := hg2.trans (hd.mono hg2.size)
      clear hd
      go_wp2_with fail
      refine hK.out _ _ (HSS.out _ hg3) (fun hHeld => ?_)
      clear hK K
      try simp only [Act.put, ptA, ptB, ptC]
      refine till_ready (rs := [25]) (by kernel_rfl) (by simp) ?_
      refine mem1 ?_
      refine till_step rfl (fun K hK => ?_)
      go_simp
      have HP24 := row_pair (HQ.out.1.below hg3) (H5.out)
      have hg4 := below_al hg3 (.cells #[.bool s1, .slice A1 n1 c1, .slice B1 m1 d1, .bool s5, .slice A5 n5 c5, .slice B5 m5 d5] 43)
      have HP2 := hide HP24
      clear HP24
      refine hK.out _ _ (HSS.out _ hg4) (fun hHeld => ?_)
      clear hK K
      try simp only [Act.put, ptA, ptB, ptC]
      refine till_ready (rs := [26]) (by kernel_rfl) (by simp) ?_
      refine mem1 ?_
      refine till_step rfl (fun K hK => ?_)
      go_simp
      go_at_call 83
      refine (sum_c _ _ [sumN (seeN m R Ws st xs) i, seeN m R Ws st xs i] 3000 HP2.out (by omega) (sum2_fit HF.out.2.2.2.1 HF.out.2.2.2.2)).mono ?_
      rintro e w5 ⟨v6, rfl, hr6, hd⟩
      replace hr6 : RatV w5 v6 (sumN (seeN m R Ws st xs) (i + 1)) 3000 := by rw [sumN, ← sum2]; exact hr6
      obtain ⟨s6, A6, n6, c6, B6, m6, d6, rfl⟩ := hr6.shape
      have H6 := hide hr6
      clear hr6
      have hg5 : Below WB.heap.size WB w5 := hg4.trans (hd.mono hg4.size)
      clear hd
      go_wp2_with fail
      refine hK.out _ _ (HSS.out _ hg5) (fun hHeld => ?_)
      clear hK K
      try simp only [Act.put, ptA, ptB, ptC]
      refine till_end (k := 27) (by rfl) (by rfl) (by kernel_rfl) ?_
      simp only [List.drop_succ_cons, List.drop_zero]
      clear hHeld
      have hoE := HI.out.1.below hg5
      obtain ⟨s', B1', m1', d1', B2', m2', d2', e0', e1', e2', -⟩ := (hoE.2 0 (by simp)).rat
      simp only [Nat.zero_mul, Nat.zero_add] at e0' e1' e2'
      have f0 := hoE.frozen 0
      have f1 := hoE.frozen 1
      have f2 := hoE.frozen 2
      have HG := hide (And.intro hoE hg5)
      clear hoE
      go_wp2
      case roundEnd =>
        obtain ⟨t1, t2, t3⟩ := HG.out.1.set3 (i := 0) (by simp) H6.out
        simp only [Nat.zero_mul, Nat.zero_add] at t1 t2 t3
        have hs3 := HI.out.2.2.2.size
        have hsG := HG.out.2.size
        have hbl := only_below (HI.out.2.2.2.trans (HG.out.2.mono hs3)) t3 (by omega) (by omega)
        refine ⟨⟨i + 1, by omega, by go_num, t1, ?_, ?_, hbl⟩, by simp [intOf]; omega⟩
        · exact (HI.out.2.1.below HG.out.2).same t2 (t3.block _ (by have := HI.out.2.1.lt; omega) (by intro e; injection e with e; omega))
        · exact (HI.out.2.2.1.keep HG.out.2).only t3 (by omega)
    · obtain rfl : i = R.length := by omega
      have hn0 := sum_nn (ks := xs) (fun x hx => (HXX0.out.1 x hx).1)
      obtain ⟨n, hn⟩ : ∃ n : Nat, xs.sum = (n : Int) := ⟨xs.sum.toNat, by omega⟩
      have hn11 : n ≤ 11 := by have := HXX0.out.2.1; omega
      have h8x : [x0, x1, x2, x3, x4, x5, x6, x7].length = 8 := rfl
      have HXX := hide (And.intro (show ∀ x ∈ [x0, x1, x2, x3, x4, x5, x6, x7], 0 ≤ x ∧ x ≤ 11 by rw [← hxe]; exact HXX0.out.1) (show [x0, x1, x2, x3, x4, x5, x6, x7].sum = (n : Int) by rw [← hxe]; exact hn))
      obtain ⟨s1, A1, n1, c1, B1, m1, d1, e0, e1, e2, hq1⟩ := (hacc.2 0 (by simp)).rat
      simp only [Nat.zero_mul, Nat.zero_add] at e0 e1 e2
      simp only [List.getD_cons_zero] at hq1
      rw [hrl.out] at hq1
      have HQE := hide (show sumN (seeN m R Ws st xs) m / spQ m R Ws st ((n : Int) + 1) = q by rw [← HXX0.out.2.2.2, seeQ, hn])
      have hfs := hs.see_fit hwf st hst xs HXX0.out.1 (by have := h8h.out; omega) HXX0.out.2.1
      have hfsum : FitQ 2249 (sumN (seeN m R Ws st xs) m) := (fit_sum (L := 280) m (fun j hj => (hfs j hj).2)).more (by omega)
      have hne := hs.sp_ne st hst ((n : Int) + 1) (by omega) (by omega)
      have hspf := (hs.rf st hst).mulA (hs.ld.at_fit st 1 ((n : Int) + 1) hst (by omega))
      have HF := hide (And.intro hne ((hfsum.divA hspf hne).more (show 2249 + (10 + 74) + 1 ≤ 3000 by omega)))
      have i1 : IntKind.i64.wrap ((n : Int) + 1) = (n : Int) + 1 := IntWalk.i64_in _ (by omega)
      have hS : ∀ w', Below wr.heap.size wr w' → (w'.cell? ⟨wS.heap.size + 1, 0, none⟩ = some (.bool s1) ∧ w'.cell? ⟨wS.heap.size + 1, 1, none⟩ = some (.slice A1 n1 c1) ∧ w'.cell? ⟨wS.heap.size + 1, 2, none⟩ = some (.slice B1 m1 d1)) ∧ w'.cell? ⟨bs, 0, none⟩ = some (.int .i64 (st : Int)) ∧ w'.cell? ⟨wS.heap.size, 0, none⟩ = some (.int .i64 x0) ∧ w'.cell? ⟨wS.heap.size, 1, none⟩ = some (.int .i64 x1) ∧ w'.cell? ⟨wS.heap.size, 2, none⟩ = some (.int .i64 x2) ∧ w'.cell? ⟨wS.heap.size, 3, none⟩ = some (.int .i64 x3) ∧ w'.cell? ⟨wS.heap.size, 4, none⟩ = some (.int .i64 x4) ∧ w'.cell? ⟨wS.heap.size, 5, none⟩ = some (.int .i64 x5) ∧ w'.cell? ⟨wS.heap.size, 6, none⟩ = some (.int .i64 x6) ∧ w'.cell? ⟨wS.heap.size, 7, none⟩ = some (.int .i64 x7) := fun w' h => by
        have e : ∀ b o v, wr.cell? ⟨b, o, none⟩ = some v → w'.cell? ⟨b, o, none⟩ = some v := fun b o v hv => (h.cell (lt_of_cell hv)).trans hv
        exact ⟨⟨e _ _ _ e0, e _ _ _ e1, e _ _ _ e2⟩, e _ _ _ v0, e _ _ _ q0, e _ _ _ q1, e _ _ _ q2, e _ _ _ q3, e _ _ _ q4, e _ _ _ q5, e _ _ _ q6, e _ _ _ q7⟩
      have hdr : Below wr.heap.size wr wr.drew := (Below.refl _ _).drew
      have HSS := hide hS
      have HQ := hide hq1
      have HI := hide (And.intro hres hbel)
      have HXB := hide (OpenG.below H0.out.2.2.1 hbel)
      clear hS hacc hres hstb hbel hq1 e0 e1 e2 hst' hxe hbsr hfs hfsum hne hspf hn hn0 v0 q0 q1 q2 q3 q4 q5 q6 q7
      go_upto_region 12 with fail
      refine till_begin (fun w' => (w'.cell? ⟨wS.heap.size + 1, 0, none⟩ = some (.bool s1) ∧ w'.cell? ⟨wS.heap.size + 1, 1, none⟩ = some (.slice A1 n1 c1) ∧ w'.cell? ⟨wS.heap.size + 1, 2, none⟩ = some (.slice B1 m1 d1)) ∧ w'.cell? ⟨bs, 0, none⟩ = some (.int .i64 (st : Int)) ∧ w'.cell? ⟨wS.heap.size, 0, none⟩ = some (.int .i64 x0) ∧ w'.cell? ⟨wS.heap.size, 1, none⟩ = some (.int .i64 x1) ∧ w'.cell? ⟨wS.heap.size, 2, none⟩ = some (.int .i64 x2) ∧ w'.cell? ⟨wS.heap.size, 3, none⟩ = some (.int .i64 x3) ∧ w'.cell? ⟨wS.heap.size, 4, none⟩ = some (.int .i64 x4) ∧ w'.cell? ⟨wS.heap.size, 5, none⟩ = some (.int .i64 x5) ∧ w'.cell? ⟨wS.heap.size, 6, none⟩ = some (.int .i64 x6) ∧ w'.cell? ⟨wS.heap.size, 7, none⟩ = some (.int .i64 x7)) [0, 1, 2, 3, 4, 5, 6, 7] (by kernel_rfl) (HSS.out _ hdr) (fun hHeld => ?_)
      refine tt (i := 1) hHeld (some 65) ?_
      try simp only [Act.put, ptA, ptB, ptC]
      refine tt (i := 0) hHeld (some 64) ?_
      try simp only [Act.put, ptA, ptB, ptC]
      refine tt (i := 2) hHeld (some 66) ?_
      try simp only [Act.put, ptA, ptB, ptC]
      refine tt (i := 3) hHeld (some 67) ?_
      try simp only [Act.put, ptA, ptB, ptC]
      refine till_ready (rs := [4]) (by kernel_rfl) (by simp) ?_
      refine mem1 ?_
      refine till_step rfl (fun K hK => ?_)
      go_simp
      go_at_call 87
      refine (jobs_c _ [x0, x1, x2, x3, x4, x5, x6, x7] h8x (fun x hx => ⟨(HXX.out.1 x hx).1, by have := (HXX.out.1 x hx).2; omega⟩)).mono ?_
      rintro e w1 ⟨_, rfl, rfl, hd⟩
      rw [HXX.out.2]
      have hg1 : Below wr.heap.size wr w1 := hdr.trans (hd.mono hdr.size)
      clear hd
      go_wp2_with fail
      refine hK.out _ _ (HSS.out _ hg1) (fun hHeld => ?_)
      clear hK K
      try simp only [Act.put, ptA, ptB, ptC]
      refine tt (i := 5) hHeld (some 69) ?_
      try simp only [Act.put, ptA, ptB, ptC]
      refine till_ready (rs := [6]) (by kernel_rfl) (by simp) ?_
      refine mem1 ?_
      refine till_step rfl (fun K hK => ?_)
      go_simp
      go_at_call 67
      refine (speed_c _ gx st 3000 ((n : Int) + 1) R _ (ldV m R Ws) Ws (OpenG.below HXB.out hg1) hs.ld' (by rw [hs.ok.shop.rl, hs.len]) (hs.rf st hst) (by rw [hs.len]; exact hst) (by omega) (by omega) (by omega) (by omega)).mono ?_
      rintro e w2 ⟨v5, rfl, hr5, hd⟩
      replace hr5 : RatV w2 v5 (spQ m R Ws st ((n : Int) + 1)) 3000 := by rw [hs.len] at hr5; exact hr5
      obtain ⟨s5, A5, n5, c5, B5, m5, d5, rfl⟩ := hr5.shape
      have H5 := hide hr5
      clear hr5
      have hg2 : Below wr.heap.size wr w2 := hg1.trans (hd.mono hg1.size)
      clear hd
      go_wp2_with fail
      refine hK.out _ _ (HSS.out _ hg2) (fun hHeld => ?_)
      clear hK K
      try simp only [Act.put, ptA, ptB, ptC]
      refine till_ready (rs := [7]) (by kernel_rfl) (by simp) ?_
      refine mem1 ?_
      refine till_step rfl (fun K hK => ?_)
      go_simp
      go_at_call 86
      refine (over_c' _ _ _ (sumN (seeN m R Ws st xs) m) (spQ m R Ws st ((n : Int) + 1)) 3000 3000 (HQ.out.below hg2) H5.out (by omega) HF.out.1 HF.out.2 (by omega)).mono ?_
      rintro e w3 ⟨v6, rfl, hr6, hd⟩
      replace hr6 : RatV w3 v6 q 3000 := by rw [← HQE.out]; exact hr6
      obtain ⟨s6, A6, n6, c6, B6, m6, d6, rfl⟩ := hr6.shape
      have H6 := hide hr6
      clear hr6
      have hg3 : Below wr.heap.size wr w3 := hg2.trans (hd.mono hg2.size)
      clear hd
      go_wp2_with fail
      refine hK.out _ _ (HSS.out _ hg3) (fun hHeld => ?_)
      clear hK K
      try simp only [Act.put, ptA, ptB, ptC]
      refine till_end (k := 8) (by rfl) (by rfl) (by kernel_rfl) ?_
      simp only [List.drop_succ_cons, List.drop_zero]
      clear hHeld
      have hrb := HI.out.1.below hg3
      obtain ⟨_, _, _, _, _, _, _, w0x, w1x, w2x, -⟩ := (hrb.2 0 (by simp)).rat
      simp only [Nat.zero_mul, Nat.zero_add] at w0x w1x w2x
      have f0 := hrb.frozen 0
      have f1 := hrb.frozen 1
      have f2 := hrb.frozen 2
      have hlt := hrb.lt
      have HU := hide (And.intro H6.out (HI.out.2.trans (hg3.mono HI.out.2.size)))
      clear hrb
      go_wp2
      refine bodyPost_ret (v := .agg #[.bool s6, .slice A6 n6 c6, .slice B6 m6 d6]) ?_ rfl ?_
      · simp [results, Tryz.results81, go_sem, w0x, w1x, w2x, hlt]
      have hr := HU.out.1
      obtain ⟨rn, rl, e, r1, r2⟩ := hr
      injection e with e
      simp only [Array.mk.injEq, List.cons.injEq, Value.bool.injEq, and_true] at e
      obtain ⟨rfl, rfl, rfl⟩ := e
      exact ⟨_, rfl, ⟨_, _, rfl, r1.set3 w0x w1x w2x, r2.set3 w0x w1x w2x⟩, below_set3 HU.out.2 (by omega) _ _ _⟩
end Go.Proofs.YtpoahodnakhmiaaGreat
