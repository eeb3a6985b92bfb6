/- Walks of the reference: integers. Walks of the reference: integers, the other sign, quotients, greatest common divisors. -/
import Derived.Test.YthnnbpnocefmgaaDivN
import Derived.Test.YthnnbpnocefmgaaRat4
import Derived.Test.YthnnbpnocefmgaaOver
namespace Go.Proofs.Ythnnbpnocefmgaa
set_option linter.unusedVariables false
set_option linter.unusedSimpArgs false
open Go.RowKit

theorem gcd9_c (w : World) (v v' : Value) (x y : Int) (L : Nat) (hx : LimV w v x L) (hy : LimV w v' y L) (hL : L ≤ 1073741000) :
    Calls Try.prog 53 #[v, v'] w (Ret (limR w (Int.gcd x y) L)) := by
  have HX := hide (And.intro hx hy)
  have hy0 := hy.nonneg
  have hx0 := hx.nonneg
  clear hx hy
  go_enter Try.func53, Try.ntmps53
  go_wp2
  go_loopg [0, 1] (y.toNat) (fun g s0 s1 wr => ∃ a b : Int, LimV wr s0 a L ∧ LimV wr s1 b L ∧ g = b.toNat ∧ Int.gcd a b = Int.gcd x y ∧ Below w.heap.size w wr)
  case atStart => exact ⟨x, y, HX.out.1, HX.out.2, rfl, rfl, Below.refl _ _⟩
  case round =>
    obtain ⟨a, b, ha, hb, rfl, hg, hbel⟩ := hrel
    have ha0 := ha.nonneg
    obtain ⟨A, c, ys, rfl, hc, hm, hya, hd, hn, rfl, hl⟩ := hb.open_
    by_cases hy1 : 0 < ys.length
    · have hb0 : 0 < val 1000000000 ys := val_pos (by omega) hd hn (by intro e; subst e; simp at hy1)
      have hm0 : 0 ≤ a % val 1000000000 ys := Int.emod_nonneg _ (by omega)
      have hm1 : a % val 1000000000 ys < val 1000000000 ys := Int.emod_lt_of_pos _ hb0
      have HH := hide (And.intro ha (And.intro hb hg)); clear ha hb hg hya hd hn
      go_wp2_with (go_at_call 54; refine (div9_c _ _ _ a _ L L HH.out.1 HH.out.2.1 hL hL hb0).mono ?_; rintro e w1 ⟨u, rfl, q, r, rfl, hq, hr, hb1⟩; have HQ := hide (And.intro hq hr); clear hq hr)
      go_roundg (a % val 1000000000 ys).toNat
      case measure => omega
      case rel => exact ⟨val 1000000000 ys, a % val 1000000000 ys, HH.out.2.1.below hb1, HQ.out.2, rfl, by rw [gcd_step]; exact HH.out.2.2, below_next hbel hb1⟩
    · obtain rfl : ys = [] := List.eq_nil_of_length_eq_zero (by omega)
      have HH := hide (And.intro ha hg); clear ha hb hg hya hd hn
      go_wp2
      go_ret
      refine ⟨_, rfl, ?_, hbel⟩
      have e := HH.out.2
      simp only [val, Int.gcd_zero_right] at e
      rw [← e, Int.natAbs_of_nonneg ha0]
      exact HH.out.1

/-- an integer: its sign, and it without its sign -/
def ZV (w : World) (v : Value) (z : Int) (L : Nat) : Prop := ∃ m, v = .agg #[.bool (decide (z < 0)), m] ∧ LimV w m (z.natAbs : Int) L
theorem ZV.below {w w' : World} {v : Value} {z : Int} {L : Nat} (h : ZV w v z L) (hb : Below w.heap.size w w') : ZV w' v z L := by
  obtain ⟨m, rfl, h1⟩ := h; exact ⟨m, rfl, h1.below hb⟩
theorem ZV.more {w : World} {v : Value} {z : Int} {L L' : Nat} (h : ZV w v z L) (hL : L ≤ L') : ZV w v z L' := by
  obtain ⟨m, rfl, h1⟩ := h; exact ⟨m, rfl, h1.more hL⟩
def zR (w : World) (z : Int) (L : Nat) (v : Value) (w' : World) : Prop := ZV w' v z L ∧ Below w.heap.size w w'

theorem sgd_natAbs (b : Bool) (x : Int) (h : 0 ≤ x) : ((sgd b x).natAbs : Int) = x ∧ decide (sgd b x < 0) = (b && decide (0 < x)) := by
  unfold sgd; cases b <;> simp <;> omega

/-- two cells that lie in a new block, a while later -/
theorem box2 {w w' : World} {a b : Value} {e : TypeId} (h : Below (w.heap.size + 1) (w.alloc (.cells #[a, b] e)) w') :
    w'.cell? ⟨w.heap.size, 0, none⟩ = some a ∧ w'.cell? ⟨w.heap.size, 1, none⟩ = some b ∧ w'.frozen? ⟨w.heap.size, 0, none⟩ = false ∧ w'.frozen? ⟨w.heap.size, 1, none⟩ = false ∧ w.heap.size < w'.heap.size := by
  have hh : w'.heap[w.heap.size]? = some (.cells #[a, b] e (0, 0)) := (h.block _ (by omega)).trans (heap_alloc_new w _)
  refine ⟨?_, ?_, ?_, ?_, ?_⟩
  · simp [World.cell?, hh]
  · simp [World.cell?, hh]
  · simp [World.frozen?, hh]
  · simp [World.frozen?, hh]
  · have := h.size; simp at this; omega

theorem lim_set2 {w : World} {v : Value} {x : Int} {L B : Nat} {a b : Value} (h : LimV w v x L) (hb : Below B w ((w.setCell ⟨B, 0, none⟩ a).setCell ⟨B, 1, none⟩ b)) {cs : Array Value} {e : TypeId} (hB : w.heap[B]? = some (.cells cs e (0, 0))) (he : e ≠ 3) :
    LimV ((w.setCell ⟨B, 0, none⟩ a).setCell ⟨B, 1, none⟩ b) v x L := by
  obtain ⟨A, c, xs, rfl, h1, h2, h3, h4⟩ := h
  refine ⟨A, c, xs, rfl, h1, h2, ?_, h4⟩
  intro hx
  obtain ⟨b', o, rfl, ht, hc⟩ := h3 hx
  have hne : b' ≠ B := Typed.ne ht ⟨_, _, hB⟩ (fun e' => he e'.symm)
  refine ⟨b', o, rfl, (ht.setCell _ _).setCell _ _, fun j hj => ?_⟩
  rw [World.cell?_setCell_other _ _ _ _ (by intro e; injection e with e1; exact hne e1.symm), World.cell?_setCell_other _ _ _ _ (by intro e; injection e with e1; exact hne e1.symm)]
  exact hc j hj

theorem int9_c (w : World) (b : Bool) (v : Value) (x : Int) (L : Nat) (hx : LimV w v x L) (hL : L ≤ 1073741824) :
    Calls Try.prog 22 #[.bool b, v] w (Ret (zR w (sgd b x) L)) := by
  have hx0 := hx.nonneg
  obtain ⟨A, c, xs, rfl, hc, hm, _⟩ := hx.open_
  have hz := lim_zero hx
  obtain ⟨s1, s2⟩ := sgd_natAbs b x hx0
  have hs : decide (sgd b x < 0) = (b && decide (0 < xs.length)) := by rw [s2]; congr 1; rw [decide_eq_decide]; omega
  have HX := hide (And.intro hx (And.intro s1 hs)); clear hx s1 s2 hs hz
  have hfin : ∀ bb w', bb = (b && decide (0 < xs.length)) → Below w.heap.size w w' → Ret (zR w (sgd b x) L) (.returned (.agg #[.bool bb, .slice A xs.length c])) w' := by
    intro bb w' hbb hb
    refine ⟨_, rfl, ⟨_, by rw [HX.out.2.2, hbb], ?_⟩, hb⟩
    rw [HX.out.2.1]; exact HX.out.1.below hb
  have HF := hide hfin; clear hfin
  cases b
  · go_enter Try.func22, Try.ntmps22
    go_wp2
    refine bodyPost_ret (v := .agg #[.bool false, .slice A xs.length c]) ?_ rfl ?_
    · simp [results, Try.results22, go_sem]
    · exact HF.out _ _ rfl ((Below.refl _ _).alloc (Nat.le_refl _) _)
  · by_cases h0 : 0 < xs.length
    · have hd : decide ((0 : Int) < (xs.length : Int)) = true := by rw [decide_eq_true_eq]; omega
      go_enter Try.func22, Try.ntmps22
      go_wp2
      refine bodyPost_ret (v := .agg #[.bool true, .slice A xs.length c]) ?_ rfl ?_
      · simp [results, Try.results22, go_sem]
      · exact HF.out _ _ (by simp [h0]) ((Below.refl _ _).alloc (Nat.le_refl _) _)
    · obtain rfl : xs = [] := List.eq_nil_of_length_eq_zero (by omega)
      go_enter Try.func22, Try.ntmps22
      go_wp2
      refine bodyPost_ret (v := .agg #[.bool false, .slice A 0 c]) ?_ rfl ?_
      · simp [results, Try.results22, go_sem]
      · exact HF.out _ _ (by simp) ((Below.refl _ _).alloc (Nat.le_refl _) _)
end Go.Proofs.Ythnnbpnocefmgaa
namespace Go.Proofs.Ythnnbpnocefmgaa
set_option linter.unusedVariables false
set_option linter.unusedSimpArgs false
open Go.RowKit

theorem at_new (w : World) (o : Obj) : (w.alloc o).heap[w.heap.size]? = some o := heap_alloc_new w o
theorem at_old {w : World} {b : Nat} {x : Obj} (h : w.heap[b]? = some x) (o : Obj) : (w.alloc o).heap[b]? = some x := (Below.heap_alloc _ _ _ (lt_of_block h)).trans h
theorem at_new' {w : World} {b : Nat} (o : Obj) (hb : w.heap.size = b) : (w.alloc o).heap[b]? = some o := by subst hb; exact heap_alloc_new w o
theorem at_later {w w' : World} {b : Nat} {x : Obj} (h : w.heap[b]? = some x) (hb : Below w.heap.size w w') : w'.heap[b]? = some x := (hb.block _ (lt_of_block h)).trans h

theorem two_cells {w : World} {B : Nat} {a b : Value} {e : TypeId} (hh : w.heap[B]? = some (.cells #[a, b] e (0, 0))) :
    w.cell? ⟨B, 0, none⟩ = some a ∧ w.cell? ⟨B, 1, none⟩ = some b ∧ w.frozen? ⟨B, 0, none⟩ = false ∧ w.frozen? ⟨B, 1, none⟩ = false := by
  refine ⟨?_, ?_, ?_, ?_⟩
  · simp [World.cell?, hh]
  · simp [World.cell?, hh]
  · simp [World.frozen?, hh]
  · simp [World.frozen?, hh]

theorem lim_put2 {w : World} {v : Value} {x : Int} {L B : Nat} {a b : Value} (h : LimV w v x L) {cs : Array Value} {e : TypeId} (hB : w.heap[B]? = some (.cells cs e (0, 0))) (he : e ≠ 3) :
    LimV ((w.setCell ⟨B, 0, none⟩ a).setCell ⟨B, 1, none⟩ b) v x L := by
  obtain ⟨A, c, xs, rfl, h1, h2, h3, h4⟩ := h
  refine ⟨A, c, xs, rfl, h1, h2, ?_, h4⟩
  intro hx
  obtain ⟨b', o, rfl, ht, hc⟩ := h3 hx
  have hne : b' ≠ B := Typed.ne ht ⟨_, _, hB⟩ (fun e' => he e'.symm)
  refine ⟨b', o, rfl, (ht.setCell _ _).setCell _ _, fun j hj => ?_⟩
  rw [World.cell?_setCell_other _ _ _ _ (by intro e; injection e with e1; exact hne e1.symm), World.cell?_setCell_other _ _ _ _ (by intro e; injection e with e1; exact hne e1.symm)]
  exact hc j hj
theorem zv_put2 {w : World} {v : Value} {x : Int} {L B : Nat} {a b : Value} (h : ZV w v x L) {cs : Array Value} {e : TypeId} (hB : w.heap[B]? = some (.cells cs e (0, 0))) (he : e ≠ 3) :
    ZV ((w.setCell ⟨B, 0, none⟩ a).setCell ⟨B, 1, none⟩ b) v x L := by
  obtain ⟨m, rfl, h1⟩ := h; exact ⟨m, rfl, lim_put2 h1 hB he⟩
theorem below_put2 {B0 B : Nat} {a w : World} {u v : Value} (h : Below B0 a w) (hB : B0 ≤ B) : Below B0 a ((w.setCell ⟨B, 0, none⟩ u).setCell ⟨B, 1, none⟩ v) := (h.setCell (by exact hB) _).setCell (by exact hB) _

/-- an integer, its parts as variables -/
theorem ZV.parts {w : World} {v : Value} {z : Int} {L : Nat} (h : ZV w v z L) : ∃ s A n c, v = .agg #[.bool s, .slice A n c] ∧ s = decide (z < 0) ∧ LimV w (.slice A n c) (z.natAbs : Int) L := by
  obtain ⟨m, rfl, h1⟩ := h
  obtain ⟨A, c, xs, rfl, _⟩ := h1.open_
  exact ⟨_, A, _, c, rfl, rfl, h1⟩

theorem neg9_c (w : World) (v : Value) (z : Int) (L : Nat) (hz : ZV w v z L) (hL : L ≤ 1073741824) :
    Calls Try.prog 29 #[v] w (Ret (zR w (-z) L)) := by
  obtain ⟨s, A, n, c, rfl, hs, hm⟩ := hz.parts
  have HS := hide hs; clear hs
  obtain ⟨W, hW⟩ : ∃ W, W = (w.alloc (.cells #[.bool s, .slice A n c] 32)).alloc (.cells #[.bool false, .slice none 0 0] 32) := ⟨_, rfl⟩
  have hb0 : Below w.heap.size w W := by rw [hW]; exact ((Below.refl _ _).alloc (Nat.le_refl _) _).alloc (by simp) _
  have h1 : W.heap[w.heap.size + 1]? = some (.cells #[.bool false, .slice none 0 0] 32) := by rw [hW]; exact at_new' _ (by simp)
  have HW := hide (And.intro hW (And.intro hb0 (And.intro h1 (hm.below hb0)))); clear hW hb0 h1 hm hz
  go_enter Try.func29, Try.ntmps29
  go_wp2_with fail
  rw [← HW.out.1]
  refine (int9_c _ _ _ _ L HW.out.2.2.2 hL).mono ?_
  rintro e w1 ⟨v1, rfl, hv1, hd⟩
  have h1 := at_later HW.out.2.2.1 hd
  obtain ⟨s1, A1, n1, c1, rfl, hs1, hm1⟩ := hv1.parts
  obtain ⟨x0, x1, f0, f1⟩ := two_cells h1
  have hb := below_next HW.out.2.1 hd
  have hlt := lt_of_block h1
  have HV := hide (And.intro hv1 (And.intro hs1 (And.intro hb h1))); clear hv1 hs1 hb h1 hm1 hd
  go_wp2
  refine bodyPost_ret (v := .agg #[.bool s1, .slice A1 n1 c1]) ?_ rfl ?_
  · simp [results, Try.results29, go_sem, x0, x1, hlt]
  have e : sgd (!s) (z.natAbs : Int) = -z := by rw [HS.out, sgd_neg, sgd_abs]
  obtain ⟨hv1, hs1, hb, h1⟩ := HV.out
  rw [e] at hv1
  exact ⟨_, rfl, zv_put2 hv1 h1 (by decide), below_put2 hb (by omega)⟩

theorem quo9_c (w : World) (v v' : Value) (x y : Int) (L L' : Nat) (hx : ZV w v x L) (hy : ZV w v' y L') (hL : L ≤ 1073741000) (hL' : L' ≤ 1073741000) (hy0 : y ≠ 0) :
    Calls Try.prog 28 #[v, v'] w (Ret (zR w (sgd (!(decide (x < 0) == decide (y < 0))) ((x.natAbs : Int) / (y.natAbs : Int))) L)) := by
  obtain ⟨s, A, n, c, rfl, hs, hm⟩ := hx.parts
  obtain ⟨t, B, m, d, rfl, ht, hn⟩ := hy.parts
  have HS := hide (And.intro hs ht); clear hs ht
  obtain ⟨W, hW⟩ : ∃ W, W = ((w.alloc (.cells #[.bool s, .slice A n c] 32)).alloc (.cells #[.bool t, .slice B m d] 32)).alloc (.cells #[.bool false, .slice none 0 0] 32) := ⟨_, rfl⟩
  have hb0 : Below w.heap.size w W := by rw [hW]; exact (((Below.refl _ _).alloc (Nat.le_refl _) _).alloc (by simp) _).alloc (by simp; omega) _
  have h0 : W.heap[w.heap.size]? = some (.cells #[.bool s, .slice A n c] 32) := by rw [hW]; exact at_old (at_old (at_new _ _) _) _
  have h1 : W.heap[w.heap.size + 1]? = some (.cells #[.bool t, .slice B m d] 32) := by rw [hW]; exact at_old (at_new' _ (by simp)) _
  have h2 : W.heap[w.heap.size + 2]? = some (.cells #[.bool false, .slice none 0 0] 32) := by rw [hW]; exact at_new' _ (by simp)
  have HW := hide (And.intro hW (And.intro hb0 (And.intro h0 (And.intro h1 (And.intro h2 (And.intro (hm.below hb0) (hn.below hb0))))))); clear hW hb0 h0 h1 h2 hm hn hx hy
  go_enter Try.func28, Try.ntmps28
  go_wp2_with fail
  rw [← HW.out.1]
  refine (div9_c _ _ _ _ _ L L' HW.out.2.2.2.2.2.1 HW.out.2.2.2.2.2.2 hL hL' (by omega)).mono ?_
  rintro e w1 ⟨_, rfl, q, r, rfl, hq, hr, hd1⟩
  obtain ⟨k0, _, _, _⟩ := two_cells (at_later HW.out.2.2.1 hd1)
  obtain ⟨m0, _, _, _⟩ := two_cells (at_later HW.out.2.2.2.1 hd1)
  obtain ⟨Aq, cq, qs, rfl, _⟩ := hq.open_
  have HQ := hide hq; clear hq hr
  go_wp2_with fail
  refine (int9_c _ _ _ _ L HQ.out (by omega)).mono ?_
  rintro e w2 ⟨v1, rfl, hv1, hd2⟩
  have h2 := at_later (at_later HW.out.2.2.2.2.1 hd1) hd2
  obtain ⟨s1, A1, n1, c1, rfl, hs1, hm1⟩ := hv1.parts
  obtain ⟨x0, x1, f0, f1⟩ := two_cells h2
  have hb := below_next (below_next HW.out.2.1 hd1) hd2
  have hlt := lt_of_block h2
  have HV := hide (And.intro hv1 (And.intro hs1 (And.intro hb h2))); clear hv1 hs1 hb h2 hm1 hd1 hd2
  go_wp2
  refine bodyPost_ret (v := .agg #[.bool s1, .slice A1 n1 c1]) ?_ rfl ?_
  · simp [results, Try.results28, go_sem, x0, x1, hlt]
  obtain ⟨hv1, hs1, hb, h2⟩ := HV.out
  rw [HS.out.1, HS.out.2] at hv1
  exact ⟨_, rfl, zv_put2 hv1 h2 (by decide), below_put2 hb (by omega)⟩

theorem gcdz_c (w : World) (v v' : Value) (x y : Int) (L L' : Nat) (hx : ZV w v x L) (hy : ZV w v' y L') (hL : L ≤ 1073741000) (hL' : L' ≤ L) :
    Calls Try.prog 27 #[v, v'] w (Ret (zR w ((Int.gcd x y : Int)) L)) := by
  obtain ⟨s, A, n, c, rfl, hs, hm⟩ := hx.parts
  obtain ⟨t, B, m, d, rfl, ht, hn⟩ := hy.parts
  have HS := hide (And.intro hs ht); clear hs ht
  obtain ⟨W, hW⟩ : ∃ W, W = ((w.alloc (.cells #[.bool s, .slice A n c] 32)).alloc (.cells #[.bool t, .slice B m d] 32)).alloc (.cells #[.bool false, .slice none 0 0] 32) := ⟨_, rfl⟩
  have hb0 : Below w.heap.size w W := by rw [hW]; exact (((Below.refl _ _).alloc (Nat.le_refl _) _).alloc (by simp) _).alloc (by simp; omega) _
  have h0 : W.heap[w.heap.size]? = some (.cells #[.bool s, .slice A n c] 32) := by rw [hW]; exact at_old (at_old (at_new _ _) _) _
  have h1 : W.heap[w.heap.size + 1]? = some (.cells #[.bool t, .slice B m d] 32) := by rw [hW]; exact at_old (at_new' _ (by simp)) _
  have h2 : W.heap[w.heap.size + 2]? = some (.cells #[.bool false, .slice none 0 0] 32) := by rw [hW]; exact at_new' _ (by simp)
  have HW := hide (And.intro hW (And.intro hb0 (And.intro h0 (And.intro h1 (And.intro h2 (And.intro (hm.below hb0) (hn.below hb0))))))); clear hW hb0 h0 h1 h2 hm hn hx hy
  go_enter Try.func27, Try.ntmps27
  go_wp2_with fail
  rw [← HW.out.1]
  refine (gcd9_c _ _ _ _ _ L HW.out.2.2.2.2.2.1 (HW.out.2.2.2.2.2.2.more hL') hL).mono ?_
  rintro e w1 ⟨g, rfl, hg, hd1⟩
  obtain ⟨Aq, cq, qs, rfl, _⟩ := hg.open_
  have HQ := hide hg; clear hg
  go_wp2_with fail
  refine (int9_c _ _ _ _ L HQ.out (by omega)).mono ?_
  rintro e w2 ⟨v1, rfl, hv1, hd2⟩
  have h2 := at_later (at_later HW.out.2.2.2.2.1 hd1) hd2
  obtain ⟨s1, A1, n1, c1, rfl, hs1, hm1⟩ := hv1.parts
  obtain ⟨x0, x1, f0, f1⟩ := two_cells h2
  have hb := below_next (below_next HW.out.2.1 hd1) hd2
  have hlt := lt_of_block h2
  have HV := hide (And.intro hv1 (And.intro hs1 (And.intro hb h2))); clear hv1 hs1 hb h2 hm1 hd1 hd2
  go_wp2
  refine bodyPost_ret (v := .agg #[.bool s1, .slice A1 n1 c1]) ?_ rfl ?_
  · simp [results, Try.results27, go_sem, x0, x1, hlt]
  obtain ⟨hv1, hs1, hb, h2⟩ := HV.out
  have e : sgd false (Int.gcd (x.natAbs : Int) (y.natAbs : Int) : Int) = (Int.gcd x y : Int) := by
    show (Int.gcd (x.natAbs : Int) (y.natAbs : Int) : Int) = _
    simp [Int.gcd]
  rw [e] at hv1
  exact ⟨_, rfl, zv_put2 hv1 h2 (by decide), below_put2 hb (by omega)⟩
end Go.Proofs.Ythnnbpnocefmgaa
