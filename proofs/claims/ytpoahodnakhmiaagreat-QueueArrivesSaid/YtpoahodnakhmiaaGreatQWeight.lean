/- Walks: a list as a state. Walks: state of the law. Walks: the weight of a state, and its chance. -/
import Derived.Test.YtpoahodnakhmiaaGreatQState
import Derived.Test.YtpoahodnakhmiaaGreatOpenI
namespace Go.Proofs.YtpoahodnakhmiaaGreat
set_option linter.unusedVariables false
set_option linter.unusedSimpArgs false
open Go.RowKit
/-- the state of which some numbers have been written -/
def stI (ks : List Int) (i : Nat) : List Int := (List.range 8).map fun j => if j < i then ks.getD j 0 else 0
def stOf (ks : List Int) : List Int := (List.range 8).map fun j => ks.getD j 0
theorem stI_length (ks : List Int) (i : Nat) : (stI ks i).length = 8 := by simp [stI]
theorem stOf_length (ks : List Int) : (stOf ks).length = 8 := by simp [stOf]
theorem stI_get (ks : List Int) (i j : Nat) (hj : j < 8) : (stI ks i).getD j 0 = if j < i then ks.getD j 0 else 0 := by unfold stI; simp [List.getD, hj]
theorem stOf_get (ks : List Int) (j : Nat) (hj : j < 8) : (stOf ks).getD j 0 = ks.getD j 0 := by unfold stOf; simp [List.getD, hj]
theorem int_ext0 {a b : List Int} (hl : a.length = b.length) (h : ∀ i, i < a.length → a.getD i 0 = b.getD i 0) : a = b := by
  refine List.ext_getElem hl fun i h1 h2 => ?_
  have := h i h1
  simpa [List.getD, h1, h2] using this
theorem getD_setI (l : List Int) (i j : Nat) (v : Int) (hi : i < l.length) : (l.set i v).getD j 0 = if i = j then v else l.getD j 0 := by
  simp only [List.getD, List.getElem?_set]
  by_cases e : i = j
  · subst e; simp [hi]
  · simp [e]
theorem stI_step (ks : List Int) (i : Nat) (hi : i < 8) : (stI ks i).set i (ks.getD i 0) = stI ks (i + 1) := by
  refine int_ext0 (by simp [stI]) fun j hj => ?_
  rw [List.length_set, stI_length] at hj
  rw [getD_setI _ _ _ _ (by rw [stI_length]; exact hi), stI_get ks i j hj, stI_get ks (i + 1) j hj]
  by_cases e : i = j
  · subst e; rw [if_pos rfl, if_pos (by omega)]
  · rw [if_neg e]
    by_cases h : j < i
    · rw [if_pos h, if_pos (by omega)]
    · rw [if_neg h, if_neg (by omega)]
theorem stI_all (ks : List Int) : stI ks ks.length = stOf ks := by
  refine int_ext0 (by rw [stI_length, stOf_length]) fun j hj => ?_
  rw [stI_length] at hj
  rw [stI_get ks _ j hj, stOf_get ks j hj]
  by_cases h : j < ks.length
  · rw [if_pos h]
  · rw [if_neg h]; simp [List.getD, show ks[j]? = none from List.getElem?_eq_none (by omega)]
theorem sum_take_step (ks : List Int) (i : Nat) (hi : i < ks.length) : (ks.take (i + 1)).sum = (ks.take i).sum + ks.getD i 0 := by
  rw [List.take_succ_eq_append_getElem hi, List.sum_append]
  simp [List.getD, hi]
theorem sum_nn {ks : List Int} (h : ∀ x ∈ ks, 0 ≤ x) : 0 ≤ ks.sum := by
  induction ks with
  | nil => simp
  | cons a l ih =>
    rw [List.sum_cons]
    have := h a (by simp)
    have := ih (fun x hx => h x (by simp [hx]))
    omega
theorem sum_take_le {ks : List Int} (h : ∀ x ∈ ks, 0 ≤ x) (i : Nat) : 0 ≤ (ks.take i).sum ∧ (ks.take i).sum ≤ ks.sum := by
  have h1 := sum_nn (ks := ks.take i) (fun x hx => h x (List.mem_of_mem_take hx))
  have h2 := sum_nn (ks := ks.drop i) (fun x hx => h x (List.mem_of_mem_drop hx))
  have h3 : ks.sum = (ks.take i).sum + (ks.drop i).sum := by rw [← List.sum_append, List.take_append_drop]
  omega
set_option maxRecDepth 100000 in
set_option maxHeartbeats 4000000 in
theorem stateOf_c (w : World) (gx L c : Nat) (A : Option Addr) (most : Int) (ks : List Int) (R V Ld : List Rat) (Ws : List (List Rat)) (hx : OpenS w gx R Ws V Ld L) (hk : Arr w A .i64 ks) (hc : ks.length ≤ c) (hm : c ≤ maxLen) (hl : ks.length = R.length) (h8 : R.length ≤ 8) (h0 : ∀ x ∈ ks, 0 ≤ x) (hs : ks.sum ≤ most) (hmost : most ≤ 12) :
    Calls Tryz.prog 82 #[.pointer (some ⟨gx, 0, none⟩), .slice A ks.length c, .int .i64 most] w (Ret (fun v w' => v = .tuple #[stV (stOf ks), .int .i64 0] ∧ Below w.heap.size w w')) := by
  obtain ⟨va, vb, vc, vd, hbox, hvR, -, -, -⟩ := hx.box
  obtain ⟨AR, cR, rfl, -, -, -⟩ := id hvR
  have hl' := hide hl
  unfold maxLen at hm
  obtain ⟨W, hW⟩ : ∃ W, W = (w.alloc (.cells #[.int .i64 0, .int .i64 0, .int .i64 0, .int .i64 0, .int .i64 0, .int .i64 0, .int .i64 0, .int .i64 0] 116)).alloc (.cells #[.int .i64 0, .int .i64 0, .int .i64 0, .int .i64 0, .int .i64 0, .int .i64 0, .int .i64 0, .int .i64 0] 116) := ⟨_, rfl⟩
  have hb0 : Below w.heap.size w W := by rw [hW]; exact below_al (below_al (Below.refl _ _) _) _
  have hbr : Blk W w.heap.size 116 .i64 [0, 0, 0, 0, 0, 0, 0, 0] := by rw [hW]; exact (Blk.new w 116 .i64 [0, 0, 0, 0, 0, 0, 0, 0]).keep (below_al (Below.refl _ _) _)
  have hbs : Blk W (w.heap.size + 1) 116 .i64 (stI ks 0) := by
    have h1 := Blk.new (w.alloc (.cells #[.int .i64 0, .int .i64 0, .int .i64 0, .int .i64 0, .int .i64 0, .int .i64 0, .int .i64 0, .int .i64 0] 116)) 116 .i64 [0, 0, 0, 0, 0, 0, 0, 0]
    rw [show (w.alloc (.cells #[.int .i64 0, .int .i64 0, .int .i64 0, .int .i64 0, .int .i64 0, .int .i64 0, .int .i64 0, .int .i64 0] 116)).heap.size = w.heap.size + 1 by simp] at h1
    rw [hW]; exact h1
  obtain ⟨y0, y1, y2, y3, -⟩ := four_cells hbox
  have hgl := lt_of_block hbox
  have H0 := hide (And.intro hb0 (And.intro hbr (And.intro hbs (And.intro hk h0))))
  have HL := hide hW
  have i0 : ((ks.length : Int) != (R.length : Int)) = false := by rw [hl]; simp
  clear hx hbox hvR hb0 hbr hbs hW hk hl
  go_enter Tryz.func82, Tryz.ntmps82
  go_upto_region 4 with fail
  rw [← HL.out]
  go_wp2_with fail
  go_loopw [24, 9] (fun s24 s9 wr => ∃ i : Nat, i ≤ ks.length ∧ s24 = .int .i64 i ∧ s9 = .int .i64 (ks.take i).sum ∧ Blk wr (w.heap.size + 1) 116 .i64 (stI ks i) ∧ Blk wr w.heap.size 116 .i64 [0, 0, 0, 0, 0, 0, 0, 0] ∧ Below w.heap.size w wr) (fun s24 _ _ => ks.length - (intOf s24).toNat)
  case atStart => exact ⟨0, Nat.zero_le _, rfl, rfl, H0.out.2.2.1, H0.out.2.1, H0.out.1⟩
  case round =>
    obtain ⟨i, hi, rfl, rfl, hbs, hbr, hbel⟩ := hrel
    by_cases hlt : i < ks.length
    · have h8' := hl'.out
      obtain ⟨bl, ol, rfl, -, hcl⟩ := (H0.out.2.2.2.1.below hbel).at_ (by omega)
      have z0 := hcl i hlt
      have z1 := hbs.cell (j := i) (by rw [stI_length]; omega)
      have f1 := hbs.frozen i
      have hz := hbs.lt
      have s1 := sum_take_le H0.out.2.2.2.2 i
      have s2 := sum_take_le H0.out.2.2.2.2 (i + 1)
      have s3 := sum_take_step ks i hlt
      have s4 : 0 ≤ ks.getD i 0 := H0.out.2.2.2.2 _ (by simp [List.getD, hlt])
      generalize hx : ks.getD i 0 = x at *
      generalize hn : (ks.take i).sum = n at *
      have i1 : (i : Int) < (ks.length : Int) := by omega
      have i2 : ¬ (x < 0) := by omega
      have i3 : ¬ (most < x) := by omega
      have i4 : ¬ (most < n + x) := by omega
      have i5 : IntKind.i64.wrap (n + x) = n + x := IntWalk.i64_in _ (by omega)
      have i6 : (i : Int) < 8 := by omega
      have HI := hide (And.intro hbs (And.intro hbr hbel))
      have HS := hide s3
      have HX := hide hx
      clear hbs hbr hbel hcl s1 s2 s3 hx hn h8'
      go_wp2
      case roundEnd =>
        obtain ⟨hbs, hbr, hbel⟩ := HI.out
        have t1 := hbs.set_ i x
        rw [← HX.out, stI_step ks i (by omega)] at t1
        have o1 := setCell_only wr (w.heap.size + 1) i (.int .i64 x)
        refine ⟨⟨i + 1, by omega, by go_num, by rw [HS.out], ?_, ?_, ?_⟩, by simp [intOf]; omega⟩
        · rw [← HX.out]; exact t1
        · exact hbr.only o1 (by omega)
        · exact hbel.setCell (show w.heap.size ≤ w.heap.size + 1 by omega) _
    · obtain rfl : i = ks.length := by omega
      rw [stI_all] at hbs
      have HI := hide (And.intro hbel True.intro)
      obtain ⟨z0, z1, z2, z3, z4, z5, z6, z7, hz⟩ := eight (stOf_length ks)
      rw [hz] at hbs
      have hst : stV (stOf ks) = Value.agg #[.int .i64 z0, .int .i64 z1, .int .i64 z2, .int .i64 z3, .int .i64 z4, .int .i64 z5, .int .i64 z6, .int .i64 z7] := by rw [hz]; rfl
      have k0 : wr.cell? ⟨w.heap.size + 1, 0, none⟩ = some (.int .i64 z0) := hbs.cell (j := 0) (by simp)
      have u0 : wr.cell? ⟨w.heap.size, 0, none⟩ = some (.int .i64 0) := hbr.cell (j := 0) (by simp)
      have f0 := hbr.frozen 0
      have k1 : wr.cell? ⟨w.heap.size + 1, 1, none⟩ = some (.int .i64 z1) := hbs.cell (j := 1) (by simp)
      have u1 : wr.cell? ⟨w.heap.size, 1, none⟩ = some (.int .i64 0) := hbr.cell (j := 1) (by simp)
      have f1 := hbr.frozen 1
      have k2 : wr.cell? ⟨w.heap.size + 1, 2, none⟩ = some (.int .i64 z2) := hbs.cell (j := 2) (by simp)
      have u2 : wr.cell? ⟨w.heap.size, 2, none⟩ = some (.int .i64 0) := hbr.cell (j := 2) (by simp)
      have f2 := hbr.frozen 2
      have k3 : wr.cell? ⟨w.heap.size + 1, 3, none⟩ = some (.int .i64 z3) := hbs.cell (j := 3) (by simp)
      have u3 : wr.cell? ⟨w.heap.size, 3, none⟩ = some (.int .i64 0) := hbr.cell (j := 3) (by simp)
      have f3 := hbr.frozen 3
      have k4 : wr.cell? ⟨w.heap.size + 1, 4, none⟩ = some (.int .i64 z4) := hbs.cell (j := 4) (by simp)
      have u4 : wr.cell? ⟨w.heap.size, 4, none⟩ = some (.int .i64 0) := hbr.cell (j := 4) (by simp)
      have f4 := hbr.frozen 4
      have k5 : wr.cell? ⟨w.heap.size + 1, 5, none⟩ = some (.int .i64 z5) := hbs.cell (j := 5) (by simp)
      have u5 : wr.cell? ⟨w.heap.size, 5, none⟩ = some (.int .i64 0) := hbr.cell (j := 5) (by simp)
      have f5 := hbr.frozen 5
      have k6 : wr.cell? ⟨w.heap.size + 1, 6, none⟩ = some (.int .i64 z6) := hbs.cell (j := 6) (by simp)
      have u6 : wr.cell? ⟨w.heap.size, 6, none⟩ = some (.int .i64 0) := hbr.cell (j := 6) (by simp)
      have f6 := hbr.frozen 6
      have k7 : wr.cell? ⟨w.heap.size + 1, 7, none⟩ = some (.int .i64 z7) := hbs.cell (j := 7) (by simp)
      have u7 : wr.cell? ⟨w.heap.size, 7, none⟩ = some (.int .i64 0) := hbr.cell (j := 7) (by simp)
      have f7 := hbr.frozen 7
      have hlr := hbr.lt
      have HST := hide hst
      clear hbs hbr hbel hz hst
      go_wp2
      refine bodyPost_ret (v := .tuple #[.agg #[.int .i64 z0, .int .i64 z1, .int .i64 z2, .int .i64 z3, .int .i64 z4, .int .i64 z5, .int .i64 z6, .int .i64 z7], .int .i64 0]) ?_ rfl ⟨_, rfl, by rw [HST.out], ?_⟩
      · simp [results, Tryz.results82, go_sem, u0, u1, u2, u3, u4, u5, u6, u7, hlr]
      · exact ((((((((HI.out.1.setCell (Nat.le_refl _) _).setCell (Nat.le_refl _) _).setCell (Nat.le_refl _) _).setCell (Nat.le_refl _) _).setCell (Nat.le_refl _) _).setCell (Nat.le_refl _) _).setCell (Nat.le_refl _) _).setCell (Nat.le_refl _) _)
end Go.Proofs.YtpoahodnakhmiaaGreat
namespace Go.Proofs.YtpoahodnakhmiaaGreat
set_option linter.unusedVariables false
set_option linter.unusedSimpArgs false
open Go.RowKit
theorem sum_setQ (x : Int) : ∀ (l : List Int) (i : Nat), i < l.length → (l.set i x).sum = l.sum - l.getD i 0 + x
  | [], i, h => by simp at h
  | a :: l, 0, _ => by simp; omega
  | a :: l, i + 1, h => by
    rw [List.set_cons_succ, List.sum_cons, List.sum_cons, sum_setQ x l i (by simpa using h), List.getD_cons_succ]
    omega
/-- a list of ints that is a state -/
def stateR (w : World) (n : Nat) (most : Int) (v : Value) (w' : World) : Prop :=
  ∃ (ks : List Int) (A : Option Addr) (c : Nat), v = .slice A ks.length c ∧ ks.length = n ∧ ks.length ≤ c ∧ c ≤ maxLen ∧ Arr w' A .i64 ks ∧ (∀ x ∈ ks, 0 ≤ x) ∧ ks.sum ≤ most ∧ Below w.heap.size w w'
set_option maxRecDepth 100000 in
set_option maxHeartbeats 4000000 in
theorem state_c (w : World) (v : Value) (ls : List Int) (n : Nat) (most : Int) (hv : IntsE w v ls) (hn : n ≤ 100) (h0 : 0 ≤ most) (h1 : most ≤ 1000) :
    Calls Tryz.prog 32 #[v, .int .i64 (n : Int), .int .i64 most] w (Ret (stateR w n most)) := by
  obtain ⟨A, c, rfl, hc1, hc2, -⟩ := hv.at_
  unfold maxLen at hc2
  have hmk := mk_run Tryz.i64T n (by omega)
  obtain ⟨W, hW⟩ : ∃ W, W = w.alloc (.cells (mk .i64 (List.replicate n 0)) 3) := ⟨_, rfl⟩
  have hb0 : Below w.heap.size w W := by rw [hW]; exact below_al (Below.refl _ _) _
  have hbk : Blk W w.heap.size 3 .i64 (List.replicate n 0) := by rw [hW]; exact Blk.new _ _ _ _
  have H0 := hide (And.intro hb0 (And.intro hbk hv))
  have HL := hide hW
  clear hb0 hbk hv hW
  go_enter Tryz.func32, Tryz.ntmps32
  go_upto_region 2 with fail
  rw [← HL.out]
  go_wp2_with fail
  go_loopw [9, 8] (fun s9 s8 wr => ∃ (i : Nat) (ks : List Int) (left : Int), i ≤ n ∧ i ≤ ls.length ∧ s9 = .int .i64 i ∧ s8 = .int .i64 left ∧ (0 ≤ left ∧ ks.sum + left = most) ∧ ks.length = n ∧ (∀ x ∈ ks, 0 ≤ x) ∧ (∀ j, i ≤ j → ks.getD j 0 = 0) ∧ Blk wr w.heap.size 3 .i64 ks ∧ Below w.heap.size w wr) (fun s9 _ _ => n - (intOf s9).toNat)
  case atStart =>
    refine ⟨0, List.replicate n 0, most, by omega, by omega, rfl, rfl, ⟨h0, by simp⟩, by simp, fun x hx => by rw [List.eq_of_mem_replicate hx]; omega, fun j _ => ?_, H0.out.2.1, H0.out.1⟩
    by_cases hj : j < n
    · simp [List.getD, hj]
    · simp [List.getD, hj]
  case round =>
    obtain ⟨i, ks, left, hi, hil, rfl, rfl, hleft, hkl, hk0, hkz, hbk, hbel⟩ := hrel
    have hsn := sum_nn hk0
    have HK := hide hkl
    clear hkl
    by_cases hin : i < n
    · have i1 : (i : Int) < (n : Int) := by omega
      by_cases hlt : i < ls.length
      · have i2 : (i : Int) < (ls.length : Int) := by omega
        obtain ⟨A', c', e1, -, -, hcl⟩ := (H0.out.2.2.below hbel).at_
        obtain ⟨b, o, e0, hc⟩ := hcl (by omega)
        injection e1 with e1 _ e3
        subst e1
        subst e3
        subst e0
        have y0 := hc i hlt
        obtain ⟨x, hx⟩ : ∃ x, x = ls.getD i 0 := ⟨_, rfl⟩
        rw [← hx] at y0
        have z0 := hbk.cell (j := i) (by rw [HK.out]; exact hin)
        rw [hkz i (Nat.le_refl _)] at z0
        have f0 := hbk.frozen i
        have hlz := hbk.lt
        have hu := uQ_range x
        obtain ⟨y, hy⟩ : ∃ y, y = uQ x % (left + 1) := ⟨_, rfl⟩
        have hy0 : 0 ≤ y := by rw [hy]; exact Int.emod_nonneg _ (by omega)
        have hy1 : y ≤ left := by have := Int.emod_lt_of_pos (uQ x) (show (0 : Int) < left + 1 by omega); omega
        have i3 : wrap64 ((IntKind.u64.wrap x).tmod (left + 1)) = y := by
          rw [← IntWalk.i64_left, show IntKind.u64.wrap x = uQ x from rfl, Int.tmod_eq_emod_of_nonneg hu.1, ← hy, IntWalk.i64_in _ (by omega)]
        have i4 : left + 1 ≠ 0 := by omega
        have i5 : IntKind.i64.wrap (left + 1) = left + 1 := IntWalk.i64_in _ (by omega)
        have i6 : IntKind.u64.wrap (left + 1) = left + 1 := IntWalk.u64_in _ (by omega)
        have i7 : IntKind.i64.wrap (left - y) = left - y := IntWalk.i64_in _ (by omega)
        have hl1 := hleft.1
        have hl2 : left ≤ 1000 := by have := hleft.2; omega
        have HI := hide (And.intro hbk (And.intro hbel (And.intro hk0 (And.intro hkz hleft))))
        clear hbk hbel hk0 hkz hleft hy hu hx hc hcl hsn
        go_wp2
        case roundEnd =>
          obtain ⟨hbk, hbel, hk0, hkz, hleft⟩ := HI.out
          refine ⟨⟨i + 1, ks.set i y, left - y, by omega, by omega, by go_num, by go_num, ⟨by omega, ?_⟩, by rw [List.length_set]; exact HK.out, fun z hz => ?_, fun j hj => ?_, hbk.set_ i y, hbel.setCell (Nat.le_refl _) _⟩, by simp [intOf]; omega⟩
          · rw [sum_setQ y ks i (by rw [HK.out]; exact hin), hkz i (Nat.le_refl _)]
            have := hleft.2
            omega
          · rcases List.mem_or_eq_of_mem_set hz with h2 | rfl
            · exact hk0 z h2
            · exact hy0
          · rw [getD_setI ks i j y (by rw [HK.out]; exact hin), if_neg (by omega)]
            exact hkz j (by omega)
      · have i2 : ¬ (i : Int) < (ls.length : Int) := by omega
        have HI := hide (And.intro hbk (And.intro hbel (And.intro hk0 hleft)))
        clear hbk hbel hk0 hkz hleft hsn
        go_wp2
        refine bodyPost_ret (v := .slice (some ⟨w.heap.size, 0, none⟩) n n) ?_ rfl ?_
        · simp [results, Tryz.results32, go_sem]
        exact ⟨_, rfl, ks, _, n, by rw [HK.out], HK.out, by rw [HK.out]; exact Nat.le_refl _, by unfold maxLen; omega, HI.out.1.arr, HI.out.2.2.1, by have := HI.out.2.2.2; omega, HI.out.2.1⟩
    · have i1 : ¬ (i : Int) < (n : Int) := by omega
      have HI := hide (And.intro hbk (And.intro hbel (And.intro hk0 hleft)))
      clear hbk hbel hk0 hkz hleft hsn
      go_wp2
      refine bodyPost_ret (v := .slice (some ⟨w.heap.size, 0, none⟩) n n) ?_ rfl ?_
      · simp [results, Tryz.results32, go_sem]
      exact ⟨_, rfl, ks, _, n, by rw [HK.out], HK.out, by rw [HK.out]; exact Nat.le_refl _, by unfold maxLen; omega, HI.out.1.arr, HI.out.2.2.1, by have := HI.out.2.2.2; omega, HI.out.2.1⟩
end Go.Proofs.YtpoahodnakhmiaaGreat
namespace Go.Proofs.YtpoahodnakhmiaaGreat
set_option linter.unusedVariables false
set_option linter.unusedSimpArgs false
open Go.RowKit
/-- the weight of a state -/
def wfQ (l : Nat → Rat) (xs : List Int) (i : Nat) : Rat := powN (l i) (xs.getD i 0).toNat
def wtQ (l : Nat → Rat) (xs : List Int) (s : Nat) : Rat := prodN (wfQ l xs) s
theorem wtQ_step (l : Nat → Rat) (xs : List Int) (s : Nat) : wtQ l xs (s + 1) = wtQ l xs s * wfQ l xs s := rfl
theorem LdOK.wf_fit {s : Nat} {l : Nat → Rat} (h : LdOK s l) (xs : List Int) (hx : ∀ j, xs.getD j 0 ≤ 12) (i : Nat) (hi : i < s) : FitQ 25 (wfQ l xs i) := h.p_fit i _ hi (by have := hx i; omega)
theorem LdOK.wt_fit {s : Nat} {l : Nat → Rat} (h : LdOK s l) (xs : List Int) (hx : ∀ j, xs.getD j 0 ≤ 12) : ∀ k, k ≤ s → FitQ (25 * k + 1) (wtQ l xs k)
  | 0, _ => fit_one1 (by omega)
  | k + 1, hk => by
    rw [wtQ_step]
    exact ((LdOK.wt_fit h xs hx k (by omega)).mulA (h.wf_fit xs hx k (by omega))).more (by rw [Nat.mul_succ]; omega)
set_option maxRecDepth 100000 in
set_option maxHeartbeats 4000000 in
theorem weight_c (w : World) (gx : Nat) (xs : List Int) (h8 : xs.length = 8) (hx0 : ∀ j, 0 ≤ xs.getD j 0 ∧ xs.getD j 0 ≤ 12) (R V Ld : List Rat) (Ws : List (List Rat)) (hx : OpenS w gx R Ws V Ld 3000) (hld : LdOK Ld.length (fun i => Ld.getD i 0)) :
    Calls Tryz.prog 138 #[.pointer (some ⟨gx, 0, none⟩), stV xs] w (Ret (ratR w (wtQ (fun i => Ld.getD i 0) xs Ld.length) 3000)) := by
  have hs8 := hld.s8
  have hs0 := hld.s0
  generalize hq : wtQ (fun i => Ld.getD i 0) xs Ld.length = q
  obtain ⟨x0, x1, x2, x3, x4, x5, x6, x7, hxs⟩ := eight h8
  obtain ⟨W, hW⟩ : ∃ W, W = (w.alloc (.cells #[.int .i64 x0, .int .i64 x1, .int .i64 x2, .int .i64 x3, .int .i64 x4, .int .i64 x5, .int .i64 x6, .int .i64 x7] 116)).alloc (.cells #[.bool false, .slice none 0 0, .slice none 0 0] 43) := ⟨_, rfl⟩
  have hb0 : Below w.heap.size w W := by rw [hW]; exact below_al (below_al (Below.refl _ _) _) _
  have hbs : Blk W w.heap.size 116 .i64 xs := by rw [hW, hxs]; exact (Blk.new w 116 .i64 [x0, x1, x2, x3, x4, x5, x6, x7]).keep (below_al (Below.refl _ _) _)
  have hbr : RowC W (w.heap.size + 1) [0] 3000 := by
    have := row_zero (w.alloc (.cells #[.int .i64 x0, .int .i64 x1, .int .i64 x2, .int .i64 x3, .int .i64 x4, .int .i64 x5, .int .i64 x6, .int .i64 x7] 116)) 3000
    rw [show (w.alloc (.cells #[.int .i64 x0, .int .i64 x1, .int .i64 x2, .int .i64 x3, .int .i64 x4, .int .i64 x5, .int .i64 x6, .int .i64 x7] 116)).heap.size = w.heap.size + 1 by simp] at this
    rw [hW]; exact this
  obtain ⟨va, vb, vc, vd, hbox, -, -, -, hvL⟩ := hx.box
  obtain ⟨A4, c4, rfl, hc4, hm4, -⟩ := id hvL
  unfold maxLen at hm4
  have H0 := hide (And.intro hb0 (And.intro hbs (And.intro hbr (And.intro hbox (And.intro hvL (And.intro hx0 hq))))))
  have HL := hide hW
  have HX8 := hide h8
  rw [show stV xs = .agg #[.int .i64 x0, .int .i64 x1, .int .i64 x2, .int .i64 x3, .int .i64 x4, .int .i64 x5, .int .i64 x6, .int .i64 x7] by rw [hxs]; rfl]
  clear hx hb0 hbs hbr hbox hvL hW hx0 hq hxs h8
  go_enter Tryz.func138, Tryz.ntmps138
  go_wp2_with fail
  rw [← HL.out]
  refine (of_c _ 1 (by omega) (by omega)).mono ?_
  rintro e w1 ⟨v1, rfl, hv1, hd1⟩
  replace hv1 : RatV w1 v1 1 3000 := hv1.more (by omega)
  obtain ⟨s0, B1, m1, d1, B2, m2, d2, rfl⟩ := hv1.shape
  obtain ⟨W2, hW2⟩ : ∃ W2, W2 = w1.alloc (.cells #[.bool s0, .slice B1 m1 d1, .slice B2 m2 d2] 43) := ⟨_, rfl⟩
  have hb2 : Below w1.heap.size w1 W2 := by rw [hW2]; exact below_al (Below.refl _ _) _
  have hacc0 : RowC W2 w1.heap.size [1] 3000 := by rw [hW2]; exact row_oneQ hv1
  have hd2 := below_next hd1 hb2
  obtain ⟨y0, y1, y2, y3, -⟩ := four_cells (at_later H0.out.2.2.2.1 (below_next H0.out.1 hd2))
  have hgl := lt_of_block (at_later H0.out.2.2.2.1 (below_next H0.out.1 hd2))
  have H2 := hide (And.intro hacc0 (And.intro (H0.out.2.2.1.below hd2) (And.intro (H0.out.2.1.keep hd2) (below_next H0.out.1 hd2))))
  have HL2 := hide hW2
  have hsz : w.heap.size + 2 ≤ w1.heap.size := by have h1 := H0.out.2.2.1.lt; have h2 := hd1.size; omega
  clear hv1 hd1 hb2 hacc0 hd2 hW2
  go_upto_region 2 with fail
  rw [← HL2.out]
  go_wp2_with fail
  go_loopw [14] (fun s14 wr => ∃ i : Nat, i ≤ Ld.length ∧ s14 = .int .i64 i ∧ RowC wr w1.heap.size [wtQ (fun i => Ld.getD i 0) xs i] 3000 ∧ RowC wr (w.heap.size + 1) [0] 3000 ∧ Blk wr w.heap.size 116 .i64 xs ∧ Below w.heap.size w wr) (fun s14 _ => Ld.length - (intOf s14).toNat)
  case atStart => exact ⟨0, Nat.zero_le _, rfl, H2.out.1, H2.out.2.1, H2.out.2.2.1, H2.out.2.2.2⟩
  case round =>
    obtain ⟨i, hi, rfl, hacc, hres, hst, hbel⟩ := hrel
    have hlw := hacc.lt
    by_cases hlt : i < Ld.length
    · obtain ⟨-, -, -, hcl⟩ := (H0.out.2.2.2.2.1.below hbel).at_
      obtain ⟨bl, ol, rfl, hcl1⟩ := hcl (by omega)
      obtain ⟨s2, A2, n2, c2, B2, m2, d2, e0, e1, e2, hq1⟩ := (hcl1 i hlt).rat
      obtain ⟨s1, A1, n1, c1, B1, m1, d1, e3, e4, e5, hq0⟩ := (hacc.2 0 (by simp)).rat
      simp only [Nat.zero_mul, Nat.zero_add] at e3 e4 e5
      simp only [List.getD_cons_zero] at hq0
      have hh8 := HX8.out
      have z1 := hst.cell (j := i) (by omega)
      have hx12 := fun j => (H0.out.2.2.2.2.2.1 j).2
      obtain ⟨xn, hxn⟩ : ∃ xn : Nat, xs.getD i 0 = (xn : Int) := ⟨(xs.getD i 0).toNat, by have := (H0.out.2.2.2.2.2.1 i).1; omega⟩
      have hxb : xn ≤ 12 := by have := hx12 i; omega
      rw [hxn] at z1
      have hfp : ∀ t, t ≤ 1000 → FitQ 3000 (powN (Ld.getD i 0) t) ∧ SmallQ (powN (Ld.getD i 0) t) := fun t ht => by
        have := fit_pow (hld.fitl i hlt) t
        exact ⟨this.more (by omega), this.smallQ (by omega)⟩
      have hf2 : FitQ 3000 (wtQ (fun i => Ld.getD i 0) xs i * powN (Ld.getD i 0) xn) := by
        have h1 := hld.wt_fit xs hx12 (i + 1) (by omega)
        rw [wtQ_step, wfQ, hxn, Int.toNat_natCast] at h1
        exact h1.more (by omega)
      have HF := hide (And.intro hfp (And.intro ((hld.wt_fit xs hx12 i (by omega)).more (show 25 * i + 1 ≤ 3000 by omega)) hf2))
      have HXI := hide hxn
      obtain ⟨W3, hW3⟩ : ∃ W3, W3 = wr.alloc (.cells #[.bool s2, .slice A2 n2 c2, .slice B2 m2 d2] 43) := ⟨_, rfl⟩
      have hb3 : Below wr.heap.size wr W3 := by rw [hW3]; exact below_al (Below.refl _ _) _
      have hbx : W3.heap[wr.heap.size]? = some (.cells #[.bool s2, .slice A2 n2 c2, .slice B2 m2 d2] 43) := by rw [hW3]; exact at_new _ _
      have hS : ∀ w', Below W3.heap.size W3 w' → (w'.cell? ⟨w1.heap.size, 0, none⟩ = some (.bool s1) ∧ w'.cell? ⟨w1.heap.size, 1, none⟩ = some (.slice A1 n1 c1) ∧ w'.cell? ⟨w1.heap.size, 2, none⟩ = some (.slice B1 m1 d1)) ∧ (w'.cell? ⟨wr.heap.size, 0, none⟩ = some (.bool s2) ∧ w'.cell? ⟨wr.heap.size, 1, none⟩ = some (.slice A2 n2 c2) ∧ w'.cell? ⟨wr.heap.size, 2, none⟩ = some (.slice B2 m2 d2)) ∧ w'.cell? ⟨w.heap.size, i, none⟩ = some (.int .i64 (xn : Int)) := fun w' h => by
        have e : ∀ b o v, wr.cell? ⟨b, o, none⟩ = some v → w'.cell? ⟨b, o, none⟩ = some v := fun b o v hv => ((below_next hb3 h).cell (lt_of_cell hv)).trans hv
        obtain ⟨x0, x1, x2⟩ := three_cells (at_later hbx h)
        exact ⟨⟨e _ _ _ e3, e _ _ _ e4, e _ _ _ e5⟩, ⟨x0, x1, x2⟩, e _ _ _ z1⟩
      have hdr : Below W3.heap.size W3 W3.drew := (Below.refl _ _).drew
      have HSS := hide hS
      have HQ := hide (And.intro (hq0.below hb3) (hq1.below hb3))
      have HI := hide (And.intro (hacc.below hb3) (And.intro (hres.below hb3) (And.intro (hst.keep hb3) (hbel.trans (hb3.mono hbel.size)))))
      have HLr := hide hW3
      have i1 : (i : Int) < (Ld.length : Int) := by omega
      have i2 : (i : Int) < 8 := by omega
      clear hS hacc hres hst hbel hq0 hq1 hcl hcl1 e3 e4 e5 z1 hb3 hbx hW3 hfp hf2 hxn hx12 hh8
      go_upto_region 5 with fail
      rw [← HLr.out]
      clear e0 e1 e2
      refine till_begin (fun w' => (w'.cell? ⟨w1.heap.size, 0, none⟩ = some (.bool s1) ∧ w'.cell? ⟨w1.heap.size, 1, none⟩ = some (.slice A1 n1 c1) ∧ w'.cell? ⟨w1.heap.size, 2, none⟩ = some (.slice B1 m1 d1)) ∧ (w'.cell? ⟨wr.heap.size, 0, none⟩ = some (.bool s2) ∧ w'.cell? ⟨wr.heap.size, 1, none⟩ = some (.slice A2 n2 c2) ∧ w'.cell? ⟨wr.heap.size, 2, none⟩ = some (.slice B2 m2 d2)) ∧ w'.cell? ⟨w.heap.size, i, none⟩ = some (.int .i64 (xn : Int))) [0, 1, 2, 3, 4, 5, 6, 7, 8, 9, 10] (by kernel_rfl) (HSS.out _ hdr) (fun hHeld => ?_)
      refine tt (i := 2) hHeld (some 21) ?_
      try simp only [Act.put, ptA, ptB, ptC]
      refine tt (i := 3) hHeld (some 22) ?_
      try simp only [Act.put, ptA, ptB, ptC]
      refine tt (i := 0) hHeld (some 19) ?_
      try simp only [Act.put, ptA, ptB, ptC]
      refine tt (i := 1) hHeld (some 20) ?_
      try simp only [Act.put, ptA, ptB, ptC]
      refine tt (i := 4) hHeld (some 23) ?_
      try simp only [Act.put, ptA, ptB, ptC]
      refine till_ready (rs := [5]) (by kernel_rfl) (by simp) ?_
      refine mem1 ?_
      refine till_step rfl (fun K hK => ?_)
      go_simp
      go_at_call 24
      refine (pow_up _ _ (Ld.getD i 0) xn 3000 (HQ.out.2.below hdr) (by omega) (by omega) (by omega) HF.out.1).mono ?_
      rintro e w1 ⟨v4, rfl, hdn⟩
      obtain ⟨r4, rfl, hr4, hd⟩ := hdn.ok (HF.out.1 xn (by omega)).2
      obtain ⟨s4, A4, n4, c4, B4, m4, d4, rfl⟩ := hr4.shape
      have H4 := hide hr4
      clear hr4 hdn
      have hg1 : Below W3.heap.size W3 w1 := hdr.trans (hd.mono hdr.size)
      clear hd
      go_wp2_with fail
      refine hK.out _ _ (HSS.out _ hg1) (fun hHeld => ?_)
      clear hK K
      try simp only [Act.put, ptA, ptB, ptC]
      refine tt (i := 6) hHeld (some 25) ?_
      try simp only [Act.put, ptA, ptB, ptC]
      refine tt (i := 7) hHeld (some 26) ?_
      try simp only [Act.put, ptA, ptB, ptC]
      refine till_ready (rs := [8]) (by kernel_rfl) (by simp) ?_
      refine mem1 ?_
      refine till_step rfl (fun K hK => ?_)
      go_simp
      go_at_call 119
      refine (must_c _ _ _ _ _ _ _ _).mono ?_
      rintro e w2 ⟨_, rfl, rfl, hd⟩
      replace H4 := hide (H4.out.below hd)
      have hg2 : Below W3.heap.size W3 w2 := hg1.trans (hd.mono hg1.size)
      clear hd
      go_wp2_with fail
      refine hK.out _ _ (HSS.out _ hg2) (fun hHeld => ?_)
      clear hK K
      try simp only [Act.put, ptA, ptB, ptC]
      refine till_ready (rs := [9]) (by kernel_rfl) (by simp) ?_
      refine mem1 ?_
      refine till_step rfl (fun K hK => ?_)
      go_simp
      have HP3 := row_pair (HQ.out.1.below hg2) (H4.out)
      have hg3 := below_al hg2 (.cells #[.bool s1, .slice A1 n1 c1, .slice B1 m1 d1, .bool s4, .slice A4 n4 c4, .slice B4 m4 d4] 43)
      have HP := hide HP3
      clear HP3
      refine hK.out _ _ (HSS.out _ hg3) (fun hHeld => ?_)
      clear hK K
      try simp only [Act.put, ptA, ptB, ptC]
      refine till_ready (rs := [10]) (by kernel_rfl) (by simp) ?_
      refine mem1 ?_
      refine till_step rfl (fun K hK => ?_)
      go_simp
      go_at_call 84
      refine (product_c _ _ [wtQ (fun i => Ld.getD i 0) xs i, powN (Ld.getD i 0) xn] 3000 HP.out (by omega) (by omega) (prod2_fit (by omega) HF.out.2.1 HF.out.2.2)).mono ?_
      rintro e w4 ⟨v5, rfl, hr5, hd⟩
      replace hr5 : RatV w4 v5 (wtQ (fun i => Ld.getD i 0) xs (i + 1)) 3000 := by rw [wtQ_step, wfQ, HXI.out, Int.toNat_natCast, ← prod2]; exact hr5
      obtain ⟨s5, A5, n5, c5, B5, m5, d5, rfl⟩ := hr5.shape
      have H5 := hide hr5
      clear hr5
      have hg4 : Below W3.heap.size W3 w4 := hg3.trans (hd.mono hg3.size)
      clear hd
      go_wp2_with fail
      refine hK.out _ _ (HSS.out _ hg4) (fun hHeld => ?_)
      clear hK K
      try simp only [Act.put, ptA, ptB, ptC]
      refine till_end (k := 11) (by rfl) (by rfl) (by kernel_rfl) ?_
      simp only [List.drop_succ_cons, List.drop_zero]
      clear hHeld
      have hoE := HI.out.1.below hg4
      obtain ⟨s', B1', m1', d1', B2', m2', d2', e0', e1', e2', -⟩ := (hoE.2 0 (by simp)).rat
      simp only [Nat.zero_mul, Nat.zero_add] at e0' e1' e2'
      have f0 := hoE.frozen 0
      have f1 := hoE.frozen 1
      have f2 := hoE.frozen 2
      have HG := hide (And.intro hoE hg4)
      clear hoE
      go_wp2
      case roundEnd =>
        obtain ⟨t1, t2, t3⟩ := HG.out.1.set3 (i := 0) (by simp) H5.out
        simp only [Nat.zero_mul, Nat.zero_add] at t1 t2 t3
        have hs3 := HI.out.2.2.2.size
        have hsG := HG.out.2.size
        have hbl := only_below (HI.out.2.2.2.trans (HG.out.2.mono hs3)) t3 (by omega) (by omega)
        refine ⟨⟨i + 1, by omega, by go_num, t1, ?_, ?_, hbl⟩, by simp [intOf]; omega⟩
        · exact (HI.out.2.1.below HG.out.2).same t2 (t3.block _ (by have := HI.out.2.1.lt; omega) (by intro e; injection e with e; omega))
        · exact (HI.out.2.2.1.keep HG.out.2).only t3 (by omega)
    · obtain rfl : i = Ld.length := by omega
      obtain ⟨s5, A5, n5, c5, B5, m5, d5, e6, e7, e8, hr3⟩ := (hacc.2 0 (by simp)).rat
      obtain ⟨_, _, _, _, _, _, _, x0, x1, x2, _⟩ := (hres.2 0 (by simp)).rat
      simp only [Nat.zero_mul, Nat.zero_add] at e6 e7 e8 x0 x1 x2
      simp only [List.getD_cons_zero] at hr3
      have f0 := hres.frozen 0
      have f1 := hres.frozen 1
      have f2 := hres.frozen 2
      have hlt2 := hres.lt
      have HH := hide (And.intro (show RatV wr _ q 3000 by rw [← H0.out.2.2.2.2.2.2]; exact hr3) hbel)
      clear hacc hres hst hbel hr3
      go_wp2
      refine bodyPost_ret (v := .agg #[.bool s5, .slice A5 n5 c5, .slice B5 m5 d5]) ?_ rfl ?_
      · simp [results, Tryz.results138, go_sem, x0, x1, x2, hlt2]
      have hr := HH.out.1
      obtain ⟨rn, rl, e, r1, r2⟩ := hr
      injection e with e
      simp only [Array.mk.injEq, List.cons.injEq, Value.bool.injEq, and_true] at e
      obtain ⟨rfl, rfl, rfl⟩ := e
      exact ⟨_, rfl, ⟨_, _, rfl, r1.set3 x0 x1 x2, r2.set3 x0 x1 x2⟩, below_set3 HH.out.2 (by omega) _ _ _⟩
end Go.Proofs.YtpoahodnakhmiaaGreat
