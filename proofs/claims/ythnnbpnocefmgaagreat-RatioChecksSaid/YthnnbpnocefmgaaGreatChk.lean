import Derived.Test.YthnnbpnocefmgaaGreatLst1
namespace Go.Proofs.YthnnbpnocefmgaaGreat
set_option linter.unusedVariables false
set_option linter.unusedSimpArgs false
open Go.RowKit
def checkQ (rows : List (List Rat)) (bs : List Rat) : Int :=
 if 40 < rows.length ∨ 0 < rows.length ∧ 40 < (rows.getD 0 []).length then 2
 else if bs.length ≠ rows.length ∨ anyB (shapeB rows) rows.length = true then 7
 else if anyB (fun i => longQ (bs.getD i 0)) bs.length = true ∨ anyB (longB rows) rows.length = true then 11 else 0
set_option maxRecDepth 100000 in
theorem check_many (w : World) (va vb : Value) (rows : List (List Rat)) (bs : List Rat) (L : Nat) (ha : RowsV w va rows L) (hb : RowV w vb bs L) (hL : L ≤ 1073741800) (h40 : 40 < rows.length) :
  Calls Tryz.prog 57 #[va, vb] w (Ret (fun v w' => v = .int .i64 2 ∧ Below w.heap.size w w')) := by
 have HA := hide (ai ha hb)
 obtain ⟨A1, c1, rfl, hc1, hm1, hx⟩ := ha
 obtain ⟨A2, c2, rfl, hc2, hm2, hy⟩ := hb
 clear hy
 clear hx
 have hd : decide ((40 : Int) < (rows.length : Int)) = true := by rw [decide_eq_true_eq]; omega
 have hb0 : Below w.heap.size w (w.alloc (.cells #[.slice A1 rows.length c1] 24)) := (Below.refl _ _).alloc (nr _) _
 go_enter Tryz.func57, Tryz.ntmps57
 go_wp2
 go_ret
 exact ⟨_, rfl, rfl, hb0⟩
set_option maxRecDepth 100000 in
theorem check_wide (w : World) (va vb : Value) (rows : List (List Rat)) (bs : List Rat) (L : Nat) (ha : RowsV w va rows L) (hb : RowV w vb bs L) (hL : L ≤ 1073741800) (h40 : ¬ 40 < rows.length) (h0 : 0 < rows.length) (hwd : 40 < (rows.getD 0 []).length) :
  Calls Tryz.prog 57 #[va, vb] w (Ret (fun v w' => v = .int .i64 2 ∧ Below w.heap.size w w')) := by
 have HA := hide (ai ha hb)
 obtain ⟨A1, c1, rfl, hc1, hm1, hx⟩ := ha
 obtain ⟨A2, c2, rfl, hc2, hm2, hy⟩ := hb
 clear hy
 obtain ⟨b, o, rfl, hat⟩ := hx h0
 obtain ⟨u0, hu0, A0, c0, rfl, hw0⟩ := hat 0 h0
 rw [Nat.add_zero] at hu0
 have hlw : b < w.heap.size := lt_of_cell hu0
 have hd : decide ((40 : Int) < (rows.length : Int)) = false := by rw [decide_eq_false_iff_not]; omega
 have hd0 : decide ((0 : Int) < (rows.length : Int)) = true := by rw [decide_eq_true_eq]; omega
 have hd1 : decide ((40 : Int) < ((rows.getD 0 []).length : Int)) = true := by rw [decide_eq_true_eq]; omega
 generalize (rows.getD 0 []).length = wd at *
 clear hat hx hw0
 have hb0 : Below w.heap.size w (w.alloc (.cells #[.slice (some ⟨b, o, none⟩) rows.length c1] 24)) := (Below.refl _ _).alloc (nr _) _
 go_enter Tryz.func57, Tryz.ntmps57
 go_wp2
 go_ret
 exact ⟨_, rfl, rfl, hb0⟩
set_option maxRecDepth 100000 in
theorem check_plen (w : World) (va vb : Value) (rows : List (List Rat)) (bs : List Rat) (L : Nat) (ha : RowsV w va rows L) (hb : RowV w vb bs L) (hL : L ≤ 1073741800) (h40 : ¬ 40 < rows.length) (h0 : 0 < rows.length) (hwd : ¬ 40 < (rows.getD 0 []).length) (hbl : bs.length ≠ rows.length) :
  Calls Tryz.prog 57 #[va, vb] w (Ret (fun v w' => v = .int .i64 7 ∧ Below w.heap.size w w')) := by
 have HA := hide (ai ha hb)
 obtain ⟨A1, c1, rfl, hc1, hm1, hx⟩ := ha
 obtain ⟨A2, c2, rfl, hc2, hm2, hy⟩ := hb
 clear hy
 obtain ⟨b, o, rfl, hat⟩ := hx h0
 obtain ⟨u0, hu0, A0, c0, rfl, hw0⟩ := hat 0 h0
 rw [Nat.add_zero] at hu0
 have hlw : b < w.heap.size := lt_of_cell hu0
 have hd : decide ((40 : Int) < (rows.length : Int)) = false := by rw [decide_eq_false_iff_not]; omega
 have hd0 : decide ((0 : Int) < (rows.length : Int)) = true := by rw [decide_eq_true_eq]; omega
 have hd1 : decide ((40 : Int) < ((rows.getD 0 []).length : Int)) = false := by rw [decide_eq_false_iff_not]; omega
 generalize (rows.getD 0 []).length = wd at *
 clear hat hx hw0
 have hl : ((bs.length : Int) != (rows.length : Int)) = true := by rw [bne_iff_ne]; omega
 have hb0 : Below w.heap.size w (w.alloc (.cells #[.slice (some ⟨b, o, none⟩) rows.length c1] 24)) := (Below.refl _ _).alloc (nr _) _
 go_enter Tryz.func57, Tryz.ntmps57
 go_wp2
 go_ret
 exact ⟨_, rfl, rfl, hb0⟩
set_option maxRecDepth 100000 in
theorem check_pshape (w : World) (va vb : Value) (rows : List (List Rat)) (bs : List Rat) (L : Nat) (ha : RowsV w va rows L) (hb : RowV w vb bs L) (hL : L ≤ 1073741800) (h40 : ¬ 40 < rows.length) (h0 : 0 < rows.length) (hwd : ¬ 40 < (rows.getD 0 []).length) (hbl : bs.length = rows.length) (hs : anyB (shapeB rows) rows.length = true) :
  Calls Tryz.prog 57 #[va, vb] w (Ret (fun v w' => v = .int .i64 7 ∧ Below w.heap.size w w')) := by
 have HA := hide (ai ha hb)
 obtain ⟨A1, c1, rfl, hc1, hm1, hx⟩ := ha
 obtain ⟨A2, c2, rfl, hc2, hm2, hy⟩ := hb
 clear hy
 obtain ⟨b, o, rfl, hat⟩ := hx h0
 obtain ⟨u0, hu0, A0, c0, rfl, hw0⟩ := hat 0 h0
 rw [Nat.add_zero] at hu0
 have hlw : b < w.heap.size := lt_of_cell hu0
 have hd : decide ((40 : Int) < (rows.length : Int)) = false := by rw [decide_eq_false_iff_not]; omega
 have hd0 : decide ((0 : Int) < (rows.length : Int)) = true := by rw [decide_eq_true_eq]; omega
 have hd1 : decide ((40 : Int) < ((rows.getD 0 []).length : Int)) = false := by rw [decide_eq_false_iff_not]; omega
 generalize (rows.getD 0 []).length = wd at *
 clear hat hx hw0
 have hl : ((bs.length : Int) != (rows.length : Int)) = false := by rw [hbl]; simp
 have HL := hide hbl; clear hbl
 have hsh := hide hs; clear hs
 have hb0 : Below w.heap.size w (w.alloc (.cells #[.slice (some ⟨b, o, none⟩) rows.length c1] 24)) := (Below.refl _ _).alloc (nr _) _
 go_enter Tryz.func57, Tryz.ntmps57
 go_wp2_with fail
 refine (contains_shape _ _ rows L w.heap.size (cell_new1 _ _ _ rfl) (HA.out.1.below hb0) hL).mono ?_
 rintro e w1 ⟨_, rfl, rfl, hd2⟩
 have hb1 := bnx hb0 hd2
 have hbx := (hd2.cell (by simp)).trans (cell_new1 w (.slice (some ⟨b, o, none⟩) rows.length c1) 24 rfl)
 rw [hsh.out]
 go_wp2
 go_ret
 exact ⟨_, rfl, rfl, hb1⟩
set_option maxRecDepth 100000 in
theorem check_plong (w : World) (va vb : Value) (rows : List (List Rat)) (bs : List Rat) (L : Nat) (ha : RowsV w va rows L) (hb : RowV w vb bs L) (hL : L ≤ 1073741800) (h40 : ¬ 40 < rows.length) (h0 : 0 < rows.length) (hwd : ¬ 40 < (rows.getD 0 []).length) (hbl : bs.length = rows.length) (hs : anyB (shapeB rows) rows.length = false) (hl2 : anyB (fun i => longQ (bs.getD i 0)) bs.length = true) :
  Calls Tryz.prog 57 #[va, vb] w (Ret (fun v w' => v = .int .i64 11 ∧ Below w.heap.size w w')) := by
 have HA := hide (ai ha hb)
 obtain ⟨A1, c1, rfl, hc1, hm1, hx⟩ := ha
 obtain ⟨A2, c2, rfl, hc2, hm2, hy⟩ := hb
 clear hy
 obtain ⟨b, o, rfl, hat⟩ := hx h0
 obtain ⟨u0, hu0, A0, c0, rfl, hw0⟩ := hat 0 h0
 rw [Nat.add_zero] at hu0
 have hlw : b < w.heap.size := lt_of_cell hu0
 have hd : decide ((40 : Int) < (rows.length : Int)) = false := by rw [decide_eq_false_iff_not]; omega
 have hd0 : decide ((0 : Int) < (rows.length : Int)) = true := by rw [decide_eq_true_eq]; omega
 have hd1 : decide ((40 : Int) < ((rows.getD 0 []).length : Int)) = false := by rw [decide_eq_false_iff_not]; omega
 generalize (rows.getD 0 []).length = wd at *
 clear hat hx hw0
 have hl : ((bs.length : Int) != (rows.length : Int)) = false := by rw [hbl]; simp
 have HL := hide hbl; clear hbl
 have hsh := hide hs; clear hs
 have hlg := hide hl2; clear hl2
 have hb0 : Below w.heap.size w (w.alloc (.cells #[.slice (some ⟨b, o, none⟩) rows.length c1] 24)) := (Below.refl _ _).alloc (nr _) _
 go_enter Tryz.func57, Tryz.ntmps57
 go_wp2_with fail
 refine (contains_shape _ _ rows L w.heap.size (cell_new1 _ _ _ rfl) (HA.out.1.below hb0) hL).mono ?_
 rintro e w1 ⟨_, rfl, rfl, hd2⟩
 have hb1 := bnx hb0 hd2
 have hbx := (hd2.cell (by simp)).trans (cell_new1 w (.slice (some ⟨b, o, none⟩) rows.length c1) 24 rfl)
 rw [hsh.out]
 go_wp2_with fail
 refine (contains_q _ _ bs L (HA.out.2.below hb1) hL).mono ?_
 rintro e w2 ⟨_, rfl, rfl, hd3⟩
 have hb2 := bnx hb1 hd3
 have hby := (hd3.cell (lt_of_cell hbx)).trans hbx
 clear hbx
 rw [hlg.out]
 go_wp2
 go_ret
 exact ⟨_, rfl, rfl, hb2⟩
set_option maxRecDepth 100000 in
theorem check_plongs (w : World) (va vb : Value) (rows : List (List Rat)) (bs : List Rat) (L : Nat) (ha : RowsV w va rows L) (hb : RowV w vb bs L) (hL : L ≤ 1073741800) (h40 : ¬ 40 < rows.length) (h0 : 0 < rows.length) (hwd : ¬ 40 < (rows.getD 0 []).length) (hbl : bs.length = rows.length) (hs : anyB (shapeB rows) rows.length = false) (hl2 : anyB (fun i => longQ (bs.getD i 0)) bs.length = false) (hl3 : anyB (longB rows) rows.length = true) :
  Calls Tryz.prog 57 #[va, vb] w (Ret (fun v w' => v = .int .i64 11 ∧ Below w.heap.size w w')) := by
 have HA := hide (ai ha hb)
 obtain ⟨A1, c1, rfl, hc1, hm1, hx⟩ := ha
 obtain ⟨A2, c2, rfl, hc2, hm2, hy⟩ := hb
 clear hy
 obtain ⟨b, o, rfl, hat⟩ := hx h0
 obtain ⟨u0, hu0, A0, c0, rfl, hw0⟩ := hat 0 h0
 rw [Nat.add_zero] at hu0
 have hlw : b < w.heap.size := lt_of_cell hu0
 have hd : decide ((40 : Int) < (rows.length : Int)) = false := by rw [decide_eq_false_iff_not]; omega
 have hd0 : decide ((0 : Int) < (rows.length : Int)) = true := by rw [decide_eq_true_eq]; omega
 have hd1 : decide ((40 : Int) < ((rows.getD 0 []).length : Int)) = false := by rw [decide_eq_false_iff_not]; omega
 generalize (rows.getD 0 []).length = wd at *
 clear hat hx hw0
 have hl : ((bs.length : Int) != (rows.length : Int)) = false := by rw [hbl]; simp
 have HL := hide hbl; clear hbl
 have hsh := hide hs; clear hs
 have hlg := hide hl2; clear hl2
 have hlr := hide hl3; clear hl3
 have hb0 : Below w.heap.size w (w.alloc (.cells #[.slice (some ⟨b, o, none⟩) rows.length c1] 24)) := (Below.refl _ _).alloc (nr _) _
 go_enter Tryz.func57, Tryz.ntmps57
 go_wp2_with fail
 refine (contains_shape _ _ rows L w.heap.size (cell_new1 _ _ _ rfl) (HA.out.1.below hb0) hL).mono ?_
 rintro e w1 ⟨_, rfl, rfl, hd2⟩
 have hb1 := bnx hb0 hd2
 have hbx := (hd2.cell (by simp)).trans (cell_new1 w (.slice (some ⟨b, o, none⟩) rows.length c1) 24 rfl)
 rw [hsh.out]
 go_wp2_with fail
 refine (contains_q _ _ bs L (HA.out.2.below hb1) hL).mono ?_
 rintro e w2 ⟨_, rfl, rfl, hd3⟩
 have hb2 := bnx hb1 hd3
 have hby := (hd3.cell (lt_of_cell hbx)).trans hbx
 clear hbx
 rw [hlg.out]
 go_wp2_with fail
 refine (contains_longs _ _ rows L (HA.out.1.below hb2) hL).mono ?_
 rintro e w3 ⟨_, rfl, rfl, hd4⟩
 have hb3 := bnx hb2 hd4
 rw [hlr.out]
 go_wp2
 go_ret
 exact ⟨_, rfl, rfl, hb3⟩
set_option maxRecDepth 100000 in
theorem check_pok (w : World) (va vb : Value) (rows : List (List Rat)) (bs : List Rat) (L : Nat) (ha : RowsV w va rows L) (hb : RowV w vb bs L) (hL : L ≤ 1073741800) (h40 : ¬ 40 < rows.length) (h0 : 0 < rows.length) (hwd : ¬ 40 < (rows.getD 0 []).length) (hbl : bs.length = rows.length) (hs : anyB (shapeB rows) rows.length = false) (hl2 : anyB (fun i => longQ (bs.getD i 0)) bs.length = false) (hl3 : anyB (longB rows) rows.length = false) :
  Calls Tryz.prog 57 #[va, vb] w (Ret (fun v w' => v = .int .i64 0 ∧ Below w.heap.size w w')) := by
 have HA := hide (ai ha hb)
 obtain ⟨A1, c1, rfl, hc1, hm1, hx⟩ := ha
 obtain ⟨A2, c2, rfl, hc2, hm2, hy⟩ := hb
 clear hy
 obtain ⟨b, o, rfl, hat⟩ := hx h0
 obtain ⟨u0, hu0, A0, c0, rfl, hw0⟩ := hat 0 h0
 rw [Nat.add_zero] at hu0
 have hlw : b < w.heap.size := lt_of_cell hu0
 have hd : decide ((40 : Int) < (rows.length : Int)) = false := by rw [decide_eq_false_iff_not]; omega
 have hd0 : decide ((0 : Int) < (rows.length : Int)) = true := by rw [decide_eq_true_eq]; omega
 have hd1 : decide ((40 : Int) < ((rows.getD 0 []).length : Int)) = false := by rw [decide_eq_false_iff_not]; omega
 generalize (rows.getD 0 []).length = wd at *
 clear hat hx hw0
 have hl : ((bs.length : Int) != (rows.length : Int)) = false := by rw [hbl]; simp
 have HL := hide hbl; clear hbl
 have hsh := hide hs; clear hs
 have hlg := hide hl2; clear hl2
 have hlr := hide hl3; clear hl3
 have hb0 : Below w.heap.size w (w.alloc (.cells #[.slice (some ⟨b, o, none⟩) rows.length c1] 24)) := (Below.refl _ _).alloc (nr _) _
 go_enter Tryz.func57, Tryz.ntmps57
 go_wp2_with fail
 refine (contains_shape _ _ rows L w.heap.size (cell_new1 _ _ _ rfl) (HA.out.1.below hb0) hL).mono ?_
 rintro e w1 ⟨_, rfl, rfl, hd2⟩
 have hb1 := bnx hb0 hd2
 have hbx := (hd2.cell (by simp)).trans (cell_new1 w (.slice (some ⟨b, o, none⟩) rows.length c1) 24 rfl)
 rw [hsh.out]
 go_wp2_with fail
 refine (contains_q _ _ bs L (HA.out.2.below hb1) hL).mono ?_
 rintro e w2 ⟨_, rfl, rfl, hd3⟩
 have hb2 := bnx hb1 hd3
 have hby := (hd3.cell (lt_of_cell hbx)).trans hbx
 clear hbx
 rw [hlg.out]
 go_wp2_with fail
 refine (contains_longs _ _ rows L (HA.out.1.below hb2) hL).mono ?_
 rintro e w3 ⟨_, rfl, rfl, hd4⟩
 have hb3 := bnx hb2 hd4
 rw [hlr.out]
 go_wp2
 go_ret
 exact ⟨_, rfl, rfl, hb3⟩
set_option maxRecDepth 100000 in
theorem check_zlen (w : World) (va vb : Value) (rows : List (List Rat)) (bs : List Rat) (L : Nat) (ha : RowsV w va rows L) (hb : RowV w vb bs L) (hL : L ≤ 1073741800) (h0 : rows.length = 0) (hbl : bs.length ≠ rows.length) :
  Calls Tryz.prog 57 #[va, vb] w (Ret (fun v w' => v = .int .i64 7 ∧ Below w.heap.size w w')) := by
 have HA := hide (ai ha hb)
 obtain ⟨A1, c1, rfl, hc1, hm1, hx⟩ := ha
 obtain ⟨A2, c2, rfl, hc2, hm2, hy⟩ := hb
 clear hy
 obtain rfl : rows = [] := List.eq_nil_of_length_eq_zero h0
 simp only [List.length_nil] at *
 clear hx
 have hl : ((bs.length : Int) != (0 : Int)) = true := by rw [bne_iff_ne]; omega
 have H0 := hide h0; clear h0
 have hb0 : Below w.heap.size w (w.alloc (.cells #[.slice A1 0 c1] 24)) := (Below.refl _ _).alloc (nr _) _
 go_enter Tryz.func57, Tryz.ntmps57
 go_wp2
 go_ret
 exact ⟨_, rfl, rfl, hb0⟩
set_option maxRecDepth 100000 in
theorem check_zlong (w : World) (va vb : Value) (rows : List (List Rat)) (bs : List Rat) (L : Nat) (ha : RowsV w va rows L) (hb : RowV w vb bs L) (hL : L ≤ 1073741800) (h0 : rows.length = 0) (hbl : bs.length = rows.length) (hs : anyB (shapeB rows) rows.length = false) (hl2 : anyB (fun i => longQ (bs.getD i 0)) bs.length = true) :
  Calls Tryz.prog 57 #[va, vb] w (Ret (fun v w' => v = .int .i64 11 ∧ Below w.heap.size w w')) := by
 have HA := hide (ai ha hb)
 obtain ⟨A1, c1, rfl, hc1, hm1, hx⟩ := ha
 obtain ⟨A2, c2, rfl, hc2, hm2, hy⟩ := hb
 clear hy
 obtain rfl : rows = [] := List.eq_nil_of_length_eq_zero h0
 simp only [List.length_nil] at *
 clear hx
 have hl : ((bs.length : Int) != (0 : Int)) = false := by rw [hbl]; simp
 have HL := hide hbl; clear hbl
 have H0 := hide h0; clear h0
 have hsh := hide hs; clear hs
 have hlg := hide hl2; clear hl2
 have hb0 : Below w.heap.size w (w.alloc (.cells #[.slice A1 0 c1] 24)) := (Below.refl _ _).alloc (nr _) _
 go_enter Tryz.func57, Tryz.ntmps57
 go_wp2_with fail
 refine (contains_shape _ _ [] L w.heap.size (cell_new1 _ _ _ rfl) (HA.out.1.below hb0) hL).mono ?_
 rintro e w1 ⟨_, rfl, rfl, hd2⟩
 have hb1 := bnx hb0 hd2
 have hbx := (hd2.cell (by simp)).trans (cell_new1 w (.slice A1 0 c1) 24 rfl)
 rw [show anyB (shapeB []) ([] : List (List Rat)).length = false from rfl]
 go_wp2_with fail
 refine (contains_q _ _ bs L (HA.out.2.below hb1) hL).mono ?_
 rintro e w2 ⟨_, rfl, rfl, hd3⟩
 have hb2 := bnx hb1 hd3
 have hby := (hd3.cell (lt_of_cell hbx)).trans hbx
 clear hbx
 rw [hlg.out]
 go_wp2
 go_ret
 exact ⟨_, rfl, rfl, hb2⟩
set_option maxRecDepth 100000 in
theorem check_zok (w : World) (va vb : Value) (rows : List (List Rat)) (bs : List Rat) (L : Nat) (ha : RowsV w va rows L) (hb : RowV w vb bs L) (hL : L ≤ 1073741800) (h0 : rows.length = 0) (hbl : bs.length = rows.length) (hs : anyB (shapeB rows) rows.length = false) (hl2 : anyB (fun i => longQ (bs.getD i 0)) bs.length = false) (hl3 : anyB (longB rows) rows.length = false) :
  Calls Tryz.prog 57 #[va, vb] w (Ret (fun v w' => v = .int .i64 0 ∧ Below w.heap.size w w')) := by
 have HA := hide (ai ha hb)
 obtain ⟨A1, c1, rfl, hc1, hm1, hx⟩ := ha
 obtain ⟨A2, c2, rfl, hc2, hm2, hy⟩ := hb
 clear hy
 obtain rfl : rows = [] := List.eq_nil_of_length_eq_zero h0
 simp only [List.length_nil] at *
 clear hx
 have hl : ((bs.length : Int) != (0 : Int)) = false := by rw [hbl]; simp
 have HL := hide hbl; clear hbl
 have H0 := hide h0; clear h0
 have hsh := hide hs; clear hs
 have hlg := hide hl2; clear hl2
 have hlr := hide hl3; clear hl3
 have hb0 : Below w.heap.size w (w.alloc (.cells #[.slice A1 0 c1] 24)) := (Below.refl _ _).alloc (nr _) _
 go_enter Tryz.func57, Tryz.ntmps57
 go_wp2_with fail
 refine (contains_shape _ _ [] L w.heap.size (cell_new1 _ _ _ rfl) (HA.out.1.below hb0) hL).mono ?_
 rintro e w1 ⟨_, rfl, rfl, hd2⟩
 have hb1 := bnx hb0 hd2
 have hbx := (hd2.cell (by simp)).trans (cell_new1 w (.slice A1 0 c1) 24 rfl)
 rw [show anyB (shapeB []) ([] : List (List Rat)).length = false from rfl]
 go_wp2_with fail
 refine (contains_q _ _ bs L (HA.out.2.below hb1) hL).mono ?_
 rintro e w2 ⟨_, rfl, rfl, hd3⟩
 have hb2 := bnx hb1 hd3
 have hby := (hd3.cell (lt_of_cell hbx)).trans hbx
 clear hbx
 rw [hlg.out]
 go_wp2_with fail
 refine (contains_longs _ _ [] L (HA.out.1.below hb2) hL).mono ?_
 rintro e w3 ⟨_, rfl, rfl, hd4⟩
 have hb3 := bnx hb2 hd4
 rw [show anyB (longB []) ([] : List (List Rat)).length = false from rfl]
 go_wp2
 go_ret
 exact ⟨_, rfl, rfl, hb3⟩
theorem check_c (w : World) (va vb : Value) (rows : List (List Rat)) (bs : List Rat) (L : Nat) (ha : RowsV w va rows L) (hb : RowV w vb bs L) (hL : L ≤ 1073741800) :
  Calls Tryz.prog 57 #[va, vb] w (Ret (fun v w' => v = .int .i64 (checkQ rows bs) ∧ Below w.heap.size w w')) := by
 have no : ∀ {b : Bool}, ¬ b = true → b = false := fun h => by simpa using h
 unfold checkQ
 by_cases h40 : 40 < rows.length
 ·rw [if_pos (.inl h40)]; exact check_many w va vb rows bs L ha hb hL h40
 rcases Nat.eq_zero_or_pos rows.length with h0 | h0
 ·rw [if_neg (by omega)]
  have s0 : anyB (shapeB rows) rows.length = false := by rw [h0]; rfl
  have l0 : anyB (longB rows) rows.length = false := by rw [h0]; rfl
  by_cases hbl : bs.length = rows.length
  ·rw [if_neg (by rw [s0]; simp [hbl])]
   by_cases hl2 : anyB (fun i => longQ (bs.getD i 0)) bs.length = true
   ·rw [if_pos (.inl hl2)]; exact check_zlong w va vb rows bs L ha hb hL h0 hbl s0 hl2
   ·rw [if_neg (by rw [l0]; simpa using hl2)]; exact check_zok w va vb rows bs L ha hb hL h0 hbl s0 (no hl2) l0
  ·rw [if_pos (.inl hbl)]; exact check_zlen w va vb rows bs L ha hb hL h0 hbl
 ·by_cases hwd : 40 < (rows.getD 0 []).length
  ·rw [if_pos (.inr ⟨h0, hwd⟩)]; exact check_wide w va vb rows bs L ha hb hL h40 h0 hwd
  ·rw [if_neg (by omega)]
   by_cases hbl : bs.length = rows.length
   ·by_cases hs : anyB (shapeB rows) rows.length = true
    ·rw [if_pos (.inr hs)]; exact check_pshape w va vb rows bs L ha hb hL h40 h0 hwd hbl hs
    ·rw [if_neg (by simp [hbl, no hs])]
     by_cases hl2 : anyB (fun i => longQ (bs.getD i 0)) bs.length = true
     ·rw [if_pos (.inl hl2)]; exact check_plong w va vb rows bs L ha hb hL h40 h0 hwd hbl (no hs) hl2
     ·by_cases hl3 : anyB (longB rows) rows.length = true
      ·rw [if_pos (.inr hl3)]; exact check_plongs w va vb rows bs L ha hb hL h40 h0 hwd hbl (no hs) (no hl2) hl3
      ·rw [if_neg (fun h => h.elim hl2 hl3)]; exact check_pok w va vb rows bs L ha hb hL h40 h0 hwd hbl (no hs) (no hl2) (no hl3)
   ·rw [if_pos (.inl hbl)]; exact check_plen w va vb rows bs L ha hb hL h40 h0 hwd hbl
end Go.Proofs.YthnnbpnocefmgaaGreat
