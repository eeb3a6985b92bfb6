import Derived.Test.YthnnbpnocefmgaaGreatQop9
import Derived.Test.YthnnbpnocefmgaaGreatCalc2
import Derived.Test.YthnnbpnocefmgaaGreatStr9
import Derived.Test.YthnnbpnocefmgaaGreatLst1
import Derived.Test.YthnnbpnocefmgaaGreatList
import Derived.SliceStrings
import Derived.Deep.Slices
import Derived.SizedLaws
namespace Go.Proofs.YthnnbpnocefmgaaGreat
set_option linter.unusedVariables false
set_option linter.unusedSimpArgs false
open Go.RowKit
def lenR (w : World) (x : Int) (v : Value) (w' : World) : Prop := ∃ n : Nat, v = .int .i64 n ∧ 1 ≤ n ∧ (x = 0 → n = 1) ∧ (0 < x → 10 ^ (n - 1) ≤ x) ∧ x < 10 ^ n ∧ w = w'
theorem top_split (xs : List Int) (h : 0 < xs.length) : val 1000000000 xs = val 1000000000 (xs.take (xs.length - 1)) + 1000000000 ^ (xs.length - 1) * xs.getD (xs.length - 1) 0 := by
 have := val_take_succ 1000000000 xs (xs.length - 1) (by omega)
 rw [show xs.length - 1 + 1 = xs.length by omega, List.take_length] at this
 exact this
theorem len9_c (w : World) (v : Value) (x : Int) (L : Nat) (hx : LimV w v x L) (hL : L ≤ 17592186000000) :
  Calls Tryz.prog 105 #[v] w (Ret (lenR w x)) := by
 obtain ⟨A, c, xs, rfl, hc, hm, ha, hd, hn, rfl, hl⟩ := hx
 unfold maxLen at hm
 by_cases h0 : xs.length = 0
 ·obtain rfl : xs = [] := List.eq_nil_of_length_eq_zero h0
  clear ha hd hn
  go_enter Tryz.func105, Tryz.ntmps105
  go_wp2
  go_ret
  exact ⟨_, rfl, 1, rfl, by omega, fun _ => rfl, fun h => by simp [val] at h, by simp [val], rfl⟩
 ·have hp : 0 < xs.length := by omega
  have hb0 : ((xs.length : Int) == 0) = false := by rw [beq_eq_false_iff_ne]; omega
  obtain ⟨b, o, rfl, hbl, hcell⟩ := ha.at_ hp
  have htc := hcell (xs.length - 1) (by omega)
  have htb := hd.at_ (k := xs.length - 1) (by omega)
  have hts := top_split xs hp
  have htn := hn.last hp
  obtain ⟨t, ht⟩ : ∃ t, t = xs.getD (xs.length - 1) 0 := ⟨_, rfl⟩
  rw [← ht] at htc htb hts htn
  have hlow := val_nonneg (B := 1000000000) (by omega) (hd.take (xs.length - 1))
  have hlow2 := val_lt (B := 1000000000) (by omega) (hd.take (xs.length - 1))
  rw [List.length_take, show min (xs.length - 1) xs.length = xs.length - 1 by omega] at hlow2
  have ht1 : 0 < t := by omega
  have HT := hide (ai hts (ai hlow (ai hlow2 (ai htb ht1)))); clear hts hlow hlow2 htb ht htn hcell hd hn ha
  have hm0 : (0 : Int) ≤ (xs.length : Int) - 1 := by omega
  have hm1 : (xs.length : Int) - 1 < (xs.length : Int) := by omega
  obtain ⟨k, hk⟩ : ∃ k : Nat, xs.length = k + 1 := ⟨xs.length - 1, by omega⟩
  have HK := hide hk; clear hk
  go_enter Tryz.func105, Tryz.ntmps105
  go_wp2
  go_loop [3, 4] (fun s3 s4 => ∃ c : Nat, c ≤ 9 ∧ s3 = .int .i64 (9 * ((xs.length : Int) - 1) + c) ∧ s4 = .int .i64 (t / 10 ^ c) ∧ (0 < c → 10 ^ (c - 1) ≤ t)) (fun _ s4 => (intOf s4).toNat)
  case atStart => exact ⟨0, by omega, by simp, by simp, fun h => by omega⟩
  case round =>
   obtain ⟨c', hc9, rfl, rfl, hc10⟩ := hrel
   have hpc : (0 : Int) < 10 ^ c' := Int.pow_pos (by omega)
   have hv0 : 0 ≤ t / 10 ^ c' := Int.ediv_nonneg (by have := HT.out.2.2.2.2; omega) (by omega)
   have hv1 : t / 10 ^ c' ≤ 999999999 := by
    have h1 := Int.ediv_le_self (10 ^ c' : Int) (show 0 ≤ t by have := HT.out.2.2.2.2; omega)
    have := HT.out.2.2.2.1.2
    omega
   have hdd : t / 10 ^ c' / 10 = t / 10 ^ (c' + 1) := by rw [Int.pow_succ, Int.ediv_ediv_of_nonneg (by omega)]
   have hge : 0 < t / 10 ^ c' → 10 ^ c' ≤ t := fun h => by
    have := (Int.le_ediv_iff_mul_le hpc).1 (show 1 ≤ t / 10 ^ c' by omega)
    omega
   have hend : ¬ 0 < t / 10 ^ c' → t < 10 ^ c' := fun h => by
    have e : t / 10 ^ c' = 0 := by omega
    have := Int.emod_add_mul_ediv t (10 ^ c')
    have := Int.emod_lt_of_pos t hpc
    rw [e] at *
    omega
   obtain ⟨u, hu⟩ : ∃ u, u = t / 10 ^ c' := ⟨_, rfl⟩
   rw [← hu] at hv0 hv1 hdd hge hend ⊢
   have hc8 : 0 < u → c' ≤ 8 := fun h => by
    rcases Nat.lt_or_ge c' 9 with h9 | h9
    ·omega
    ·have h1 := hge h
     have h2 := pow_le_pow' (B := 10) (by omega) h9
     have h3 : (10 : Int) ^ 9 = 1000000000 := by decide
     have := HT.out.2.2.2.1.2
     omega
   have HC := hide (ai hdd (ai hge (ai hend (ai hc10 (ai hc8 hu))))); clear hdd hge hend hc10 hu hpc hc8
   by_cases hlt : 0 < u
   ·go_wp2
    go_round
    case rel =>
     obtain ⟨e1, e2, e3, e4, e5, e6⟩ := HC.out
     exact ⟨c' + 1, by have := e5 hlt; omega, by go_num, by rw [e1], fun _ => by simpa using e2 hlt⟩
    case measure => simp [intOf]; omega
   ·go_wp2
    go_ret
    obtain ⟨e1, e2, e3, e4, e5, e6⟩ := HC.out
    obtain ⟨f1, f2, f3, f4, f5⟩ := HT.out
    have e3 := e3 hlt
    have hc1 : 0 < c' := by
     rcases Nat.eq_zero_or_pos c' with h | h
     ·subst h; simp at e3; omega
     ·exact h
    have e4 := e4 hc1
    rw [HK.out, show k + 1 - 1 = k by omega] at f1 f2 f3
    have hP : (1000000000 : Int) ^ k = 10 ^ (9 * k) := by rw [Int.pow_mul]; rfl
    rw [hP] at f1 f3
    have hP0 : (0 : Int) < 10 ^ (9 * k) := Int.pow_pos (by omega)
    have g1 : (10 : Int) ^ (9 * k + (c' - 1)) = 10 ^ (9 * k) * 10 ^ (c' - 1) := Int.pow_add ..
    have g2 : (10 : Int) ^ (9 * k + c') = 10 ^ (9 * k) * 10 ^ c' := Int.pow_add ..
    have g3 : (10 : Int) ^ (9 * k) * 10 ^ (c' - 1) ≤ 10 ^ (9 * k) * t := Int.mul_le_mul_of_nonneg_left e4 (by omega)
    have g4 : (10 : Int) ^ (9 * k) * (t + 1) ≤ 10 ^ (9 * k) * 10 ^ c' := Int.mul_le_mul_of_nonneg_left (by omega) (by omega)
    rw [Int.mul_add, Int.mul_one] at g4
    have g5 : (0 : Int) < 10 ^ (9 * k) * 10 ^ (c' - 1) := Int.mul_pos hP0 (Int.pow_pos (by omega))
    refine ⟨_, rfl, 9 * k + c', congrArg (Value.int .i64) (by have := HK.out; omega), by omega, fun h => by omega, fun _ => ?_, ?_, rfl⟩
    ·rw [show 9 * k + c' - 1 = 9 * k + (c' - 1) by omega, g1]; omega
    ·rw [g2]; omega
def RowE (L : Nat) : World → Value → List Rat → Prop := LstV 35 3 (RatE L)
def QRowE (L : Nat) : World → Value → List Rat → Prop := LstV 41 4 (QE L)
def StrsE (w : World) (v : Value) (ss : List ByteArray) : Prop := ∃ T, LstV T 1 StrE w v ss
theorem stB_row (L : Nat) : StB (RowE L) := stB_lst (stB_rat L)
theorem stB_qrow (L : Nat) : StB (QRowE L) := stB_lst (stB_q L)
theorem stK_row {T : TypeId} (L : Nat) (hT : 126 ≠ T) (hT2 : 35 ≠ T) : StK T (RowE L) := stK_lst (stK_rat L hT) hT2
theorem stK_qrow {T : TypeId} (L : Nat) (hT : 3 ≠ T) (hT2 : 41 ≠ T) : StK T (QRowE L) := stK_lst (stK_q L hT) hT2
theorem Tryz.rowE : ElT Tryz.prog 24 26 1 24 := ⟨Tryz.underlying24, ⟨.slice none 0 0, rfl, by kernel_rfl⟩, by decide, by decide⟩
theorem Tryz.qrowE : ElT Tryz.prog 25 27 1 24 := ⟨Tryz.underlying25, ⟨.slice none 0 0, rfl, by kernel_rfl⟩, by decide, by decide⟩
theorem one_slice (A : Option Addr) (n c : Nat) : ∀ x ∈ (Value.slice A n c).cells.toList, x.oneCell' = true := by
 intro x hx
 simp [Value.cells] at hx
 subst hx; rfl
noncomputable def fracRow (cols : Nat) (ss : List ByteArray) : List Rat := (ss.take cols).map (fracOf 200)
def matrixR (w : World) (rows : List (List Rat)) (v : Value) (w' : World) : Prop :=
 ∃ va vb, v = .tuple #[va, vb] ∧ LstV 26 1 (RowE 23) w' va rows ∧ LstV 27 1 (QRowE 23) w' vb rows ∧ Below w.heap.size w w'
set_option maxRecDepth 100000 in
set_option maxHeartbeats 4000000 in
theorem matrix_c (w : World) (v : Value) (ls : List (List ByteArray)) (m p : Nat) {T : TypeId} (hv : LstV T 1 StrsE w v ls) (hm : m ≤ 1000) (hp : p ≤ 1000) :
  Calls Tryz.prog 55 #[v, .int .i64 m, .int .i64 p] w (Ret (matrixR w ((ls.take m).map (fracRow p)))) := by
 obtain ⟨A, c, rfl, hc1, hc2, hc3⟩ := hv
 unfold maxLen at hc2
 have HC := hide hc3; clear hc3
 go_enter Tryz.func55, Tryz.ntmps55
 go_wp2
 go_loopw [8, 9, 10] (fun s6 s7 s8 wr => ∃ k : Nat, k ≤ ls.length ∧ k ≤ m ∧ s8 = .int .i64 k ∧ OwnG 26 1 (RowE 23) wr w.heap.size s6 ((ls.take k).map (fracRow p)) ∧ OwnG 27 1 (QRowE 23) wr w.heap.size s7 ((ls.take k).map (fracRow p)) ∧ Below w.heap.size w wr) (fun _ _ s8 _ => ls.length - (intOf s8).toNat)
 case atStart => exact ⟨0, by omega, by omega, rfl, OwnG.nil _ _ _ _ _, OwnG.nil _ _ _ _ _, Below.refl _ _⟩
 case round =>
  obtain ⟨k, hk, hkm, rfl, hoa, hob, hbel⟩ := hrel
  have HO := hide (ai hoa (ai hob hbel))
  obtain ⟨Aa, ca, ea, _⟩ := hoa.len
  obtain ⟨Ab, cb, eb, _⟩ := hob.len
  have hlk : ((ls.take k).map (fracRow p)).length = k := by simp; omega
  rw [hlk] at ea eb
  clear hlk hoa hob hbel
  subst ea eb
  by_cases hkl : k < ls.length
  ·have d1 : decide (k < ls.length) = true := decide_eq_true hkl
   by_cases hkm2 : k < m
   ·have d2 : decide (k < m) = true := decide_eq_true hkm2
    obtain ⟨b, o, rfl, ht, hcl⟩ := HC.out (by omega)
    have hsk : ls[k]? = some ls[k] := List.getElem?_eq_getElem hkl
    obtain ⟨s, hs⟩ : ∃ s, s = ls[k] := ⟨_, rfl⟩
    rw [← hs] at hsk
    obtain ⟨u, hu1, hu2, hu3⟩ := hcl k s hsk
    obtain ⟨Ts, hu3⟩ := hu3
    obtain ⟨As, ns, cs, rfl⟩ : ∃ As ns cs, u = .slice As ns cs := by obtain ⟨As, cs, e, _⟩ := id hu3; exact ⟨_, _, _, e⟩
    have hcell : wr.cell? ⟨b, o + k, none⟩ = some (.slice As ns cs) := by
     have := (HO.out.2.2.cell (p := ⟨b, o + k * 1 + 0, none⟩) ht.lt).trans (hu2 0 (by rw [hu1]; decide))
     rw [Nat.mul_one, Nat.add_zero] at this
     exact this
    have HF := hide (fun (h : Below w.heap.size w wr) => list_c wr (.slice As ns cs) s p (LstV.below stB_str hu3 h) hp)
    have HS := hide hsk
    clear hcl hu1 hu2 hu3 ht hs hsk
    go_wp2_with fail
    refine (HF.out HO.out.2.2).mono ?_
    rintro e w1 ⟨_, rfl, va, vb, rfl, hv, hv', hd⟩
    replace hv : RowE 23 w1 va (fracRow p s) := hv
    replace hv' : QRowE 23 w1 vb (fracRow p s) := hv'
    obtain ⟨A1, n1, c1, rfl⟩ : ∃ As ns cs, va = .slice As ns cs := by obtain ⟨As, cs, e, _⟩ := id hv; exact ⟨_, _, _, e⟩
    obtain ⟨A1', n1', c1', rfl⟩ : ∃ As ns cs, vb = .slice As ns cs := by obtain ⟨As, cs, e, _⟩ := id hv'; exact ⟨_, _, _, e⟩
    have HV := hide (ai hv (ai hv' hd))
    clear hv hv' hd hcell
    have hwk : ((ls.take k).map (fracRow p)).length = k := by simp; omega
    have HWK := hide hwk; clear hwk
    have hbw1 : w.heap.size ≤ w1.heap.size := by have := HO.out.2.2.size; have := HV.out.2.2.size; omega
    go_wp2_with (first
     | (at_builtin; refine appG Tryz.rowE (stK_row 23 (by decide) (by decide)) _ rfl _ _ rfl w.heap.size _ ((ls.take k).map (fracRow p)) (fracRow p s) rfl (OwnG.below (stB_row 23) HO.out.1 (below_al HV.out.2.2 _)) ⟨w1.heap.size, 0, none⟩ _ rfl (.slice A1 n1 c1) (stB_row 23 _ _ _ _ (below_al (Below.refl _ _) _) HV.out.1) rfl (cells_new1 _ _ rfl _ rfl) (one_slice _ _ _) (by rw [HWK.out]; omega) (by simp; omega) ?_; intro g5 c5 w5 hown5 hb5 hg5; rw [HWK.out];
        have hq5 := stB_qrow 23 _ _ _ _ (below_al (Below.refl _ _) (.cells #[.slice A1 n1 c1] 26)) HV.out.2.1;
        have hown7 := OwnG.kp (stK_qrow 23 (by decide) (by decide)) (OwnG.below (stB_qrow 23) HO.out.2.1 (below_al HV.out.2.2 (.cells #[.slice A1 n1 c1] 26))) (by decide) hg5.kp;
        have H5 := hide (ai hown5 (ai (stK_qrow 23 (by decide) (by decide) _ _ _ _ hg5.kp hq5) (ai hown7 hb5)));
        have hsz5 : w1.heap.size + 1 ≤ w5.heap.size := (by have := hg5.by_.size; simp at this; omega);
        clear hown5 hb5 hg5 hq5 hown7)
     | (at_builtin; refine appG Tryz.qrowE (stK_qrow 23 (by decide) (by decide)) _ rfl _ _ rfl w.heap.size _ ((ls.take k).map (fracRow p)) (fracRow p s) rfl (OwnG.below (stB_qrow 23) H5.out.2.2.1 (below_al (Below.refl _ _) _)) ⟨w5.heap.size, 0, none⟩ _ rfl (.slice A1' n1' c1') (stB_qrow 23 _ _ _ _ (below_al (Below.refl _ _) _) H5.out.2.1) rfl (cells_new1 _ _ rfl _ rfl) (one_slice _ _ _) (by rw [HWK.out]; omega) (by simp; omega) ?_; intro g6 c6 w6 hown6 hb6 hg6; rw [HWK.out];
        have hownr := OwnG.kp (stK_row 23 (by decide) (by decide)) (OwnG.below (stB_row 23) H5.out.1 (below_al (Below.refl _ _) (.cells #[.slice A1' n1' c1'] 27))) (by decide) hg6.kp;
        have hbl6 := ((HO.out.2.2.trans ((below_al HV.out.2.2 (.cells #[.slice A1 n1 c1] 26)).mono HO.out.2.2.size)).trans H5.out.2.2.2).trans (((Below.refl _ _).alloc (by omega) (.cells #[.slice A1' n1' c1'] 27)).trans hb6);
        rw [HWK.out] at hown6 hownr;
        have H6 := hide (ai hownr (ai hown6 hbl6));
        clear hown6 hb6 hg6 hownr hbl6))
    have hsn := take_snoc_map (fracRow p) HS.out
    have HSN := hide hsn
    clear hsn
    go_wp2
    case roundEnd => exact ⟨⟨k + 1, by omega, by omega, by go_num, by rw [HSN.out]; exact H6.out.1, by rw [HSN.out]; exact H6.out.2.1, H6.out.2.2⟩, by simp [intOf]; omega⟩
   ·have d2 : decide (k < m) = false := decide_eq_false hkm2
    have hkm3 : ls.take m = ls.take k := by rw [show k = m by omega]
    have HKM := hide hkm3; clear hkm3
    go_wp2
    refine bodyPost_ret (v := .tuple #[.slice Aa k ca, .slice Ab k cb]) ?_ rfl ?_
    ·simp [results, Tryz.results55, go_sem]
    rw [HKM.out]
    exact ⟨_, rfl, _, _, rfl, HO.out.1.lst, HO.out.2.1.lst, HO.out.2.2⟩
  ·have d1 : decide (k < ls.length) = false := decide_eq_false hkl
   have hkm3 : ls.take m = ls.take k := by rw [List.take_of_length_le (by omega), List.take_of_length_le (by omega)]
   have HKM := hide hkm3; clear hkm3
   go_wp2
   refine bodyPost_ret (v := .tuple #[.slice Aa k ca, .slice Ab k cb]) ?_ rfl ?_
   ·simp [results, Tryz.results55, go_sem]
   rw [HKM.out]
   exact ⟨_, rfl, _, _, rfl, HO.out.1.lst, HO.out.2.1.lst, HO.out.2.2⟩
def digitsB (most : Nat) (q : Rat) : Bool := !(decide ((q.num.natAbs : Int) < 10 ^ most) && decide ((q.den : Int) < 10 ^ most))
theorem digitsB_frac {most : Nat} {q : Rat} (h : digitsB most q = false) : FracQ most q := by
 unfold digitsB at h
 simp only [Bool.not_eq_false', Bool.and_eq_true, decide_eq_true_eq] at h
 exact h
theorem digitsB_not {most : Nat} {q : Rat} (h : FracQ most q) : digitsB most q = false := by
 unfold digitsB
 simp only [Bool.not_eq_false', Bool.and_eq_true, decide_eq_true_eq]
 exact h
theorem len_lt {x : Int} {n most : Nat} (h0 : 0 ≤ x) (h1 : x = 0 → n = 1) (h2 : 0 < x → 10 ^ (n - 1) ≤ x) (h3 : x < 10 ^ n) (hm : 1 ≤ most) : (most < n) ↔ ¬ x < 10 ^ most := by
 constructor
 ·intro h
  by_cases e : x = 0
  ·have := h1 e; omega
  ·have a := h2 (by omega)
   have b := pow_le_pow' (B := 10) (by omega) (show most ≤ n - 1 by omega)
   omega
 ·intro h
  refine Classical.byContradiction fun hn => h ?_
  have b := pow_le_pow' (B := 10) (by omega) (show n ≤ most by omega)
  omega
set_option maxRecDepth 100000 in
set_option maxHeartbeats 4000000 in
theorem digits_c (w : World) (v : Value) (q : Rat) (L most : Nat) (hq : QV w v q L) (hL : L ≤ 1000000000) (h1 : 1 ≤ most) (hm : most ≤ 1000) :
  Calls Tryz.prog 59 #[v, .int .i64 most] w (Ret (fun v w' => v = .bool (digitsB most q) ∧ Below w.heap.size w w')) := by
 obtain ⟨s, A, n, c, B, m, d, rfl, hz, hy⟩ := hq.parts
 have hq' := hq
 obtain ⟨nn, dd, e, hn, hd⟩ := hq
 simp only [Value.agg.injEq, Array.mk.injEq, List.cons.injEq, and_true] at e
 obtain ⟨e1, e2, e3, e4⟩ := e
 subst e2 e4
 have hb0 : Below w.heap.size w (w.alloc (.cells #[.bool s, .slice A n c, .bool false, .slice B m d] 41)) := (Below.refl _ _).alloc (nr _) _
 have HN := hide (ai (hn.below hb0) (ai (hd.below hb0) hb0))
 have hh := at_new w (.cells #[.bool s, .slice A n c, .bool false, .slice B m d] 41)
 clear hz hy hq' hn hd e1 hb0
 obtain ⟨k0, k1, k2, k3, _⟩ := four_cells hh
 clear hh
 go_enter Tryz.func59, Tryz.ntmps59
 go_wp2_with fail
 refine (len9_c _ _ _ L HN.out.1 (by omega)).mono ?_
 rintro e w1 ⟨_, rfl, n1, rfl, a1, a2, a3, a4, rfl⟩
 have i1 := len_lt (by omega) a2 a3 a4 h1
 have I1 := hide i1
 clear a1 a2 a3 a4 i1
 by_cases hb1 : most < n1
 ·have d1 : decide (most < n1) = true := decide_eq_true hb1
  have hres : digitsB most q = true := by
   unfold digitsB
   rw [show decide ((q.num.natAbs : Int) < 10 ^ most) = false from decide_eq_false (by have := I1.out.1 hb1; omega)]
   rfl
  have HR := hide hres
  clear hres
  go_wp2
  refine bodyPost_ret (v := .bool true) ?_ rfl ?_
  ·simp [results, Tryz.results59, go_sem]
  exact ⟨_, rfl, by rw [HR.out], HN.out.2.2⟩
 ·have d1 : decide (most < n1) = false := decide_eq_false hb1
  go_wp2_with fail
  refine (len9_c _ _ _ L HN.out.2.1 (by omega)).mono ?_
  rintro e w1 ⟨_, rfl, n2, rfl, a1, a2, a3, a4, rfl⟩
  have i2 := len_lt (by omega) a2 a3 a4 h1
  have hres : digitsB most q = decide (most < n2) := by
   unfold digitsB
   have g1 : (q.num.natAbs : Int) < 10 ^ most := Classical.byContradiction fun h => hb1 (I1.out.2 (by omega))
   rw [show decide ((q.num.natAbs : Int) < 10 ^ most) = true from decide_eq_true g1, Bool.true_and]
   by_cases h : most < n2
   ·rw [decide_eq_true h, decide_eq_false (i2.1 h)]; rfl
   ·rw [decide_eq_false h, decide_eq_true (Classical.byContradiction fun h' => h (i2.2 h'))]; rfl
  have HR := hide hres
  clear a1 a2 a3 a4 i2 hres
  go_wp2
  refine bodyPost_ret (v := .bool (decide (most < n2))) ?_ rfl ?_
  ·simp [results, Tryz.results59, go_sem]
  exact ⟨_, rfl, by rw [HR.out], HN.out.2.2⟩
open Go.RowKit Go.ChangeShapes Go.WideShapes
theorem cell_typed {w : World} {a : Addr} {v : Value} (h : w.cell? a = some v) : a.spot = none ∧ ∃ T, Typed w a.block T := by
 unfold World.cell? at h
 split at h
 ·rename_i c e f hb
  split at h
  ·cases h
  ·rename_i hs
   exact ⟨by simpa using hs, e, c, f, hb⟩
 ·cases h
theorem add_plain {a : Addr} (h : a.spot = none) (i : Nat) : a.add i = ⟨a.block, a.off + i, none⟩ := by
 obtain ⟨b, o, s⟩ := a
 simp only at h
 subst h
 unfold Addr.add
 split <;> simp_all
section
variable {H : Type} {enc : TypeId × Value → H} {P : Program} {w : World} {base : Nat} {spare : Nat → Bool} {held : Bool}
theorem all_le {l : List Nat} (h : l.all (· ≤ reachBytes) = true) {n : Nat} (hn : n ∈ l) : n ≤ reachBytes := by
 have := List.all_eq_true.1 h n hn
 simpa using this
theorem weightsAll_mem {e : TypeId} {l : List (DataW H)} {d : DataW H} (hd : d ∈ l) {n : Nat} (hn : n ∈ d.weights P e) : n ∈ DataW.weightsAll P e l := by
 induction l with
 | nil => cases hd
 | cons x l ih =>
  rw [DataW.weightsAll]
  rcases List.mem_cons.1 hd with rfl | hd
  ·exact List.mem_append_left _ hn
  ·exact List.mem_append_right _ (ih hd)
theorem open_strsE {t e : TypeId} {fuel : Nat} {cs : List Value} {x : DataW H × List MemPlace} (ht : P.underlying t = some (.slice e)) (he : P.underlying e = some .string) (hc : P.cellsOf e = 1)
  (h : DataW.trod enc P w base spare held fuel t cs = some x) (hsz : ∀ n ∈ x.1.weights P t, n ≤ reachBytes) : ∃ v ss, cs = [v] ∧ StrsE w v ss := by
 rcases open_strings ht he hc h with ⟨hcs, hx⟩ | ⟨a, len, cap, ss, hcs, hb, hl, hm, hz, rfl, hcell, hms⟩
 ·exact ⟨_, [], hcs, 0, LstV.nil _ _ _ _⟩
 ·have hlen : len ≤ ss.length := by rw [hz]; split <;> omega
  have hw : ∀ s ∈ ss.take len, s.size ≤ 140737488355328 := by
   intro s hs
   have h1 : s.data.toList.length ∈ (DataW.slice (H := H) (strs (ss.take len)) (strs (ss.drop len))).weights P t := by
    rw [DataW.weights, ht]
    refine List.mem_cons_of_mem _ (List.mem_append_left _ (weightsAll_mem (d := .lit (.string s.data.toList)) ?_ ?_))
    ·unfold strs; exact List.mem_map.2 ⟨s, hs, rfl⟩
    ·rw [DataW.weights]; exact List.mem_singleton.2 rfl
   have h2 := hsz _ h1
   have h3 := reachBytes_lt
   rw [Array.length_toList] at h2
   show s.data.size ≤ _
   omega
  by_cases h0 : len = 0
  ·refine ⟨_, [], hcs, 0, _, _, by rw [h0]; rfl, Nat.zero_le _, hm, fun hx => by simp at hx⟩
  ·have hc0 := hcell 0 (by omega)
   obtain ⟨hsp, T, ht0⟩ := cell_typed hc0
   have hsp' : a.spot = none := by
    obtain ⟨b, o, s⟩ := a
    unfold Addr.add at hsp
    split at hsp <;> simp_all
   have hblk : (a.add 0).block = a.block := by rw [add_plain hsp']
   rw [hblk] at ht0
   have hll : (ss.take len).length = len := by rw [List.length_take]; omega
   refine ⟨_, ss.take len, hcs, T, some a, cap, by rw [hll], by rw [hll]; exact hl, hm, fun _ => ⟨a.block, a.off, by obtain ⟨b, o, s⟩ := a; simp only at hsp'; rw [hsp'], ht0, fun i s hi => ?_⟩⟩
   have hil : i < len := by have := (List.getElem?_eq_some_iff.1 hi).1; omega
   have hc1 := hcell i (by omega)
   rw [add_plain hsp'] at hc1
   have hs : ss.getD i ByteArray.empty = s := by
    rw [List.getElem?_take_of_lt hil] at hi
    rw [List.getD, hi]; rfl
   rw [hs] at hc1
   refine ⟨.string s, rfl, fun j hj => ?_, rfl, hw s (List.mem_of_getElem? hi)⟩
   have : j = 0 := by have : (Value.string s).cells.size = 1 := rfl
                      omega
   subst this
   rw [Nat.mul_one, Nat.add_zero]
   exact hc1
theorem open_strssE {t u e : TypeId} {fuel : Nat} {cs : List Value} {x : DataW H × List MemPlace} (ht : P.underlying t = some (.slice u)) (hu : P.underlying u = some (.slice e)) (he : P.underlying e = some .string) (hcu : P.cellsOf u = 1) (hc : P.cellsOf e = 1)
  (h : DataW.trod enc P w base spare held fuel t cs = some x) (hsz : ∀ n ∈ x.1.weights P t, n ≤ reachBytes) : ∃ v T ls, cs = [v] ∧ LstV T 1 StrsE w v ls := by
 rcases Deep.open_slice1 ht hcu h with ⟨hcs, hx⟩ | ⟨a, len, cap, m, n, V, D, Pl, hcs, hb, hl, hm, hz, rfl, hrow⟩
 ·exact ⟨_, 0, [], hcs, LstV.nil _ _ _ _⟩
 ·have hlen : len ≤ m := by rw [hz]; split <;> omega
  have each : ∀ i, i < len → ∃ ss, StrsE w (V i) ss := by
   intro i hi
   obtain ⟨v, ss, hv, hs⟩ := open_strsE hu he hc (hrow i (by omega)).2 (fun k hk => hsz k (by
    rw [DataW.weights, ht]
    refine List.mem_cons_of_mem _ (List.mem_append_left _ (weightsAll_mem (d := D i) ?_ hk))
    exact List.mem_map.2 ⟨i, List.mem_range.2 hi, rfl⟩))
   injection hv with hv
   rw [hv]; exact ⟨ss, hs⟩
  obtain ⟨S, hS⟩ := Deep.choose_lt each
  by_cases h0 : len = 0
  ·refine ⟨_, 0, [], hcs, _, _, by rw [h0]; rfl, Nat.zero_le _, hm, fun hx => by simp at hx⟩
  ·have hc0 := (hrow 0 (by omega)).1
   obtain ⟨hsp, T, ht0⟩ := cell_typed hc0
   have hsp' : a.spot = none := by
    obtain ⟨b, o, s⟩ := a
    unfold Addr.add at hsp
    split at hsp <;> simp_all
   have hblk : (a.add 0).block = a.block := by rw [add_plain hsp']
   rw [hblk] at ht0
   have hll : ((List.range len).map S).length = len := by simp
   refine ⟨_, T, (List.range len).map S, hcs, some a, cap, by rw [hll], by rw [hll]; exact hl, hm, fun _ => ⟨a.block, a.off, by obtain ⟨b, o, s⟩ := a; simp only at hsp'; rw [hsp'], ht0, fun i s hi => ?_⟩⟩
   have hil : i < len := by have := (List.getElem?_eq_some_iff.1 hi).1; omega
   have hc1 := (hrow i (by omega)).1
   rw [add_plain hsp'] at hc1
   have hs : S i = s := by
    simp [hil] at hi
    exact hi
   have hSi := hS i hil
   rw [hs] at hSi
   obtain ⟨A1, c1, hv1⟩ : ∃ A c, V i = .slice A s.length c := by obtain ⟨_, A, c, e, _⟩ := id hSi; exact ⟨A, c, e⟩
   refine ⟨V i, by rw [hv1]; rfl, fun j hj => ?_, hSi⟩
   have : j = 0 := by rw [hv1] at hj; have : (Value.slice A1 s.length c1).cells.size = 1 := rfl
                      omega
   subst this
   rw [Nat.mul_one, Nat.add_zero, hc1, hv1]
   rfl
end
end Go.Proofs.YthnnbpnocefmgaaGreat
