import Derived.Test.YthnnbpnocefmgaaGreatFrom
import Derived.Test.YthnnbpnocefmgaaGreatZ9
import Derived.Deep.DeepCutAuto
namespace Go.Proofs.YthnnbpnocefmgaaGreat
open Go.RowKit
set_option linter.unusedVariables false
set_option linter.unusedSimpArgs false
theorem run_at (P : Program) (t : TypeId) (ds : List Int) (hd : Byts ds) (i : Nat) (hi : i < ds.length) (h : P.underlying t = some .string) (w : World) :
  (Instr.index t (.string (str ds)) (.int .i64 (i : Int))).run P w = .ok (.int .u8 (ds.getD i 0)) w := by
 have hz := str_size ds
 rw [run_index_string w t (str ds) .i64 i h, dif_pos (by omega)]
 have hb := hd (ds[i]) (List.getElem_mem hi)
 have e : ((((str ds)[((i : Nat) : Int).toNat]'(by omega)).toNat : Nat) : Int) = ds.getD i 0 := by
  have : ((i : Nat) : Int).toNat = i := by omega
  simp only [this]
  have e2 : ds.getD i 0 = ds[i] := by simp [List.getD, hi]
  rw [e2]
  show ((((str ds).data[i]'(by simpa [str] using hi)).toNat : Nat) : Int) = _
  simp only [str, List.getElem_toArray, List.getElem_map]
  simp
  omega
 rw [e]
theorem byts_at {ds : List Int} (hd : Byts ds) (i : Nat) : 0 ≤ ds.getD i 0 ∧ ds.getD i 0 < 256 := by
 rcases Nat.lt_or_ge i ds.length with h | h
 ·have := hd (ds[i]) (List.getElem_mem h)
  have e2 : ds.getD i 0 = ds[i] := by simp [List.getD, h]
  omega
 ·simp [List.getD, List.getElem?_eq_none h]
def goR (w : World) (neg : Bool) (ds : List Int) (v : Value) (w' : World) : Prop :=
 ∃ u ok, v = .tuple #[u, .bool ok] ∧ Below w.heap.size w w' ∧ ((ok = true ∧ Digs ds ∧ ZV w' u (sgd neg (tv ds)) (ds.length / 9 + 1)) ∨ (ok = false ∧ ¬ Digs ds ∧ u = .agg #[.bool false, .slice none 0 0]))
theorem tv_cons (x : Int) (bs : List Int) : tv (x :: bs) = 10 ^ bs.length * (x - 48) + tv bs := by
 have := tv_append [x] bs
 rw [List.singleton_append] at this
 rw [this]
 simp [tv]
theorem limb_more (ms : List Int) (limb u x : Int) (i r : Nat) (ds : List Int) (hi : i < ds.length) (hx : ds.getD i 0 = x) (hl : 9 * ms.length + r + (i + 1) = ds.length) (hu : u = 10 ^ r)
  (h : val 1000000000 ms + 1000000000 ^ ms.length * limb = tv (ds.drop (i + 1))) :
  val 1000000000 ms + 1000000000 ^ ms.length * (limb + u * (x - 48)) = tv (ds.drop i) := by
 have e : ds.drop i = x :: ds.drop (i + 1) := by
  rw [List.drop_eq_getElem_cons hi]
  congr 1
  rw [← hx]; simp [List.getD, hi]
 rw [e, tv_cons, ← h, List.length_drop, show ds.length - (i + 1) = 9 * ms.length + r by omega, Int.pow_add, Int.pow_mul, hu, show (10 : Int) ^ 9 = 1000000000 by decide]
 grind
theorem digs_more {ds : List Int} {i : Nat} {x : Int} (hi : i < ds.length) (hx : ds.getD i 0 = x) (h0 : 48 ≤ x) (h1 : x < 58) (h : Digs (ds.drop (i + 1))) : Digs (ds.drop i) := by
 rw [List.drop_eq_getElem_cons hi]
 intro b hb
 rcases List.mem_cons.1 hb with e | e
 ·have e2 : ds.getD i 0 = ds[i] := by simp [List.getD, hi]
  omega
 ·exact h b e
theorem not_digs {ds : List Int} {i : Nat} {x : Int} (hi : i < ds.length) (hx : ds.getD i 0 = x) (h : ¬ (48 ≤ x ∧ x < 58)) : ¬ Digs ds := by
 intro hd
 have e2 : ds.getD i 0 = ds[i] := by simp [List.getD, hi]
 have := hd (ds[i]) (List.getElem_mem hi)
 omega
theorem ten_r (r : Nat) (h : r < 9) : 1 ≤ (10 : Int) ^ r ∧ (10 : Int) ^ r ≤ 100000000 ∧ ((10 : Int) ^ r * 10 = 10 ^ (r + 1)) ∧ (r < 8 → (10 : Int) ^ r ≤ 10000000) ∧ (r = 8 → (10 : Int) ^ r = 100000000) := by
 have h1 : (0 : Int) < 10 ^ r := Int.pow_pos (by omega)
 have h2 : (10 : Int) ^ r ≤ 10 ^ 8 := pow_le_pow' (by omega) (by omega)
 have h3 : (10 : Int) ^ 8 = 100000000 := by decide
 refine ⟨by omega, by omega, by rw [Int.pow_succ], fun h => ?_, fun h => by rw [h]; decide⟩
 have h4 : (10 : Int) ^ r ≤ 10 ^ 7 := pow_le_pow' (by omega) (by omega)
 have h5 : (10 : Int) ^ 7 = 10000000 := by decide
 omega
set_option maxRecDepth 100000 in
set_option maxHeartbeats 4000000 in
theorem parse9_minus (w : World) (ds : List Int) (hby : Byts ds) (h0 : 0 < ds.length) (hl : ds.length ≤ 140737488355328) (h48 : ds.getD 0 0 ≠ 48) :
  Calls Tryz.prog 84 #[.string (str (45 :: ds))] w (Ret (goR w true ds)) := by
 have hsz := str_size ds
 have hix : ∀ i : Nat, i < ds.length → ∀ w', (Instr.index 9 (.string (str ds)) (.int .i64 (i : Int))).run Tryz.prog w' = .ok (.int .u8 (ds.getD i 0)) w' := fun i hi w' => run_at _ _ ds hby i hi (by kernel_rfl) w'
 have hby2 : Byts (45 :: ds) := by
  intro b hb
  rcases List.mem_cons.1 hb with e | e
  ·omega
  ·exact hby b e
 have hi0 : ∀ w', (Instr.index 9 (.string (str (45 :: ds))) (.int .i64 0)).run Tryz.prog w' = .ok (.int .u8 45) w' := fun w' => run_at _ _ (45 :: ds) hby2 0 (by simp) (by kernel_rfl) w'
 have hz2 : (str (45 :: ds)).size = ds.length + 1 := by rw [str_size]; rfl
 have hsl : ∀ w' : World, (Instr.slice 9 (.string (str (45 :: ds))) (some (.int .i64 1)) none none).run Tryz.prog w' = .ok (.string (str ds)) w' := fun w' => by
  rw [run_slice_string_l w' 9 _ (by kernel_rfl) .i64 1 (by omega) (by omega)]
  rw [str_extract, hz2]
  simp
 obtain ⟨S, hS⟩ : ∃ S, S = str (45 :: ds) := ⟨_, rfl⟩
 rw [← hS] at hi0 hz2 hsl ⊢
 clear hS hby2
 obtain ⟨D, hD⟩ : ∃ D, D = str ds := ⟨_, rfl⟩
 rw [← hD] at hsz hix hsl
 have hne : ¬ D.toList = [] := by
  intro e
  have h1 : D.data.toList = [] := by rw [← Lib.toList_data]; exact e
  have h2 := Lib.size_eq D
  rw [h1, List.length_nil] at h2
  omega
 have hne2 : D.toList.isEmpty = false := by
  cases h : D.toList with
  | nil => exact absurd h hne
  | cons a l => rfl
 have hDs : D.size ≤ 140737488355328 := by omega
 have hD0 : 0 < D.size := by omega
 obtain ⟨b, hbe⟩ : ∃ b, b = ds.getD 0 0 := ⟨_, rfl⟩
 have hib := fun w' => hix 0 h0 w'
 rw [← hbe] at hib h48
 have hb48 : (b == 48) = false := by rw [beq_eq_false_iff_ne]; exact h48
 have HS := hide (ai hby (ai hsz hix)); clear hby hsz hix hbe hD h48
 obtain ⟨W, hW⟩ : ∃ W, W = w.alloc (.cells #[.bool false, .slice none 0 0] 39) := ⟨_, rfl⟩
 have hb0 : Below w.heap.size w W := by rw [hW]; exact (Below.refl _ _).alloc (nr _) _
 have hr : W.heap[w.heap.size]? = some (.cells #[.bool false, .slice none 0 0] 39) := by rw [hW]; exact at_new _ _
 have HW := hide (ai hW (ai hb0 hr)); clear hW hb0 hr
 replace hi0 := hi0 (w.alloc (.cells #[.bool false, .slice none 0 0] 39))
 replace hsl := hsl (w.alloc (.cells #[.bool false, .slice none 0 0] 39))
 have hS0 : 0 < S.size := by omega
 replace hib := hib (w.alloc (.cells #[.bool false, .slice none 0 0] 39))
 rw [show ((0 : Nat) : Int) = 0 from rfl] at hib
 have HZ2 := hide hz2; clear hz2
 go_enter Tryz.func84, Tryz.ntmps84
 go_wp2
 rw [← HW.out.1]
 rw [← HW.out.1] at hib hi0 hsl
 clear hib hb48 hi0 hsl
 go_loopw [5, 6, 7, 8] (fun s5 s6 s7 s8 wr => ∃ (ms : List Int) (limb u : Int) (j r : Nat), j ≤ D.size ∧ s8 = .int .i64 ((j : Int) - 1) ∧ s6 = .int .i64 limb ∧ s7 = .int .i64 u ∧ r < 9 ∧ u = 10 ^ r ∧ 0 ≤ limb ∧ limb < u ∧ OwnI wr W.heap.size 3 .i64 s5 ms ∧ Dig 1000000000 ms ∧ 9 * ms.length + r + j = D.size ∧ Digs (ds.drop j) ∧ val 1000000000 ms + 1000000000 ^ ms.length * limb = tv (ds.drop j) ∧ Below W.heap.size W wr) (fun _ _ _ s8 _ => (intOf s8 + 1).toNat)
 case atStart =>
  have hz := HS.out.2.1
  refine ⟨[], 0, 1, D.size, 0, nr _, rfl, rfl, rfl, by omega, rfl, by omega, by omega, OwnI.nil _ _ _ _, Dig.nil _, by simp, ?_, ?_, Below.refl _ _⟩
  ·rw [hz, List.drop_length]; intro b hb; simp at hb
  ·rw [hz, List.drop_length]; simp [val, tv]
 case round =>
  obtain ⟨ms, limb, u, j, r, hj, rfl, rfl, rfl, hr9, hu, hb0, hb1, hown, hdig, hlen, hdd, hval, hbel⟩ := hrel
  obtain ⟨hu0, hu1, hu2, hu3, hu4⟩ := ten_r r hr9
  rw [← hu] at hu0 hu1 hu2 hu3 hu4
  have hmsl : ms.length ≤ 17592186044000 := by omega
  by_cases hj0 : 0 < j
  ·obtain ⟨i, hi⟩ : ∃ i, i = j - 1 := ⟨_, rfl⟩
   have hil : i < ds.length := by have := HS.out.2.1; omega
   have hix := fun w' => HS.out.2.2 i hil w'
   rw [show ((i : Nat) : Int) = (j : Int) - 1 by omega] at hix
   have hxb := byts_at HS.out.1 i
   obtain ⟨x, hx⟩ : ∃ x, x = ds.getD i 0 := ⟨_, rfl⟩
   rw [← hx] at hix hxb
   have hji : j = i + 1 := by omega
   have hjl : 9 * ms.length + r + (i + 1) = ds.length := by have := HS.out.2.1; omega
   rw [hji] at hdd hval
   by_cases hdg : 48 ≤ x ∧ x < 58
   ·obtain ⟨hx0, hx1⟩ := hdg
    have hx2 : ¬ x < 48 := by omega
    have hx3 : ¬ 57 < x := by omega
    have hp0 : 0 ≤ u * (x - 48) := Int.mul_nonneg (by omega) (by omega)
    have hp1 : u * (x - 48) ≤ u * 9 := Int.mul_le_mul_of_nonneg_left (by omega) (by omega)
    have hmore := limb_more ms limb u x i r ds hil hx.symm hjl hu hval
    have hdm := digs_more hil hx.symm hx0 hx1 hdd
    have HM := hide (ai hmore (ai hdm (ai hu (ai hi (ai hx (ai hji (ai hjl hlen))))))); clear hmore hdm hu hi hx hji hjl hlen hdd hval hxb
    by_cases hr8 : r = 8
    ·have hu5 := hu4 hr8
     have h10 : ((10 * u : Int) == 1000000000) = true := by rw [beq_iff_eq]; omega
     have HU := hide (ai hu5 (ai hu2 hr8)); clear hu5 hu2 hu3 hu4 hr8
     replace hix := hix wr
     go_wp2_with (at_builtin; refine app1 Tryz.limT _ rfl _ _ rfl W.heap.size _ ms (limb + u * (x - 48)) rfl (hown.keep ((Below.refl _ _).alloc (nr _) _)) ⟨wr.heap.size, 0, none⟩ _ rfl (by simp [World.cell?_alloc_new]) hmsl (by have := hbel.size; simp; omega) ?_; intro g c1 w1 hown1 _ _ hb2)
     go_roundw
     case rel =>
      obtain ⟨e1, e2, e3, e4, e5, e6, e7, e8⟩ := HM.out
      obtain ⟨f1, f2, f3⟩ := HU.out
      refine ⟨ms ++ [limb + u * (x - 48)], 0, 1, i, 0, by omega, by (rw [e6]; congr 1; omega), rfl, rfl, by omega, rfl, by omega, by omega, hown1, hdig.snoc (by omega) (by omega), by (rw [List.length_append, List.length_singleton]; omega), e2, ?_, (hbel.alloc hbel.size _).trans hb2⟩
      rw [val_snoc, Int.mul_zero, Int.add_zero]
      exact e1
     case measure => (have := HM.out.2.2.2.1); simp [intOf]; omega
    ·have hu5 := hu3 (by omega)
     have h10 : ((10 * u : Int) == 1000000000) = false := by rw [beq_eq_false_iff_ne]; omega
     have HU := hide (ai hu5 (ai hu2 hr8)); clear hu5 hu2 hu3 hu4 hr8
     replace hix := hix wr
     go_wp2
     go_roundw
     case rel =>
      obtain ⟨e1, e2, e3, e4, e5, e6, e7, e8⟩ := HM.out
      obtain ⟨f1, f2, f3⟩ := HU.out
      refine ⟨ms, limb + u * (x - 48), 10 * u, i, r + 1, by omega, by (rw [e6]; congr 1; omega), rfl, rfl, by omega, by (rw [e3]; rw [e3] at f2; omega), by omega, by omega, hown, hdig, by omega, e2, e1, hbel⟩
     case measure => (have := HM.out.2.2.2.1); simp [intOf]; omega
   ·have hnd := not_digs hil hx.symm hdg
    have hr2 := at_later HW.out.2.2 hbel
    obtain ⟨x0, x1, f0, f1⟩ := two_cells hr2
    have hlt := lt_of_block hr2
    have HF := hide (ai hnd (ai hr2 (bnx HW.out.2.1 hbel))); clear hnd hr2 hbel hu hi hx hji hjl hlen hdd hval hown hdig
    replace hix := hix wr
    rcases (show x < 48 ∨ ¬ x < 48 ∧ 57 < x by omega) with hlo | ⟨hlo, hhi⟩
    all_goals
     go_wp2
     refine bodyPost_ret (v := .tuple #[.agg #[.bool false, .slice none 0 0], .bool false]) ?_ rfl ?_
     ·simp [results, Tryz.results84, go_sem, x0, x1, hlt]
     exact ⟨_, rfl, _, _, rfl, below_put2 HF.out.2.2 (nr _), Or.inr ⟨rfl, HF.out.1, rfl⟩⟩
  ·obtain rfl : j = 0 := by omega
   have hdz : ds.length = D.size := HS.out.2.1.symm
   rw [List.drop_zero] at hdd hval
   have h9 : ms.length ≤ D.size / 9 := by omega
   have h99 : 0 < limb → ms.length + 1 ≤ D.size / 9 + 1 := by omega
   by_cases hl0 : 0 < limb
   ·have hlb : limb < 1000000000 := by omega
    have HV := hide (ai hval (ai hdd (ai hdz (ai hlen hu)))); clear hval hdd hdz hlen hu hu2 hu3 hu4
    go_wp2_with (at_builtin; refine app1 Tryz.limT _ rfl _ _ rfl W.heap.size _ ms limb rfl (hown.keep ((Below.refl _ _).alloc (nr _) _)) ⟨wr.heap.size, 0, none⟩ _ rfl (by simp [World.cell?_alloc_new]) hmsl (by have := hbel.size; simp; omega) ?_; intro g c1 w1 hown1 hc1 hc2 hb2)
    have hbel1 : Below W.heap.size W w1 := (hbel.alloc hbel.size _).trans hb2
    have hdig1 : Dig 1000000000 (ms ++ [limb]) := hdig.snoc (by omega) (by omega)
    have hval1 : val 1000000000 (ms ++ [limb]) = tv ds := by rw [val_snoc]; exact HV.out.1
    have hfm := hown1.form
    have hmL : (ms ++ [limb]).length ≤ D.size / 9 + 1 := by rw [List.length_append, List.length_singleton]; omega
    obtain ⟨os, hos⟩ : ∃ os, os = ms ++ [limb] := ⟨_, rfl⟩
    have hol : ms.length + 1 = os.length := by rw [hos]; simp
    rw [← hos] at hown1 hdig1 hval1 hfm hmL
    clear hos
    obtain ⟨A1, c2, hv, hc3, hc4, harr⟩ := hfm
    injection hv with hv1 hv2 hv3
    subst hv3
    rw [hv1]
    rw [hol]
    clear hown hdig hown1 hb2 hbel hv1 hv2 hmsl hc1 hc2
    have hrr := at_later HW.out.2.2 hbel1
    have HB := hide (ai hbel1 (ai hrr (ai harr (ai hdig1 (ai hval1 hmL))))); clear hbel1 hrr harr hdig1 hval1 hmL
    go_wp2_with fail
    refine (trim9_c _ _ _ _ os rfl HB.out.2.2.1 hc3 hc4).mono ?_
    rintro e w2 ⟨_, rfl, n, hn, rfl, rfl⟩
    have hlim := LimV.of_trim HB.out.2.2.1 HB.out.2.2.2.1 hc3 hc4 hn
    have HL := hide hlim; clear hlim hn
    go_wp2_with fail
    refine (int9_c _ true _ _ _ HL.out (by have := HB.out.2.2.2.2.2; omega)).mono ?_
    rintro e w3 ⟨_, rfl, hz, hd3⟩
    have hr2 := at_later HB.out.2.1 hd3
    obtain ⟨s1, A2, n2, c4, rfl, hs1, _⟩ := hz.parts
    obtain ⟨x0, x1, f0, f1⟩ := two_cells hr2
    have hlt := lt_of_block hr2
    rw [HB.out.2.2.2.2.1] at hz
    have HZ := hide (ai (hz.more (show _ ≤ ds.length / 9 + 1 by (have := HB.out.2.2.2.2.2; have := HV.out.2.2.1; omega))) (ai hr2 (bnx HW.out.2.1 (HB.out.1.trans (hd3.mono HB.out.1.size))))); clear hz hr2 hs1 hd3
    go_wp2
    refine bodyPost_ret (v := .tuple #[.agg #[.bool s1, .slice A2 n2 c4], .bool true]) ?_ rfl ?_
    ·simp [results, Tryz.results84, go_sem, x0, x1, hlt]
    obtain ⟨hz, hr2, hb⟩ := HZ.out
    exact ⟨_, rfl, _, _, rfl, below_put2 hb (nr _), Or.inl ⟨rfl, HV.out.2.1, zv_put2 hz hr2 (by decide)⟩⟩
   ·have hl1 : limb = 0 := by omega
    subst hl1
    have hval1 : val 1000000000 ms = tv ds := by rw [Int.mul_zero, Int.add_zero] at hval; exact hval
    obtain ⟨A1, c1, rfl, hc3, hc4, harr⟩ := hown.form
    have hdig1 := hdig
    have hbel1 := hbel
    have HV := hide (ai hval (ai hdd (ai hdz (ai hlen hu)))); clear hval hdd hdz hlen hu hu2 hu3 hu4
    have hmL : ms.length ≤ D.size / 9 + 1 := by omega
    obtain ⟨os, hos⟩ : ∃ os, os = ms := ⟨_, rfl⟩
    rw [← hos] at hdig1 hval1 harr hmL hc3 ⊢
    clear hos hown hdig hbel hmsl
    have hrr := at_later HW.out.2.2 hbel1
    have HB := hide (ai hbel1 (ai hrr (ai harr (ai hdig1 (ai hval1 hmL))))); clear hbel1 hrr harr hdig1 hval1 hmL
    go_wp2_with fail
    refine (trim9_c _ _ _ _ os rfl HB.out.2.2.1 hc3 hc4).mono ?_
    rintro e w2 ⟨_, rfl, n, hn, rfl, rfl⟩
    have hlim := LimV.of_trim HB.out.2.2.1 HB.out.2.2.2.1 hc3 hc4 hn
    have HL := hide hlim; clear hlim hn
    go_wp2_with fail
    refine (int9_c _ true _ _ _ HL.out (by have := HB.out.2.2.2.2.2; omega)).mono ?_
    rintro e w3 ⟨_, rfl, hz, hd3⟩
    have hr2 := at_later HB.out.2.1 hd3
    obtain ⟨s1, A2, n2, c4, rfl, hs1, _⟩ := hz.parts
    obtain ⟨x0, x1, f0, f1⟩ := two_cells hr2
    have hlt := lt_of_block hr2
    rw [HB.out.2.2.2.2.1] at hz
    have HZ := hide (ai (hz.more (show _ ≤ ds.length / 9 + 1 by (have := HB.out.2.2.2.2.2; have := HV.out.2.2.1; omega))) (ai hr2 (bnx HW.out.2.1 (HB.out.1.trans (hd3.mono HB.out.1.size))))); clear hz hr2 hs1 hd3
    go_wp2
    refine bodyPost_ret (v := .tuple #[.agg #[.bool s1, .slice A2 n2 c4], .bool true]) ?_ rfl ?_
    ·simp [results, Tryz.results84, go_sem, x0, x1, hlt]
    obtain ⟨hz, hr2, hb⟩ := HZ.out
    exact ⟨_, rfl, _, _, rfl, below_put2 hb (nr _), Or.inl ⟨rfl, HV.out.2.1, zv_put2 hz hr2 (by decide)⟩⟩
set_option maxRecDepth 100000 in
set_option maxHeartbeats 4000000 in
theorem parse9_plain (w : World) (ds : List Int) (hby : Byts ds) (h0 : 0 < ds.length) (hl : ds.length ≤ 140737488355328) (h45 : ds.getD 0 0 ≠ 45) (h48 : ds.getD 0 0 ≠ 48) :
  Calls Tryz.prog 84 #[.string (str (ds))] w (Ret (goR w false ds)) := by
 have hsz := str_size ds
 have hix : ∀ i : Nat, i < ds.length → ∀ w', (Instr.index 9 (.string (str ds)) (.int .i64 (i : Int))).run Tryz.prog w' = .ok (.int .u8 (ds.getD i 0)) w' := fun i hi w' => run_at _ _ ds hby i hi (by kernel_rfl) w'
 obtain ⟨D, hD⟩ : ∃ D, D = str ds := ⟨_, rfl⟩
 rw [← hD] at hsz hix ⊢
 have hne : ¬ D.toList = [] := by
  intro e
  have h1 : D.data.toList = [] := by rw [← Lib.toList_data]; exact e
  have h2 := Lib.size_eq D
  rw [h1, List.length_nil] at h2
  omega
 have hne2 : D.toList.isEmpty = false := by
  cases h : D.toList with
  | nil => exact absurd h hne
  | cons a l => rfl
 have hDs : D.size ≤ 140737488355328 := by omega
 have hD0 : 0 < D.size := by omega
 obtain ⟨b, hbe⟩ : ∃ b, b = ds.getD 0 0 := ⟨_, rfl⟩
 have hib := fun w' => hix 0 h0 w'
 rw [← hbe] at hib h48 h45
 have hb48 : (b == 48) = false := by rw [beq_eq_false_iff_ne]; exact h48
 have hb45 : (b == 45) = false := by rw [beq_eq_false_iff_ne]; exact h45
 have HS := hide (ai hby (ai hsz hix)); clear hby hsz hix hbe hD h48 h45
 obtain ⟨W, hW⟩ : ∃ W, W = w.alloc (.cells #[.bool false, .slice none 0 0] 39) := ⟨_, rfl⟩
 have hb0 : Below w.heap.size w W := by rw [hW]; exact (Below.refl _ _).alloc (nr _) _
 have hr : W.heap[w.heap.size]? = some (.cells #[.bool false, .slice none 0 0] 39) := by rw [hW]; exact at_new _ _
 have HW := hide (ai hW (ai hb0 hr)); clear hW hb0 hr
 replace hib := hib (w.alloc (.cells #[.bool false, .slice none 0 0] 39))
 rw [show ((0 : Nat) : Int) = 0 from rfl] at hib
 go_enter Tryz.func84, Tryz.ntmps84
 go_wp2
 rw [← HW.out.1]
 rw [← HW.out.1] at hib
 clear hib hb48 hb45
 go_loopw [5, 6, 7, 8] (fun s5 s6 s7 s8 wr => ∃ (ms : List Int) (limb u : Int) (j r : Nat), j ≤ D.size ∧ s8 = .int .i64 ((j : Int) - 1) ∧ s6 = .int .i64 limb ∧ s7 = .int .i64 u ∧ r < 9 ∧ u = 10 ^ r ∧ 0 ≤ limb ∧ limb < u ∧ OwnI wr W.heap.size 3 .i64 s5 ms ∧ Dig 1000000000 ms ∧ 9 * ms.length + r + j = D.size ∧ Digs (ds.drop j) ∧ val 1000000000 ms + 1000000000 ^ ms.length * limb = tv (ds.drop j) ∧ Below W.heap.size W wr) (fun _ _ _ s8 _ => (intOf s8 + 1).toNat)
 case atStart =>
  have hz := HS.out.2.1
  refine ⟨[], 0, 1, D.size, 0, nr _, rfl, rfl, rfl, by omega, rfl, by omega, by omega, OwnI.nil _ _ _ _, Dig.nil _, by simp, ?_, ?_, Below.refl _ _⟩
  ·rw [hz, List.drop_length]; intro b hb; simp at hb
  ·rw [hz, List.drop_length]; simp [val, tv]
 case round =>
  obtain ⟨ms, limb, u, j, r, hj, rfl, rfl, rfl, hr9, hu, hb0, hb1, hown, hdig, hlen, hdd, hval, hbel⟩ := hrel
  obtain ⟨hu0, hu1, hu2, hu3, hu4⟩ := ten_r r hr9
  rw [← hu] at hu0 hu1 hu2 hu3 hu4
  have hmsl : ms.length ≤ 17592186044000 := by omega
  by_cases hj0 : 0 < j
  ·obtain ⟨i, hi⟩ : ∃ i, i = j - 1 := ⟨_, rfl⟩
   have hil : i < ds.length := by have := HS.out.2.1; omega
   have hix := fun w' => HS.out.2.2 i hil w'
   rw [show ((i : Nat) : Int) = (j : Int) - 1 by omega] at hix
   have hxb := byts_at HS.out.1 i
   obtain ⟨x, hx⟩ : ∃ x, x = ds.getD i 0 := ⟨_, rfl⟩
   rw [← hx] at hix hxb
   have hji : j = i + 1 := by omega
   have hjl : 9 * ms.length + r + (i + 1) = ds.length := by have := HS.out.2.1; omega
   rw [hji] at hdd hval
   by_cases hdg : 48 ≤ x ∧ x < 58
   ·obtain ⟨hx0, hx1⟩ := hdg
    have hx2 : ¬ x < 48 := by omega
    have hx3 : ¬ 57 < x := by omega
    have hp0 : 0 ≤ u * (x - 48) := Int.mul_nonneg (by omega) (by omega)
    have hp1 : u * (x - 48) ≤ u * 9 := Int.mul_le_mul_of_nonneg_left (by omega) (by omega)
    have hmore := limb_more ms limb u x i r ds hil hx.symm hjl hu hval
    have hdm := digs_more hil hx.symm hx0 hx1 hdd
    have HM := hide (ai hmore (ai hdm (ai hu (ai hi (ai hx (ai hji (ai hjl hlen))))))); clear hmore hdm hu hi hx hji hjl hlen hdd hval hxb
    by_cases hr8 : r = 8
    ·have hu5 := hu4 hr8
     have h10 : ((10 * u : Int) == 1000000000) = true := by rw [beq_iff_eq]; omega
     have HU := hide (ai hu5 (ai hu2 hr8)); clear hu5 hu2 hu3 hu4 hr8
     replace hix := hix wr
     go_wp2_with (at_builtin; refine app1 Tryz.limT _ rfl _ _ rfl W.heap.size _ ms (limb + u * (x - 48)) rfl (hown.keep ((Below.refl _ _).alloc (nr _) _)) ⟨wr.heap.size, 0, none⟩ _ rfl (by simp [World.cell?_alloc_new]) hmsl (by have := hbel.size; simp; omega) ?_; intro g c1 w1 hown1 _ _ hb2)
     go_roundw
     case rel =>
      obtain ⟨e1, e2, e3, e4, e5, e6, e7, e8⟩ := HM.out
      obtain ⟨f1, f2, f3⟩ := HU.out
      refine ⟨ms ++ [limb + u * (x - 48)], 0, 1, i, 0, by omega, by (rw [e6]; congr 1; omega), rfl, rfl, by omega, rfl, by omega, by omega, hown1, hdig.snoc (by omega) (by omega), by (rw [List.length_append, List.length_singleton]; omega), e2, ?_, (hbel.alloc hbel.size _).trans hb2⟩
      rw [val_snoc, Int.mul_zero, Int.add_zero]
      exact e1
     case measure => (have := HM.out.2.2.2.1); simp [intOf]; omega
    ·have hu5 := hu3 (by omega)
     have h10 : ((10 * u : Int) == 1000000000) = false := by rw [beq_eq_false_iff_ne]; omega
     have HU := hide (ai hu5 (ai hu2 hr8)); clear hu5 hu2 hu3 hu4 hr8
     replace hix := hix wr
     go_wp2
     go_roundw
     case rel =>
      obtain ⟨e1, e2, e3, e4, e5, e6, e7, e8⟩ := HM.out
      obtain ⟨f1, f2, f3⟩ := HU.out
      refine ⟨ms, limb + u * (x - 48), 10 * u, i, r + 1, by omega, by (rw [e6]; congr 1; omega), rfl, rfl, by omega, by (rw [e3]; rw [e3] at f2; omega), by omega, by omega, hown, hdig, by omega, e2, e1, hbel⟩
     case measure => (have := HM.out.2.2.2.1); simp [intOf]; omega
   ·have hnd := not_digs hil hx.symm hdg
    have hr2 := at_later HW.out.2.2 hbel
    obtain ⟨x0, x1, f0, f1⟩ := two_cells hr2
    have hlt := lt_of_block hr2
    have HF := hide (ai hnd (ai hr2 (bnx HW.out.2.1 hbel))); clear hnd hr2 hbel hu hi hx hji hjl hlen hdd hval hown hdig
    replace hix := hix wr
    rcases (show x < 48 ∨ ¬ x < 48 ∧ 57 < x by omega) with hlo | ⟨hlo, hhi⟩
    all_goals
     go_wp2
     refine bodyPost_ret (v := .tuple #[.agg #[.bool false, .slice none 0 0], .bool false]) ?_ rfl ?_
     ·simp [results, Tryz.results84, go_sem, x0, x1, hlt]
     exact ⟨_, rfl, _, _, rfl, below_put2 HF.out.2.2 (nr _), Or.inr ⟨rfl, HF.out.1, rfl⟩⟩
  ·obtain rfl : j = 0 := by omega
   have hdz : ds.length = D.size := HS.out.2.1.symm
   rw [List.drop_zero] at hdd hval
   have h9 : ms.length ≤ D.size / 9 := by omega
   have h99 : 0 < limb → ms.length + 1 ≤ D.size / 9 + 1 := by omega
   by_cases hl0 : 0 < limb
   ·have hlb : limb < 1000000000 := by omega
    have HV := hide (ai hval (ai hdd (ai hdz (ai hlen hu)))); clear hval hdd hdz hlen hu hu2 hu3 hu4
    go_wp2_with (at_builtin; refine app1 Tryz.limT _ rfl _ _ rfl W.heap.size _ ms limb rfl (hown.keep ((Below.refl _ _).alloc (nr _) _)) ⟨wr.heap.size, 0, none⟩ _ rfl (by simp [World.cell?_alloc_new]) hmsl (by have := hbel.size; simp; omega) ?_; intro g c1 w1 hown1 hc1 hc2 hb2)
    have hbel1 : Below W.heap.size W w1 := (hbel.alloc hbel.size _).trans hb2
    have hdig1 : Dig 1000000000 (ms ++ [limb]) := hdig.snoc (by omega) (by omega)
    have hval1 : val 1000000000 (ms ++ [limb]) = tv ds := by rw [val_snoc]; exact HV.out.1
    have hfm := hown1.form
    have hmL : (ms ++ [limb]).length ≤ D.size / 9 + 1 := by rw [List.length_append, List.length_singleton]; omega
    obtain ⟨os, hos⟩ : ∃ os, os = ms ++ [limb] := ⟨_, rfl⟩
    have hol : ms.length + 1 = os.length := by rw [hos]; simp
    rw [← hos] at hown1 hdig1 hval1 hfm hmL
    clear hos
    obtain ⟨A1, c2, hv, hc3, hc4, harr⟩ := hfm
    injection hv with hv1 hv2 hv3
    subst hv3
    rw [hv1]
    rw [hol]
    clear hown hdig hown1 hb2 hbel hv1 hv2 hmsl hc1 hc2
    have hrr := at_later HW.out.2.2 hbel1
    have HB := hide (ai hbel1 (ai hrr (ai harr (ai hdig1 (ai hval1 hmL))))); clear hbel1 hrr harr hdig1 hval1 hmL
    go_wp2_with fail
    refine (trim9_c _ _ _ _ os rfl HB.out.2.2.1 hc3 hc4).mono ?_
    rintro e w2 ⟨_, rfl, n, hn, rfl, rfl⟩
    have hlim := LimV.of_trim HB.out.2.2.1 HB.out.2.2.2.1 hc3 hc4 hn
    have HL := hide hlim; clear hlim hn
    go_wp2_with fail
    refine (int9_c _ false _ _ _ HL.out (by have := HB.out.2.2.2.2.2; omega)).mono ?_
    rintro e w3 ⟨_, rfl, hz, hd3⟩
    have hr2 := at_later HB.out.2.1 hd3
    obtain ⟨s1, A2, n2, c4, rfl, hs1, _⟩ := hz.parts
    obtain ⟨x0, x1, f0, f1⟩ := two_cells hr2
    have hlt := lt_of_block hr2
    rw [HB.out.2.2.2.2.1] at hz
    have HZ := hide (ai (hz.more (show _ ≤ ds.length / 9 + 1 by (have := HB.out.2.2.2.2.2; have := HV.out.2.2.1; omega))) (ai hr2 (bnx HW.out.2.1 (HB.out.1.trans (hd3.mono HB.out.1.size))))); clear hz hr2 hs1 hd3
    go_wp2
    refine bodyPost_ret (v := .tuple #[.agg #[.bool s1, .slice A2 n2 c4], .bool true]) ?_ rfl ?_
    ·simp [results, Tryz.results84, go_sem, x0, x1, hlt]
    obtain ⟨hz, hr2, hb⟩ := HZ.out
    exact ⟨_, rfl, _, _, rfl, below_put2 hb (nr _), Or.inl ⟨rfl, HV.out.2.1, zv_put2 hz hr2 (by decide)⟩⟩
   ·have hl1 : limb = 0 := by omega
    subst hl1
    have hval1 : val 1000000000 ms = tv ds := by rw [Int.mul_zero, Int.add_zero] at hval; exact hval
    obtain ⟨A1, c1, rfl, hc3, hc4, harr⟩ := hown.form
    have hdig1 := hdig
    have hbel1 := hbel
    have HV := hide (ai hval (ai hdd (ai hdz (ai hlen hu)))); clear hval hdd hdz hlen hu hu2 hu3 hu4
    have hmL : ms.length ≤ D.size / 9 + 1 := by omega
    obtain ⟨os, hos⟩ : ∃ os, os = ms := ⟨_, rfl⟩
    rw [← hos] at hdig1 hval1 harr hmL hc3 ⊢
    clear hos hown hdig hbel hmsl
    have hrr := at_later HW.out.2.2 hbel1
    have HB := hide (ai hbel1 (ai hrr (ai harr (ai hdig1 (ai hval1 hmL))))); clear hbel1 hrr harr hdig1 hval1 hmL
    go_wp2_with fail
    refine (trim9_c _ _ _ _ os rfl HB.out.2.2.1 hc3 hc4).mono ?_
    rintro e w2 ⟨_, rfl, n, hn, rfl, rfl⟩
    have hlim := LimV.of_trim HB.out.2.2.1 HB.out.2.2.2.1 hc3 hc4 hn
    have HL := hide hlim; clear hlim hn
    go_wp2_with fail
    refine (int9_c _ false _ _ _ HL.out (by have := HB.out.2.2.2.2.2; omega)).mono ?_
    rintro e w3 ⟨_, rfl, hz, hd3⟩
    have hr2 := at_later HB.out.2.1 hd3
    obtain ⟨s1, A2, n2, c4, rfl, hs1, _⟩ := hz.parts
    obtain ⟨x0, x1, f0, f1⟩ := two_cells hr2
    have hlt := lt_of_block hr2
    rw [HB.out.2.2.2.2.1] at hz
    have HZ := hide (ai (hz.more (show _ ≤ ds.length / 9 + 1 by (have := HB.out.2.2.2.2.2; have := HV.out.2.2.1; omega))) (ai hr2 (bnx HW.out.2.1 (HB.out.1.trans (hd3.mono HB.out.1.size))))); clear hz hr2 hs1 hd3
    go_wp2
    refine bodyPost_ret (v := .tuple #[.agg #[.bool s1, .slice A2 n2 c4], .bool true]) ?_ rfl ?_
    ·simp [results, Tryz.results84, go_sem, x0, x1, hlt]
    obtain ⟨hz, hr2, hb⟩ := HZ.out
    exact ⟨_, rfl, _, _, rfl, below_put2 hb (nr _), Or.inl ⟨rfl, HV.out.2.1, zv_put2 hz hr2 (by decide)⟩⟩
set_option maxRecDepth 100000 in
set_option maxHeartbeats 4000000 in
theorem parse9_nought (w : World) (ds : List Int) (hby : Byts ds) (h0 : 0 < ds.length) (hl : ds.length ≤ 140737488355328) (h45 : ds.getD 0 0 = 48) (h48 : ds.length = 1) :
  Calls Tryz.prog 84 #[.string (str (ds))] w (Ret (goR w false ds)) := by
 have hsz := str_size ds
 have hix : ∀ i : Nat, i < ds.length → ∀ w', (Instr.index 9 (.string (str ds)) (.int .i64 (i : Int))).run Tryz.prog w' = .ok (.int .u8 (ds.getD i 0)) w' := fun i hi w' => run_at _ _ ds hby i hi (by kernel_rfl) w'
 obtain ⟨D, hD⟩ : ∃ D, D = str ds := ⟨_, rfl⟩
 rw [← hD] at hsz hix ⊢
 have hne : ¬ D.toList = [] := by
  intro e
  have h1 : D.data.toList = [] := by rw [← Lib.toList_data]; exact e
  have h2 := Lib.size_eq D
  rw [h1, List.length_nil] at h2
  omega
 have hne2 : D.toList.isEmpty = false := by
  cases h : D.toList with
  | nil => exact absurd h hne
  | cons a l => rfl
 have hDs : D.size ≤ 140737488355328 := by omega
 have hD0 : 0 < D.size := by omega
 have hD1 : ¬ 1 < D.size := by omega
 obtain ⟨b, hbe⟩ : ∃ b, b = ds.getD 0 0 := ⟨_, rfl⟩
 have hib := fun w' => hix 0 h0 w'
 rw [← hbe] at hib h45
 have hb48 : (b == 48) = true := by rw [beq_iff_eq]; exact h45
 have hb45 : (b == 45) = false := by rw [beq_eq_false_iff_ne]; omega
 have HS := hide (ai hby (ai hsz hix)); clear hby hsz hix hbe hD h48 h45
 obtain ⟨W, hW⟩ : ∃ W, W = w.alloc (.cells #[.bool false, .slice none 0 0] 39) := ⟨_, rfl⟩
 have hb0 : Below w.heap.size w W := by rw [hW]; exact (Below.refl _ _).alloc (nr _) _
 have hr : W.heap[w.heap.size]? = some (.cells #[.bool false, .slice none 0 0] 39) := by rw [hW]; exact at_new _ _
 have HW := hide (ai hW (ai hb0 hr)); clear hW hb0 hr
 replace hib := hib (w.alloc (.cells #[.bool false, .slice none 0 0] 39))
 rw [show ((0 : Nat) : Int) = 0 from rfl] at hib
 go_enter Tryz.func84, Tryz.ntmps84
 go_wp2
 rw [← HW.out.1]
 rw [← HW.out.1] at hib
 clear hib hb48 hb45
 go_loopw [5, 6, 7, 8] (fun s5 s6 s7 s8 wr => ∃ (ms : List Int) (limb u : Int) (j r : Nat), j ≤ D.size ∧ s8 = .int .i64 ((j : Int) - 1) ∧ s6 = .int .i64 limb ∧ s7 = .int .i64 u ∧ r < 9 ∧ u = 10 ^ r ∧ 0 ≤ limb ∧ limb < u ∧ OwnI wr W.heap.size 3 .i64 s5 ms ∧ Dig 1000000000 ms ∧ 9 * ms.length + r + j = D.size ∧ Digs (ds.drop j) ∧ val 1000000000 ms + 1000000000 ^ ms.length * limb = tv (ds.drop j) ∧ Below W.heap.size W wr) (fun _ _ _ s8 _ => (intOf s8 + 1).toNat)
 case atStart =>
  have hz := HS.out.2.1
  refine ⟨[], 0, 1, D.size, 0, nr _, rfl, rfl, rfl, by omega, rfl, by omega, by omega, OwnI.nil _ _ _ _, Dig.nil _, by simp, ?_, ?_, Below.refl _ _⟩
  ·rw [hz, List.drop_length]; intro b hb; simp at hb
  ·rw [hz, List.drop_length]; simp [val, tv]
 case round =>
  obtain ⟨ms, limb, u, j, r, hj, rfl, rfl, rfl, hr9, hu, hb0, hb1, hown, hdig, hlen, hdd, hval, hbel⟩ := hrel
  obtain ⟨hu0, hu1, hu2, hu3, hu4⟩ := ten_r r hr9
  rw [← hu] at hu0 hu1 hu2 hu3 hu4
  have hmsl : ms.length ≤ 17592186044000 := by omega
  by_cases hj0 : 0 < j
  ·obtain ⟨i, hi⟩ : ∃ i, i = j - 1 := ⟨_, rfl⟩
   have hil : i < ds.length := by have := HS.out.2.1; omega
   have hix := fun w' => HS.out.2.2 i hil w'
   rw [show ((i : Nat) : Int) = (j : Int) - 1 by omega] at hix
   have hxb := byts_at HS.out.1 i
   obtain ⟨x, hx⟩ : ∃ x, x = ds.getD i 0 := ⟨_, rfl⟩
   rw [← hx] at hix hxb
   have hji : j = i + 1 := by omega
   have hjl : 9 * ms.length + r + (i + 1) = ds.length := by have := HS.out.2.1; omega
   rw [hji] at hdd hval
   by_cases hdg : 48 ≤ x ∧ x < 58
   ·obtain ⟨hx0, hx1⟩ := hdg
    have hx2 : ¬ x < 48 := by omega
    have hx3 : ¬ 57 < x := by omega
    have hp0 : 0 ≤ u * (x - 48) := Int.mul_nonneg (by omega) (by omega)
    have hp1 : u * (x - 48) ≤ u * 9 := Int.mul_le_mul_of_nonneg_left (by omega) (by omega)
    have hmore := limb_more ms limb u x i r ds hil hx.symm hjl hu hval
    have hdm := digs_more hil hx.symm hx0 hx1 hdd
    have HM := hide (ai hmore (ai hdm (ai hu (ai hi (ai hx (ai hji (ai hjl hlen))))))); clear hmore hdm hu hi hx hji hjl hlen hdd hval hxb
    by_cases hr8 : r = 8
    ·have hu5 := hu4 hr8
     have h10 : ((10 * u : Int) == 1000000000) = true := by rw [beq_iff_eq]; omega
     have HU := hide (ai hu5 (ai hu2 hr8)); clear hu5 hu2 hu3 hu4 hr8
     replace hix := hix wr
     go_wp2_with (at_builtin; refine app1 Tryz.limT _ rfl _ _ rfl W.heap.size _ ms (limb + u * (x - 48)) rfl (hown.keep ((Below.refl _ _).alloc (nr _) _)) ⟨wr.heap.size, 0, none⟩ _ rfl (by simp [World.cell?_alloc_new]) hmsl (by have := hbel.size; simp; omega) ?_; intro g c1 w1 hown1 _ _ hb2)
     go_roundw
     case rel =>
      obtain ⟨e1, e2, e3, e4, e5, e6, e7, e8⟩ := HM.out
      obtain ⟨f1, f2, f3⟩ := HU.out
      refine ⟨ms ++ [limb + u * (x - 48)], 0, 1, i, 0, by omega, by (rw [e6]; congr 1; omega), rfl, rfl, by omega, rfl, by omega, by omega, hown1, hdig.snoc (by omega) (by omega), by (rw [List.length_append, List.length_singleton]; omega), e2, ?_, (hbel.alloc hbel.size _).trans hb2⟩
      rw [val_snoc, Int.mul_zero, Int.add_zero]
      exact e1
     case measure => (have := HM.out.2.2.2.1); simp [intOf]; omega
    ·have hu5 := hu3 (by omega)
     have h10 : ((10 * u : Int) == 1000000000) = false := by rw [beq_eq_false_iff_ne]; omega
     have HU := hide (ai hu5 (ai hu2 hr8)); clear hu5 hu2 hu3 hu4 hr8
     replace hix := hix wr
     go_wp2
     go_roundw
     case rel =>
      obtain ⟨e1, e2, e3, e4, e5, e6, e7, e8⟩ := HM.out
      obtain ⟨f1, f2, f3⟩ := HU.out
      refine ⟨ms, limb + u * (x - 48), 10 * u, i, r + 1, by omega, by (rw [e6]; congr 1; omega), rfl, rfl, by omega, by (rw [e3]; rw [e3] at f2; omega), by omega, by omega, hown, hdig, by omega, e2, e1, hbel⟩
     case measure => (have := HM.out.2.2.2.1); simp [intOf]; omega
   ·have hnd := not_digs hil hx.symm hdg
    have hr2 := at_later HW.out.2.2 hbel
    obtain ⟨x0, x1, f0, f1⟩ := two_cells hr2
    have hlt := lt_of_block hr2
    have HF := hide (ai hnd (ai hr2 (bnx HW.out.2.1 hbel))); clear hnd hr2 hbel hu hi hx hji hjl hlen hdd hval hown hdig
    replace hix := hix wr
    rcases (show x < 48 ∨ ¬ x < 48 ∧ 57 < x by omega) with hlo | ⟨hlo, hhi⟩
    all_goals
     go_wp2
     refine bodyPost_ret (v := .tuple #[.agg #[.bool false, .slice none 0 0], .bool false]) ?_ rfl ?_
     ·simp [results, Tryz.results84, go_sem, x0, x1, hlt]
     exact ⟨_, rfl, _, _, rfl, below_put2 HF.out.2.2 (nr _), Or.inr ⟨rfl, HF.out.1, rfl⟩⟩
  ·obtain rfl : j = 0 := by omega
   have hdz : ds.length = D.size := HS.out.2.1.symm
   rw [List.drop_zero] at hdd hval
   have h9 : ms.length ≤ D.size / 9 := by omega
   have h99 : 0 < limb → ms.length + 1 ≤ D.size / 9 + 1 := by omega
   by_cases hl0 : 0 < limb
   ·have hlb : limb < 1000000000 := by omega
    have HV := hide (ai hval (ai hdd (ai hdz (ai hlen hu)))); clear hval hdd hdz hlen hu hu2 hu3 hu4
    go_wp2_with (at_builtin; refine app1 Tryz.limT _ rfl _ _ rfl W.heap.size _ ms limb rfl (hown.keep ((Below.refl _ _).alloc (nr _) _)) ⟨wr.heap.size, 0, none⟩ _ rfl (by simp [World.cell?_alloc_new]) hmsl (by have := hbel.size; simp; omega) ?_; intro g c1 w1 hown1 hc1 hc2 hb2)
    have hbel1 : Below W.heap.size W w1 := (hbel.alloc hbel.size _).trans hb2
    have hdig1 : Dig 1000000000 (ms ++ [limb]) := hdig.snoc (by omega) (by omega)
    have hval1 : val 1000000000 (ms ++ [limb]) = tv ds := by rw [val_snoc]; exact HV.out.1
    have hfm := hown1.form
    have hmL : (ms ++ [limb]).length ≤ D.size / 9 + 1 := by rw [List.length_append, List.length_singleton]; omega
    obtain ⟨os, hos⟩ : ∃ os, os = ms ++ [limb] := ⟨_, rfl⟩
    have hol : ms.length + 1 = os.length := by rw [hos]; simp
    rw [← hos] at hown1 hdig1 hval1 hfm hmL
    clear hos
    obtain ⟨A1, c2, hv, hc3, hc4, harr⟩ := hfm
    injection hv with hv1 hv2 hv3
    subst hv3
    rw [hv1]
    rw [hol]
    clear hown hdig hown1 hb2 hbel hv1 hv2 hmsl hc1 hc2
    have hrr := at_later HW.out.2.2 hbel1
    have HB := hide (ai hbel1 (ai hrr (ai harr (ai hdig1 (ai hval1 hmL))))); clear hbel1 hrr harr hdig1 hval1 hmL
    go_wp2_with fail
    refine (trim9_c _ _ _ _ os rfl HB.out.2.2.1 hc3 hc4).mono ?_
    rintro e w2 ⟨_, rfl, n, hn, rfl, rfl⟩
    have hlim := LimV.of_trim HB.out.2.2.1 HB.out.2.2.2.1 hc3 hc4 hn
    have HL := hide hlim; clear hlim hn
    go_wp2_with fail
    refine (int9_c _ false _ _ _ HL.out (by have := HB.out.2.2.2.2.2; omega)).mono ?_
    rintro e w3 ⟨_, rfl, hz, hd3⟩
    have hr2 := at_later HB.out.2.1 hd3
    obtain ⟨s1, A2, n2, c4, rfl, hs1, _⟩ := hz.parts
    obtain ⟨x0, x1, f0, f1⟩ := two_cells hr2
    have hlt := lt_of_block hr2
    rw [HB.out.2.2.2.2.1] at hz
    have HZ := hide (ai (hz.more (show _ ≤ ds.length / 9 + 1 by (have := HB.out.2.2.2.2.2; have := HV.out.2.2.1; omega))) (ai hr2 (bnx HW.out.2.1 (HB.out.1.trans (hd3.mono HB.out.1.size))))); clear hz hr2 hs1 hd3
    go_wp2
    refine bodyPost_ret (v := .tuple #[.agg #[.bool s1, .slice A2 n2 c4], .bool true]) ?_ rfl ?_
    ·simp [results, Tryz.results84, go_sem, x0, x1, hlt]
    obtain ⟨hz, hr2, hb⟩ := HZ.out
    exact ⟨_, rfl, _, _, rfl, below_put2 hb (nr _), Or.inl ⟨rfl, HV.out.2.1, zv_put2 hz hr2 (by decide)⟩⟩
   ·have hl1 : limb = 0 := by omega
    subst hl1
    have hval1 : val 1000000000 ms = tv ds := by rw [Int.mul_zero, Int.add_zero] at hval; exact hval
    obtain ⟨A1, c1, rfl, hc3, hc4, harr⟩ := hown.form
    have hdig1 := hdig
    have hbel1 := hbel
    have HV := hide (ai hval (ai hdd (ai hdz (ai hlen hu)))); clear hval hdd hdz hlen hu hu2 hu3 hu4
    have hmL : ms.length ≤ D.size / 9 + 1 := by omega
    obtain ⟨os, hos⟩ : ∃ os, os = ms := ⟨_, rfl⟩
    rw [← hos] at hdig1 hval1 harr hmL hc3 ⊢
    clear hos hown hdig hbel hmsl
    have hrr := at_later HW.out.2.2 hbel1
    have HB := hide (ai hbel1 (ai hrr (ai harr (ai hdig1 (ai hval1 hmL))))); clear hbel1 hrr harr hdig1 hval1 hmL
    go_wp2_with fail
    refine (trim9_c _ _ _ _ os rfl HB.out.2.2.1 hc3 hc4).mono ?_
    rintro e w2 ⟨_, rfl, n, hn, rfl, rfl⟩
    have hlim := LimV.of_trim HB.out.2.2.1 HB.out.2.2.2.1 hc3 hc4 hn
    have HL := hide hlim; clear hlim hn
    go_wp2_with fail
    refine (int9_c _ false _ _ _ HL.out (by have := HB.out.2.2.2.2.2; omega)).mono ?_
    rintro e w3 ⟨_, rfl, hz, hd3⟩
    have hr2 := at_later HB.out.2.1 hd3
    obtain ⟨s1, A2, n2, c4, rfl, hs1, _⟩ := hz.parts
    obtain ⟨x0, x1, f0, f1⟩ := two_cells hr2
    have hlt := lt_of_block hr2
    rw [HB.out.2.2.2.2.1] at hz
    have HZ := hide (ai (hz.more (show _ ≤ ds.length / 9 + 1 by (have := HB.out.2.2.2.2.2; have := HV.out.2.2.1; omega))) (ai hr2 (bnx HW.out.2.1 (HB.out.1.trans (hd3.mono HB.out.1.size))))); clear hz hr2 hs1 hd3
    go_wp2
    refine bodyPost_ret (v := .tuple #[.agg #[.bool s1, .slice A2 n2 c4], .bool true]) ?_ rfl ?_
    ·simp [results, Tryz.results84, go_sem, x0, x1, hlt]
    obtain ⟨hz, hr2, hb⟩ := HZ.out
    exact ⟨_, rfl, _, _, rfl, below_put2 hb (nr _), Or.inl ⟨rfl, HV.out.2.1, zv_put2 hz hr2 (by decide)⟩⟩
def parseR (w : World) (bs : List Int) (v : Value) (w' : World) : Prop :=
 ∃ u ok, v = .tuple #[u, .bool ok] ∧ Below w.heap.size w w' ∧ ((ok = true ∧ ∃ z, bs = intText z ∧ ZV w' u z (bs.length / 9 + 1)) ∨ (ok = false ∧ NoInt bs ∧ u = .agg #[.bool false, .slice none 0 0]))
def noR (w : World) (v : Value) (w' : World) : Prop := v = .tuple #[.agg #[.bool false, .slice none 0 0], .bool false] ∧ Below w.heap.size w w'
set_option maxRecDepth 100000 in
theorem parse9_nil (w : World) : Calls Tryz.prog 84 #[.string ⟨#[]⟩] w (Ret (noR w)) := by
 obtain ⟨W, hW⟩ : ∃ W, W = w.alloc (.cells #[.bool false, .slice none 0 0] 39) := ⟨_, rfl⟩
 have hb0 : Below w.heap.size w W := by rw [hW]; exact (Below.refl _ _).alloc (nr _) _
 have hr : W.heap[w.heap.size]? = some (.cells #[.bool false, .slice none 0 0] 39) := by rw [hW]; exact at_new _ _
 obtain ⟨x0, x1, f0, f1⟩ := two_cells hr
 have hlt := lt_of_block hr
 have HW := hide (ai hW hb0); clear hW hb0 hr
 go_enter Tryz.func84, Tryz.ntmps84
 go_upto_region 1 with fail
 rw [← HW.out.1]
 go_wp2
 refine bodyPost_ret (v := .tuple #[.agg #[.bool false, .slice none 0 0], .bool false]) ?_ rfl ?_
 ·simp [results, Tryz.results84, go_sem, x0, x1, hlt]
 exact ⟨_, rfl, rfl, below_put2 HW.out.2 (nr _)⟩
set_option maxRecDepth 100000 in
theorem parse9_sign (w : World) : Calls Tryz.prog 84 #[.string (str [45])] w (Ret (noR w)) := by
 have hi0 : ∀ w', (Instr.index 9 (.string (str [45])) (.int .i64 0)).run Tryz.prog w' = .ok (.int .u8 45) w' := fun w' => run_at _ _ [45] (by intro b hb; simp at hb; omega) 0 (by simp) (by kernel_rfl) w'
 have hz2 : (str [45]).size = 1 := by rw [str_size]; rfl
 have hsl : ∀ w' : World, (Instr.slice 9 (.string (str [45])) (some (.int .i64 1)) none none).run Tryz.prog w' = .ok (.string ⟨#[]⟩) w' := fun w' => by
  rw [run_slice_string_l w' 9 _ (by kernel_rfl) .i64 1 (by omega) (by omega)]
  rw [str_extract, hz2]
  rfl
 obtain ⟨S, hS⟩ : ∃ S, S = str [45] := ⟨_, rfl⟩
 rw [← hS] at hi0 hz2 hsl ⊢
 have hs0 : 0 < S.size := by omega
 have HZ := hide hz2
 clear hS hz2
 obtain ⟨W, hW⟩ : ∃ W, W = w.alloc (.cells #[.bool false, .slice none 0 0] 39) := ⟨_, rfl⟩
 have hb0 : Below w.heap.size w W := by rw [hW]; exact (Below.refl _ _).alloc (nr _) _
 have hr : W.heap[w.heap.size]? = some (.cells #[.bool false, .slice none 0 0] 39) := by rw [hW]; exact at_new _ _
 obtain ⟨x0, x1, f0, f1⟩ := two_cells hr
 have hlt := lt_of_block hr
 have HW := hide (ai hW hb0); clear hW hb0 hr
 replace hi0 := hi0 W
 replace hsl := hsl W
 go_enter Tryz.func84, Tryz.ntmps84
 go_upto_region 1 with fail
 rw [← HW.out.1]
 go_wp2
 refine bodyPost_ret (v := .tuple #[.agg #[.bool false, .slice none 0 0], .bool false]) ?_ rfl ?_
 ·simp [results, Tryz.results84, go_sem, x0, x1, hlt]
 exact ⟨_, rfl, rfl, below_put2 HW.out.2 (nr _)⟩
set_option maxRecDepth 100000 in
theorem parse9_noughts (w : World) (b : Int) (t : List Int) (hby : Byts (48 :: b :: t)) (hl : (48 :: b :: t).length ≤ 140737488355328) : Calls Tryz.prog 84 #[.string (str (48 :: b :: t))] w (Ret (noR w)) := by
 have hi0 : ∀ w', (Instr.index 9 (.string (str (48 :: b :: t))) (.int .i64 0)).run Tryz.prog w' = .ok (.int .u8 48) w' := fun w' => run_at _ _ (48 :: b :: t) hby 0 (by simp) (by kernel_rfl) w'
 have hz2 : (str (48 :: b :: t)).size = (48 :: b :: t).length := by rw [str_size]
 have hz3 : 2 ≤ (48 :: b :: t).length := by simp
 obtain ⟨S, hS⟩ : ∃ S, S = str (48 :: b :: t) := ⟨_, rfl⟩
 rw [← hS] at hi0 hz2 ⊢
 have hs0 : 0 < S.size := by omega
 have hs1 : 1 < S.size := by omega
 have hs2 : S.size ≤ 140737488355328 := by omega
 have hne : ¬ S.toList = [] := by
  intro e
  have h1 : S.data.toList = [] := by rw [← Lib.toList_data]; exact e
  have h2 := Lib.size_eq S
  rw [h1, List.length_nil] at h2
  omega
 have hne2 : S.toList.isEmpty = false := by
  cases h : S.toList with
  | nil => exact absurd h hne
  | cons a l => rfl
 clear hS hz2 hz3 hl
 obtain ⟨W, hW⟩ : ∃ W, W = w.alloc (.cells #[.bool false, .slice none 0 0] 39) := ⟨_, rfl⟩
 have hb0 : Below w.heap.size w W := by rw [hW]; exact (Below.refl _ _).alloc (nr _) _
 have hr : W.heap[w.heap.size]? = some (.cells #[.bool false, .slice none 0 0] 39) := by rw [hW]; exact at_new _ _
 obtain ⟨x0, x1, f0, f1⟩ := two_cells hr
 have hlt := lt_of_block hr
 have HW := hide (ai hW hb0); clear hW hb0 hr
 replace hi0 := hi0 W
 go_enter Tryz.func84, Tryz.ntmps84
 go_upto_region 1 with fail
 rw [← HW.out.1]
 go_wp2
 refine bodyPost_ret (v := .tuple #[.agg #[.bool false, .slice none 0 0], .bool false]) ?_ rfl ?_
 ·simp [results, Tryz.results84, go_sem, x0, x1, hlt]
 exact ⟨_, rfl, rfl, below_put2 HW.out.2 (nr _)⟩
set_option maxRecDepth 100000 in
theorem parse9_sign_nought (w : World) (t : List Int) (hby : Byts (45 :: 48 :: t)) (hl : (45 :: 48 :: t).length ≤ 140737488355328) : Calls Tryz.prog 84 #[.string (str (45 :: 48 :: t))] w (Ret (noR w)) := by
 have hby2 : Byts (48 :: t) := fun b hb => hby b (List.mem_cons_of_mem _ hb)
 have hi0 : ∀ w', (Instr.index 9 (.string (str (45 :: 48 :: t))) (.int .i64 0)).run Tryz.prog w' = .ok (.int .u8 45) w' := fun w' => run_at _ _ (45 :: 48 :: t) hby 0 (by simp) (by kernel_rfl) w'
 have hi1 : ∀ w', (Instr.index 9 (.string (str (48 :: t))) (.int .i64 0)).run Tryz.prog w' = .ok (.int .u8 48) w' := fun w' => run_at _ _ (48 :: t) hby2 0 (by simp) (by kernel_rfl) w'
 have hz1 : (str (48 :: t)).size = (48 :: t).length := by rw [str_size]
 have hz2 : (str (45 :: 48 :: t)).size = (48 :: t).length + 1 := by rw [str_size]; rfl
 have hz3 : 1 ≤ (48 :: t).length := by simp
 have hl3 : (48 :: t).length ≤ 140737488355328 := by rw [List.length_cons] at hl; omega
 have hsl : ∀ w' : World, (Instr.slice 9 (.string (str (45 :: 48 :: t))) (some (.int .i64 1)) none none).run Tryz.prog w' = .ok (.string (str (48 :: t))) w' := fun w' => by
  rw [run_slice_string_l w' 9 _ (by kernel_rfl) .i64 1 (by omega) (by omega)]
  rw [str_extract, hz2]
  simp
 obtain ⟨S, hS⟩ : ∃ S, S = str (45 :: 48 :: t) := ⟨_, rfl⟩
 obtain ⟨D, hD⟩ : ∃ D, D = str (48 :: t) := ⟨_, rfl⟩
 rw [← hD] at hi1 hz1 hsl
 rw [← hS] at hi0 hz2 hsl ⊢
 have hs0 : 0 < S.size := by omega
 have hs2 : S.size ≤ 140737488355329 := by omega
 have hs3 : D.size ≤ 140737488355328 := by omega
 have hne : ¬ D.toList = [] := by
  intro e
  have h1 : D.data.toList = [] := by rw [← Lib.toList_data]; exact e
  have h2 := Lib.size_eq D
  rw [h1, List.length_nil] at h2
  omega
 have hne2 : D.toList.isEmpty = false := by
  cases h : D.toList with
  | nil => exact absurd h hne
  | cons a l => rfl
 clear hS hD hz2 hz3 hl hl3 hz1
 by_cases hd1 : 1 < D.size
 all_goals
  obtain ⟨W, hW⟩ : ∃ W, W = w.alloc (.cells #[.bool false, .slice none 0 0] 39) := ⟨_, rfl⟩
  have hb0 : Below w.heap.size w W := by rw [hW]; exact (Below.refl _ _).alloc (nr _) _
  have hr : W.heap[w.heap.size]? = some (.cells #[.bool false, .slice none 0 0] 39) := by rw [hW]; exact at_new _ _
  obtain ⟨x0, x1, f0, f1⟩ := two_cells hr
  have hlt := lt_of_block hr
  have HW := hide (ai hW hb0); clear hW hb0 hr
  replace hi0 := hi0 W
  replace hi1 := hi1 W
  replace hsl := hsl W
  go_enter Tryz.func84, Tryz.ntmps84
  go_upto_region 1 with fail
  rw [← HW.out.1]
  go_wp2
  refine bodyPost_ret (v := .tuple #[.agg #[.bool false, .slice none 0 0], .bool false]) ?_ rfl ?_
  ·simp [results, Tryz.results84, go_sem, x0, x1, hlt]
  exact ⟨_, rfl, rfl, below_put2 HW.out.2 (nr _)⟩
theorem parseR_no {w w' : World} {bs : List Int} (h : NoInt bs) {v : Value} (hn : noR w v w') : parseR w bs v w' :=
 ⟨_, _, hn.1, hn.2, Or.inr ⟨rfl, h, rfl⟩⟩
theorem digs_dec (ds : List Int) : Digs ds ∨ ∃ b ∈ ds, ¬ (48 ≤ b ∧ b < 58) := by
 induction ds with
 | nil => left; intro b hb; simp at hb
 | cons a t ih =>
  by_cases ha : 48 ≤ a ∧ a < 58
  ·rcases ih with h | ⟨b, hb, h⟩
   ·left
    intro b hb
    rcases List.mem_cons.1 hb with e | e
    ·rw [e]; exact ha
    ·exact h b e
   ·right; exact ⟨b, List.mem_cons_of_mem _ hb, h⟩
  ·right; exact ⟨a, List.mem_cons_self, ha⟩
theorem parseR_go {w w' : World} {neg : Bool} {ds : List Int} (h0 : 0 < ds.length) (h48 : ds.getD 0 0 = 48 → ds = [48] ∧ neg = false) (hn : neg = false → ds.head? ≠ some 45) {v : Value} (h : goR w neg ds v w') : parseR w ((if neg then [45] else []) ++ ds) v w' := by
 obtain ⟨u, ok, rfl, hb, ⟨rfl, hd, hz⟩ | ⟨rfl, hd, rfl⟩⟩ := h
 ·refine ⟨u, true, rfl, hb, Or.inl ⟨rfl, _, (intText_tv neg ds hd h0 h48).symm, hz.more ?_⟩⟩
  rw [List.length_append]; omega
 ·refine ⟨_, false, rfl, hb, Or.inr ⟨rfl, ?_, rfl⟩⟩
  rcases digs_dec ds with h | ⟨b, hb1, hb2⟩
  ·exact absurd h hd
  ·exact noInt_digit neg ds b hb1 hb2 hn
theorem parsz9_c (w : World) (bs : List Int) (hby : Byts bs) (hl : bs.length ≤ 140737488355328) :
  Calls Tryz.prog 84 #[.string (str bs)] w (Ret (parseR w bs)) := by
 have up : ∀ {R R' : Value → World → Prop} {e : Ending} {w' : World}, (∀ v w', R v w' → R' v w') → Ret R e w' → Ret R' e w' := by
  rintro R R' e w' hh ⟨v, rfl, h⟩; exact ⟨v, rfl, hh _ _ h⟩
 cases bs with
 | nil => exact (parse9_nil w).mono fun e w' => up fun v w' => parseR_no noInt_nil
 | cons a t =>
  by_cases ha : a = 45
  ·subst ha
   cases t with
   | nil => exact (parse9_sign w).mono fun e w' => up fun v w' => parseR_no noInt_minus
   | cons c t =>
    by_cases hc : c = 48
    ·subst hc
     exact (parse9_sign_nought w t hby hl).mono fun e w' => up fun v w' => parseR_no (noInt_minus_nought t)
    ·refine (parse9_minus w (c :: t) (fun b hb => hby b (List.mem_cons_of_mem _ hb)) (by simp) (by rw [List.length_cons] at hl; omega) (by simpa using hc)).mono fun e w' => up fun v w' h => ?_
     exact parseR_go (neg := true) (by simp) (fun h => absurd h (by simpa using hc)) (fun h => by cases h) h
  ·by_cases ha8 : a = 48
   ·subst ha8
    cases t with
    | nil => exact (parse9_nought w [48] hby (by simp) hl (by simp) (by simp)).mono fun e w' => up fun v w' h => parseR_go (neg := false) (by simp) (fun _ => ⟨rfl, rfl⟩) (fun _ => by simp) h
    | cons c t => exact (parse9_noughts w c t hby hl).mono fun e w' => up fun v w' => parseR_no (noInt_nought _ (by simp))
   ·refine (parse9_plain w (a :: t) hby (by simp) hl (by simpa using ha) (by simpa using ha8)).mono fun e w' => up fun v w' h => ?_
    exact parseR_go (neg := false) (by simp) (fun h => absurd h (by simpa using ha8)) (fun _ => by simpa using ha) h
end Go.Proofs.YthnnbpnocefmgaaGreat
