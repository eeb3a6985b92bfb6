import Derived.Test.YthnnbpnocefmgaaGreatReg
import Derived.Test.YthnnbpnocefmgaaGreatParse9
import Derived.Test.YthnnbpnocefmgaaGreatStr9
namespace Go.Proofs.YthnnbpnocefmgaaGreat
set_option linter.unusedVariables false
set_option linter.unusedSimpArgs false
open Go
section
variable {P : Program} {ops : Array Oper} {Q : Exit → Act → World → Prop} {md : Region.Mode} {S : World → Prop} {os : List Nat}
theorem till_skip {i : Nat} {oi : Oper} {fuel : Nat} {listed : Array Bool} {a : Act} {w : World} (hi : ops[i]? = some oi)
  (hs : Region.noSelect ops = true) (hf : Region.free md ops listed i = true) (hr : (Region.ready md ops listed).contains i = true) (hwait : waitNow md ops os listed i = true)
  (hQ : ∀ c a w, Q (.panic c) (a.put oi.dst undef) w → Q (.panic c) a w) (hw : Region.wanted oi (yielded ops a.tmps) = false) (hS : S w) (d : Option Tmp) (hd : oi.dst = d)
  (h : AnyTill P md ops Q S os fuel (listed.setIfInBounds i true) (a.put d undef) w) : AnyTill P md ops Q S os (fuel + 1) listed a w := by
 subst hd
 refine till_first (T := S) hi (Region.noSelect_spec hs) hQ (fun _ _ h => h) fuel listed a w (fun j oj h1 h2 h3 h4 => ⟨Region.free_spec hi hf j oj h1 h2 h3 h4, fun w' h5 => h5 ?_⟩) (by simpa using hr) (.inr ⟨hw, rfl⟩) hS h
 have h6 := List.all_eq_true.1 hwait j (List.mem_range.2 (Array.getElem?_eq_some_iff.1 h1).1)
 simp only [Bool.or_eq_true, decide_eq_true_eq] at h6
 rcases h6 with ((h6 | h6) | h6) | h6
 ·rw [h3] at h6; cases h6
 ·exact absurd h6 h2
 ·exact h6
 ·obtain ⟨o', ho', e, he, hb, hon⟩ := Region.waitsFor_spec h6
  rw [h1] at ho'
  injection ho' with ho'
  subst ho'
  exact absurd hon (h4 e he hb)
end
open Go.RowKit
def noneQ : Value := .agg #[.bool false, .slice none 0 0, .bool false, .slice none 0 0]
def readR (w : World) (bs : List Int) (v : Value) (w' : World) : Prop :=
 ∃ u ok, v = .tuple #[u, .bool ok] ∧ Below w.heap.size w w' ∧ ((ok = true ∧ ∃ q : Rat, bs = ratText q ∧ QV w' u q (bs.length / 9 + 3)) ∨ (ok = false ∧ (∀ q : Rat, bs ≠ ratText q) ∧ u = noneQ))
theorem parse9_yes (w : World) (bs : List Int) (z : Int) (h : bs = intText z) (hby : Byts bs) (hl : bs.length ≤ 140737488355328) :
  Calls Tryz.prog 84 #[.string (str bs)] w (Ret fun v w' => ∃ s A n c, v = .tuple #[.agg #[.bool s, .slice A n c], .bool true] ∧ ZV w' (.agg #[.bool s, .slice A n c]) z (bs.length / 9 + 1) ∧ Below w.heap.size w w') := by
 refine (parsz9_c w bs hby hl).mono ?_
 rintro e w' ⟨_, rfl, u, ok, rfl, hb, ⟨rfl, z', h', hz⟩ | ⟨rfl, hn, rfl⟩⟩
 ·have e := intText_inj (h.symm.trans h')
  subst e
  obtain ⟨s, A, n, c, rfl, _⟩ := hz.parts
  exact ⟨_, rfl, s, A, n, c, rfl, hz, hb⟩
 ·exact absurd h (hn z)
theorem parse9_no (w : World) (bs : List Int) (h : NoInt bs) (hby : Byts bs) (hl : bs.length ≤ 140737488355328) :
  Calls Tryz.prog 84 #[.string (str bs)] w (Ret fun v w' => v = .tuple #[.agg #[.bool false, .slice none 0 0], .bool false] ∧ Below w.heap.size w w') := by
 refine (parsz9_c w bs hby hl).mono ?_
 rintro e w' ⟨_, rfl, u, ok, rfl, hb, ⟨rfl, z', h', hz⟩ | ⟨rfl, hn, rfl⟩⟩
 ·exact absurd h' (h z')
 ·exact ⟨_, rfl, rfl, hb⟩
theorem not_noInt {bs : List Int} (h : ¬ NoInt bs) : ∃ z, bs = intText z := by
 unfold NoInt at h
 exact Classical.byContradiction fun h2 => h fun z e => h2 ⟨z, e⟩
theorem read_no_int {bs : List Int} (h : NoInt bs) (hs : (47 : Int) ∉ bs) : ∀ q : Rat, bs ≠ ratText q := by
 intro q e
 obtain ⟨h1, h2⟩ := ratText_slash q bs hs e
 exact h _ h2
theorem ratText_of_int (z : Int) : ratText (z : Rat) = intText z := by
 unfold ratText
 have h1 : ((z : Rat)).num = z := rfl
 have h2 : ((z : Rat)).den = 1 := rfl
 rw [h1, h2, if_pos rfl, List.append_nil]
theorem byts_take {bs : List Int} (h : Byts bs) {xs cs : List Int} (e : bs = xs ++ 47 :: cs) : Byts xs ∧ Byts cs :=
 ⟨fun b hb => h b (by rw [e]; simp [hb]), fun b hb => h b (by rw [e]; simp [hb])⟩
theorem split_slash : ∀ (bs : List Int), (47 : Int) ∈ bs → ∃ xs cs, bs = xs ++ 47 :: cs ∧ (47 : Int) ∉ xs
 | b :: bs, h => by
  by_cases hb : b = 47
  ·subst hb; exact ⟨[], bs, rfl, by simp⟩
  ·rcases List.mem_cons.1 h with e | e
   ·exact absurd e.symm hb
   ·obtain ⟨xs, cs, rfl, hx⟩ := split_slash bs e
    refine ⟨b :: xs, cs, rfl, ?_⟩
    rw [List.mem_cons]
    rintro (e | e)
    ·exact hb e.symm
    ·exact hx e
set_option maxRecDepth 100000 in
set_option maxHeartbeats 2000000 in
theorem read_plain (w : World) (bs : List Int) (hby : Byts bs) (hl : bs.length ≤ 140737488355328) (hs : (47 : Int) ∉ bs) :
  Calls Tryz.prog 37 #[.string (str bs)] w (Ret (readR w bs)) := by
 have hsz := str_size (bs)
 have hix : ∀ i : Nat, i < (bs).length → ∀ w', (Instr.index 9 (.string (str (bs))) (.int .i64 (i : Int))).run Tryz.prog w' = .ok (.int .u8 ((bs).getD i 0)) w' := fun i hi w' => run_at _ _ (bs) hby i hi (by kernel_rfl) w'
 obtain ⟨S, hS⟩ : ∃ S, S = str bs := ⟨_, rfl⟩
 rw [← hS] at hsz hix ⊢
 have hSs : S.size ≤ 140737488355328 := by omega
 have HS := hide (ai hby (ai hsz (ai hix (ai hS (ai hs hl))))); clear hby hsz hix hS hs hl
 obtain ⟨W, hW⟩ : ∃ W, W = w.alloc (.cells #[.bool false, .slice none 0 0, .bool false, .slice none 0 0] 41) := ⟨_, rfl⟩
 have hb0 : Below w.heap.size w W := by rw [hW]; exact (Below.refl _ _).alloc (nr _) _
 have hr : W.heap[w.heap.size]? = some (.cells #[.bool false, .slice none 0 0, .bool false, .slice none 0 0] 41) := by rw [hW]; exact at_new _ _
 have HW := hide (ai hW (ai hb0 hr)); clear hW hb0 hr
 go_enter Tryz.func37, Tryz.ntmps37
 go_wp2
 rw [← HW.out.1]
 go_loop [4] (fun s4 => ∃ k : Nat, k ≤ S.size ∧ s4 = .int .i64 k) (fun s4 => S.size - (intOf s4).toNat)
 case atStart => exact ⟨0, Nat.zero_le _, rfl⟩
 case round =>
  obtain ⟨k, hk, rfl⟩ := hrel
  by_cases hlt : k < S.size
  ·have hkl : k < bs.length := by have := HS.out.2.1; omega
   have hx := HS.out.2.2.1 k hkl W
   have hb47 : (bs.getD k 0 != 47) = true := by
    simp [List.getD, hkl]
    intro e; exact HS.out.2.2.2.2.1 (by rw [← e]; exact List.getElem_mem hkl)
   obtain ⟨b, hb⟩ : ∃ b, b = bs.getD k 0 := ⟨_, rfl⟩
   rw [← hb] at hx hb47
   clear hb
   go_wp2
   go_round
   case rel => exact ⟨k + 1, by omega, by go_num⟩
   case measure => simp [intOf]; omega
  ·by_cases hn : NoInt bs
   ·have HN := hide hn; clear hn
    go_wp2_with fail
    refine (show Calls _ _ _ _ _ from by rw [HS.out.2.2.2.1]; exact parse9_no _ bs HN.out HS.out.1 HS.out.2.2.2.2.2).mono ?_
    rintro e w1 ⟨_, rfl, rfl, hd1⟩
    have hr1 := at_later HW.out.2.2 hd1
    have hbw := bnx HW.out.2.1 hd1
    have hda : Below w1.heap.size w1 (w1.alloc (.cells #[.bool false, .slice none 0 0] 39)) := (Below.refl _ _).alloc (nr _) _
    have hr2 := at_later hr1 hda
    obtain ⟨y0, y1, y2, y3, f0, f1, f2, f3⟩ := four_cells hr2
    have hlt2 := lt_of_block hr2
    have HF := hide (ai hr2 (bnx hbw hda)); clear hr1 hr2 hbw hda hd1
    go_wp2
    refine bodyPost_ret (v := .tuple #[noneQ, .bool false]) ?_ rfl ?_
    ·simp [noneQ, results, Tryz.results37, go_sem, y0, y1, y2, y3, hlt2]
    exact ⟨_, rfl, _, _, rfl, below_put4 HF.out.2 (nr _), Or.inr ⟨rfl, read_no_int HN.out HS.out.2.2.2.2.1, rfl⟩⟩
   ·obtain ⟨z, hz⟩ := not_noInt hn
    have HN := hide hz; clear hn hz
    go_wp2_with fail
    refine (show Calls _ _ _ _ _ from by rw [HS.out.2.2.2.1]; exact parse9_yes _ bs z HN.out HS.out.1 HS.out.2.2.2.2.2).mono ?_
    rintro e w1 ⟨_, rfl, s, A, n, c, rfl, hz1, hd1⟩
    have hr1 := at_later HW.out.2.2 hd1
    have hbw := bnx HW.out.2.1 hd1
    obtain ⟨W2, hW2⟩ : ∃ W2, W2 = w1.alloc (.cells #[.bool s, .slice A n c] 39) := ⟨_, rfl⟩
    have hda : Below w1.heap.size w1 W2 := by rw [hW2]; exact (Below.refl _ _).alloc (nr _) _
    have hn2 : W2.heap[w1.heap.size]? = some (.cells #[.bool s, .slice A n c] 39) := by rw [hW2]; exact at_new _ _
    obtain ⟨x0, x1, g0, g1⟩ := two_cells hn2
    have HF := hide (ai (at_later hr1 hda) (ai (bnx hbw hda) (ai (hz1.below hda) hW2))); clear hr1 hbw hda hd1 hz1 hW2 hn2
    rw [HF.out.2.2.2] at x0 x1
    go_wp2_with fail
    rw [← HF.out.2.2.2] at x0 x1 ⊢
    refine (whole_c _ _ z _ HF.out.2.2.1).mono ?_
    rintro e w3 ⟨v3, rfl, q3, hd3⟩
    obtain ⟨s3, A3, n3, c3, B3, m3, d3, rfl, _⟩ := q3.parts
    have hr3 := at_later HF.out.1 hd3
    obtain ⟨y0, y1, y2, y3, f0, f1, f2, f3⟩ := four_cells hr3
    have hlt3 := lt_of_block hr3
    have HG := hide (ai q3 (ai hr3 (bnx HF.out.2.1 hd3))); clear q3 hr3 hd3
    go_wp2
    refine bodyPost_ret (v := .tuple #[.agg #[.bool s3, .slice A3 n3 c3, .bool false, .slice B3 m3 d3], .bool true]) ?_ rfl ?_
    ·simp [results, Tryz.results37, go_sem, y0, y1, y2, y3, hlt3]
    exact ⟨_, rfl, _, _, rfl, below_put4 HG.out.2.2 (nr _), Or.inl ⟨rfl, (z : Rat), by rw [ratText_of_int]; exact HN.out, (HG.out.1.put4 HG.out.2.1 (by decide)).more (by omega)⟩⟩
set_option maxRecDepth 100000 in
set_option maxHeartbeats 4000000 in
theorem read_n1 (w : World) (xs cs : List Int) (hby : Byts (xs ++ 47 :: cs)) (hl : (xs ++ 47 :: cs).length ≤ 140737488355328) (hs : (47 : Int) ∉ xs) (h1 : NoInt xs) :
  Calls Tryz.prog 37 #[.string (str (xs ++ 47 :: cs))] w (Ret (fun v w' => v = .tuple #[noneQ, .bool false] ∧ Below w.heap.size w w')) := by
 have hsz := str_size (xs ++ 47 :: cs)
 have hix : ∀ i : Nat, i < (xs ++ 47 :: cs).length → ∀ w', (Instr.index 9 (.string (str (xs ++ 47 :: cs))) (.int .i64 (i : Int))).run Tryz.prog w' = .ok (.int .u8 ((xs ++ 47 :: cs).getD i 0)) w' := fun i hi w' => run_at _ _ (xs ++ 47 :: cs) hby i hi (by kernel_rfl) w'
 obtain ⟨hbx, hbc⟩ := byts_take hby rfl
 have hlen : (xs ++ 47 :: cs).length = xs.length + 1 + cs.length := by simp; omega
 have h47 : (xs ++ 47 :: cs).getD xs.length 0 = 47 := by simp [List.getD]
 obtain ⟨S, hS⟩ : ∃ S, S = str (xs ++ 47 :: cs) := ⟨_, rfl⟩
 have hsl1 : ∀ w' : World, (Instr.slice 9 (.string S) none (some (.int .i64 (xs.length : Int))) none).run Tryz.prog w' = .ok (.string (str xs)) w' := fun w' => by
  rw [run_slice_string_h w' 9 S (by kernel_rfl) .i64 xs.length (by omega) (by rw [hS]; omega)]
  rw [hS, str_extract]
  simp
 have hsl2 : ∀ w' : World, (Instr.slice 9 (.string S) (some (.int .i64 ((xs.length : Int) + 1))) none none).run Tryz.prog w' = .ok (.string (str cs)) w' := fun w' => by
  rw [run_slice_string_l w' 9 S (by kernel_rfl) .i64 ((xs.length : Int) + 1) (by omega) (by rw [hS]; omega)]
  rw [hS, str_extract, show ((xs.length : Int) + 1).toNat = xs.length + 1 by omega]
  rw [show (xs ++ 47 :: cs).drop (xs.length + 1) = cs by rw [show xs ++ 47 :: cs = (xs ++ [47]) ++ cs by simp, List.drop_left' (by simp)]]
  rw [List.take_of_length_le (by omega)]
 rw [← hS] at hsz hix ⊢
 have hSs : S.size ≤ 140737488355328 := by omega
 have hxS : xs.length < S.size := by omega
 have hlx : xs.length ≤ 140737488355328 := by omega
 have hlc : cs.length ≤ 140737488355328 := by omega
 have HL := hide (show (xs ++ 47 :: cs).length ≤ 140737488355328 from hl)
 have HN := hide h1; clear h1
 have HS := hide (ai hby (ai hsz (ai hix (ai hS (ai hs (ai hbx (ai hbc (ai hlen (ai h47 (ai hsl1 hsl2)))))))))); clear hby hsz hix hS hs hl hbx hbc hlen h47 hsl1 hsl2
 obtain ⟨W, hW⟩ : ∃ W, W = w.alloc (.cells #[.bool false, .slice none 0 0, .bool false, .slice none 0 0] 41) := ⟨_, rfl⟩
 have hb0 : Below w.heap.size w W := by rw [hW]; exact (Below.refl _ _).alloc (nr _) _
 have hr : W.heap[w.heap.size]? = some (.cells #[.bool false, .slice none 0 0, .bool false, .slice none 0 0] 41) := by rw [hW]; exact at_new _ _
 have HW := hide (ai hW (ai hb0 hr)); clear hW hb0 hr
 go_enter Tryz.func37, Tryz.ntmps37
 go_wp2
 rw [← HW.out.1]
 go_loop [4] (fun s4 => ∃ k : Nat, k ≤ xs.length ∧ s4 = .int .i64 k) (fun s4 => S.size - (intOf s4).toNat)
 case atStart => exact ⟨0, Nat.zero_le _, rfl⟩
 case round =>
  obtain ⟨k, hk, rfl⟩ := hrel
  by_cases hlt : k < xs.length
  ·have hkl : k < (xs ++ 47 :: cs).length := by have := HS.out.2.2.2.2.2.2.2.1; omega
   have hx := HS.out.2.2.1 k hkl W
   have hb47 : ((xs ++ 47 :: cs).getD k 0 != 47) = true := by
    simp only [List.getD, List.getElem?_append_left hlt, List.getElem?_eq_getElem hlt, Option.getD_some, bne_iff_ne]
    intro e; exact HS.out.2.2.2.2.1 (by rw [← e]; exact List.getElem_mem hlt)
   obtain ⟨b, hb⟩ : ∃ b, b = (xs ++ 47 :: cs).getD k 0 := ⟨_, rfl⟩
   rw [← hb] at hx hb47
   clear hb
   go_wp2
   go_round
   case rel => exact ⟨k + 1, by omega, by go_num⟩
   case measure => simp [intOf]; omega
  ·obtain rfl : k = xs.length := by omega
   have hx := HS.out.2.2.1 xs.length (by have := HS.out.2.2.2.2.2.2.2.1; omega) W
   rw [HS.out.2.2.2.2.2.2.2.2.1] at hx
   have hsl1 := HS.out.2.2.2.2.2.2.2.2.2.1 W
   go_wp2_with fail
   clear hx hsl1
   refine (parse9_no _ xs HN.out HS.out.2.2.2.2.2.1 hlx).mono ?_
   rintro e w1 ⟨_, rfl, rfl, hd1⟩
   have hz1 : True := trivial
   have hr1 := at_later HW.out.2.2 hd1
   have hbw1 := bnx HW.out.2.1 hd1
   obtain ⟨W2, hW2⟩ : ∃ W2, W2 = w1.alloc (.cells #[.bool false, .slice none 0 0] 39) := ⟨_, rfl⟩
   have hda : Below w1.heap.size w1 W2 := by rw [hW2]; exact (Below.refl _ _).alloc (nr _) _
   have hn2 : W2.heap[w1.heap.size]? = some (.cells #[.bool false, .slice none 0 0] 39) := by rw [hW2]; exact at_new _ _
   have HA := hide (ai (at_later hr1 hda) (ai (bnx hbw1 hda) (ai hn2 (ai hW2 trivial)))); clear hr1 hbw1 hda hd1 hz1 hn2 hW2
   have hsl2 := HS.out.2.2.2.2.2.2.2.2.2.2 W2
   rw [HA.out.2.2.2.1] at hsl2
   go_wp2_with fail
   clear hsl2
   rw [← HA.out.2.2.2.1]
   refine (parsz9_c _ cs HS.out.2.2.2.2.2.2.1 hlc).mono ?_
   rintro e w2 ⟨_, rfl, u2, ok2, rfl, hd2, hor⟩
   obtain ⟨s2, A2, n2, c2, rfl⟩ : ∃ s A n c, u2 = .agg #[.bool s, .slice A n c] := by
    rcases hor with ⟨_, z, _, hz⟩ | ⟨_, _, h⟩
    ·obtain ⟨s, A, n, c, e, _⟩ := hz.parts
     exact ⟨s, A, n, c, e⟩
    ·exact ⟨_, _, _, _, h⟩
   clear hor
   obtain ⟨W3, hW3⟩ : ∃ W3, W3 = w2.alloc (.cells #[.bool s2, .slice A2 n2 c2] 39) := ⟨_, rfl⟩
   have hda : Below w2.heap.size w2 W3 := by rw [hW3]; exact (Below.refl _ _).alloc (nr _) _
   have hn3 : W3.heap[w2.heap.size]? = some (.cells #[.bool s2, .slice A2 n2 c2] 39) := by rw [hW3]; exact at_new _ _
   have hn2 := at_later (at_later HA.out.2.2.1 hd2) hda
   have hrr := at_later (at_later HA.out.1 hd2) hda
   have HF := hide (ai hrr (ai (bnx (bnx HA.out.2.1 hd2) hda) (ai (ai hn2 hn3) (ai hW3 (ai trivial trivial))))); clear hrr hn2 hn3 hW3 hda hd2
   have hS : ∀ w', Below W3.heap.size W3 w' → (w'.cell? ⟨w1.heap.size, 0, none⟩ = some (.bool false) ∧ w'.cell? ⟨w1.heap.size, 1, none⟩ = some (.slice none 0 0)) ∧ w'.cell? ⟨w2.heap.size, 0, none⟩ = some (.bool s2) ∧ w'.cell? ⟨w2.heap.size, 1, none⟩ = some (.slice A2 n2 c2) := fun w' h => by
    obtain ⟨a, b, _⟩ := two_cells (at_later HF.out.2.2.1.1 h)
    obtain ⟨c, d, _⟩ := two_cells (at_later HF.out.2.2.1.2 h)
    exact ⟨⟨a, b⟩, c, d⟩
   have hdr : Below W3.heap.size W3 W3.drew := (Below.refl _ _).drew
   have hS0 := hS _ hdr
   have HSS := hide hS; clear hS
   go_wp2
   rw [← HF.out.2.2.2.1]
   refine till_begin (fun w' => (w'.cell? ⟨w1.heap.size, 0, none⟩ = some (.bool false) ∧ w'.cell? ⟨w1.heap.size, 1, none⟩ = some (.slice none 0 0)) ∧ w'.cell? ⟨w2.heap.size, 0, none⟩ = some (.bool s2) ∧ w'.cell? ⟨w2.heap.size, 1, none⟩ = some (.slice A2 n2 c2)) [0, 1, 2, 3, 4, 5, 6, 7, 8, 9, 10, 11, 12, 13, 14, 15, 16, 17, 18, 19, 20, 21, 22, 23, 24] (by kernel_rfl) (HSS.out _ hdr) (fun hh => ?_)
   refine tt (i := 0) hh (some 36) ?_
   try simp only [Act.put, ptA, ptB, ptC]
   refine tt (i := 1) hh (some 37) ?_
   try simp only [Act.put, ptA, ptB, ptC]
   refine tt (i := 2) hh (some 38) ?_
   try simp only [Act.put, ptA, ptB, ptC]
   refine till_skip (i := 3) rfl (by kernel_rfl) (by kernel_rfl) (by kernel_rfl) (by kernel_rfl) (fun _ _ _ h => h) (by rfl) hh (some 39) rfl ?_
   try simp only [Act.put, ptA, ptB, ptC]
   refine till_skip (i := 4) rfl (by kernel_rfl) (by kernel_rfl) (by kernel_rfl) (by kernel_rfl) (fun _ _ _ h => h) (by rfl) hh (some 40) rfl ?_
   try simp only [Act.put, ptA, ptB, ptC]
   refine tt (i := 5) hh (some 41) ?_
   try simp only [Act.put, ptA, ptB, ptC]
   refine tt (i := 6) hh (some 42) ?_
   try simp only [Act.put, ptA, ptB, ptC]
   refine till_skip (i := 7) rfl (by kernel_rfl) (by kernel_rfl) (by kernel_rfl) (by kernel_rfl) (fun _ _ _ h => h) (by rfl) hh (some 43) rfl ?_
   try simp only [Act.put, ptA, ptB, ptC]
   refine till_skip (i := 8) rfl (by kernel_rfl) (by kernel_rfl) (by kernel_rfl) (by kernel_rfl) (fun _ _ _ h => h) (by rfl) hh (some 44) rfl ?_
   try simp only [Act.put, ptA, ptB, ptC]
   refine till_skip (i := 9) rfl (by kernel_rfl) (by kernel_rfl) (by kernel_rfl) (by kernel_rfl) (fun _ _ _ h => h) (by rfl) hh (some 45) rfl ?_
   try simp only [Act.put, ptA, ptB, ptC]
   refine tt (i := 10) hh (some 46) ?_
   try simp only [Act.put, ptA, ptB, ptC]
   refine tt (i := 11) hh (some 47) ?_
   try simp only [Act.put, ptA, ptB, ptC]
   refine till_skip (i := 12) rfl (by kernel_rfl) (by kernel_rfl) (by kernel_rfl) (by kernel_rfl) (fun _ _ _ h => h) (by rfl) hh (some 48) rfl ?_
   try simp only [Act.put, ptA, ptB, ptC]
   refine till_skip (i := 13) rfl (by kernel_rfl) (by kernel_rfl) (by kernel_rfl) (by kernel_rfl) (fun _ _ _ h => h) (by rfl) hh (some 49) rfl ?_
   try simp only [Act.put, ptA, ptB, ptC]
   refine till_skip (i := 14) rfl (by kernel_rfl) (by kernel_rfl) (by kernel_rfl) (by kernel_rfl) (fun _ _ _ h => h) (by rfl) hh (some 50) rfl ?_
   try simp only [Act.put, ptA, ptB, ptC]
   refine till_skip (i := 15) rfl (by kernel_rfl) (by kernel_rfl) (by kernel_rfl) (by kernel_rfl) (fun _ _ _ h => h) (by rfl) hh (some 51) rfl ?_
   try simp only [Act.put, ptA, ptB, ptC]
   refine tt (i := 16) hh (some 52) ?_
   try simp only [Act.put, ptA, ptB, ptC]
   refine tt (i := 17) hh (some 53) ?_
   try simp only [Act.put, ptA, ptB, ptC]
   refine till_skip (i := 18) rfl (by kernel_rfl) (by kernel_rfl) (by kernel_rfl) (by kernel_rfl) (fun _ _ _ h => h) (by rfl) hh (some 54) rfl ?_
   try simp only [Act.put, ptA, ptB, ptC]
   refine till_skip (i := 19) rfl (by kernel_rfl) (by kernel_rfl) (by kernel_rfl) (by kernel_rfl) (fun _ _ _ h => h) (by rfl) hh (some 55) rfl ?_
   try simp only [Act.put, ptA, ptB, ptC]
   refine till_skip (i := 20) rfl (by kernel_rfl) (by kernel_rfl) (by kernel_rfl) (by kernel_rfl) (fun _ _ _ h => h) (by rfl) hh (some 56) rfl ?_
   try simp only [Act.put, ptA, ptB, ptC]
   refine till_skip (i := 21) rfl (by kernel_rfl) (by kernel_rfl) (by kernel_rfl) (by kernel_rfl) (fun _ _ _ h => h) (by rfl) hh (some 57) rfl ?_
   try simp only [Act.put, ptA, ptB, ptC]
   refine till_skip (i := 22) rfl (by kernel_rfl) (by kernel_rfl) (by kernel_rfl) (by kernel_rfl) (fun _ _ _ h => h) (by rfl) hh (some 58) rfl ?_
   try simp only [Act.put, ptA, ptB, ptC]
   refine till_skip (i := 23) rfl (by kernel_rfl) (by kernel_rfl) (by kernel_rfl) (by kernel_rfl) (fun _ _ _ h => h) (by rfl) hh (some 59) rfl ?_
   try simp only [Act.put, ptA, ptB, ptC]
   refine tt (i := 24) hh (some 60) ?_
   try simp only [Act.put, ptA, ptB, ptC]
   refine till_done (by kernel_rfl) ?_ _
   have hrl := at_later HF.out.1 (Below.refl W3.heap.size W3)
   have hbl := bnx HF.out.2.1 (Below.refl W3.heap.size W3)
   obtain ⟨y0, y1, y2, y3, f0, f1, f2, f3⟩ := four_cells hrl
   have hltl := lt_of_block hrl
   obtain ⟨⟨j0, j1⟩, j2, j3⟩ := HSS.out _ (Below.refl W3.heap.size W3)
   have HG := hide (ai hrl hbl); clear hrl hbl
   go_wp2
   refine bodyPost_ret (v := .tuple #[noneQ, .bool false]) ?_ rfl ?_
   ·simp [noneQ, results, Tryz.results37, go_sem, y0, y1, y2, y3, hltl]
   exact ⟨_, rfl, rfl, by first | exact below_put4 HG.out.2 (nr _) | exact (below_put4 HG.out.2 (nr _)).drew⟩
set_option maxRecDepth 100000 in
set_option maxHeartbeats 4000000 in
theorem read_n2 (w : World) (xs cs : List Int) (hby : Byts (xs ++ 47 :: cs)) (hl : (xs ++ 47 :: cs).length ≤ 140737488355328) (hs : (47 : Int) ∉ xs) (nz : Int) (h1 : xs = intText nz) (h2 : NoInt cs) :
  Calls Tryz.prog 37 #[.string (str (xs ++ 47 :: cs))] w (Ret (fun v w' => v = .tuple #[noneQ, .bool false] ∧ Below w.heap.size w w')) := by
 have hsz := str_size (xs ++ 47 :: cs)
 have hix : ∀ i : Nat, i < (xs ++ 47 :: cs).length → ∀ w', (Instr.index 9 (.string (str (xs ++ 47 :: cs))) (.int .i64 (i : Int))).run Tryz.prog w' = .ok (.int .u8 ((xs ++ 47 :: cs).getD i 0)) w' := fun i hi w' => run_at _ _ (xs ++ 47 :: cs) hby i hi (by kernel_rfl) w'
 obtain ⟨hbx, hbc⟩ := byts_take hby rfl
 have hlen : (xs ++ 47 :: cs).length = xs.length + 1 + cs.length := by simp; omega
 have h47 : (xs ++ 47 :: cs).getD xs.length 0 = 47 := by simp [List.getD]
 obtain ⟨S, hS⟩ : ∃ S, S = str (xs ++ 47 :: cs) := ⟨_, rfl⟩
 have hsl1 : ∀ w' : World, (Instr.slice 9 (.string S) none (some (.int .i64 (xs.length : Int))) none).run Tryz.prog w' = .ok (.string (str xs)) w' := fun w' => by
  rw [run_slice_string_h w' 9 S (by kernel_rfl) .i64 xs.length (by omega) (by rw [hS]; omega)]
  rw [hS, str_extract]
  simp
 have hsl2 : ∀ w' : World, (Instr.slice 9 (.string S) (some (.int .i64 ((xs.length : Int) + 1))) none none).run Tryz.prog w' = .ok (.string (str cs)) w' := fun w' => by
  rw [run_slice_string_l w' 9 S (by kernel_rfl) .i64 ((xs.length : Int) + 1) (by omega) (by rw [hS]; omega)]
  rw [hS, str_extract, show ((xs.length : Int) + 1).toNat = xs.length + 1 by omega]
  rw [show (xs ++ 47 :: cs).drop (xs.length + 1) = cs by rw [show xs ++ 47 :: cs = (xs ++ [47]) ++ cs by simp, List.drop_left' (by simp)]]
  rw [List.take_of_length_le (by omega)]
 rw [← hS] at hsz hix ⊢
 have hSs : S.size ≤ 140737488355328 := by omega
 have hxS : xs.length < S.size := by omega
 have hlx : xs.length ≤ 140737488355328 := by omega
 have hlc : cs.length ≤ 140737488355328 := by omega
 have HL := hide (show (xs ++ 47 :: cs).length ≤ 140737488355328 from hl)
 have HN := hide (ai h1 h2); clear h1 h2
 have HS := hide (ai hby (ai hsz (ai hix (ai hS (ai hs (ai hbx (ai hbc (ai hlen (ai h47 (ai hsl1 hsl2)))))))))); clear hby hsz hix hS hs hl hbx hbc hlen h47 hsl1 hsl2
 obtain ⟨W, hW⟩ : ∃ W, W = w.alloc (.cells #[.bool false, .slice none 0 0, .bool false, .slice none 0 0] 41) := ⟨_, rfl⟩
 have hb0 : Below w.heap.size w W := by rw [hW]; exact (Below.refl _ _).alloc (nr _) _
 have hr : W.heap[w.heap.size]? = some (.cells #[.bool false, .slice none 0 0, .bool false, .slice none 0 0] 41) := by rw [hW]; exact at_new _ _
 have HW := hide (ai hW (ai hb0 hr)); clear hW hb0 hr
 go_enter Tryz.func37, Tryz.ntmps37
 go_wp2
 rw [← HW.out.1]
 go_loop [4] (fun s4 => ∃ k : Nat, k ≤ xs.length ∧ s4 = .int .i64 k) (fun s4 => S.size - (intOf s4).toNat)
 case atStart => exact ⟨0, Nat.zero_le _, rfl⟩
 case round =>
  obtain ⟨k, hk, rfl⟩ := hrel
  by_cases hlt : k < xs.length
  ·have hkl : k < (xs ++ 47 :: cs).length := by have := HS.out.2.2.2.2.2.2.2.1; omega
   have hx := HS.out.2.2.1 k hkl W
   have hb47 : ((xs ++ 47 :: cs).getD k 0 != 47) = true := by
    simp only [List.getD, List.getElem?_append_left hlt, List.getElem?_eq_getElem hlt, Option.getD_some, bne_iff_ne]
    intro e; exact HS.out.2.2.2.2.1 (by rw [← e]; exact List.getElem_mem hlt)
   obtain ⟨b, hb⟩ : ∃ b, b = (xs ++ 47 :: cs).getD k 0 := ⟨_, rfl⟩
   rw [← hb] at hx hb47
   clear hb
   go_wp2
   go_round
   case rel => exact ⟨k + 1, by omega, by go_num⟩
   case measure => simp [intOf]; omega
  ·obtain rfl : k = xs.length := by omega
   have hx := HS.out.2.2.1 xs.length (by have := HS.out.2.2.2.2.2.2.2.1; omega) W
   rw [HS.out.2.2.2.2.2.2.2.2.1] at hx
   have hsl1 := HS.out.2.2.2.2.2.2.2.2.2.1 W
   go_wp2_with fail
   clear hx hsl1
   refine (parse9_yes _ xs nz HN.out.1 HS.out.2.2.2.2.2.1 hlx).mono ?_
   rintro e w1 ⟨_, rfl, s1, A1, n1, c1, rfl, hz1, hd1⟩
   replace hz1 := hz1.more (show xs.length / 9 + 1 ≤ (xs ++ 47 :: cs).length / 9 + 1 by (have := HS.out.2.2.2.2.2.2.2.1; omega))
   have hr1 := at_later HW.out.2.2 hd1
   have hbw1 := bnx HW.out.2.1 hd1
   obtain ⟨W2, hW2⟩ : ∃ W2, W2 = w1.alloc (.cells #[.bool s1, .slice A1 n1 c1] 39) := ⟨_, rfl⟩
   have hda : Below w1.heap.size w1 W2 := by rw [hW2]; exact (Below.refl _ _).alloc (nr _) _
   have hn2 : W2.heap[w1.heap.size]? = some (.cells #[.bool s1, .slice A1 n1 c1] 39) := by rw [hW2]; exact at_new _ _
   have HA := hide (ai (at_later hr1 hda) (ai (bnx hbw1 hda) (ai hn2 (ai hW2 (hz1.below hda))))); clear hr1 hbw1 hda hd1 hz1 hn2 hW2
   have hsl2 := HS.out.2.2.2.2.2.2.2.2.2.2 W2
   rw [HA.out.2.2.2.1] at hsl2
   go_wp2_with fail
   clear hsl2
   rw [← HA.out.2.2.2.1]
   refine (parse9_no _ cs HN.out.2 HS.out.2.2.2.2.2.2.1 hlc).mono ?_
   rintro e w2 ⟨_, rfl, rfl, hd2⟩
   obtain ⟨W3, hW3⟩ : ∃ W3, W3 = w2.alloc (.cells #[.bool false, .slice none 0 0] 39) := ⟨_, rfl⟩
   have hda : Below w2.heap.size w2 W3 := by rw [hW3]; exact (Below.refl _ _).alloc (nr _) _
   have hn3 : W3.heap[w2.heap.size]? = some (.cells #[.bool false, .slice none 0 0] 39) := by rw [hW3]; exact at_new _ _
   have hn2 := at_later (at_later HA.out.2.2.1 hd2) hda
   have hrr := at_later (at_later HA.out.1 hd2) hda
   have HF := hide (ai hrr (ai (bnx (bnx HA.out.2.1 hd2) hda) (ai (ai hn2 hn3) (ai hW3 (ai ((HA.out.2.2.2.2.below hd2).below hda) trivial))))); clear hrr hn2 hn3 hW3 hda hd2
   have hS : ∀ w', Below W3.heap.size W3 w' → (w'.cell? ⟨w1.heap.size, 0, none⟩ = some (.bool s1) ∧ w'.cell? ⟨w1.heap.size, 1, none⟩ = some (.slice A1 n1 c1)) ∧ w'.cell? ⟨w2.heap.size, 0, none⟩ = some (.bool false) ∧ w'.cell? ⟨w2.heap.size, 1, none⟩ = some (.slice none 0 0) := fun w' h => by
    obtain ⟨a, b, _⟩ := two_cells (at_later HF.out.2.2.1.1 h)
    obtain ⟨c, d, _⟩ := two_cells (at_later HF.out.2.2.1.2 h)
    exact ⟨⟨a, b⟩, c, d⟩
   have hdr : Below W3.heap.size W3 W3.drew := (Below.refl _ _).drew
   have hS0 := hS _ hdr
   have HSS := hide hS; clear hS
   go_wp2
   rw [← HF.out.2.2.2.1]
   refine till_begin (fun w' => (w'.cell? ⟨w1.heap.size, 0, none⟩ = some (.bool s1) ∧ w'.cell? ⟨w1.heap.size, 1, none⟩ = some (.slice A1 n1 c1)) ∧ w'.cell? ⟨w2.heap.size, 0, none⟩ = some (.bool false) ∧ w'.cell? ⟨w2.heap.size, 1, none⟩ = some (.slice none 0 0)) [0, 1, 2, 3, 4, 5, 6, 7, 8, 9, 10, 11, 12, 13, 14, 15, 16, 17, 18, 19, 20, 21, 22, 23, 24] (by kernel_rfl) (HSS.out _ hdr) (fun hh => ?_)
   refine tt (i := 0) hh (some 36) ?_
   try simp only [Act.put, ptA, ptB, ptC]
   refine tt (i := 1) hh (some 37) ?_
   try simp only [Act.put, ptA, ptB, ptC]
   refine tt (i := 2) hh (some 38) ?_
   try simp only [Act.put, ptA, ptB, ptC]
   refine tt (i := 3) hh (some 39) ?_
   try simp only [Act.put, ptA, ptB, ptC]
   refine tt (i := 4) hh (some 40) ?_
   try simp only [Act.put, ptA, ptB, ptC]
   refine tt (i := 5) hh (some 41) ?_
   try simp only [Act.put, ptA, ptB, ptC]
   refine tt (i := 6) hh (some 42) ?_
   try simp only [Act.put, ptA, ptB, ptC]
   refine till_skip (i := 7) rfl (by kernel_rfl) (by kernel_rfl) (by kernel_rfl) (by kernel_rfl) (fun _ _ _ h => h) (by rfl) hh (some 43) rfl ?_
   try simp only [Act.put, ptA, ptB, ptC]
   refine till_skip (i := 8) rfl (by kernel_rfl) (by kernel_rfl) (by kernel_rfl) (by kernel_rfl) (fun _ _ _ h => h) (by rfl) hh (some 44) rfl ?_
   try simp only [Act.put, ptA, ptB, ptC]
   refine till_skip (i := 9) rfl (by kernel_rfl) (by kernel_rfl) (by kernel_rfl) (by kernel_rfl) (fun _ _ _ h => h) (by rfl) hh (some 45) rfl ?_
   try simp only [Act.put, ptA, ptB, ptC]
   refine tt (i := 10) hh (some 46) ?_
   try simp only [Act.put, ptA, ptB, ptC]
   refine tt (i := 11) hh (some 47) ?_
   try simp only [Act.put, ptA, ptB, ptC]
   refine till_skip (i := 12) rfl (by kernel_rfl) (by kernel_rfl) (by kernel_rfl) (by kernel_rfl) (fun _ _ _ h => h) (by rfl) hh (some 48) rfl ?_
   try simp only [Act.put, ptA, ptB, ptC]
   refine till_skip (i := 13) rfl (by kernel_rfl) (by kernel_rfl) (by kernel_rfl) (by kernel_rfl) (fun _ _ _ h => h) (by rfl) hh (some 49) rfl ?_
   try simp only [Act.put, ptA, ptB, ptC]
   refine till_skip (i := 14) rfl (by kernel_rfl) (by kernel_rfl) (by kernel_rfl) (by kernel_rfl) (fun _ _ _ h => h) (by rfl) hh (some 50) rfl ?_
   try simp only [Act.put, ptA, ptB, ptC]
   refine till_skip (i := 15) rfl (by kernel_rfl) (by kernel_rfl) (by kernel_rfl) (by kernel_rfl) (fun _ _ _ h => h) (by rfl) hh (some 51) rfl ?_
   try simp only [Act.put, ptA, ptB, ptC]
   refine tt (i := 16) hh (some 52) ?_
   try simp only [Act.put, ptA, ptB, ptC]
   refine tt (i := 17) hh (some 53) ?_
   try simp only [Act.put, ptA, ptB, ptC]
   refine till_skip (i := 18) rfl (by kernel_rfl) (by kernel_rfl) (by kernel_rfl) (by kernel_rfl) (fun _ _ _ h => h) (by rfl) hh (some 54) rfl ?_
   try simp only [Act.put, ptA, ptB, ptC]
   refine till_skip (i := 19) rfl (by kernel_rfl) (by kernel_rfl) (by kernel_rfl) (by kernel_rfl) (fun _ _ _ h => h) (by rfl) hh (some 55) rfl ?_
   try simp only [Act.put, ptA, ptB, ptC]
   refine till_skip (i := 20) rfl (by kernel_rfl) (by kernel_rfl) (by kernel_rfl) (by kernel_rfl) (fun _ _ _ h => h) (by rfl) hh (some 56) rfl ?_
   try simp only [Act.put, ptA, ptB, ptC]
   refine till_skip (i := 21) rfl (by kernel_rfl) (by kernel_rfl) (by kernel_rfl) (by kernel_rfl) (fun _ _ _ h => h) (by rfl) hh (some 57) rfl ?_
   try simp only [Act.put, ptA, ptB, ptC]
   refine till_skip (i := 22) rfl (by kernel_rfl) (by kernel_rfl) (by kernel_rfl) (by kernel_rfl) (fun _ _ _ h => h) (by rfl) hh (some 58) rfl ?_
   try simp only [Act.put, ptA, ptB, ptC]
   refine till_skip (i := 23) rfl (by kernel_rfl) (by kernel_rfl) (by kernel_rfl) (by kernel_rfl) (fun _ _ _ h => h) (by rfl) hh (some 59) rfl ?_
   try simp only [Act.put, ptA, ptB, ptC]
   refine tt (i := 24) hh (some 60) ?_
   try simp only [Act.put, ptA, ptB, ptC]
   refine till_done (by kernel_rfl) ?_ _
   have hrl := at_later HF.out.1 (Below.refl W3.heap.size W3)
   have hbl := bnx HF.out.2.1 (Below.refl W3.heap.size W3)
   obtain ⟨y0, y1, y2, y3, f0, f1, f2, f3⟩ := four_cells hrl
   have hltl := lt_of_block hrl
   obtain ⟨⟨j0, j1⟩, j2, j3⟩ := HSS.out _ (Below.refl W3.heap.size W3)
   have HG := hide (ai hrl hbl); clear hrl hbl
   go_wp2
   refine bodyPost_ret (v := .tuple #[noneQ, .bool false]) ?_ rfl ?_
   ·simp [noneQ, results, Tryz.results37, go_sem, y0, y1, y2, y3, hltl]
   exact ⟨_, rfl, rfl, by first | exact below_put4 HG.out.2 (nr _) | exact (below_put4 HG.out.2 (nr _)).drew⟩
set_option maxRecDepth 100000 in
set_option maxHeartbeats 4000000 in
theorem read_d0 (w : World) (xs cs : List Int) (hby : Byts (xs ++ 47 :: cs)) (hl : (xs ++ 47 :: cs).length ≤ 140737488355328) (hs : (47 : Int) ∉ xs) (nz dz : Int) (h1 : xs = intText nz) (h2 : cs = intText dz) (h3 : dz ≤ 0) :
  Calls Tryz.prog 37 #[.string (str (xs ++ 47 :: cs))] w (Ret (fun v w' => v = .tuple #[noneQ, .bool false] ∧ Below w.heap.size w w')) := by
 have hsz := str_size (xs ++ 47 :: cs)
 have hix : ∀ i : Nat, i < (xs ++ 47 :: cs).length → ∀ w', (Instr.index 9 (.string (str (xs ++ 47 :: cs))) (.int .i64 (i : Int))).run Tryz.prog w' = .ok (.int .u8 ((xs ++ 47 :: cs).getD i 0)) w' := fun i hi w' => run_at _ _ (xs ++ 47 :: cs) hby i hi (by kernel_rfl) w'
 obtain ⟨hbx, hbc⟩ := byts_take hby rfl
 have hlen : (xs ++ 47 :: cs).length = xs.length + 1 + cs.length := by simp; omega
 have h47 : (xs ++ 47 :: cs).getD xs.length 0 = 47 := by simp [List.getD]
 obtain ⟨S, hS⟩ : ∃ S, S = str (xs ++ 47 :: cs) := ⟨_, rfl⟩
 have hsl1 : ∀ w' : World, (Instr.slice 9 (.string S) none (some (.int .i64 (xs.length : Int))) none).run Tryz.prog w' = .ok (.string (str xs)) w' := fun w' => by
  rw [run_slice_string_h w' 9 S (by kernel_rfl) .i64 xs.length (by omega) (by rw [hS]; omega)]
  rw [hS, str_extract]
  simp
 have hsl2 : ∀ w' : World, (Instr.slice 9 (.string S) (some (.int .i64 ((xs.length : Int) + 1))) none none).run Tryz.prog w' = .ok (.string (str cs)) w' := fun w' => by
  rw [run_slice_string_l w' 9 S (by kernel_rfl) .i64 ((xs.length : Int) + 1) (by omega) (by rw [hS]; omega)]
  rw [hS, str_extract, show ((xs.length : Int) + 1).toNat = xs.length + 1 by omega]
  rw [show (xs ++ 47 :: cs).drop (xs.length + 1) = cs by rw [show xs ++ 47 :: cs = (xs ++ [47]) ++ cs by simp, List.drop_left' (by simp)]]
  rw [List.take_of_length_le (by omega)]
 rw [← hS] at hsz hix ⊢
 have hSs : S.size ≤ 140737488355328 := by omega
 have hxS : xs.length < S.size := by omega
 have hlx : xs.length ≤ 140737488355328 := by omega
 have hlc : cs.length ≤ 140737488355328 := by omega
 have HL := hide (show (xs ++ 47 :: cs).length ≤ 140737488355328 from hl)
 have HN := hide (ai h1 h2); clear h1 h2
 obtain ⟨sg, hsg⟩ : ∃ sg, sg = sgnZ dz := ⟨_, rfl⟩
 have hsg1 : sg ≤ 0 := by rw [hsg]; unfold sgnZ; split <;> (try split) <;> omega
 have HC := hide (ai hsg.symm (ai hsg.symm hsg.symm)); clear hsg
 have HS := hide (ai hby (ai hsz (ai hix (ai hS (ai hs (ai hbx (ai hbc (ai hlen (ai h47 (ai hsl1 hsl2)))))))))); clear hby hsz hix hS hs hl hbx hbc hlen h47 hsl1 hsl2
 obtain ⟨W, hW⟩ : ∃ W, W = w.alloc (.cells #[.bool false, .slice none 0 0, .bool false, .slice none 0 0] 41) := ⟨_, rfl⟩
 have hb0 : Below w.heap.size w W := by rw [hW]; exact (Below.refl _ _).alloc (nr _) _
 have hr : W.heap[w.heap.size]? = some (.cells #[.bool false, .slice none 0 0, .bool false, .slice none 0 0] 41) := by rw [hW]; exact at_new _ _
 have HW := hide (ai hW (ai hb0 hr)); clear hW hb0 hr
 go_enter Tryz.func37, Tryz.ntmps37
 go_wp2
 rw [← HW.out.1]
 go_loop [4] (fun s4 => ∃ k : Nat, k ≤ xs.length ∧ s4 = .int .i64 k) (fun s4 => S.size - (intOf s4).toNat)
 case atStart => exact ⟨0, Nat.zero_le _, rfl⟩
 case round =>
  obtain ⟨k, hk, rfl⟩ := hrel
  by_cases hlt : k < xs.length
  ·have hkl : k < (xs ++ 47 :: cs).length := by have := HS.out.2.2.2.2.2.2.2.1; omega
   have hx := HS.out.2.2.1 k hkl W
   have hb47 : ((xs ++ 47 :: cs).getD k 0 != 47) = true := by
    simp only [List.getD, List.getElem?_append_left hlt, List.getElem?_eq_getElem hlt, Option.getD_some, bne_iff_ne]
    intro e; exact HS.out.2.2.2.2.1 (by rw [← e]; exact List.getElem_mem hlt)
   obtain ⟨b, hb⟩ : ∃ b, b = (xs ++ 47 :: cs).getD k 0 := ⟨_, rfl⟩
   rw [← hb] at hx hb47
   clear hb
   go_wp2
   go_round
   case rel => exact ⟨k + 1, by omega, by go_num⟩
   case measure => simp [intOf]; omega
  ·obtain rfl : k = xs.length := by omega
   have hx := HS.out.2.2.1 xs.length (by have := HS.out.2.2.2.2.2.2.2.1; omega) W
   rw [HS.out.2.2.2.2.2.2.2.2.1] at hx
   have hsl1 := HS.out.2.2.2.2.2.2.2.2.2.1 W
   go_wp2_with fail
   clear hx hsl1
   refine (parse9_yes _ xs nz HN.out.1 HS.out.2.2.2.2.2.1 hlx).mono ?_
   rintro e w1 ⟨_, rfl, s1, A1, n1, c1, rfl, hz1, hd1⟩
   replace hz1 := hz1.more (show xs.length / 9 + 1 ≤ (xs ++ 47 :: cs).length / 9 + 1 by (have := HS.out.2.2.2.2.2.2.2.1; omega))
   have hr1 := at_later HW.out.2.2 hd1
   have hbw1 := bnx HW.out.2.1 hd1
   obtain ⟨W2, hW2⟩ : ∃ W2, W2 = w1.alloc (.cells #[.bool s1, .slice A1 n1 c1] 39) := ⟨_, rfl⟩
   have hda : Below w1.heap.size w1 W2 := by rw [hW2]; exact (Below.refl _ _).alloc (nr _) _
   have hn2 : W2.heap[w1.heap.size]? = some (.cells #[.bool s1, .slice A1 n1 c1] 39) := by rw [hW2]; exact at_new _ _
   have HA := hide (ai (at_later hr1 hda) (ai (bnx hbw1 hda) (ai hn2 (ai hW2 (hz1.below hda))))); clear hr1 hbw1 hda hd1 hz1 hn2 hW2
   have hsl2 := HS.out.2.2.2.2.2.2.2.2.2.2 W2
   rw [HA.out.2.2.2.1] at hsl2
   go_wp2_with fail
   clear hsl2
   rw [← HA.out.2.2.2.1]
   refine (parse9_yes _ cs dz HN.out.2 HS.out.2.2.2.2.2.2.1 hlc).mono ?_
   rintro e w2 ⟨_, rfl, s2, A2, n2, c2, rfl, hz2, hd2⟩
   replace hz2 := hz2.more (show cs.length / 9 + 1 ≤ (xs ++ 47 :: cs).length / 9 + 1 by (have := HS.out.2.2.2.2.2.2.2.1; omega))
   obtain ⟨W3, hW3⟩ : ∃ W3, W3 = w2.alloc (.cells #[.bool s2, .slice A2 n2 c2] 39) := ⟨_, rfl⟩
   have hda : Below w2.heap.size w2 W3 := by rw [hW3]; exact (Below.refl _ _).alloc (nr _) _
   have hn3 : W3.heap[w2.heap.size]? = some (.cells #[.bool s2, .slice A2 n2 c2] 39) := by rw [hW3]; exact at_new _ _
   have hn2 := at_later (at_later HA.out.2.2.1 hd2) hda
   have hrr := at_later (at_later HA.out.1 hd2) hda
   have HF := hide (ai hrr (ai (bnx (bnx HA.out.2.1 hd2) hda) (ai (ai hn2 hn3) (ai hW3 (ai ((HA.out.2.2.2.2.below hd2).below hda) (hz2.below hda)))))); clear hrr hn2 hn3 hW3 hda hd2 hz2
   have hS : ∀ w', Below W3.heap.size W3 w' → (w'.cell? ⟨w1.heap.size, 0, none⟩ = some (.bool s1) ∧ w'.cell? ⟨w1.heap.size, 1, none⟩ = some (.slice A1 n1 c1)) ∧ w'.cell? ⟨w2.heap.size, 0, none⟩ = some (.bool s2) ∧ w'.cell? ⟨w2.heap.size, 1, none⟩ = some (.slice A2 n2 c2) := fun w' h => by
    obtain ⟨a, b, _⟩ := two_cells (at_later HF.out.2.2.1.1 h)
    obtain ⟨c, d, _⟩ := two_cells (at_later HF.out.2.2.1.2 h)
    exact ⟨⟨a, b⟩, c, d⟩
   have hdr : Below W3.heap.size W3 W3.drew := (Below.refl _ _).drew
   have hS0 := hS _ hdr
   have HSS := hide hS; clear hS
   go_wp2
   rw [← HF.out.2.2.2.1]
   refine till_begin (fun w' => (w'.cell? ⟨w1.heap.size, 0, none⟩ = some (.bool s1) ∧ w'.cell? ⟨w1.heap.size, 1, none⟩ = some (.slice A1 n1 c1)) ∧ w'.cell? ⟨w2.heap.size, 0, none⟩ = some (.bool s2) ∧ w'.cell? ⟨w2.heap.size, 1, none⟩ = some (.slice A2 n2 c2)) [0, 1, 2, 3, 4, 5, 6, 7, 8, 9, 10, 11, 12, 13, 14, 15, 16, 17, 18, 19, 20, 21, 22, 23, 24] (by kernel_rfl) (HSS.out _ hdr) (fun hh => ?_)
   refine tt (i := 0) hh (some 36) ?_
   try simp only [Act.put, ptA, ptB, ptC]
   refine tt (i := 1) hh (some 37) ?_
   try simp only [Act.put, ptA, ptB, ptC]
   refine tt (i := 2) hh (some 38) ?_
   try simp only [Act.put, ptA, ptB, ptC]
   refine tt (i := 3) hh (some 39) ?_
   try simp only [Act.put, ptA, ptB, ptC]
   refine tt (i := 4) hh (some 40) ?_
   try simp only [Act.put, ptA, ptB, ptC]
   refine tt (i := 5) hh (some 41) ?_
   try simp only [Act.put, ptA, ptB, ptC]
   refine tt (i := 6) hh (some 42) ?_
   try simp only [Act.put, ptA, ptB, ptC]
   refine tt (i := 7) hh (some 43) ?_
   try simp only [Act.put, ptA, ptB, ptC]
   refine till_ready (rs := [8]) (by kernel_rfl) (by simp) ?_
   refine mem1 ?_
   refine till_step rfl (fun K hK => ?_)
   go_simp
   go_at_call 82
   refine (sign9_c _ _ dz _ (HF.out.2.2.2.2.2.below hdr)).mono ?_
   rintro e w4 ⟨_, rfl, rfl, hd⟩
   have hg4 : Below W3.heap.size W3 w4 := hdr.trans (hd.mono hdr.size)
   rw [HC.out.1]
   clear hd
   go_wp2_with fail
   refine hK.out _ _ (HSS.out _ hg4) (fun hh => ?_)
   clear hK K
   try simp only [Act.put, ptA, ptB, ptC]
   refine tt (i := 9) hh (some 45) ?_
   try simp only [Act.put, ptA, ptB, ptC]
   refine tt (i := 10) hh (some 46) ?_
   try simp only [Act.put, ptA, ptB, ptC]
   refine tt (i := 11) hh (some 47) ?_
   try simp only [Act.put, ptA, ptB, ptC]
   refine till_skip (i := 12) rfl (by kernel_rfl) (by kernel_rfl) (by kernel_rfl) (by kernel_rfl) (fun _ _ _ h => h) (by rfl) hh (some 48) rfl ?_
   try simp only [Act.put, ptA, ptB, ptC]
   refine till_skip (i := 13) rfl (by kernel_rfl) (by kernel_rfl) (by kernel_rfl) (by kernel_rfl) (fun _ _ _ h => h) (by rfl) hh (some 49) rfl ?_
   try simp only [Act.put, ptA, ptB, ptC]
   refine till_skip (i := 14) rfl (by kernel_rfl) (by kernel_rfl) (by kernel_rfl) (by kernel_rfl) (fun _ _ _ h => h) (by rfl) hh (some 50) rfl ?_
   try simp only [Act.put, ptA, ptB, ptC]
   refine till_skip (i := 15) rfl (by kernel_rfl) (by kernel_rfl) (by kernel_rfl) (by kernel_rfl) (fun _ _ _ h => h) (by rfl) hh (some 51) rfl ?_
   try simp only [Act.put, ptA, ptB, ptC]
   refine tt (i := 16) hh (some 52) ?_
   try simp only [Act.put, ptA, ptB, ptC]
   refine tt (i := 17) hh (some 53) ?_
   try simp only [Act.put, ptA, ptB, ptC]
   refine till_skip (i := 18) rfl (by kernel_rfl) (by kernel_rfl) (by kernel_rfl) (by kernel_rfl) (fun _ _ _ h => h) (by rfl) hh (some 54) rfl ?_
   try simp only [Act.put, ptA, ptB, ptC]
   refine till_skip (i := 19) rfl (by kernel_rfl) (by kernel_rfl) (by kernel_rfl) (by kernel_rfl) (fun _ _ _ h => h) (by rfl) hh (some 55) rfl ?_
   try simp only [Act.put, ptA, ptB, ptC]
   refine till_skip (i := 20) rfl (by kernel_rfl) (by kernel_rfl) (by kernel_rfl) (by kernel_rfl) (fun _ _ _ h => h) (by rfl) hh (some 56) rfl ?_
   try simp only [Act.put, ptA, ptB, ptC]
   refine till_skip (i := 21) rfl (by kernel_rfl) (by kernel_rfl) (by kernel_rfl) (by kernel_rfl) (fun _ _ _ h => h) (by rfl) hh (some 57) rfl ?_
   try simp only [Act.put, ptA, ptB, ptC]
   refine till_skip (i := 22) rfl (by kernel_rfl) (by kernel_rfl) (by kernel_rfl) (by kernel_rfl) (fun _ _ _ h => h) (by rfl) hh (some 58) rfl ?_
   try simp only [Act.put, ptA, ptB, ptC]
   refine till_skip (i := 23) rfl (by kernel_rfl) (by kernel_rfl) (by kernel_rfl) (by kernel_rfl) (fun _ _ _ h => h) (by rfl) hh (some 59) rfl ?_
   try simp only [Act.put, ptA, ptB, ptC]
   refine tt (i := 24) hh (some 60) ?_
   try simp only [Act.put, ptA, ptB, ptC]
   refine till_done (by kernel_rfl) ?_ _
   have hrl := at_later HF.out.1 hg4
   have hbl := bnx HF.out.2.1 hg4
   obtain ⟨y0, y1, y2, y3, f0, f1, f2, f3⟩ := four_cells hrl
   have hltl := lt_of_block hrl
   obtain ⟨⟨j0, j1⟩, j2, j3⟩ := HSS.out _ hg4
   have HG := hide (ai hrl hbl); clear hrl hbl
   go_wp2
   refine bodyPost_ret (v := .tuple #[noneQ, .bool false]) ?_ rfl ?_
   ·simp [noneQ, results, Tryz.results37, go_sem, y0, y1, y2, y3, hltl]
   exact ⟨_, rfl, rfl, by first | exact below_put4 HG.out.2 (nr _) | exact (below_put4 HG.out.2 (nr _)).drew⟩
set_option maxRecDepth 100000 in
set_option maxHeartbeats 4000000 in
theorem read_d1 (w : World) (xs cs : List Int) (hby : Byts (xs ++ 47 :: cs)) (hl : (xs ++ 47 :: cs).length ≤ 140737488355328) (hs : (47 : Int) ∉ xs) (nz dz : Int) (h1 : xs = intText nz) (h2 : cs = intText dz) (h3 : dz = 1) :
  Calls Tryz.prog 37 #[.string (str (xs ++ 47 :: cs))] w (Ret (fun v w' => v = .tuple #[noneQ, .bool false] ∧ Below w.heap.size w w')) := by
 have hsz := str_size (xs ++ 47 :: cs)
 have hix : ∀ i : Nat, i < (xs ++ 47 :: cs).length → ∀ w', (Instr.index 9 (.string (str (xs ++ 47 :: cs))) (.int .i64 (i : Int))).run Tryz.prog w' = .ok (.int .u8 ((xs ++ 47 :: cs).getD i 0)) w' := fun i hi w' => run_at _ _ (xs ++ 47 :: cs) hby i hi (by kernel_rfl) w'
 obtain ⟨hbx, hbc⟩ := byts_take hby rfl
 have hlen : (xs ++ 47 :: cs).length = xs.length + 1 + cs.length := by simp; omega
 have h47 : (xs ++ 47 :: cs).getD xs.length 0 = 47 := by simp [List.getD]
 obtain ⟨S, hS⟩ : ∃ S, S = str (xs ++ 47 :: cs) := ⟨_, rfl⟩
 have hsl1 : ∀ w' : World, (Instr.slice 9 (.string S) none (some (.int .i64 (xs.length : Int))) none).run Tryz.prog w' = .ok (.string (str xs)) w' := fun w' => by
  rw [run_slice_string_h w' 9 S (by kernel_rfl) .i64 xs.length (by omega) (by rw [hS]; omega)]
  rw [hS, str_extract]
  simp
 have hsl2 : ∀ w' : World, (Instr.slice 9 (.string S) (some (.int .i64 ((xs.length : Int) + 1))) none none).run Tryz.prog w' = .ok (.string (str cs)) w' := fun w' => by
  rw [run_slice_string_l w' 9 S (by kernel_rfl) .i64 ((xs.length : Int) + 1) (by omega) (by rw [hS]; omega)]
  rw [hS, str_extract, show ((xs.length : Int) + 1).toNat = xs.length + 1 by omega]
  rw [show (xs ++ 47 :: cs).drop (xs.length + 1) = cs by rw [show xs ++ 47 :: cs = (xs ++ [47]) ++ cs by simp, List.drop_left' (by simp)]]
  rw [List.take_of_length_le (by omega)]
 rw [← hS] at hsz hix ⊢
 have hSs : S.size ≤ 140737488355328 := by omega
 have hxS : xs.length < S.size := by omega
 have hlx : xs.length ≤ 140737488355328 := by omega
 have hlc : cs.length ≤ 140737488355328 := by omega
 have HL := hide (show (xs ++ 47 :: cs).length ≤ 140737488355328 from hl)
 have HN := hide (ai h1 h2); clear h1 h2
 have HC := hide (ai (show sgnZ dz = 1 by unfold sgnZ; rw [if_neg (by omega), if_pos (by omega)]) (ai (show sgn dz 1 = 0 by unfold sgn; rw [if_neg (by omega), if_neg (by omega)]) trivial))
 have HS := hide (ai hby (ai hsz (ai hix (ai hS (ai hs (ai hbx (ai hbc (ai hlen (ai h47 (ai hsl1 hsl2)))))))))); clear hby hsz hix hS hs hl hbx hbc hlen h47 hsl1 hsl2
 obtain ⟨W, hW⟩ : ∃ W, W = w.alloc (.cells #[.bool false, .slice none 0 0, .bool false, .slice none 0 0] 41) := ⟨_, rfl⟩
 have hb0 : Below w.heap.size w W := by rw [hW]; exact (Below.refl _ _).alloc (nr _) _
 have hr : W.heap[w.heap.size]? = some (.cells #[.bool false, .slice none 0 0, .bool false, .slice none 0 0] 41) := by rw [hW]; exact at_new _ _
 have HW := hide (ai hW (ai hb0 hr)); clear hW hb0 hr
 go_enter Tryz.func37, Tryz.ntmps37
 go_wp2
 rw [← HW.out.1]
 go_loop [4] (fun s4 => ∃ k : Nat, k ≤ xs.length ∧ s4 = .int .i64 k) (fun s4 => S.size - (intOf s4).toNat)
 case atStart => exact ⟨0, Nat.zero_le _, rfl⟩
 case round =>
  obtain ⟨k, hk, rfl⟩ := hrel
  by_cases hlt : k < xs.length
  ·have hkl : k < (xs ++ 47 :: cs).length := by have := HS.out.2.2.2.2.2.2.2.1; omega
   have hx := HS.out.2.2.1 k hkl W
   have hb47 : ((xs ++ 47 :: cs).getD k 0 != 47) = true := by
    simp only [List.getD, List.getElem?_append_left hlt, List.getElem?_eq_getElem hlt, Option.getD_some, bne_iff_ne]
    intro e; exact HS.out.2.2.2.2.1 (by rw [← e]; exact List.getElem_mem hlt)
   obtain ⟨b, hb⟩ : ∃ b, b = (xs ++ 47 :: cs).getD k 0 := ⟨_, rfl⟩
   rw [← hb] at hx hb47
   clear hb
   go_wp2
   go_round
   case rel => exact ⟨k + 1, by omega, by go_num⟩
   case measure => simp [intOf]; omega
  ·obtain rfl : k = xs.length := by omega
   have hx := HS.out.2.2.1 xs.length (by have := HS.out.2.2.2.2.2.2.2.1; omega) W
   rw [HS.out.2.2.2.2.2.2.2.2.1] at hx
   have hsl1 := HS.out.2.2.2.2.2.2.2.2.2.1 W
   go_wp2_with fail
   clear hx hsl1
   refine (parse9_yes _ xs nz HN.out.1 HS.out.2.2.2.2.2.1 hlx).mono ?_
   rintro e w1 ⟨_, rfl, s1, A1, n1, c1, rfl, hz1, hd1⟩
   replace hz1 := hz1.more (show xs.length / 9 + 1 ≤ (xs ++ 47 :: cs).length / 9 + 1 by (have := HS.out.2.2.2.2.2.2.2.1; omega))
   have hr1 := at_later HW.out.2.2 hd1
   have hbw1 := bnx HW.out.2.1 hd1
   obtain ⟨W2, hW2⟩ : ∃ W2, W2 = w1.alloc (.cells #[.bool s1, .slice A1 n1 c1] 39) := ⟨_, rfl⟩
   have hda : Below w1.heap.size w1 W2 := by rw [hW2]; exact (Below.refl _ _).alloc (nr _) _
   have hn2 : W2.heap[w1.heap.size]? = some (.cells #[.bool s1, .slice A1 n1 c1] 39) := by rw [hW2]; exact at_new _ _
   have HA := hide (ai (at_later hr1 hda) (ai (bnx hbw1 hda) (ai hn2 (ai hW2 (hz1.below hda))))); clear hr1 hbw1 hda hd1 hz1 hn2 hW2
   have hsl2 := HS.out.2.2.2.2.2.2.2.2.2.2 W2
   rw [HA.out.2.2.2.1] at hsl2
   go_wp2_with fail
   clear hsl2
   rw [← HA.out.2.2.2.1]
   refine (parse9_yes _ cs dz HN.out.2 HS.out.2.2.2.2.2.2.1 hlc).mono ?_
   rintro e w2 ⟨_, rfl, s2, A2, n2, c2, rfl, hz2, hd2⟩
   replace hz2 := hz2.more (show cs.length / 9 + 1 ≤ (xs ++ 47 :: cs).length / 9 + 1 by (have := HS.out.2.2.2.2.2.2.2.1; omega))
   obtain ⟨W3, hW3⟩ : ∃ W3, W3 = w2.alloc (.cells #[.bool s2, .slice A2 n2 c2] 39) := ⟨_, rfl⟩
   have hda : Below w2.heap.size w2 W3 := by rw [hW3]; exact (Below.refl _ _).alloc (nr _) _
   have hn3 : W3.heap[w2.heap.size]? = some (.cells #[.bool s2, .slice A2 n2 c2] 39) := by rw [hW3]; exact at_new _ _
   have hn2 := at_later (at_later HA.out.2.2.1 hd2) hda
   have hrr := at_later (at_later HA.out.1 hd2) hda
   have HF := hide (ai hrr (ai (bnx (bnx HA.out.2.1 hd2) hda) (ai (ai hn2 hn3) (ai hW3 (ai ((HA.out.2.2.2.2.below hd2).below hda) (hz2.below hda)))))); clear hrr hn2 hn3 hW3 hda hd2 hz2
   have hS : ∀ w', Below W3.heap.size W3 w' → (w'.cell? ⟨w1.heap.size, 0, none⟩ = some (.bool s1) ∧ w'.cell? ⟨w1.heap.size, 1, none⟩ = some (.slice A1 n1 c1)) ∧ w'.cell? ⟨w2.heap.size, 0, none⟩ = some (.bool s2) ∧ w'.cell? ⟨w2.heap.size, 1, none⟩ = some (.slice A2 n2 c2) := fun w' h => by
    obtain ⟨a, b, _⟩ := two_cells (at_later HF.out.2.2.1.1 h)
    obtain ⟨c, d, _⟩ := two_cells (at_later HF.out.2.2.1.2 h)
    exact ⟨⟨a, b⟩, c, d⟩
   have hdr : Below W3.heap.size W3 W3.drew := (Below.refl _ _).drew
   have hS0 := hS _ hdr
   have HSS := hide hS; clear hS
   go_wp2
   rw [← HF.out.2.2.2.1]
   refine till_begin (fun w' => (w'.cell? ⟨w1.heap.size, 0, none⟩ = some (.bool s1) ∧ w'.cell? ⟨w1.heap.size, 1, none⟩ = some (.slice A1 n1 c1)) ∧ w'.cell? ⟨w2.heap.size, 0, none⟩ = some (.bool s2) ∧ w'.cell? ⟨w2.heap.size, 1, none⟩ = some (.slice A2 n2 c2)) [0, 1, 2, 3, 4, 5, 6, 7, 8, 9, 10, 11, 12, 13, 14, 15, 16, 17, 18, 19, 20, 21, 22, 23, 24] (by kernel_rfl) (HSS.out _ hdr) (fun hh => ?_)
   refine tt (i := 0) hh (some 36) ?_
   try simp only [Act.put, ptA, ptB, ptC]
   refine tt (i := 1) hh (some 37) ?_
   try simp only [Act.put, ptA, ptB, ptC]
   refine tt (i := 2) hh (some 38) ?_
   try simp only [Act.put, ptA, ptB, ptC]
   refine tt (i := 3) hh (some 39) ?_
   try simp only [Act.put, ptA, ptB, ptC]
   refine tt (i := 4) hh (some 40) ?_
   try simp only [Act.put, ptA, ptB, ptC]
   refine tt (i := 5) hh (some 41) ?_
   try simp only [Act.put, ptA, ptB, ptC]
   refine tt (i := 6) hh (some 42) ?_
   try simp only [Act.put, ptA, ptB, ptC]
   refine tt (i := 7) hh (some 43) ?_
   try simp only [Act.put, ptA, ptB, ptC]
   refine till_ready (rs := [8]) (by kernel_rfl) (by simp) ?_
   refine mem1 ?_
   refine till_step rfl (fun K hK => ?_)
   go_simp
   go_at_call 82
   refine (sign9_c _ _ dz _ (HF.out.2.2.2.2.2.below hdr)).mono ?_
   rintro e w4 ⟨_, rfl, rfl, hd⟩
   have hg4 : Below W3.heap.size W3 w4 := hdr.trans (hd.mono hdr.size)
   rw [HC.out.1]
   clear hd
   go_wp2_with fail
   refine hK.out _ _ (HSS.out _ hg4) (fun hh => ?_)
   clear hK K
   try simp only [Act.put, ptA, ptB, ptC]
   refine tt (i := 9) hh (some 45) ?_
   try simp only [Act.put, ptA, ptB, ptC]
   refine tt (i := 10) hh (some 46) ?_
   try simp only [Act.put, ptA, ptB, ptC]
   refine tt (i := 11) hh (some 47) ?_
   try simp only [Act.put, ptA, ptB, ptC]
   refine tt (i := 12) hh (some 48) ?_
   try simp only [Act.put, ptA, ptB, ptC]
   refine till_ready (rs := [13]) (by kernel_rfl) (by simp) ?_
   refine mem1 ?_
   refine till_step rfl (fun K hK => ?_)
   go_simp
   go_at_call 31
   refine (of9_c _ 1 (by omega) (by omega)).mono ?_
   rintro e w5 ⟨v5, rfl, hv5, hd⟩
   have hg5 : Below W3.heap.size W3 w5 := hg4.trans (hd.mono hg4.size)
   obtain ⟨s5, A5, n5, c5, rfl, hs5, _⟩ := hv5.parts
   clear hs5
   have HV5 := hide hv5
   clear hv5
   clear hd
   go_wp2_with fail
   refine hK.out _ _ (HSS.out _ hg5) (fun hh => ?_)
   clear hK K
   try simp only [Act.put, ptA, ptB, ptC]
   refine till_ready (rs := [14]) (by kernel_rfl) (by simp) ?_
   refine mem1 ?_
   refine till_step rfl (fun K hK => ?_)
   go_simp
   go_at_call 40
   refine (cmpz_c _ _ _ dz 1 _ 3 (HF.out.2.2.2.2.2.below hg5) HV5.out (by have := HL.out; omega) (by omega) (by omega) (by omega)).mono ?_
   rintro e w6 ⟨_, rfl, rfl, hd⟩
   have hg6 : Below W3.heap.size W3 w6 := hg5.trans (hd.mono hg5.size)
   rw [HC.out.2.1]
   clear hd
   go_wp2_with fail
   refine hK.out _ _ (HSS.out _ hg6) (fun hh => ?_)
   clear hK K
   try simp only [Act.put, ptA, ptB, ptC]
   refine tt (i := 15) hh (some 51) ?_
   try simp only [Act.put, ptA, ptB, ptC]
   refine tt (i := 16) hh (some 52) ?_
   try simp only [Act.put, ptA, ptB, ptC]
   refine tt (i := 17) hh (some 53) ?_
   try simp only [Act.put, ptA, ptB, ptC]
   refine till_skip (i := 18) rfl (by kernel_rfl) (by kernel_rfl) (by kernel_rfl) (by kernel_rfl) (fun _ _ _ h => h) (by rfl) hh (some 54) rfl ?_
   try simp only [Act.put, ptA, ptB, ptC]
   refine till_skip (i := 19) rfl (by kernel_rfl) (by kernel_rfl) (by kernel_rfl) (by kernel_rfl) (fun _ _ _ h => h) (by rfl) hh (some 55) rfl ?_
   try simp only [Act.put, ptA, ptB, ptC]
   refine till_skip (i := 20) rfl (by kernel_rfl) (by kernel_rfl) (by kernel_rfl) (by kernel_rfl) (fun _ _ _ h => h) (by rfl) hh (some 56) rfl ?_
   try simp only [Act.put, ptA, ptB, ptC]
   refine till_skip (i := 21) rfl (by kernel_rfl) (by kernel_rfl) (by kernel_rfl) (by kernel_rfl) (fun _ _ _ h => h) (by rfl) hh (some 57) rfl ?_
   try simp only [Act.put, ptA, ptB, ptC]
   refine till_skip (i := 22) rfl (by kernel_rfl) (by kernel_rfl) (by kernel_rfl) (by kernel_rfl) (fun _ _ _ h => h) (by rfl) hh (some 58) rfl ?_
   try simp only [Act.put, ptA, ptB, ptC]
   refine till_skip (i := 23) rfl (by kernel_rfl) (by kernel_rfl) (by kernel_rfl) (by kernel_rfl) (fun _ _ _ h => h) (by rfl) hh (some 59) rfl ?_
   try simp only [Act.put, ptA, ptB, ptC]
   refine tt (i := 24) hh (some 60) ?_
   try simp only [Act.put, ptA, ptB, ptC]
   refine till_done (by kernel_rfl) ?_ _
   have hrl := at_later HF.out.1 hg6
   have hbl := bnx HF.out.2.1 hg6
   obtain ⟨y0, y1, y2, y3, f0, f1, f2, f3⟩ := four_cells hrl
   have hltl := lt_of_block hrl
   obtain ⟨⟨j0, j1⟩, j2, j3⟩ := HSS.out _ hg6
   have HG := hide (ai hrl hbl); clear hrl hbl
   go_wp2
   refine bodyPost_ret (v := .tuple #[noneQ, .bool false]) ?_ rfl ?_
   ·simp [noneQ, results, Tryz.results37, go_sem, y0, y1, y2, y3, hltl]
   exact ⟨_, rfl, rfl, by first | exact below_put4 HG.out.2 (nr _) | exact (below_put4 HG.out.2 (nr _)).drew⟩
set_option maxRecDepth 100000 in
set_option maxHeartbeats 4000000 in
theorem read_g (w : World) (xs cs : List Int) (hby : Byts (xs ++ 47 :: cs)) (hl : (xs ++ 47 :: cs).length ≤ 140737488355328) (hs : (47 : Int) ∉ xs) (nz dz : Int) (h1 : xs = intText nz) (h2 : cs = intText dz) (h3 : 1 < dz) (h4 : Int.gcd nz dz ≠ 1) :
  Calls Tryz.prog 37 #[.string (str (xs ++ 47 :: cs))] w (Ret (fun v w' => v = .tuple #[noneQ, .bool false] ∧ Below w.heap.size w w')) := by
 have hsz := str_size (xs ++ 47 :: cs)
 have hix : ∀ i : Nat, i < (xs ++ 47 :: cs).length → ∀ w', (Instr.index 9 (.string (str (xs ++ 47 :: cs))) (.int .i64 (i : Int))).run Tryz.prog w' = .ok (.int .u8 ((xs ++ 47 :: cs).getD i 0)) w' := fun i hi w' => run_at _ _ (xs ++ 47 :: cs) hby i hi (by kernel_rfl) w'
 obtain ⟨hbx, hbc⟩ := byts_take hby rfl
 have hlen : (xs ++ 47 :: cs).length = xs.length + 1 + cs.length := by simp; omega
 have h47 : (xs ++ 47 :: cs).getD xs.length 0 = 47 := by simp [List.getD]
 obtain ⟨S, hS⟩ : ∃ S, S = str (xs ++ 47 :: cs) := ⟨_, rfl⟩
 have hsl1 : ∀ w' : World, (Instr.slice 9 (.string S) none (some (.int .i64 (xs.length : Int))) none).run Tryz.prog w' = .ok (.string (str xs)) w' := fun w' => by
  rw [run_slice_string_h w' 9 S (by kernel_rfl) .i64 xs.length (by omega) (by rw [hS]; omega)]
  rw [hS, str_extract]
  simp
 have hsl2 : ∀ w' : World, (Instr.slice 9 (.string S) (some (.int .i64 ((xs.length : Int) + 1))) none none).run Tryz.prog w' = .ok (.string (str cs)) w' := fun w' => by
  rw [run_slice_string_l w' 9 S (by kernel_rfl) .i64 ((xs.length : Int) + 1) (by omega) (by rw [hS]; omega)]
  rw [hS, str_extract, show ((xs.length : Int) + 1).toNat = xs.length + 1 by omega]
  rw [show (xs ++ 47 :: cs).drop (xs.length + 1) = cs by rw [show xs ++ 47 :: cs = (xs ++ [47]) ++ cs by simp, List.drop_left' (by simp)]]
  rw [List.take_of_length_le (by omega)]
 rw [← hS] at hsz hix ⊢
 have hSs : S.size ≤ 140737488355328 := by omega
 have hxS : xs.length < S.size := by omega
 have hlx : xs.length ≤ 140737488355328 := by omega
 have hlc : cs.length ≤ 140737488355328 := by omega
 have HL := hide (show (xs ++ 47 :: cs).length ≤ 140737488355328 from hl)
 have HN := hide (ai h1 h2); clear h1 h2
 have hg1 : 1 < (Int.gcd nz dz : Int) := by
  have := Int.gcd_pos_of_ne_zero_right nz (show dz ≠ 0 by omega)
  omega
 have HC := hide (ai (show sgnZ dz = 1 by unfold sgnZ; rw [if_neg (by omega), if_pos (by omega)]) (ai (show sgn dz 1 = 1 by unfold sgn; rw [if_neg (by omega), if_pos (by omega)]) (show sgn (Int.gcd nz dz : Int) 1 = 1 by unfold sgn; rw [if_neg (by omega), if_pos (by omega)])))
 clear hg1 h4
 have HS := hide (ai hby (ai hsz (ai hix (ai hS (ai hs (ai hbx (ai hbc (ai hlen (ai h47 (ai hsl1 hsl2)))))))))); clear hby hsz hix hS hs hl hbx hbc hlen h47 hsl1 hsl2
 obtain ⟨W, hW⟩ : ∃ W, W = w.alloc (.cells #[.bool false, .slice none 0 0, .bool false, .slice none 0 0] 41) := ⟨_, rfl⟩
 have hb0 : Below w.heap.size w W := by rw [hW]; exact (Below.refl _ _).alloc (nr _) _
 have hr : W.heap[w.heap.size]? = some (.cells #[.bool false, .slice none 0 0, .bool false, .slice none 0 0] 41) := by rw [hW]; exact at_new _ _
 have HW := hide (ai hW (ai hb0 hr)); clear hW hb0 hr
 go_enter Tryz.func37, Tryz.ntmps37
 go_wp2
 rw [← HW.out.1]
 go_loop [4] (fun s4 => ∃ k : Nat, k ≤ xs.length ∧ s4 = .int .i64 k) (fun s4 => S.size - (intOf s4).toNat)
 case atStart => exact ⟨0, Nat.zero_le _, rfl⟩
 case round =>
  obtain ⟨k, hk, rfl⟩ := hrel
  by_cases hlt : k < xs.length
  ·have hkl : k < (xs ++ 47 :: cs).length := by have := HS.out.2.2.2.2.2.2.2.1; omega
   have hx := HS.out.2.2.1 k hkl W
   have hb47 : ((xs ++ 47 :: cs).getD k 0 != 47) = true := by
    simp only [List.getD, List.getElem?_append_left hlt, List.getElem?_eq_getElem hlt, Option.getD_some, bne_iff_ne]
    intro e; exact HS.out.2.2.2.2.1 (by rw [← e]; exact List.getElem_mem hlt)
   obtain ⟨b, hb⟩ : ∃ b, b = (xs ++ 47 :: cs).getD k 0 := ⟨_, rfl⟩
   rw [← hb] at hx hb47
   clear hb
   go_wp2
   go_round
   case rel => exact ⟨k + 1, by omega, by go_num⟩
   case measure => simp [intOf]; omega
  ·obtain rfl : k = xs.length := by omega
   have hx := HS.out.2.2.1 xs.length (by have := HS.out.2.2.2.2.2.2.2.1; omega) W
   rw [HS.out.2.2.2.2.2.2.2.2.1] at hx
   have hsl1 := HS.out.2.2.2.2.2.2.2.2.2.1 W
   go_wp2_with fail
   clear hx hsl1
   refine (parse9_yes _ xs nz HN.out.1 HS.out.2.2.2.2.2.1 hlx).mono ?_
   rintro e w1 ⟨_, rfl, s1, A1, n1, c1, rfl, hz1, hd1⟩
   replace hz1 := hz1.more (show xs.length / 9 + 1 ≤ (xs ++ 47 :: cs).length / 9 + 1 by (have := HS.out.2.2.2.2.2.2.2.1; omega))
   have hr1 := at_later HW.out.2.2 hd1
   have hbw1 := bnx HW.out.2.1 hd1
   obtain ⟨W2, hW2⟩ : ∃ W2, W2 = w1.alloc (.cells #[.bool s1, .slice A1 n1 c1] 39) := ⟨_, rfl⟩
   have hda : Below w1.heap.size w1 W2 := by rw [hW2]; exact (Below.refl _ _).alloc (nr _) _
   have hn2 : W2.heap[w1.heap.size]? = some (.cells #[.bool s1, .slice A1 n1 c1] 39) := by rw [hW2]; exact at_new _ _
   have HA := hide (ai (at_later hr1 hda) (ai (bnx hbw1 hda) (ai hn2 (ai hW2 (hz1.below hda))))); clear hr1 hbw1 hda hd1 hz1 hn2 hW2
   have hsl2 := HS.out.2.2.2.2.2.2.2.2.2.2 W2
   rw [HA.out.2.2.2.1] at hsl2
   go_wp2_with fail
   clear hsl2
   rw [← HA.out.2.2.2.1]
   refine (parse9_yes _ cs dz HN.out.2 HS.out.2.2.2.2.2.2.1 hlc).mono ?_
   rintro e w2 ⟨_, rfl, s2, A2, n2, c2, rfl, hz2, hd2⟩
   replace hz2 := hz2.more (show cs.length / 9 + 1 ≤ (xs ++ 47 :: cs).length / 9 + 1 by (have := HS.out.2.2.2.2.2.2.2.1; omega))
   obtain ⟨W3, hW3⟩ : ∃ W3, W3 = w2.alloc (.cells #[.bool s2, .slice A2 n2 c2] 39) := ⟨_, rfl⟩
   have hda : Below w2.heap.size w2 W3 := by rw [hW3]; exact (Below.refl _ _).alloc (nr _) _
   have hn3 : W3.heap[w2.heap.size]? = some (.cells #[.bool s2, .slice A2 n2 c2] 39) := by rw [hW3]; exact at_new _ _
   have hn2 := at_later (at_later HA.out.2.2.1 hd2) hda
   have hrr := at_later (at_later HA.out.1 hd2) hda
   have HF := hide (ai hrr (ai (bnx (bnx HA.out.2.1 hd2) hda) (ai (ai hn2 hn3) (ai hW3 (ai ((HA.out.2.2.2.2.below hd2).below hda) (hz2.below hda)))))); clear hrr hn2 hn3 hW3 hda hd2 hz2
   have hS : ∀ w', Below W3.heap.size W3 w' → (w'.cell? ⟨w1.heap.size, 0, none⟩ = some (.bool s1) ∧ w'.cell? ⟨w1.heap.size, 1, none⟩ = some (.slice A1 n1 c1)) ∧ w'.cell? ⟨w2.heap.size, 0, none⟩ = some (.bool s2) ∧ w'.cell? ⟨w2.heap.size, 1, none⟩ = some (.slice A2 n2 c2) := fun w' h => by
    obtain ⟨a, b, _⟩ := two_cells (at_later HF.out.2.2.1.1 h)
    obtain ⟨c, d, _⟩ := two_cells (at_later HF.out.2.2.1.2 h)
    exact ⟨⟨a, b⟩, c, d⟩
   have hdr : Below W3.heap.size W3 W3.drew := (Below.refl _ _).drew
   have hS0 := hS _ hdr
   have HSS := hide hS; clear hS
   go_wp2
   rw [← HF.out.2.2.2.1]
   refine till_begin (fun w' => (w'.cell? ⟨w1.heap.size, 0, none⟩ = some (.bool s1) ∧ w'.cell? ⟨w1.heap.size, 1, none⟩ = some (.slice A1 n1 c1)) ∧ w'.cell? ⟨w2.heap.size, 0, none⟩ = some (.bool s2) ∧ w'.cell? ⟨w2.heap.size, 1, none⟩ = some (.slice A2 n2 c2)) [0, 1, 2, 3, 4, 5, 6, 7, 8, 9, 10, 11, 12, 13, 14, 15, 16, 17, 18, 19, 20, 21, 22, 23, 24] (by kernel_rfl) (HSS.out _ hdr) (fun hh => ?_)
   refine tt (i := 0) hh (some 36) ?_
   try simp only [Act.put, ptA, ptB, ptC]
   refine tt (i := 1) hh (some 37) ?_
   try simp only [Act.put, ptA, ptB, ptC]
   refine tt (i := 2) hh (some 38) ?_
   try simp only [Act.put, ptA, ptB, ptC]
   refine tt (i := 3) hh (some 39) ?_
   try simp only [Act.put, ptA, ptB, ptC]
   refine tt (i := 4) hh (some 40) ?_
   try simp only [Act.put, ptA, ptB, ptC]
   refine tt (i := 5) hh (some 41) ?_
   try simp only [Act.put, ptA, ptB, ptC]
   refine tt (i := 6) hh (some 42) ?_
   try simp only [Act.put, ptA, ptB, ptC]
   refine tt (i := 7) hh (some 43) ?_
   try simp only [Act.put, ptA, ptB, ptC]
   refine till_ready (rs := [8]) (by kernel_rfl) (by simp) ?_
   refine mem1 ?_
   refine till_step rfl (fun K hK => ?_)
   go_simp
   go_at_call 82
   refine (sign9_c _ _ dz _ (HF.out.2.2.2.2.2.below hdr)).mono ?_
   rintro e w4 ⟨_, rfl, rfl, hd⟩
   have hg4 : Below W3.heap.size W3 w4 := hdr.trans (hd.mono hdr.size)
   rw [HC.out.1]
   clear hd
   go_wp2_with fail
   refine hK.out _ _ (HSS.out _ hg4) (fun hh => ?_)
   clear hK K
   try simp only [Act.put, ptA, ptB, ptC]
   refine tt (i := 9) hh (some 45) ?_
   try simp only [Act.put, ptA, ptB, ptC]
   refine tt (i := 10) hh (some 46) ?_
   try simp only [Act.put, ptA, ptB, ptC]
   refine tt (i := 11) hh (some 47) ?_
   try simp only [Act.put, ptA, ptB, ptC]
   refine tt (i := 12) hh (some 48) ?_
   try simp only [Act.put, ptA, ptB, ptC]
   refine till_ready (rs := [13]) (by kernel_rfl) (by simp) ?_
   refine mem1 ?_
   refine till_step rfl (fun K hK => ?_)
   go_simp
   go_at_call 31
   refine (of9_c _ 1 (by omega) (by omega)).mono ?_
   rintro e w5 ⟨v5, rfl, hv5, hd⟩
   have hg5 : Below W3.heap.size W3 w5 := hg4.trans (hd.mono hg4.size)
   obtain ⟨s5, A5, n5, c5, rfl, hs5, _⟩ := hv5.parts
   clear hs5
   have HV5 := hide hv5
   clear hv5
   clear hd
   go_wp2_with fail
   refine hK.out _ _ (HSS.out _ hg5) (fun hh => ?_)
   clear hK K
   try simp only [Act.put, ptA, ptB, ptC]
   refine till_ready (rs := [14]) (by kernel_rfl) (by simp) ?_
   refine mem1 ?_
   refine till_step rfl (fun K hK => ?_)
   go_simp
   go_at_call 40
   refine (cmpz_c _ _ _ dz 1 _ 3 (HF.out.2.2.2.2.2.below hg5) HV5.out (by have := HL.out; omega) (by omega) (by omega) (by omega)).mono ?_
   rintro e w6 ⟨_, rfl, rfl, hd⟩
   have hg6 : Below W3.heap.size W3 w6 := hg5.trans (hd.mono hg5.size)
   rw [HC.out.2.1]
   clear hd
   go_wp2_with fail
   refine hK.out _ _ (HSS.out _ hg6) (fun hh => ?_)
   clear hK K
   try simp only [Act.put, ptA, ptB, ptC]
   refine tt (i := 15) hh (some 51) ?_
   try simp only [Act.put, ptA, ptB, ptC]
   refine tt (i := 16) hh (some 52) ?_
   try simp only [Act.put, ptA, ptB, ptC]
   refine tt (i := 17) hh (some 53) ?_
   try simp only [Act.put, ptA, ptB, ptC]
   refine tt (i := 18) hh (some 54) ?_
   try simp only [Act.put, ptA, ptB, ptC]
   refine tt (i := 19) hh (some 55) ?_
   try simp only [Act.put, ptA, ptB, ptC]
   refine till_ready (rs := [20]) (by kernel_rfl) (by simp) ?_
   refine mem1 ?_
   refine till_step rfl (fun K hK => ?_)
   go_simp
   go_at_call 85
   refine (gcdz_c _ _ _ nz dz (((xs ++ 47 :: cs).length) / 9 + 1) (((xs ++ 47 :: cs).length) / 9 + 1) (HF.out.2.2.2.2.1.below hg6) (HF.out.2.2.2.2.2.below hg6) (by have := HL.out; omega) (nr _)).mono ?_
   rintro e w7 ⟨v7, rfl, hv7, hd⟩
   have hg7 : Below W3.heap.size W3 w7 := hg6.trans (hd.mono hg6.size)
   obtain ⟨s7, A7, n7, c7, rfl, hs7, _⟩ := hv7.parts
   clear hs7
   have HV7 := hide hv7
   clear hv7
   clear hd
   go_wp2_with fail
   refine hK.out _ _ (HSS.out _ hg7) (fun hh => ?_)
   clear hK K
   try simp only [Act.put, ptA, ptB, ptC]
   refine till_ready (rs := [21]) (by kernel_rfl) (by simp) ?_
   refine mem1 ?_
   refine till_step rfl (fun K hK => ?_)
   go_simp
   go_at_call 31
   refine (of9_c _ 1 (by omega) (by omega)).mono ?_
   rintro e w8 ⟨v8, rfl, hv8, hd⟩
   have hg8 : Below W3.heap.size W3 w8 := hg7.trans (hd.mono hg7.size)
   obtain ⟨s8, A8, n8, c8, rfl, hs8, _⟩ := hv8.parts
   clear hs8
   have HV8 := hide (ai hv8 (HV7.out.below hd))
   clear hv8
   clear hd
   go_wp2_with fail
   refine hK.out _ _ (HSS.out _ hg8) (fun hh => ?_)
   clear hK K
   try simp only [Act.put, ptA, ptB, ptC]
   refine till_ready (rs := [22]) (by kernel_rfl) (by simp) ?_
   refine mem1 ?_
   refine till_step rfl (fun K hK => ?_)
   go_simp
   go_at_call 40
   refine (cmpz_c _ _ _ (Int.gcd nz dz : Int) 1 _ 3 HV8.out.2 HV8.out.1 (by have := HL.out; omega) (by omega) (by omega) (by omega)).mono ?_
   rintro e w9 ⟨_, rfl, rfl, hd⟩
   have hg9 : Below W3.heap.size W3 w9 := hg8.trans (hd.mono hg8.size)
   rw [HC.out.2.2]
   clear hd
   go_wp2_with fail
   refine hK.out _ _ (HSS.out _ hg9) (fun hh => ?_)
   clear hK K
   try simp only [Act.put, ptA, ptB, ptC]
   refine tt (i := 23) hh (some 59) ?_
   try simp only [Act.put, ptA, ptB, ptC]
   refine tt (i := 24) hh (some 60) ?_
   try simp only [Act.put, ptA, ptB, ptC]
   refine till_done (by kernel_rfl) ?_ _
   have hrl := at_later HF.out.1 hg9
   have hbl := bnx HF.out.2.1 hg9
   obtain ⟨y0, y1, y2, y3, f0, f1, f2, f3⟩ := four_cells hrl
   have hltl := lt_of_block hrl
   obtain ⟨⟨j0, j1⟩, j2, j3⟩ := HSS.out _ hg9
   have HG := hide (ai hrl hbl); clear hrl hbl
   go_wp2
   refine bodyPost_ret (v := .tuple #[noneQ, .bool false]) ?_ rfl ?_
   ·simp [noneQ, results, Tryz.results37, go_sem, y0, y1, y2, y3, hltl]
   exact ⟨_, rfl, rfl, by first | exact below_put4 HG.out.2 (nr _) | exact (below_put4 HG.out.2 (nr _)).drew⟩
set_option maxRecDepth 100000 in
set_option maxHeartbeats 4000000 in
theorem read_ok (w : World) (xs cs : List Int) (hby : Byts (xs ++ 47 :: cs)) (hl : (xs ++ 47 :: cs).length ≤ 140737488355328) (hs : (47 : Int) ∉ xs) (nz dz : Int) (h1 : xs = intText nz) (h2 : cs = intText dz) (h3 : 1 < dz) (h4 : Int.gcd nz dz = 1) :
  Calls Tryz.prog 37 #[.string (str (xs ++ 47 :: cs))] w (Ret (readR w (xs ++ 47 :: cs))) := by
 have hsz := str_size (xs ++ 47 :: cs)
 have hix : ∀ i : Nat, i < (xs ++ 47 :: cs).length → ∀ w', (Instr.index 9 (.string (str (xs ++ 47 :: cs))) (.int .i64 (i : Int))).run Tryz.prog w' = .ok (.int .u8 ((xs ++ 47 :: cs).getD i 0)) w' := fun i hi w' => run_at _ _ (xs ++ 47 :: cs) hby i hi (by kernel_rfl) w'
 obtain ⟨hbx, hbc⟩ := byts_take hby rfl
 have hlen : (xs ++ 47 :: cs).length = xs.length + 1 + cs.length := by simp; omega
 have h47 : (xs ++ 47 :: cs).getD xs.length 0 = 47 := by simp [List.getD]
 obtain ⟨S, hS⟩ : ∃ S, S = str (xs ++ 47 :: cs) := ⟨_, rfl⟩
 have hsl1 : ∀ w' : World, (Instr.slice 9 (.string S) none (some (.int .i64 (xs.length : Int))) none).run Tryz.prog w' = .ok (.string (str xs)) w' := fun w' => by
  rw [run_slice_string_h w' 9 S (by kernel_rfl) .i64 xs.length (by omega) (by rw [hS]; omega)]
  rw [hS, str_extract]
  simp
 have hsl2 : ∀ w' : World, (Instr.slice 9 (.string S) (some (.int .i64 ((xs.length : Int) + 1))) none none).run Tryz.prog w' = .ok (.string (str cs)) w' := fun w' => by
  rw [run_slice_string_l w' 9 S (by kernel_rfl) .i64 ((xs.length : Int) + 1) (by omega) (by rw [hS]; omega)]
  rw [hS, str_extract, show ((xs.length : Int) + 1).toNat = xs.length + 1 by omega]
  rw [show (xs ++ 47 :: cs).drop (xs.length + 1) = cs by rw [show xs ++ 47 :: cs = (xs ++ [47]) ++ cs by simp, List.drop_left' (by simp)]]
  rw [List.take_of_length_le (by omega)]
 rw [← hS] at hsz hix ⊢
 have hSs : S.size ≤ 140737488355328 := by omega
 have hxS : xs.length < S.size := by omega
 have hlx : xs.length ≤ 140737488355328 := by omega
 have hlc : cs.length ≤ 140737488355328 := by omega
 have HL := hide (show (xs ++ 47 :: cs).length ≤ 140737488355328 from hl)
 have HN := hide (ai h1 h2); clear h1 h2
 have H4 := hide h4
 have HC := hide (ai (show sgnZ dz = 1 by unfold sgnZ; rw [if_neg (by omega), if_pos (by omega)]) (ai (show sgn dz 1 = 1 by unfold sgn; rw [if_neg (by omega), if_pos (by omega)]) (show sgn (Int.gcd nz dz : Int) 1 = 0 by rw [h4]; rfl)))
 clear h4
 have HS := hide (ai hby (ai hsz (ai hix (ai hS (ai hs (ai hbx (ai hbc (ai hlen (ai h47 (ai hsl1 hsl2)))))))))); clear hby hsz hix hS hs hl hbx hbc hlen h47 hsl1 hsl2
 obtain ⟨W, hW⟩ : ∃ W, W = w.alloc (.cells #[.bool false, .slice none 0 0, .bool false, .slice none 0 0] 41) := ⟨_, rfl⟩
 have hb0 : Below w.heap.size w W := by rw [hW]; exact (Below.refl _ _).alloc (nr _) _
 have hr : W.heap[w.heap.size]? = some (.cells #[.bool false, .slice none 0 0, .bool false, .slice none 0 0] 41) := by rw [hW]; exact at_new _ _
 have HW := hide (ai hW (ai hb0 hr)); clear hW hb0 hr
 go_enter Tryz.func37, Tryz.ntmps37
 go_wp2
 rw [← HW.out.1]
 go_loop [4] (fun s4 => ∃ k : Nat, k ≤ xs.length ∧ s4 = .int .i64 k) (fun s4 => S.size - (intOf s4).toNat)
 case atStart => exact ⟨0, Nat.zero_le _, rfl⟩
 case round =>
  obtain ⟨k, hk, rfl⟩ := hrel
  by_cases hlt : k < xs.length
  ·have hkl : k < (xs ++ 47 :: cs).length := by have := HS.out.2.2.2.2.2.2.2.1; omega
   have hx := HS.out.2.2.1 k hkl W
   have hb47 : ((xs ++ 47 :: cs).getD k 0 != 47) = true := by
    simp only [List.getD, List.getElem?_append_left hlt, List.getElem?_eq_getElem hlt, Option.getD_some, bne_iff_ne]
    intro e; exact HS.out.2.2.2.2.1 (by rw [← e]; exact List.getElem_mem hlt)
   obtain ⟨b, hb⟩ : ∃ b, b = (xs ++ 47 :: cs).getD k 0 := ⟨_, rfl⟩
   rw [← hb] at hx hb47
   clear hb
   go_wp2
   go_round
   case rel => exact ⟨k + 1, by omega, by go_num⟩
   case measure => simp [intOf]; omega
  ·obtain rfl : k = xs.length := by omega
   have hx := HS.out.2.2.1 xs.length (by have := HS.out.2.2.2.2.2.2.2.1; omega) W
   rw [HS.out.2.2.2.2.2.2.2.2.1] at hx
   have hsl1 := HS.out.2.2.2.2.2.2.2.2.2.1 W
   go_wp2_with fail
   clear hx hsl1
   refine (parse9_yes _ xs nz HN.out.1 HS.out.2.2.2.2.2.1 hlx).mono ?_
   rintro e w1 ⟨_, rfl, s1, A1, n1, c1, rfl, hz1, hd1⟩
   replace hz1 := hz1.more (show xs.length / 9 + 1 ≤ (xs ++ 47 :: cs).length / 9 + 1 by (have := HS.out.2.2.2.2.2.2.2.1; omega))
   have hr1 := at_later HW.out.2.2 hd1
   have hbw1 := bnx HW.out.2.1 hd1
   obtain ⟨W2, hW2⟩ : ∃ W2, W2 = w1.alloc (.cells #[.bool s1, .slice A1 n1 c1] 39) := ⟨_, rfl⟩
   have hda : Below w1.heap.size w1 W2 := by rw [hW2]; exact (Below.refl _ _).alloc (nr _) _
   have hn2 : W2.heap[w1.heap.size]? = some (.cells #[.bool s1, .slice A1 n1 c1] 39) := by rw [hW2]; exact at_new _ _
   have HA := hide (ai (at_later hr1 hda) (ai (bnx hbw1 hda) (ai hn2 (ai hW2 (hz1.below hda))))); clear hr1 hbw1 hda hd1 hz1 hn2 hW2
   have hsl2 := HS.out.2.2.2.2.2.2.2.2.2.2 W2
   rw [HA.out.2.2.2.1] at hsl2
   go_wp2_with fail
   clear hsl2
   rw [← HA.out.2.2.2.1]
   refine (parse9_yes _ cs dz HN.out.2 HS.out.2.2.2.2.2.2.1 hlc).mono ?_
   rintro e w2 ⟨_, rfl, s2, A2, n2, c2, rfl, hz2, hd2⟩
   replace hz2 := hz2.more (show cs.length / 9 + 1 ≤ (xs ++ 47 :: cs).length / 9 + 1 by (have := HS.out.2.2.2.2.2.2.2.1; omega))
   obtain ⟨W3, hW3⟩ : ∃ W3, W3 = w2.alloc (.cells #[.bool s2, .slice A2 n2 c2] 39) := ⟨_, rfl⟩
   have hda : Below w2.heap.size w2 W3 := by rw [hW3]; exact (Below.refl _ _).alloc (nr _) _
   have hn3 : W3.heap[w2.heap.size]? = some (.cells #[.bool s2, .slice A2 n2 c2] 39) := by rw [hW3]; exact at_new _ _
   have hn2 := at_later (at_later HA.out.2.2.1 hd2) hda
   have hrr := at_later (at_later HA.out.1 hd2) hda
   have HF := hide (ai hrr (ai (bnx (bnx HA.out.2.1 hd2) hda) (ai (ai hn2 hn3) (ai hW3 (ai ((HA.out.2.2.2.2.below hd2).below hda) (hz2.below hda)))))); clear hrr hn2 hn3 hW3 hda hd2 hz2
   have hS : ∀ w', Below W3.heap.size W3 w' → (w'.cell? ⟨w1.heap.size, 0, none⟩ = some (.bool s1) ∧ w'.cell? ⟨w1.heap.size, 1, none⟩ = some (.slice A1 n1 c1)) ∧ w'.cell? ⟨w2.heap.size, 0, none⟩ = some (.bool s2) ∧ w'.cell? ⟨w2.heap.size, 1, none⟩ = some (.slice A2 n2 c2) := fun w' h => by
    obtain ⟨a, b, _⟩ := two_cells (at_later HF.out.2.2.1.1 h)
    obtain ⟨c, d, _⟩ := two_cells (at_later HF.out.2.2.1.2 h)
    exact ⟨⟨a, b⟩, c, d⟩
   have hdr : Below W3.heap.size W3 W3.drew := (Below.refl _ _).drew
   have hS0 := hS _ hdr
   have HSS := hide hS; clear hS
   go_wp2
   rw [← HF.out.2.2.2.1]
   refine till_begin (fun w' => (w'.cell? ⟨w1.heap.size, 0, none⟩ = some (.bool s1) ∧ w'.cell? ⟨w1.heap.size, 1, none⟩ = some (.slice A1 n1 c1)) ∧ w'.cell? ⟨w2.heap.size, 0, none⟩ = some (.bool s2) ∧ w'.cell? ⟨w2.heap.size, 1, none⟩ = some (.slice A2 n2 c2)) [0, 1, 2, 3, 4, 5, 6, 7, 8, 9, 10, 11, 12, 13, 14, 15, 16, 17, 18, 19, 20, 21, 22, 23, 24] (by kernel_rfl) (HSS.out _ hdr) (fun hh => ?_)
   refine tt (i := 0) hh (some 36) ?_
   try simp only [Act.put, ptA, ptB, ptC]
   refine tt (i := 1) hh (some 37) ?_
   try simp only [Act.put, ptA, ptB, ptC]
   refine tt (i := 2) hh (some 38) ?_
   try simp only [Act.put, ptA, ptB, ptC]
   refine tt (i := 3) hh (some 39) ?_
   try simp only [Act.put, ptA, ptB, ptC]
   refine tt (i := 4) hh (some 40) ?_
   try simp only [Act.put, ptA, ptB, ptC]
   refine tt (i := 5) hh (some 41) ?_
   try simp only [Act.put, ptA, ptB, ptC]
   refine tt (i := 6) hh (some 42) ?_
   try simp only [Act.put, ptA, ptB, ptC]
   refine tt (i := 7) hh (some 43) ?_
   try simp only [Act.put, ptA, ptB, ptC]
   refine till_ready (rs := [8]) (by kernel_rfl) (by simp) ?_
   refine mem1 ?_
   refine till_step rfl (fun K hK => ?_)
   go_simp
   go_at_call 82
   refine (sign9_c _ _ dz _ (HF.out.2.2.2.2.2.below hdr)).mono ?_
   rintro e w4 ⟨_, rfl, rfl, hd⟩
   have hg4 : Below W3.heap.size W3 w4 := hdr.trans (hd.mono hdr.size)
   rw [HC.out.1]
   clear hd
   go_wp2_with fail
   refine hK.out _ _ (HSS.out _ hg4) (fun hh => ?_)
   clear hK K
   try simp only [Act.put, ptA, ptB, ptC]
   refine tt (i := 9) hh (some 45) ?_
   try simp only [Act.put, ptA, ptB, ptC]
   refine tt (i := 10) hh (some 46) ?_
   try simp only [Act.put, ptA, ptB, ptC]
   refine tt (i := 11) hh (some 47) ?_
   try simp only [Act.put, ptA, ptB, ptC]
   refine tt (i := 12) hh (some 48) ?_
   try simp only [Act.put, ptA, ptB, ptC]
   refine till_ready (rs := [13]) (by kernel_rfl) (by simp) ?_
   refine mem1 ?_
   refine till_step rfl (fun K hK => ?_)
   go_simp
   go_at_call 31
   refine (of9_c _ 1 (by omega) (by omega)).mono ?_
   rintro e w5 ⟨v5, rfl, hv5, hd⟩
   have hg5 : Below W3.heap.size W3 w5 := hg4.trans (hd.mono hg4.size)
   obtain ⟨s5, A5, n5, c5, rfl, hs5, _⟩ := hv5.parts
   clear hs5
   have HV5 := hide hv5
   clear hv5
   clear hd
   go_wp2_with fail
   refine hK.out _ _ (HSS.out _ hg5) (fun hh => ?_)
   clear hK K
   try simp only [Act.put, ptA, ptB, ptC]
   refine till_ready (rs := [14]) (by kernel_rfl) (by simp) ?_
   refine mem1 ?_
   refine till_step rfl (fun K hK => ?_)
   go_simp
   go_at_call 40
   refine (cmpz_c _ _ _ dz 1 _ 3 (HF.out.2.2.2.2.2.below hg5) HV5.out (by have := HL.out; omega) (by omega) (by omega) (by omega)).mono ?_
   rintro e w6 ⟨_, rfl, rfl, hd⟩
   have hg6 : Below W3.heap.size W3 w6 := hg5.trans (hd.mono hg5.size)
   rw [HC.out.2.1]
   clear hd
   go_wp2_with fail
   refine hK.out _ _ (HSS.out _ hg6) (fun hh => ?_)
   clear hK K
   try simp only [Act.put, ptA, ptB, ptC]
   refine tt (i := 15) hh (some 51) ?_
   try simp only [Act.put, ptA, ptB, ptC]
   refine tt (i := 16) hh (some 52) ?_
   try simp only [Act.put, ptA, ptB, ptC]
   refine tt (i := 17) hh (some 53) ?_
   try simp only [Act.put, ptA, ptB, ptC]
   refine tt (i := 18) hh (some 54) ?_
   try simp only [Act.put, ptA, ptB, ptC]
   refine tt (i := 19) hh (some 55) ?_
   try simp only [Act.put, ptA, ptB, ptC]
   refine till_ready (rs := [20]) (by kernel_rfl) (by simp) ?_
   refine mem1 ?_
   refine till_step rfl (fun K hK => ?_)
   go_simp
   go_at_call 85
   refine (gcdz_c _ _ _ nz dz (((xs ++ 47 :: cs).length) / 9 + 1) (((xs ++ 47 :: cs).length) / 9 + 1) (HF.out.2.2.2.2.1.below hg6) (HF.out.2.2.2.2.2.below hg6) (by have := HL.out; omega) (nr _)).mono ?_
   rintro e w7 ⟨v7, rfl, hv7, hd⟩
   have hg7 : Below W3.heap.size W3 w7 := hg6.trans (hd.mono hg6.size)
   obtain ⟨s7, A7, n7, c7, rfl, hs7, _⟩ := hv7.parts
   clear hs7
   have HV7 := hide hv7
   clear hv7
   clear hd
   go_wp2_with fail
   refine hK.out _ _ (HSS.out _ hg7) (fun hh => ?_)
   clear hK K
   try simp only [Act.put, ptA, ptB, ptC]
   refine till_ready (rs := [21]) (by kernel_rfl) (by simp) ?_
   refine mem1 ?_
   refine till_step rfl (fun K hK => ?_)
   go_simp
   go_at_call 31
   refine (of9_c _ 1 (by omega) (by omega)).mono ?_
   rintro e w8 ⟨v8, rfl, hv8, hd⟩
   have hg8 : Below W3.heap.size W3 w8 := hg7.trans (hd.mono hg7.size)
   obtain ⟨s8, A8, n8, c8, rfl, hs8, _⟩ := hv8.parts
   clear hs8
   have HV8 := hide (ai hv8 (HV7.out.below hd))
   clear hv8
   clear hd
   go_wp2_with fail
   refine hK.out _ _ (HSS.out _ hg8) (fun hh => ?_)
   clear hK K
   try simp only [Act.put, ptA, ptB, ptC]
   refine till_ready (rs := [22]) (by kernel_rfl) (by simp) ?_
   refine mem1 ?_
   refine till_step rfl (fun K hK => ?_)
   go_simp
   go_at_call 40
   refine (cmpz_c _ _ _ (Int.gcd nz dz : Int) 1 _ 3 HV8.out.2 HV8.out.1 (by have := HL.out; omega) (by omega) (by omega) (by omega)).mono ?_
   rintro e w9 ⟨_, rfl, rfl, hd⟩
   have hg9 : Below W3.heap.size W3 w9 := hg8.trans (hd.mono hg8.size)
   rw [HC.out.2.2]
   clear hd
   go_wp2_with fail
   refine hK.out _ _ (HSS.out _ hg9) (fun hh => ?_)
   clear hK K
   try simp only [Act.put, ptA, ptB, ptC]
   refine tt (i := 23) hh (some 59) ?_
   try simp only [Act.put, ptA, ptB, ptC]
   refine tt (i := 24) hh (some 60) ?_
   try simp only [Act.put, ptA, ptB, ptC]
   refine till_done (by kernel_rfl) ?_ _
   have hrl := at_later HF.out.1 hg9
   have hbl := bnx HF.out.2.1 hg9
   obtain ⟨y0, y1, y2, y3, f0, f1, f2, f3⟩ := four_cells hrl
   have hltl := lt_of_block hrl
   obtain ⟨⟨j0, j1⟩, j2, j3⟩ := HSS.out _ hg9
   have HG := hide (ai hrl hbl); clear hrl hbl
   go_wp2
   refine bodyPost_ret (v := .tuple #[.agg #[.bool s1, .slice A1 n1 c1, .bool s2, .slice A2 n2 c2], .bool true]) ?_ rfl ?_
   ·simp [results, Tryz.results37, go_sem, y0, y1, y2, y3, hltl]
   have hq := qv_of (HF.out.2.2.2.2.1.below hg9) (HF.out.2.2.2.2.2.below hg9) (by omega) H4.out
   refine ⟨_, rfl, _, _, rfl, below_put4 HG.out.2 (nr _), Or.inl ⟨rfl, Rat.divInt nz dz, ?_, (hq.put4 HG.out.1 (by decide)).more (by omega)⟩⟩
   rw [HN.out.1, HN.out.2]
   obtain ⟨e1, e2⟩ := divInt_prime nz dz (by omega) H4.out
   unfold ratText
   rw [e1, if_neg (by omega), e2, intText_nat dz (by omega)]
theorem readR_no {w w' : World} {bs : List Int} (h : ∀ q : Rat, bs ≠ ratText q) {v : Value} (hn : v = .tuple #[noneQ, .bool false] ∧ Below w.heap.size w w') : readR w bs v w' :=
 ⟨_, _, hn.1, hn.2, Or.inr ⟨rfl, h, rfl⟩⟩
theorem read9_c (w : World) (bs : List Int) (hby : Byts bs) (hl : bs.length ≤ 140737488355328) :
  Calls Tryz.prog 37 #[.string (str bs)] w (Ret (readR w bs)) := by
 have up : ∀ {R R' : Value → World → Prop} {e : Ending} {w' : World}, (∀ v w', R v w' → R' v w') → Ret R e w' → Ret R' e w' := by
  rintro R R' e w' hh ⟨v, rfl, h⟩; exact ⟨v, rfl, hh _ _ h⟩
 by_cases hs : (47 : Int) ∈ bs
 ·obtain ⟨xs, cs, rfl, hx⟩ := split_slash bs hs
  by_cases h1 : NoInt xs
  ·refine (read_n1 w xs cs hby hl hx h1).mono fun e w' => up fun v w' => readR_no fun q e => ?_
   exact h1 _ (ratText_cut q xs cs hx e).1
  ·obtain ⟨nz, h1⟩ := not_noInt h1
   by_cases h2 : NoInt cs
   ·refine (read_n2 w xs cs hby hl hx nz h1 h2).mono fun e w' => up fun v w' => readR_no fun q e => ?_
    exact h2 _ (ratText_cut q xs cs hx e).2.1
   ·obtain ⟨dz, h2⟩ := not_noInt h2
    have key : ∀ q : Rat, xs ++ 47 :: cs = ratText q → nz = q.num ∧ dz = (q.den : Int) ∧ q.den ≠ 1 := fun q e => by
     obtain ⟨e1, e2, e3⟩ := ratText_cut q xs cs hx e
     exact ⟨intText_inj (h1.symm.trans e1), intText_inj (h2.symm.trans e2), e3⟩
    by_cases h3 : dz ≤ 0
    ·refine (read_d0 w xs cs hby hl hx nz dz h1 h2 h3).mono fun e w' => up fun v w' => readR_no fun q e => ?_
     have := key q e; have := den_pos q; omega
    ·by_cases h4 : dz = 1
     ·refine (read_d1 w xs cs hby hl hx nz dz h1 h2 h4).mono fun e w' => up fun v w' => readR_no fun q e => ?_
      have := key q e; omega
     ·by_cases h5 : Int.gcd nz dz = 1
      ·exact read_ok w xs cs hby hl hx nz dz h1 h2 (by omega) h5
      ·refine (read_g w xs cs hby hl hx nz dz h1 h2 (by omega) h5).mono fun e w' => up fun v w' => readR_no fun q e => ?_
       obtain ⟨e1, e2, _⟩ := key q e
       apply h5
       rw [e1, e2]
       have := q.reduced
       rw [Int.gcd, Int.natAbs_natCast]
       exact this
 ·exact read_plain w bs hby hl hs
end Go.Proofs.YthnnbpnocefmgaaGreat
