/- The walk of the law RatioMakes: it returns true for any two int64s. -/
import Derived.Test.YthnnbpnocefmgaaForm9
import Derived.Test.YthnnbpnocefmgaaAwake
namespace Go.Proofs.Ythnnbpnocefmgaa
set_option linter.unusedVariables false
set_option linter.unusedSimpArgs false
open Go.RowKit

theorem ratText_int (m : Int) : ratText (m : Rat) = intText m := by
  unfold ratText
  have h1 : ((m : Rat)).num = m := by simp
  have h2 : ((m : Rat)).den = 1 := by simp
  rw [h1, h2, if_pos rfl, List.append_nil]

theorem RatV.parts {w : World} {v : Value} {q : Rat} {L : Nat} (h : RatV w v q L) : ∃ s A n c B m d, v = .agg #[.bool s, .slice A n c, .slice B m d] := by
  obtain ⟨N, l, rfl, h1, h2⟩ := h
  obtain ⟨A, c, xs, rfl, _⟩ := h1.open_
  obtain ⟨B, d, ys, rfl, _⟩ := h2.open_
  exact ⟨_, _, _, _, _, _, _, rfl⟩

theorem three_cells {w : World} {B : Nat} {a b c : Value} {e : TypeId} (hh : w.heap[B]? = some (.cells #[a, b, c] e (0, 0))) :
    w.cell? ⟨B, 0, none⟩ = some a ∧ w.cell? ⟨B, 1, none⟩ = some b ∧ w.cell? ⟨B, 2, none⟩ = some c :=
  ⟨by simp [World.cell?, hh], by simp [World.cell?, hh], by simp [World.cell?, hh]⟩

set_option maxRecDepth 100000 in
theorem makes_zero (w : World) (m : Int) (h0 : -9223372036854775808 ≤ m) (h1 : m ≤ 9223372036854775807) :
    Calls Try.prog 3 #[.int .i64 m, .int .i64 0] w (Ret (TrueR w)) := by
  go_enter Try.func3, Try.ntmps3
  go_wp2_with fail
  refine (of_c _ m h0 h1).mono ?_
  rintro e w1 ⟨v1, rfl, q1, hb1⟩
  obtain ⟨s1, A1, n1, c1, B1, m1, d1, rfl⟩ := q1.parts
  go_wp2_with fail
  refine (string_c _ _ _ 2 q1 (by omega)).mono ?_
  rintro e w2 ⟨_, rfl, rfl, hb2⟩
  rw [ratText_int]
  replace hb2 := below_next hb1 hb2
  clear q1 hb1
  go_wp2_with fail
  refine (of9_c _ m h0 h1).mono ?_
  rintro e w3 ⟨v3, rfl, z3, hb3⟩
  obtain ⟨s3, A3, n3, c3, rfl, hs3, _⟩ := z3.parts; clear hs3
  replace hb3 := below_next hb2 hb3
  have HZ3 := hide z3; clear z3
  clear hb2
  go_wp2_with fail
  refine (str9_c _ _ m 3 HZ3.out (by omega)).mono ?_
  rintro e w4 ⟨_, rfl, rfl, hb4⟩
  replace hb4 := below_next hb3 hb4
  clear hb3
  go_wp2_with fail
  refine (make_c _ m 0 h0 h1 (by omega) (by omega)).mono ?_
  rintro e w5 ⟨_, rfl, hb5, v5, rfl, q5⟩
  rw [if_pos rfl] at q5 ⊢
  replace hb5 := below_next hb4 hb5
  clear hb4
  obtain ⟨s5, A5, n5, c5, B5, m5, d5, rfl⟩ := q5.parts
  have hda : Below w5.heap.size w5 (w5.alloc (.cells #[.bool s5, .slice A5 n5 c5, .slice B5 m5 d5] 25)) := (Below.refl _ _).alloc (Nat.le_refl _) _
  obtain ⟨k0, k1, k2⟩ := three_cells (at_new w5 (.cells #[.bool s5, .slice A5 n5 c5, .slice B5 m5 d5] 25))
  have HQ := hide (q5.below hda)
  have HB5 := hide (below_next hb5 hda)
  clear q5 hb5 hda
  go_wp2_with fail
  refine (sign_q _ _ _ 2 HQ.out).mono ?_
  rintro e w6 ⟨_, rfl, rfl, hb6⟩
  have hs : sgnQ 0 = 0 := by decide +kernel
  rw [hs]
  replace hb6 := below_next HB5.out hb6
  clear hs k0 k1 k2
  go_wp2_with fail
  refine (awake_c _).mono ?_
  rintro e w7 ⟨_, rfl, rfl, hb7⟩
  have HB := hide (below_next hb6 hb7)
  clear hb6 hb7
  go_wp2
  go_ret
  exact ⟨_, rfl, rfl, HB.out⟩

set_option maxRecDepth 100000 in
theorem makes_ne (w : World) (m n : Int) (h0 : -9223372036854775808 ≤ m) (h1 : m ≤ 9223372036854775807) (g0 : -9223372036854775808 ≤ n) (g1 : n ≤ 9223372036854775807) (hn : n ≠ 0) :
    Calls Try.prog 3 #[.int .i64 m, .int .i64 n] w (Ret (TrueR w)) := by
  have hd : (n == 0) = false := by simp [hn]
  go_enter Try.func3, Try.ntmps3
  go_wp2_with fail
  refine (of_c _ m h0 h1).mono ?_
  rintro e w1 ⟨v1, rfl, q1, hb1⟩
  obtain ⟨s1, A1, n1, c1, B1, m1, d1, rfl⟩ := q1.parts
  go_wp2_with fail
  refine (string_c _ _ _ 2 q1 (by omega)).mono ?_
  rintro e w2 ⟨_, rfl, rfl, hb2⟩
  rw [ratText_int]
  replace hb2 := below_next hb1 hb2
  clear q1 hb1
  go_wp2_with fail
  refine (of9_c _ m h0 h1).mono ?_
  rintro e w3 ⟨v3, rfl, z3, hb3⟩
  obtain ⟨s3, A3, n3, c3, rfl, hs3, _⟩ := z3.parts; clear hs3
  replace hb3 := below_next hb2 hb3
  have HZ3 := hide z3; clear z3
  clear hb2
  go_wp2_with fail
  refine (str9_c _ _ m 3 HZ3.out (by omega)).mono ?_
  rintro e w4 ⟨_, rfl, rfl, hb4⟩
  replace hb4 := below_next hb3 hb4
  clear hb3
  go_wp2_with fail
  refine (make_c _ m n h0 h1 g0 g1).mono ?_
  rintro e w5 ⟨_, rfl, hb5, v5, rfl, q5⟩
  rw [if_neg hn] at q5 ⊢
  replace hb5 := below_next hb4 hb5
  clear hb4
  obtain ⟨s5, A5, n5, c5, B5, m5, d5, rfl⟩ := q5.parts
  obtain ⟨W, hW⟩ : ∃ W, W = w5.alloc (.cells #[.bool s5, .slice A5 n5 c5, .slice B5 m5 d5] 25) := ⟨_, rfl⟩
  have hda : Below w5.heap.size w5 W := by rw [hW]; exact (Below.refl _ _).alloc (Nat.le_refl _) _
  have hr : W.heap[w5.heap.size]? = some (.cells #[.bool s5, .slice A5 n5 c5, .slice B5 m5 d5] 25) := by rw [hW]; exact at_new _ _
  have HW := hide (And.intro hW (And.intro (below_next hb5 hda) (And.intro hr ((q5.below hda).more (show 2 ≤ 3 by omega))))); clear hW hda hr q5 hb5
  have hS : ∀ w', Below W.heap.size W w' → w'.cell? ⟨w5.heap.size, 0, none⟩ = some (.bool s5) ∧ w'.cell? ⟨w5.heap.size, 1, none⟩ = some (.slice A5 n5 c5) ∧ w'.cell? ⟨w5.heap.size, 2, none⟩ = some (.slice B5 m5 d5) := fun w' h => three_cells (at_later HW.out.2.2.1 h)
  have hdr : Below W.heap.size W W.drew := (Below.refl _ _).drew
  have hS0 := hS _ hdr
  have HS := hide hS; clear hS
  have hne := hide hn; clear hn
  go_wp2
  rw [← HW.out.1]
  go_region_held3 (fun w' => w'.cell? ⟨w5.heap.size, 0, none⟩ = some (.bool s5) ∧ w'.cell? ⟨w5.heap.size, 1, none⟩ = some (.slice A5 n5 c5) ∧ w'.cell? ⟨w5.heap.size, 2, none⟩ = some (.slice B5 m5 d5))
    (first | exact hS0 | exact HS.out _ hg6 | exact HS.out _ hg7 | exact HS.out _ hg8 | exact HS.out _ hg9 | exact HS.out _ hg10 | (go_keep; done))
    (first
      | (have hsecond := hg6; go_at_call 8; refine (of9_c _ n g0 g1).mono ?_; rintro e w7 ⟨v7, rfl, hv7, hd7⟩; clear hsecond; have hg7 : Below W.heap.size W w7 := hg6.trans (hd7.mono hg6.size); (obtain ⟨s7, A7, n7, c7, rfl, hs7, _⟩ := hv7.parts); clear hs7; have HV7 := hide (And.intro (HV6.out.below hd7) hv7); clear hv7 hd7)
      | (go_at_call 8; refine (of9_c _ m h0 h1).mono ?_; rintro e w6 ⟨v6, rfl, hv6, hd6⟩; have hg6 : Below W.heap.size W w6 := hdr.trans (hd6.mono hdr.size); (obtain ⟨s6, A6, n6, c6, rfl, hs6, _⟩ := hv6.parts); clear hs6; have HV6 := hide hv6; clear hv6 hd6)
      | (go_at_call 13; refine (ratio9_c _ _ _ m n 3 HV7.out.1 HV7.out.2 (by omega) hne.out).mono ?_; rintro e w8 ⟨v8, rfl, hv8, hd8⟩; have hg8 : Below W.heap.size W w8 := hg7.trans (hd8.mono hg7.size); (obtain ⟨s8, A8, n8, c8, B8, m8, d8, rfl, _⟩ := hv8.parts); have HV8 := hide hv8; clear hv8 hd8)
      | (go_at_call 12; refine (is_c _ _ _ _ 3 (HW.out.2.2.2.below hg8) HV8.out (by omega)).mono ?_; rintro e w9 ⟨_, rfl, rfl, hd9⟩; have hg9 : Below W.heap.size W w9 := hg8.trans (hd9.mono hg8.size); clear hd9)
      | (go_at_call 11; refine (awake_c _).mono ?_; rintro e w10 ⟨_, rfl, rfl, hd10⟩; have hg10 : Below W.heap.size W w10 := hg9.trans (hd10.mono hg9.size); clear hd10))
  have HB := hide (below_next HW.out.2.1 hg10)
  go_wp2
  go_ret
  exact ⟨_, rfl, rfl, HB.out⟩

theorem makes_c (w : World) (m n : Int) (h0 : -9223372036854775808 ≤ m) (h1 : m ≤ 9223372036854775807) (g0 : -9223372036854775808 ≤ n) (g1 : n ≤ 9223372036854775807) :
    Calls Try.prog 3 #[.int .i64 m, .int .i64 n] w (Ret (TrueR w)) := by
  by_cases hn : n = 0
  · subst hn; exact makes_zero w m h0 h1
  · exact makes_ne w m n h0 h1 g0 g1 hn
end Go.Proofs.Ythnnbpnocefmgaa
