/- Walks of the reference: the text of a fraction, and the two texts compared. -/
import Derived.Test.YthnnbpnocefmgaaStr9
import Derived.Test.YthnnbpnocefmgaaRatio
namespace Go.Proofs.Ythnnbpnocefmgaa
set_option linter.unusedVariables false
set_option linter.unusedSimpArgs false
open Go.RowKit

theorem lim_pow (L : Nat) : (1000000000 : Int) ^ L = 10 ^ (9 * L) := by
  rw [Int.pow_mul]; rfl

theorem ZV.text_size {w : World} {v : Value} {z : Int} {L : Nat} (h : ZV w v z L) (hL : L ≤ 1073741824) : (str (intText z)).size ≤ 100000000000 := by
  obtain ⟨m, rfl, hm⟩ := h
  have h1 := hm.lt
  rw [lim_pow] at h1
  have h2 := decOf_length z.natAbs (9 * L) h1
  have h3 : (decText (z.natAbs : Int)).length ≤ 9 * L + 1 := by
    unfold decText
    split
    · simp
    · rw [List.length_reverse, asc_length, Int.toNat_natCast]; omega
  rw [str_size]
  unfold intText
  rw [List.length_append]
  split <;> simp <;> omega

theorem intText_pos (d : Nat) : intText (d : Int) = decText (d : Int) := by
  unfold intText
  rw [if_neg (by omega)]
  rfl

theorem QV.parts {w : World} {v : Value} {q : Rat} {L : Nat} (h : QV w v q L) : ∃ s A n c B m d, v = .agg #[.bool s, .slice A n c, .bool false, .slice B m d] ∧ ZV w (.agg #[.bool s, .slice A n c]) q.num L ∧ ZV w (.agg #[.bool false, .slice B m d]) (q.den : Int) L := by
  obtain ⟨n, d, rfl, hn, hd⟩ := h
  obtain ⟨A, c, xs, rfl, _⟩ := hn.open_
  obtain ⟨B, c', ys, rfl, _⟩ := hd.open_
  refine ⟨_, _, _, _, _, _, _, rfl, ⟨_, rfl, hn⟩, ⟨.slice B ys.length c', ?_, hd⟩⟩
  rw [show decide ((q.den : Int) < 0) = false from decide_eq_false (by omega)]

set_option maxRecDepth 100000 in
theorem form9_c (w : World) (v : Value) (q : Rat) (L : Nat) (hq : QV w v q L) (hL : L ≤ 1073741000) :
    Calls Try.prog 26 #[v] w (Ret (strR w (ratText q))) := by
  obtain ⟨s, A, n, c, B, m, d, rfl, hz, hy⟩ := hq.parts
  have z1 := hz.text_size (by omega)
  have z2 := hy.text_size (by omega)
  obtain ⟨W, hW⟩ : ∃ W, W = w.alloc (.cells #[.bool s, .slice A n c, .bool false, .slice B m d] 41) := ⟨_, rfl⟩
  have hb0 : Below w.heap.size w W := by rw [hW]; exact (Below.refl _ _).alloc (Nat.le_refl _) _
  have hr : W.heap[w.heap.size]? = some (.cells #[.bool s, .slice A n c, .bool false, .slice B m d] 41) := by rw [hW]; exact at_new _ _
  have HW := hide (And.intro hW (And.intro hb0 (And.intro hr (And.intro (hz.below hb0) (hy.below hb0))))); clear hW hb0 hr hz hy hq
  have hS : ∀ w', Below W.heap.size W w' → w'.cell? ⟨w.heap.size, 0, none⟩ = some (.bool s) ∧ w'.cell? ⟨w.heap.size, 1, none⟩ = some (.slice A n c) ∧ w'.cell? ⟨w.heap.size, 2, none⟩ = some (.bool false) ∧ w'.cell? ⟨w.heap.size, 3, none⟩ = some (.slice B m d) := fun w' h => by
    obtain ⟨a, b, c, d, _⟩ := four_cells (at_later HW.out.2.2.1 h)
    exact ⟨a, b, c, d⟩
  have hdr : Below W.heap.size W W.drew := (Below.refl _ _).drew
  have hS0 := hS _ hdr
  have HS := hide hS; clear hS
  have hdp := den_pos q
  by_cases h1 : q.den = 1
  · have hsg : sgn (q.den : Int) 1 = 0 := by unfold sgn; rw [if_neg (by omega), if_neg (by omega)]
    have hR : ratText q = intText q.num := by unfold ratText; rw [if_pos h1, List.append_nil]
    rw [hR]
    have HD := hide (And.intro hdp hsg); clear hdp hsg hR h1 z2
    go_enter Try.func26, Try.ntmps26
    go_wp2
    rw [← HW.out.1]
    go_region_held3 (fun w' => w'.cell? ⟨w.heap.size, 0, none⟩ = some (.bool s) ∧ w'.cell? ⟨w.heap.size, 1, none⟩ = some (.slice A n c) ∧ w'.cell? ⟨w.heap.size, 2, none⟩ = some (.bool false) ∧ w'.cell? ⟨w.heap.size, 3, none⟩ = some (.slice B m d))
      (first | exact hS0 | exact HS.out _ hg4 | exact HS.out _ hg5 | (go_keep; done))
      (first
        | (go_at_call 8; refine (of9_c _ 1 (by omega) (by omega)).mono ?_; rintro e w4 ⟨v4, rfl, hv4, hd4⟩; have hg4 : Below W.heap.size W w4 := hdr.trans hd4; (obtain ⟨s4, A4, n4, c4, rfl, hs4, _⟩ := hv4.parts); clear hs4; have HV4 := hide hv4; clear hv4 hd4)
        | (go_at_call 52; refine (cmpz_c _ _ _ (q.den : Int) 1 L 3 (HW.out.2.2.2.2.below hg4) HV4.out hL (by omega) (by omega) (by omega)).mono ?_; rintro e w5 ⟨_, rfl, rfl, hd5⟩; rw [HD.out.2]; have hg5 : Below W.heap.size W w5 := hg4.trans (hd5.mono hg4.size); clear hd5))
    obtain ⟨k0, k1, k2, k3⟩ := HS.out _ hg5
    go_wp2_with fail
    refine (str9_c _ _ _ L (HW.out.2.2.2.1.below hg5) (by omega)).mono ?_
    rintro e w6 ⟨_, rfl, rfl, hd6⟩
    have HB := hide (below_next HW.out.2.1 (hg5.trans (hd6.mono hg5.size)))
    go_wp2
    go_ret
    exact ⟨_, rfl, rfl, HB.out⟩
  · have hsg : sgn (q.den : Int) 1 = 1 := by unfold sgn; rw [if_neg (by omega), if_pos (by omega)]
    have hR : ratText q = intText q.num ++ ([47] ++ intText (q.den : Int)) := by unfold ratText; rw [if_neg h1, intText_pos]; rfl
    rw [hR]
    have hc1 : ¬ 9223372036854775807 < (str (intText q.num)).size + 1 := by omega
    have hc2 : ¬ 9223372036854775807 < (str (intText q.num)).size + 1 + (str (intText (q.den : Int))).size := by omega
    have HD := hide (And.intro hdp hsg); clear hdp hsg hR h1 z1 z2
    go_enter Try.func26, Try.ntmps26
    go_wp2
    rw [← HW.out.1]
    go_region_held3 (fun w' => w'.cell? ⟨w.heap.size, 0, none⟩ = some (.bool s) ∧ w'.cell? ⟨w.heap.size, 1, none⟩ = some (.slice A n c) ∧ w'.cell? ⟨w.heap.size, 2, none⟩ = some (.bool false) ∧ w'.cell? ⟨w.heap.size, 3, none⟩ = some (.slice B m d))
      (first | exact hS0 | exact HS.out _ hg4 | exact HS.out _ hg5 | (go_keep; done))
      (first
        | (go_at_call 8; refine (of9_c _ 1 (by omega) (by omega)).mono ?_; rintro e w4 ⟨v4, rfl, hv4, hd4⟩; have hg4 : Below W.heap.size W w4 := hdr.trans hd4; (obtain ⟨s4, A4, n4, c4, rfl, hs4, _⟩ := hv4.parts); clear hs4; have HV4 := hide hv4; clear hv4 hd4)
        | (go_at_call 52; refine (cmpz_c _ _ _ (q.den : Int) 1 L 3 (HW.out.2.2.2.2.below hg4) HV4.out hL (by omega) (by omega) (by omega)).mono ?_; rintro e w5 ⟨_, rfl, rfl, hd5⟩; rw [HD.out.2]; have hg5 : Below W.heap.size W w5 := hg4.trans (hd5.mono hg4.size); clear hd5))
    obtain ⟨k0, k1, k2, k3⟩ := HS.out _ hg5
    have hdr5 : Below W.heap.size W w5.drew := hg5.drew
    have hS5 := HS.out _ hdr5
    clear hg4 hS0 hdr
    go_wp2
    go_region_held3 (fun w' => w'.cell? ⟨w.heap.size, 0, none⟩ = some (.bool s) ∧ w'.cell? ⟨w.heap.size, 1, none⟩ = some (.slice A n c) ∧ w'.cell? ⟨w.heap.size, 2, none⟩ = some (.bool false) ∧ w'.cell? ⟨w.heap.size, 3, none⟩ = some (.slice B m d))
      (first | exact hS5 | exact HS.out _ hg6 | exact HS.out _ hg7 | (go_keep; done))
      (first
        | (have hsecond := hg6; go_at_call 7; refine (str9_c _ _ _ L (HW.out.2.2.2.2.below hg6) (by omega)).mono ?_; rintro e w7 ⟨_, rfl, rfl, hd7⟩; clear hsecond; have hg7 : Below W.heap.size W w7 := hg6.trans (hd7.mono hg6.size); clear hd7)
        | (go_at_call 7; refine (str9_c _ _ _ L (HW.out.2.2.2.1.below hdr5) (by omega)).mono ?_; rintro e w6 ⟨_, rfl, rfl, hd6⟩; have hg6 : Below W.heap.size W w6 := hdr5.trans (hd6.mono hdr5.size); clear hd6))
    have HB := hide (below_next HW.out.2.1 hg7)
    go_wp2
    go_ret
    refine ⟨_, rfl, ?_, HB.out⟩
    have e : str (intText q.num ++ 47 :: intText (q.den : Int)) = str (intText q.num) ++ (ByteArray.mk #[47]) ++ str (intText (q.den : Int)) := by
      show _ = str (intText q.num) ++ str [47] ++ str (intText (q.den : Int))
      rw [str_append, str_append, List.append_assoc]; rfl
    rw [e]
    rfl

set_option maxRecDepth 100000 in
/-- both have the same text -/
theorem is_c (w : World) (a v : Value) (q : Rat) (L : Nat) (ha : RatV w a q L) (hq : QV w v q L) (hL : L ≤ 1073741000) :
    Calls Try.prog 12 #[a, v] w (Ret (fun v w' => v = .bool true ∧ Below w.heap.size w w')) := by
  have ha' := ha
  obtain ⟨n1, l1, rfl, g1, g2⟩ := ha
  obtain ⟨A1, c1, xs1, rfl, _⟩ := g1.open_
  obtain ⟨A2, c2, xs2, rfl, _⟩ := g2.open_
  obtain ⟨s, A, n, c, B, m, d, rfl, hz, hy⟩ := hq.parts
  clear g1 g2 hz hy
  obtain ⟨t, ht⟩ : ∃ t, t = decide (q.num < 0) := ⟨_, rfl⟩
  rw [← ht] at ha' ⊢; clear ht
  obtain ⟨W, hW⟩ : ∃ W, W = (w.alloc (.cells #[.bool t, .slice A1 xs1.length c1, .slice A2 xs2.length c2] 25)).alloc (.cells #[.bool s, .slice A n c, .bool false, .slice B m d] 41) := ⟨_, rfl⟩
  have hb0 : Below w.heap.size w W := by rw [hW]; exact ((Below.refl _ _).alloc (Nat.le_refl _) _).alloc (by simp) _
  have hr : W.heap[w.heap.size]? = some (.cells #[.bool t, .slice A1 xs1.length c1, .slice A2 xs2.length c2] 25) := by rw [hW]; exact at_old (at_new _ _) _
  have hr2 : W.heap[w.heap.size + 1]? = some (.cells #[.bool s, .slice A n c, .bool false, .slice B m d] 41) := by rw [hW]; exact at_new' _ (by simp)
  have HW := hide (And.intro hW (And.intro hb0 (And.intro hr (And.intro hr2 (And.intro (ha'.below hb0) (hq.below hb0)))))); clear hW hb0 hr hr2 ha' hq
  have hS : ∀ w', Below W.heap.size W w' → (w'.cell? ⟨w.heap.size, 0, none⟩ = some (.bool t) ∧ w'.cell? ⟨w.heap.size, 1, none⟩ = some (.slice A1 xs1.length c1) ∧ w'.cell? ⟨w.heap.size, 2, none⟩ = some (.slice A2 xs2.length c2)) ∧ w'.cell? ⟨w.heap.size + 1, 0, none⟩ = some (.bool s) ∧ w'.cell? ⟨w.heap.size + 1, 1, none⟩ = some (.slice A n c) ∧ w'.cell? ⟨w.heap.size + 1, 2, none⟩ = some (.bool false) ∧ w'.cell? ⟨w.heap.size + 1, 3, none⟩ = some (.slice B m d) := fun w' h => by
    obtain ⟨a, b, c, d, _⟩ := four_cells (at_later HW.out.2.2.2.1 h)
    have e := at_later HW.out.2.2.1 h
    exact ⟨⟨by simp [World.cell?, e], by simp [World.cell?, e], by simp [World.cell?, e]⟩, a, b, c, d⟩
  have hdr : Below W.heap.size W W.drew := (Below.refl _ _).drew
  have hS0 := hS _ hdr
  have HS := hide hS; clear hS
  go_enter Try.func12, Try.ntmps12
  go_wp2
  rw [← HW.out.1]
  go_region_held3 (fun w' => (w'.cell? ⟨w.heap.size, 0, none⟩ = some (.bool t) ∧ w'.cell? ⟨w.heap.size, 1, none⟩ = some (.slice A1 xs1.length c1) ∧ w'.cell? ⟨w.heap.size, 2, none⟩ = some (.slice A2 xs2.length c2)) ∧ w'.cell? ⟨w.heap.size + 1, 0, none⟩ = some (.bool s) ∧ w'.cell? ⟨w.heap.size + 1, 1, none⟩ = some (.slice A n c) ∧ w'.cell? ⟨w.heap.size + 1, 2, none⟩ = some (.bool false) ∧ w'.cell? ⟨w.heap.size + 1, 3, none⟩ = some (.slice B m d))
    (first | exact hS0 | exact HS.out _ hg6 | exact HS.out _ hg7 | (go_keep; done))
    (first
      | (go_at_call 6; refine (string_c _ _ q L (HW.out.2.2.2.2.1.below hdr) (by omega)).mono ?_; rintro e w6 ⟨_, rfl, rfl, hd6⟩; have hg6 : Below W.heap.size W w6 := hdr.trans (hd6.mono hdr.size); clear hd6)
      | (go_at_call 26; refine (form9_c _ _ q L (HW.out.2.2.2.2.2.below hg6) hL).mono ?_; rintro e w7 ⟨_, rfl, rfl, hd7⟩; have hg7 : Below W.heap.size W w7 := hg6.trans (hd7.mono hg6.size); clear hd7))
  have HB := hide (below_next HW.out.2.1 hg7)
  go_wp2
  go_ret
  exact ⟨_, rfl, rfl, HB.out⟩
end Go.Proofs.Ythnnbpnocefmgaa
