/- Walks: a canonical text is parsed. -/
import Derived.Test.YtpoahodnakhmiaaGreatFrom
import Derived.Test.YtpoahodnakhmiaaGreatApp
import Derived.Test.YtpoahodnakhmiaaGreatZ9
import Derived.Deep.RegionHeld3
import Derived.Deep.DeepCutAuto
namespace Go.Proofs.YtpoahodnakhmiaaGreat
open Go.RowKit
set_option linter.unusedVariables false
set_option linter.unusedSimpArgs false
theorem intText_sgns (z : Int) : Sgns (intText z) := by
  unfold intText
  intro b hb
  rw [List.mem_append] at hb
  rcases hb with hb | hb
  · split at hb
    · simp at hb; exact Or.inl hb
    · simp at hb
  · exact Or.inr (decText_digs _ b hb)
theorem RatV.shape {w : World} {v : Value} {q : Rat} {L : Nat} (h : RatV w v q L) : ∃ s A n c B m d, v = .agg #[.bool s, .slice A n c, .slice B m d] := by
  obtain ⟨N, l, rfl, h1, h2⟩ := h
  obtain ⟨A, c, xs, rfl, _⟩ := h1.open_
  obtain ⟨B, d, ys, rfl, _⟩ := h2.open_
  exact ⟨_, _, _, _, _, _, _, rfl⟩
theorem size_alloc (w : World) (o : Obj) : (w.alloc o).heap.size = w.heap.size + 1 := by simp
theorem size_alloc_drew (w : World) (o : Obj) : (w.alloc o).drew.heap.size = w.heap.size + 1 := by simp
theorem box3d {w w' : World} {a b c : Value} {e : TypeId} (h : Below (w.heap.size + 1) (w.alloc (.cells #[a, b, c] e)) w') (B : Nat) (hB : w.heap.size = B) :
    w'.cell? ⟨B, 0, none⟩ = some a ∧ w'.cell? ⟨B, 1, none⟩ = some b ∧ w'.cell? ⟨B, 2, none⟩ = some c ∧ w'.frozen? ⟨B, 0, none⟩ = false ∧ w'.frozen? ⟨B, 1, none⟩ = false ∧ w'.frozen? ⟨B, 2, none⟩ = false ∧ Hid (w'.heap[B]? = some (.cells #[a, b, c] e (0, 0))) := by
  subst hB
  obtain ⟨k0, k1, k2, f0, f1, f2, _⟩ := box3 h
  exact ⟨k0, k1, k2, f0, f1, f2, (h.block _ (by omega)).trans (heap_alloc_new w _)⟩
theorem keep3 {w w' : World} {B : Nat} {a b c : Value} {e : TypeId} (h : Below w.heap.size w w') (kb : Hid (w.heap[B]? = some (.cells #[a, b, c] e (0, 0)))) :
    w'.cell? ⟨B, 0, none⟩ = some a ∧ w'.cell? ⟨B, 1, none⟩ = some b ∧ w'.cell? ⟨B, 2, none⟩ = some c ∧ w'.frozen? ⟨B, 0, none⟩ = false ∧ w'.frozen? ⟨B, 1, none⟩ = false ∧ w'.frozen? ⟨B, 2, none⟩ = false ∧ Hid (w'.heap[B]? = some (.cells #[a, b, c] e (0, 0))) := by
  have hh := at_later kb.out h
  exact ⟨by simp [World.cell?, hh], by simp [World.cell?, hh], by simp [World.cell?, hh], by simp [World.frozen?, hh], by simp [World.frozen?, hh], by simp [World.frozen?, hh], hh⟩
theorem box_set {w : World} {g : Nat} {a b c x y z : Value} {e : TypeId} (kb : w.heap[g]? = some (.cells #[a, b, c] e (0, 0))) :
    (((w.setCell ⟨g, 0, none⟩ x).setCell ⟨g, 1, none⟩ y).setCell ⟨g, 2, none⟩ z).heap[g]? = some (.cells #[x, y, z] e (0, 0)) := by
  simp [World.setCell, Array.getElem?_modify, kb]
theorem trim_int (z : Int) (w : World) :
    Calls Tryz.prog 134 #[.string (str (intText z)), .string ⟨#[45]⟩] w (quietV (.string (str (decText (z.natAbs : Int)))) w) := by
  unfold intText
  by_cases hz : z < 0
  · rw [if_pos hz]
    exact trim_minus _ w
  · rw [if_neg hz, List.nil_append]
    have hd := decText_digs (z.natAbs : Int)
    cases h : decText (z.natAbs : Int) with
    | nil =>
      exfalso
      by_cases h0 : z = 0
      · subst h0; simp [decText] at h
      · have := (decText_head (z.natAbs : Int) (by omega)).1
        rw [h] at this; simp at this
    | cons b t =>
      have hb := hd b (by rw [h]; exact List.mem_cons_self)
      exact trim_digits b t hb.1 hb.2 w
theorem run_byte (P : Program) (t : TypeId) (bs : List Int) (b : Int) (hs : bs.getD 0 0 = b) (hp : 0 < bs.length) (h0 : 0 ≤ b) (h1 : b < 256) (h : P.underlying t = some .string) (w : World) :
    (Instr.index t (.string (str bs)) (.int .i64 0)).run P w = .ok (.int .u8 b) w := by
  have hz := str_size bs
  rw [run_index_string w t (str bs) .i64 0 h, dif_pos (by omega)]
  cases bs with
  | nil => simp at hp
  | cons c l =>
    have hc : c = b := by simpa [List.getD] using hs
    subst hc
    have e : (((str (c :: l))[(0 : Int).toNat]'(by omega)).toNat : Int) = c := by
      have h2 : (0 : Int).toNat = 0 := rfl
      simp only [h2]
      show ((((str (c :: l)).data[0]'(by simp [str])).toNat : Nat) : Int) = c
      simp [str]
      omega
    rw [e]
/-- the first byte of a number's text -/
theorem intText_first (z : Int) : ∃ b, (intText z).getD 0 0 = b ∧ 0 < (intText z).length ∧ 0 ≤ b ∧ b < 256 ∧ (b == 45) = decide (z < 0) := by
  by_cases hz : z < 0
  · refine ⟨45, ?_, ?_, by omega, by omega, by simp [hz]⟩ <;> (unfold intText; rw [if_pos hz]; simp)
  · have hd := decText_digs (z.natAbs : Int)
    have he : intText z = decText (z.natAbs : Int) := by unfold intText; rw [if_neg hz]; rfl
    rw [he]
    have hp : 0 < (decText (z.natAbs : Int)).length := by
      by_cases h0 : z = 0
      · subst h0; simp [decText]
      · exact (decText_head (z.natAbs : Int) (by omega)).1
    have hb := hd ((decText (z.natAbs : Int)).getD 0 0) (by simp [List.getD, List.getElem?_eq_getElem hp])
    refine ⟨_, rfl, hp, by omega, by omega, ?_⟩
    rw [show decide (z < 0) = false by simp [hz], beq_eq_false_iff_ne]
    omega
/-- the two texts of which a fraction's text is made -/
theorem ratText_len (q : Rat) (n : Nat) (h : (ratText q).length ≤ n) : (intText q.num).length ≤ n ∧ (decText (q.den : Int)).length ≤ n + 1 := by
  unfold ratText at h
  rw [List.length_append] at h
  refine ⟨by omega, ?_⟩
  by_cases h1 : q.den = 1
  · rw [h1]; simp [decText, asc]; rw [decOf]; simp; rw [decOf]; simp
  · rw [if_neg h1, List.length_cons] at h; omega
theorem dec_one : decText 1 = [49] := by
  simp [decText, asc]; rw [decOf]; simp; rw [decOf]; simp
theorem intText_dec_len (z : Int) : (decText (z.natAbs : Int)).length ≤ (intText z).length := by
  unfold intText
  rw [List.length_append]
  omega
theorem sgd_num (z : Int) : sgd (decide (z < 0)) (z.natAbs : Int) = z := by
  unfold sgd
  by_cases h : z < 0 <;> simp [h] <;> omega
/-- the box of a fraction -/
def BoxR (w : World) (g : Nat) (q : Rat) (L : Nat) : Prop := ∃ s A n c B m d, w.heap[g]? = some (.cells #[.bool s, .slice A n c, .slice B m d] 43 (0, 0)) ∧ RatV w (.agg #[.bool s, .slice A n c, .slice B m d]) q L
theorem three_cells {w : World} {B : Nat} {a b c : Value} {e : TypeId} (hh : w.heap[B]? = some (.cells #[a, b, c] e (0, 0))) :
    w.cell? ⟨B, 0, none⟩ = some a ∧ w.cell? ⟨B, 1, none⟩ = some b ∧ w.cell? ⟨B, 2, none⟩ = some c :=
  ⟨by simp [World.cell?, hh], by simp [World.cell?, hh], by simp [World.cell?, hh]⟩
theorem three_frozen {w : World} {B : Nat} {a b c : Value} {e : TypeId} (hh : w.heap[B]? = some (.cells #[a, b, c] e (0, 0))) :
    w.frozen? ⟨B, 0, none⟩ = false ∧ w.frozen? ⟨B, 1, none⟩ = false ∧ w.frozen? ⟨B, 2, none⟩ = false :=
  ⟨by simp [World.frozen?, hh], by simp [World.frozen?, hh], by simp [World.frozen?, hh]⟩
theorem RatV.put3 {w : World} {v : Value} {q : Rat} {L g : Nat} {a0 : Bool} {A1 A2 : Option Addr} {n1 c1 n2 c2 : Nat} {x y z : Value} {e : TypeId} (h : RatV w v q L) (hh : w.heap[g]? = some (.cells #[.bool a0, .slice A1 n1 c1, .slice A2 n2 c2] e (0, 0))) :
    RatV (((w.setCell ⟨g, 0, none⟩ x).setCell ⟨g, 1, none⟩ y).setCell ⟨g, 2, none⟩ z) v q L := by
  obtain ⟨N, l, e, h1, h2⟩ := h
  obtain ⟨k0, k1, k2⟩ := three_cells hh
  exact ⟨N, l, e, h1.set3 k0 k1 k2, h2.set3 k0 k1 k2⟩
theorem BoxR.made {w0 w : World} {q : Rat} {L : Nat} {s : Bool} {A B : Option Addr} {n c m d : Nat} (hb : Below w0.heap.size w0 w) (hq : RatV w (.agg #[.bool s, .slice A n c, .slice B m d]) q L) :
    ∃ g : Nat, Value.pointer (some ⟨w.heap.size, 0, none⟩) = .pointer (some ⟨g, 0, none⟩) ∧ w0.heap.size ≤ g ∧ BoxR (w.alloc (.cells #[.bool s, .slice A n c, .slice B m d] 43)) g q L ∧ Below w0.heap.size w0 (w.alloc (.cells #[.bool s, .slice A n c, .slice B m d] 43)) :=
  ⟨_, rfl, hb.size, ⟨s, A, n, c, B, m, d, heap_alloc_new w _, hq.below ((Below.refl _ _).alloc (Nat.le_refl _) _)⟩, hb.alloc hb.size _⟩
theorem BoxR.stored {w0 w : World} {g : Nat} {q : Rat} {L : Nat} {s : Bool} {A B : Option Addr} {n c m d : Nat} (hg : w0.heap.size ≤ g) (hb : Below w0.heap.size w0 w) (hq : RatV w (.agg #[.bool s, .slice A n c, .slice B m d]) q L) (kb : Hid (w.heap[g]? = some (.cells #[.bool false, .slice none 0 0, .slice none 0 0] 43 (0, 0)))) :
    ∃ g' : Nat, Value.pointer (some ⟨g, 0, none⟩) = .pointer (some ⟨g', 0, none⟩) ∧ w0.heap.size ≤ g' ∧ BoxR (((w.setCell ⟨g, 0, none⟩ (.bool s)).setCell ⟨g, 1, none⟩ (.slice A n c)).setCell ⟨g, 2, none⟩ (.slice B m d)) g' q L ∧ Below w0.heap.size w0 (((w.setCell ⟨g, 0, none⟩ (.bool s)).setCell ⟨g, 1, none⟩ (.slice A n c)).setCell ⟨g, 2, none⟩ (.slice B m d)) := by
  obtain ⟨N, l, e, h1, h2⟩ := hq
  have hh := kb.out
  have k0 : w.cell? ⟨g, 0, none⟩ = some (.bool false) := by simp [World.cell?, hh]
  have k1 : w.cell? ⟨g, 1, none⟩ = some (.slice none 0 0) := by simp [World.cell?, hh]
  have k2 : w.cell? ⟨g, 2, none⟩ = some (.slice none 0 0) := by simp [World.cell?, hh]
  exact ⟨g, rfl, hg, ⟨s, A, n, c, B, m, d, box_set hh, N, l, e, h1.set3 k0 k1 k2, h2.set3 k0 k1 k2⟩, below_set3 hb hg _ _ _⟩
set_option maxRecDepth 100000 in
set_option maxHeartbeats 4000000 in
theorem parse_c (w : World) (q : Rat) (hl : (ratText q).length ≤ 70000) :
    Calls Tryz.prog 77 #[.string (str (ratText q))] w (Ret (doneR w q 70002)) := by
  obtain ⟨hlt, hlb⟩ := ratText_len q 70000 hl
  have hsz : (str (ratText q)).size ≤ 70000 := by rw [str_size]; exact hl
  have hsz2 : ¬ 70000 < (str (ratText q)).size := by omega
  obtain ⟨b0, hb0, hp0, hb1, hb2, hb3⟩ := intText_first q.num
  have hix := run_byte Tryz.prog 9 (intText q.num) b0 hb0 hp0 hb1 hb2 (by kernel_rfl)
  obtain ⟨S, hS⟩ : ∃ S, S = str (ratText q) := ⟨_, rfl⟩
  rw [← hS] at hsz hsz2 ⊢
  have hdp := den_pos q
  obtain ⟨hd0, hd1⟩ := decText_head (q.den : Int) (by omega)
  have hdd := decText_digs (q.den : Int)
  obtain ⟨c0, hc0⟩ : ∃ c, (decText (q.den : Int)).getD 0 0 = c := ⟨_, rfl⟩
  have hcb := hdd c0 (by rw [← hc0]; simp [List.getD, List.getElem?_eq_getElem hd0])
  have hix2 := run_byte Tryz.prog 9 (decText (q.den : Int)) c0 hc0 hd0 (by omega) (by omega) (by kernel_rfl)
  have hc45 : (c0 == 45) = false := by rw [beq_eq_false_iff_ne]; omega
  obtain ⟨D, hD⟩ : ∃ D, D = str (decText (q.den : Int)) := ⟨_, rfl⟩
  rw [← hD] at hix2
  have hD48 : ¬ D.toList = [48] := by
    intro e
    rw [hD, Lib.toList_data, str_list] at e
    cases h : decText (q.den : Int) with
    | nil => rw [h] at hd0; simp at hd0
    | cons a l =>
      rw [h] at e hc0
      simp at e hc0
      have h2 : (UInt8.ofNat a.toNat).toNat = 48 := by rw [e.1]; rfl
      rw [UInt8.toNat_ofNat'] at h2
      rw [h] at hd1; simp at hd1
      omega
  have hD48b : (D.toList == [48]) = false := by rw [beq_eq_false_iff_ne]; exact hD48
  obtain ⟨T, hT⟩ : ∃ T, T = str (intText q.num) := ⟨_, rfl⟩
  rw [← hT] at hix
  have HZ := hide (And.intro hS (And.intro hD (And.intro hT (And.intro hlt (And.intro hlb (And.intro hdp (And.intro hd0 (And.intro hdd (And.intro hd1 hc0))))))))); clear hl hb0 hp0 hS hD hT hlt hlb hdp hd0 hdd hd1 hc0 hcb
  obtain ⟨n, hn⟩ : ∃ n, n = decide (q.num < 0) := ⟨_, rfl⟩
  rw [← hn] at hb3
  have HN := hide hn; clear hn
  obtain ⟨W, hW⟩ : ∃ W, W = w.alloc (.cells #[.bool false, .slice none 0 0, .slice none 0 0] 43) := ⟨_, rfl⟩
  have hb0 : Below w.heap.size w W := by rw [hW]; exact (Below.refl _ _).alloc (Nat.le_refl _) _
  have hr : W.heap[w.heap.size]? = some (.cells #[.bool false, .slice none 0 0, .slice none 0 0] 43) := by rw [hW]; exact at_new _ _
  have HW := hide (And.intro hW (And.intro hb0 hr)); clear hW hb0 hr
  go_enter Tryz.func77, Tryz.ntmps77
  go_upto_region 3 with fail
  rw [← HW.out.1]
  go_cut [4, 5, 6] (fun s4 s5 s6 wx => ∃ c : Bool, s4 = .string T ∧ s6 = .bool c ∧ (c = true → s5 = .string D) ∧ (c = false → q.den = 1) ∧ Below W.heap.size W wx)
  case first =>
    by_cases h1 : q.den = 1
    · have hS1 : S = T := by rw [HZ.out.1, HZ.out.2.2.1]; unfold ratText; rw [if_pos h1, List.append_nil]
      have H1 := hide (And.intro h1 hS1); clear h1 hS1
      go_wp2_with fail
      refine (show Calls _ _ _ _ _ from by rw [H1.out.2, HZ.out.2.2.1]; exact cut_miss _ (intText_sgns q.num) _).mono ?_
      rintro e w1 ⟨rfl, hd1⟩
      rw [← HZ.out.2.2.1]
      go_wp2
      go_meet
      exact ⟨false, rfl, rfl, fun h => (by cases h), fun _ => H1.out.1, hd1⟩
    · have hS1 : S = str (intText q.num ++ 47 :: decText (q.den : Int)) := by rw [HZ.out.1]; unfold ratText; rw [if_neg h1]
      have H1 := hide (And.intro h1 hS1); clear h1 hS1
      go_wp2_with fail
      refine (show Calls _ _ _ _ _ from by rw [H1.out.2]; exact cut_hit _ _ (intText_sgns q.num) (by have := HZ.out.2.2.2.1; omega) (by have := HZ.out.2.2.2.2.1; omega) _).mono ?_
      rintro e w1 ⟨rfl, hd1⟩
      rw [← HZ.out.2.2.1, ← HZ.out.2.1]
      go_wp2
      go_meet
      exact ⟨true, rfl, rfl, fun _ => rfl, fun h => (by cases h), hd1⟩
  case rest =>
    obtain ⟨c, rfl, rfl, h5t, h5f, hbel⟩ := hcut
    go_upto_if 19 with fail
    go_cut [5] (fun s5 wx => s5 = .string D ∧ Below W.heap.size W wx)
    case first =>
      cases c with
      | true =>
        have h5 := h5t rfl
        subst h5
        clear h5t h5f
        go_wp2
        go_meet
        exact ⟨rfl, hbel⟩
      | false =>
        have h5 : Value.string ⟨#[49]⟩ = .string D := by
          rw [HZ.out.2.1, h5f rfl]
          congr 1
          show _ = str (decText 1)
          rw [dec_one]; rfl
        have H5 := hide h5; clear h5 h5t h5f
        go_wp2
        go_meet
        exact ⟨H5.out, hbel⟩
    case rest =>
      obtain ⟨rfl, hbel⟩ := hcut
      clear h5t h5f
      go_wp2_with fail
      refine (show Calls _ _ _ _ _ from by rw [HZ.out.2.2.1]; exact isForm_int q.num (by have := HZ.out.2.2.2.1; omega) _).mono ?_
      rintro e w2 ⟨rfl, hd2⟩
      go_wp2_with fail
      refine (show Calls _ _ _ _ _ from by rw [HZ.out.2.1, ← intText_nat _ (by have := HZ.out.2.2.2.2.2.1; omega)]; exact isForm_int (q.den : Int) (by rw [intText_nat _ (by have := HZ.out.2.2.2.2.2.1; omega)]; have := HZ.out.2.2.2.2.1; omega) _).mono ?_
      rintro e w3 ⟨rfl, hd3⟩
      have hbel3 : Below W.heap.size W w3 := hbel.trans ((below_next hd2 hd3).mono (by exact hbel.size))
      clear hd2 hd3
      go_wp2
      go_cut [7] (fun s7 wx => ∃ g : Nat, s7 = .pointer (some ⟨g, 0, none⟩) ∧ w3.heap.size ≤ g ∧ BoxR wx g q 70002 ∧ Below w3.heap.size w3 wx)
      case first =>
        go_region_held3 (fun _ => True) (trivial)
          (first
            | (go_at_call 134; refine (show Calls _ _ _ _ _ from by rw [HZ.out.2.2.1]; exact trim_int q.num _).mono ?_; rintro e w4 ⟨rfl, hd4⟩
               have hg4 : Below w3.heap.size w3 w4 := by (first | exact (Below.refl _ _).drew.trans hd4 | exact ((Below.refl _ _).drew.alloc (Nat.le_refl _) _).trans (hd4.mono (by simp)) | exact ((Below.refl _ _).alloc (Nat.le_refl _) _).drew.trans (hd4.mono (by simp)))
               try (simp only [size_alloc_drew] at hd4; obtain ⟨k0, k1, k2, f0, f1, f2, kb⟩ := box3d (w := w3) ((Below.refl _ _).drew.trans hd4) w3.heap.size rfl)
               clear hd4)
            | (have hsecond := hg5; go_at_call 133; refine (show Calls _ _ _ _ _ from by rw [HZ.out.2.1]; exact natFrom_c _ _ HZ.out.2.2.2.2.2.2.2.1 (by have := HZ.out.2.2.2.2.1; omega)).mono ?_; rintro e w6 ⟨v6, rfl, q6, hd6⟩; clear hsecond
               have he6 : Below w5.heap.size w5 w6 := by (first | exact hd6 | exact ((Below.refl _ _).alloc (Nat.le_refl _) _).trans (hd6.mono (by simp)))
               have hg6 : Below w3.heap.size w3 w6 := hg5.trans (he6.mono hg5.size)
               try (have kk := keep3 he6 kb; clear k0 k1 k2 f0 f1 f2 kb; obtain ⟨k0, k1, k2, f0, f1, f2, kb⟩ := kk)
               try (simp only [size_alloc] at hd6; obtain ⟨k0, k1, k2, f0, f1, f2, kb⟩ := box3d hd6 w5.heap.size rfl)
               have q5' := HQ5.out.below he6
               rw [tv_text _ (by have := HZ.out.2.2.2.2.2.1; omega)] at q6
               have HQ6 := hide (And.intro (q5'.more (show _ ≤ 70002 by (have := HZ.out.2.2.2.1; have := intText_dec_len q.num; omega))) (q6.more (show _ ≤ 70002 by (have := HZ.out.2.2.2.2.1; omega)))); clear q5' q6
               clear hd6)
            | (go_at_call 133; refine (natFrom_c _ _ (decText_digs _) (by have := HZ.out.2.2.2.1; have := intText_dec_len q.num; omega)).mono ?_; rintro e w5 ⟨v5, rfl, q5, hd5⟩
               have he5 : Below w4.heap.size w4 w5 := by (first | exact hd5 | exact ((Below.refl _ _).alloc (Nat.le_refl _) _).trans (hd5.mono (by simp)))
               have hg5 : Below w3.heap.size w3 w5 := hg4.trans (he5.mono hg4.size)
               rw [tv_text _ (by omega)] at q5
               have HQ5 := hide q5; clear q5
               try (have kk := keep3 he5 kb; clear k0 k1 k2 f0 f1 f2 kb; obtain ⟨k0, k1, k2, f0, f1, f2, kb⟩ := kk)
               try (simp only [size_alloc] at hd5; obtain ⟨k0, k1, k2, f0, f1, f2, kb⟩ := box3d hd5 w4.heap.size rfl)
               clear hd5)
            | (go_at_call 127; refine (lowest_c _ n _ _ (q.num.natAbs : Int) (q.den : Int) 70002 (by (first | exact HQ6.out.1 | exact HQ6.out.1.below ((Below.refl _ _).alloc (Nat.le_refl _) _))) (by (first | exact HQ6.out.2 | exact HQ6.out.2.below ((Below.refl _ _).alloc (Nat.le_refl _) _))) (by omega) HZ.out.2.2.2.2.2.1).mono ?_; rintro e w7 ⟨v7, rfl, q7, hd7⟩
               have he7 : Below w6.heap.size w6 w7 := by (first | exact hd7 | exact ((Below.refl _ _).alloc (Nat.le_refl _) _).trans (hd7.mono (by simp)))
               have hg7 : Below w3.heap.size w3 w7 := hg6.trans (he7.mono hg6.size)
               rw [HN.out, sgd_num, Rat.num_divInt_den] at q7
               try (have kk := keep3 he7 kb; clear k0 k1 k2 f0 f1 f2 kb; obtain ⟨k0, k1, k2, f0, f1, f2, kb⟩ := kk)
               try (simp only [size_alloc] at hd7; obtain ⟨k0, k1, k2, f0, f1, f2, kb⟩ := box3d hd7 w6.heap.size rfl)
               (obtain ⟨s7, A7, n7, c7, B7, m7, d7, rfl⟩ := q7.shape)
               have HQ7 := hide q7; clear q7 hd7))
        all_goals go_wp2_with fail
        all_goals go_meet
        all_goals (first | with_reducible exact BoxR.made hg7 HQ7.out | exact BoxR.stored (by have := hg4.size; have := hg5.size; have := hg6.size; omega) hg7 HQ7.out kb)
      case rest =>
        obtain ⟨g, rfl, hg0, ⟨s, A, m, c', B, m', d', hbx, hrat⟩, hbel4⟩ := hcut
        obtain ⟨k0, k1, k2⟩ := three_cells hbx
        have HR := hide (And.intro hrat (And.intro hbx (hbel3.trans (hbel4.mono hbel3.size)))); clear hrat hbx hbel4 hbel3 hbel
        go_wp2_with fail
        refine (string_c _ _ q 70002 HR.out.1 (by omega)).mono ?_
        rintro e w5 ⟨_, rfl, rfl, hd5⟩
        rw [← HZ.out.1]
        obtain ⟨k0', k1', k2'⟩ := three_cells (at_later HR.out.2.1 hd5)
        clear k0 k1 k2
        have HB5 := hide (And.intro (HR.out.1.below hd5) (HR.out.2.2.trans (hd5.mono HR.out.2.2.size))); clear hd5
        have hmf : ∀ (fn : Fn) (first cap : Array Value) (w : World), (Instr.makeFunc fn first cap).run Tryz.prog w = .ok (.func fn first cap) w := fun _ _ _ _ => rfl
        go_wp2_with fail
        refine (attempt_kept _ _ q 70002 HB5.out.1 (by omega)).mono ?_
        rintro e w6 ⟨_, rfl, hd6, hor⟩
        have hbl6 := HB5.out.2.trans (hd6.mono HB5.out.2.size)
        have hr6 := at_later HW.out.2.2 hbl6
        obtain ⟨x0, x1, x2⟩ := three_cells hr6
        obtain ⟨f0, f1, f2⟩ := three_frozen hr6
        have hlt := lt_of_block hr6
        rcases hor with ⟨hq, u2, rfl, hu⟩ | ⟨hq, u2, rfl, hu⟩
        all_goals
          obtain ⟨s1, A1, n1, c1, B1, m1, d1, rfl⟩ := hu.shape
          have HF := hide (And.intro hq (And.intro hu (And.intro hr6 (below_next HW.out.2.1 hbl6)))); clear hq hu hr6 hbl6 hd6
          go_wp2
        · refine bodyPost_ret (v := .tuple #[.agg #[.bool s1, .slice A1 n1 c1, .slice B1 m1 d1], .int .i64 0]) ?_ rfl ?_
          · simp [results, Tryz.results77, go_sem, x0, x1, x2, hlt]
          obtain ⟨hq, hu, hr6, hb⟩ := HF.out
          exact ⟨_, rfl, below_set3 hb (Nat.le_refl _) _ _ _, Or.inl ⟨hq, _, rfl, hu.put3 hr6⟩⟩
        · refine bodyPost_ret (v := .tuple #[.agg #[.bool s1, .slice A1 n1 c1, .slice B1 m1 d1], .int .i64 11]) ?_ rfl ?_
          · simp [results, Tryz.results77, go_sem, x0, x1, x2, hlt]
          obtain ⟨hq, hu, hr6, hb⟩ := HF.out
          exact ⟨_, rfl, below_set3 hb (Nat.le_refl _) _ _ _, Or.inr ⟨hq, _, rfl, hu.put3 hr6⟩⟩
end Go.Proofs.YtpoahodnakhmiaaGreat
