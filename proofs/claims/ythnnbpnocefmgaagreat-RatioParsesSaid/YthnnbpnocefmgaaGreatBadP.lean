/- Walks: a text that is no fraction is refused. -/
import Derived.Test.YthnnbpnocefmgaaGreatParse
import Derived.Test.YthnnbpnocefmgaaGreatRead9
namespace Go.Proofs.YthnnbpnocefmgaaGreat
set_option linter.unusedVariables false
set_option linter.unusedSimpArgs false
open Go.RowKit
theorem noslash {xs : List Int} (hby : Byts xs) (h : (47 : Int) ∉ xs) : (47 : UInt8) ∉ xs.map fun n => UInt8.ofNat n.toNat := by
  intro hm
  rw [List.mem_map] at hm
  obtain ⟨b, hb, e⟩ := hm
  have h1 := hby b hb
  have h2 : (UInt8.ofNat b.toNat).toNat = 47 := by rw [e]; rfl
  rw [UInt8.toNat_ofNat'] at h2
  have : b = 47 := by omega
  exact h (this ▸ hb)
set_option maxRecDepth 100000 in
theorem cutN1_hit (xs cs : List Int) (h : (47 : UInt8) ∉ xs.map fun n => UInt8.ofNat n.toNat) (hl : xs.length ≤ 1000000000) (hl2 : cs.length ≤ 1000000000) (w : World) :
    Calls Tryz.prog 128 #[.string (str (xs ++ 47 :: cs)), .string ⟨#[47]⟩] w (quietV (.tuple #[.string (str xs), .string (str cs), .bool true]) w) := by
  have hi : Lib.indexByte (str (xs ++ 47 :: cs)).data.toList 47 = xs.length := by
    rw [str_list, List.map_append, List.map_cons]
    have := indexByte_at 47 (cs.map fun n => UInt8.ofNat n.toNat) (xs.map fun n => UInt8.ofNat n.toNat) h
    rw [List.length_map] at this
    exact this
  obtain ⟨S, hS⟩ : ∃ S, S = str (xs ++ 47 :: cs) := ⟨_, rfl⟩
  have hz : S.size = xs.length + 1 + cs.length := by rw [hS, str_size]; simp; omega
  have e1 : ∀ w' : World, (Instr.slice 9 (.string S) none (some (.int .i64 (xs.length : Int))) none).run Tryz.prog w' = .ok (.string (str xs)) w' := fun w' => by
    rw [run_slice_string_h w' 9 S (by kernel_rfl) .i64 xs.length (by omega) (by omega)]
    rw [hS, str_extract]
    simp
  have e2 : ∀ w' : World, (Instr.slice 9 (.string S) (some (.int .i64 ((xs.length : Int) + 1))) none none).run Tryz.prog w' = .ok (.string (str cs)) w' := fun w' => by
    rw [run_slice_string_l w' 9 S (by kernel_rfl) .i64 ((xs.length : Int) + 1) (by omega) (by omega)]
    rw [hS, str_extract, show ((xs.length : Int) + 1).toNat = xs.length + 1 by omega, ← hS, hz]
    rw [show (xs ++ 47 :: cs).drop (xs.length + 1) = cs by rw [show xs ++ 47 :: cs = (xs ++ [47]) ++ cs by simp, List.drop_left' (by simp)]]
    rw [List.take_of_length_le (by omega)]
  rw [← hS] at hi ⊢
  clear hS
  have H := hide (And.intro hi hz); clear hi hz
  go_enter Tryz.func128, Tryz.ntmps128
  go_wp2_with (go_at_call 144; refine (index_raw _ _ _).mono ?_; rintro e w' ⟨rfl, rfl⟩; rw [H.out.1])
  go_region
  go_wp2
  go_ret3
  exact ⟨rfl, (Below.refl _ _).drew⟩
theorem cutN_hit (xs cs : List Int) (h : (47 : UInt8) ∉ xs.map fun n => UInt8.ofNat n.toNat) (hl : xs.length ≤ 1000000000) (hl2 : cs.length ≤ 1000000000) (w : World) :
    Calls Tryz.prog 87 #[.string (str (xs ++ 47 :: cs)), .string ⟨#[47]⟩] w (quietV (.tuple #[.string (str xs), .string (str cs), .bool true]) w) := by
  go_enter Tryz.func87, Tryz.ntmps87
  go_wp2_with fail
  refine (cutN1_hit xs cs h hl hl2 _).mono ?_
  rintro e w' ⟨rfl, hb⟩
  go_wp2
  go_ret3
  exact ⟨rfl, hb⟩
set_option maxRecDepth 100000 in
theorem cutN1_miss (xs : List Int) (h : (47 : UInt8) ∉ xs.map fun n => UInt8.ofNat n.toNat) (w : World) :
    Calls Tryz.prog 128 #[.string (str xs), .string ⟨#[47]⟩] w (quietV (.tuple #[.string (str xs), .string ⟨#[]⟩, .bool false]) w) := by
  have hi : Lib.indexByte (str xs).data.toList 47 = -1 := by
    rw [str_list]
    exact indexByte_none 47 _ h
  have H := hide hi; clear hi
  go_enter Tryz.func128, Tryz.ntmps128
  go_wp2_with (go_at_call 144; refine (index_raw _ _ _).mono ?_; rintro e w' ⟨rfl, rfl⟩; rw [H.out])
  go_ret3
  exact ⟨rfl, Below.refl _ _⟩
theorem cutN_miss (xs : List Int) (h : (47 : UInt8) ∉ xs.map fun n => UInt8.ofNat n.toNat) (w : World) :
    Calls Tryz.prog 87 #[.string (str xs), .string ⟨#[47]⟩] w (quietV (.tuple #[.string (str xs), .string ⟨#[]⟩, .bool false]) w) := by
  go_enter Tryz.func87, Tryz.ntmps87
  go_wp2_with fail
  refine (cutN1_miss xs h _).mono ?_
  rintro e w' ⟨rfl, hb⟩
  go_wp2
  go_ret3
  exact ⟨rfl, hb⟩
theorem trim_any (bs : List Int) (hby : Byts bs) : ∃ ds, ((bs = ds ∧ ds.getD 0 0 ≠ 45) ∨ bs = 45 :: ds) ∧ ∀ w, Calls Tryz.prog 91 #[.string (str bs), .string ⟨#[45]⟩] w (quietV (.string (str ds)) w) := by
  cases bs with
  | nil =>
    refine ⟨[], .inl ⟨rfl, by decide⟩, fun w => ?_⟩
    refine (trim_raw _ _ w).mono ?_
    rintro e w' ⟨rfl, rfl⟩
    exact ⟨rfl, Below.refl _ _⟩
  | cons b t =>
    by_cases h45 : b = 45
    · subst h45
      exact ⟨t, .inr rfl, fun w => trim_minus t w⟩
    · refine ⟨b :: t, .inl ⟨rfl, h45⟩, fun w => ?_⟩
      have hr := hby b (List.mem_cons_self ..)
      refine (trim_raw _ _ w).mono ?_
      rintro e w' ⟨rfl, rfl⟩
      refine ⟨?_, Below.refl _ _⟩
      have hb : ((45 : UInt8) == UInt8.ofNat b.toNat) = false := by
        rw [beq_eq_false_iff_ne]
        intro e
        have h2 : (UInt8.ofNat b.toNat).toNat = 45 := by rw [← e]; rfl
        rw [UInt8.toNat_ofNat'] at h2
        omega
      congr 2
      rw [str_list]
      simp [Lib.trimPrefix, Lib.hasPrefix, str]
      simpa using hb
theorem first_no {P : Nat → Prop} (n : Nat) (h : ¬ ∀ i, i < n → P i) : ∃ p, p < n ∧ ¬ P p ∧ ∀ i, i < p → P i := by
  induction n with
  | zero => exact absurd (fun i hi => absurd hi (Nat.not_lt_zero _)) h
  | succ n ih =>
    by_cases h1 : ∀ i, i < n → P i
    · refine ⟨n, by omega, fun hp => h fun i hi => ?_, h1⟩
      by_cases e : i = n
      · rw [e]; exact hp
      · exact h1 i (by omega)
    · obtain ⟨p, a, b, c⟩ := ih h1
      exact ⟨p, by omega, b, c⟩
theorem str_nil0 {ds : List Int} (h : (str ds).toList = []) : ds = [] := by
  have h1 : (str ds).data.toList = [] := by rw [← Lib.toList_data]; exact h
  have h2 := Lib.size_eq (str ds)
  rw [h1, List.length_nil, str_size] at h2
  exact List.eq_nil_of_length_eq_zero (by omega)
theorem str_inj {a b : List Int} (ha : Byts a) (hb : Byts b) (h : str a = str b) : a = b := by
  have h1 : (str a).data.toList = (str b).data.toList := by rw [h]
  rw [str_list, str_list] at h1
  have key : ∀ a b : List Int, Byts a → Byts b → (a.map fun n => UInt8.ofNat n.toNat) = (b.map fun n => UInt8.ofNat n.toNat) → a = b := by
    intro a
    induction a with
    | nil => intro b _ _ h; cases b with
      | nil => rfl
      | cons y b => simp at h
    | cons x a ih =>
      intro b ha hb h
      cases b with
      | nil => simp at h
      | cons y b =>
        rw [List.map_cons, List.map_cons, List.cons.injEq] at h
        have hx := ha x (List.mem_cons_self ..)
        have hy := hb y (List.mem_cons_self ..)
        have e : (UInt8.ofNat x.toNat).toNat = (UInt8.ofNat y.toNat).toNat := by rw [h.1]
        rw [UInt8.toNat_ofNat', UInt8.toNat_ofNat'] at e
        have : x = y := by omega
        rw [this, ih b (fun z hz => ha z (List.mem_cons_of_mem _ hz)) (fun z hz => hb z (List.mem_cons_of_mem _ hz)) h.2]
  exact key a b ha hb h1
theorem str_ne {a b : List Int} (ha : Byts a) (hb : Byts b) (h : a ≠ b) : ¬ (str a).toList = (str b).toList := by
  intro e
  refine h (str_inj ha hb ?_)
  apply ByteArray.ext
  apply Array.ext'
  rw [← Lib.toList_data, ← Lib.toList_data]; exact e
set_option maxRecDepth 100000 in
set_option maxHeartbeats 1000000 in
/-- what is no whole number's text is refused -/
theorem isForm_no (bs : List Int) (hby : Byts bs) (hl : bs.length ≤ 1000000000) (h : ∀ z, bs ≠ intText z) (w : World) :
    Calls Tryz.prog 88 #[.string (str bs)] w (quietV (.bool false) w) := by
  obtain ⟨ds, hds, ht⟩ := trim_any bs hby
  have hbd : Byts ds := by
    rcases hds with ⟨rfl, _⟩ | rfl
    · exact hby
    · exact fun b hb => hby b (List.mem_cons_of_mem _ hb)
  have hld : ds.length ≤ 1000000000 := by
    rcases hds with ⟨rfl, _⟩ | rfl
    · exact hl
    · simp at hl; omega
  have hHT := hide ht
  clear ht
  by_cases h0 : ds = []
  · subst h0
    clear hds h hby hl hbd hld
    go_enter Tryz.func88, Tryz.ntmps88
    go_wp2_with fail
    refine (hHT.out _).mono ?_
    rintro e w1 ⟨rfl, hb1⟩
    rw [show str [] = ⟨#[]⟩ from rfl]
    go_wp2
    go_ret
    exact ⟨rfl, hb1⟩
  · have hp : 0 < ds.length := List.length_pos_iff.2 h0
    have hix : ∀ i : Nat, i < ds.length → ∀ w', (Instr.index 9 (.string (str ds)) (.int .i64 (i : Int))).run Tryz.prog w' = .ok (.int .u8 (ds.getD i 0)) w' := fun i hi w' => run_at _ _ ds hbd i hi (by kernel_rfl) w'
    have hne : ¬ (str ds).toList = [] := fun e => h0 (str_nil0 e)
    have hne2 : (str ds).toList.isEmpty = false := by
      cases h : (str ds).toList with
      | nil => exact absurd h hne
      | cons a l => rfl
    have hsz := str_size ds
    have hi0 := fun w' => hix 0 hp w'
    rw [show ((0 : Nat) : Int) = 0 from rfl] at hi0
    have hns : ¬ (str bs).toList = [48] := by
      have := str_ne hby (b := [48]) (by intro b hb; simp at hb; omega) (fun e => h 0 e)
      rwa [show (str [48]).toList = [48] by rw [Lib.toList_data]; rfl] at this
    have hns2 : ((str bs).toList == [48]) = false := by rw [beq_eq_false_iff_ne]; exact hns
    obtain ⟨b, hbe⟩ : ∃ b, b = ds.getD 0 0 := ⟨_, rfl⟩
    rw [← hbe] at hi0
    obtain ⟨D, hD⟩ : ∃ D, D = str ds := ⟨_, rfl⟩
    obtain ⟨S, hS⟩ : ∃ S, S = str bs := ⟨_, rfl⟩
    rw [← hD] at hsz hne hne2 hi0 hix hHT
    rw [← hS] at hns hns2 hHT ⊢
    by_cases h48 : b = 48
    · have HB := hide (And.intro hbe (And.intro hD hS))
      have hb48 : (b == 48) = true := by rw [h48]; rfl
      clear hbe hD hS hds h hix h48 hby hbd
      go_enter Tryz.func88, Tryz.ntmps88
      go_wp2_with fail
      refine (hHT.out _).mono ?_
      rintro e w1 ⟨rfl, hb1⟩
      replace hi0 := hi0 w1
      go_wp2
      go_ret
      exact ⟨rfl, hb1⟩
    · have hb48 : (b == 48) = false := by rw [beq_eq_false_iff_ne]; exact h48
      have hnd : ¬ ∀ i, i < ds.length → 48 ≤ ds.getD i 0 ∧ ds.getD i 0 < 58 := by
        intro hall
        have hd : Digs ds := by
          intro x hx
          obtain ⟨i, hi, e⟩ := List.mem_iff_getElem.1 hx
          have := hall i hi
          rw [show ds.getD i 0 = x by simp [List.getD, hi, e]] at this
          exact this
        have h48' : ds.getD 0 0 ≠ 48 := by rw [← hbe]; exact h48
        rcases hds with ⟨e, _⟩ | e
        · exact h _ (by rw [intText_tv false ds hd hp (fun e => absurd e h48')]; simpa using e)
        · exact h _ (by rw [intText_tv true ds hd hp (fun e => absurd e h48')]; simpa using e)
      obtain ⟨p, hpl, hpn, hpb⟩ := first_no (P := fun i => 48 ≤ ds.getD i 0 ∧ ds.getD i 0 < 58) _ hnd
      have hsD : D.size = ds.length := hsz
      have HB := hide (And.intro hbe (And.intro hD (And.intro hS (And.intro hix (And.intro hpn (And.intro hpb hsD))))))
      have hpD : p < D.size := by omega
      have hDs : D.size ≤ 1000000000 := by omega
      clear hbe hD hS hds h hix h48 hby hbd hnd hpn hpb hsD hsz hpl hp h0
      go_enter Tryz.func88, Tryz.ntmps88
      go_wp2_with fail
      refine (hHT.out _).mono ?_
      rintro e w1 ⟨rfl, hb1⟩
      replace hi0 := hi0 w1
      go_wp2
      clear hi0
      go_loopw [20] (fun s20 wr => ∃ i : Nat, i ≤ p ∧ s20 = .int .i64 i ∧ Below w.heap.size w wr) (fun s20 _ => p - (intOf s20).toNat)
      case atStart => exact ⟨0, Nat.zero_le _, rfl, hb1⟩
      case round =>
        obtain ⟨i, hi, rfl, hbel⟩ := hrel
        have hlt : i < D.size := by omega
        have d1 : decide (i < D.size) = true := decide_eq_true hlt
        have hxr := HB.out.2.2.2.1 i (by have := HB.out.2.2.2.2.2.2; omega) wr
        obtain ⟨x, hx⟩ : ∃ x, x = ds.getD i 0 := ⟨_, rfl⟩
        rw [← hx] at hxr
        by_cases hip : i < p
        · have hxb := HB.out.2.2.2.2.2.1 i hip
          rw [← hx] at hxb
          have hx1 : ¬ x < 48 := by omega
          have hx2 : ¬ 57 < x := by omega
          clear hx hxb
          go_wp2
          go_roundw
          case rel => exact ⟨i + 1, by omega, by go_num, hbel⟩
          case measure => simp [intOf]; omega
        · obtain rfl : i = p := by omega
          have hxb := HB.out.2.2.2.2.1
          rw [← hx] at hxb
          have hor : x < 48 ∨ (¬ x < 48 ∧ 57 < x) := by omega
          clear hx hxb
          rcases hor with hx1 | ⟨hx1, hx2⟩
          all_goals
            go_wp2
            go_ret
            exact ⟨rfl, hbel⟩
end Go.Proofs.YthnnbpnocefmgaaGreat
