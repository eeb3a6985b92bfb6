/- Walks of the reference: naturals in limbs of nine digits. -/
import Derived.Test.YthnnbpnocefmgaaText
import Derived.Test.YthnnbpnocefmgaaCmp
namespace Go.Proofs.Ythnnbpnocefmgaa
set_option linter.unusedVariables false
set_option linter.unusedSimpArgs false
open Go.RowKit

/-- the base of the limbs -/
theorem Try.limT : IntT Try.prog 30 3 .i64 8 := ⟨by kernel_rfl, by kernel_rfl, by decide⟩

/-- v is the natural number x in limbs of nine digits, at most L of them, without zeros at the end -/
def LimV (w : World) (v : Value) (x : Int) (L : Nat) : Prop :=
  ∃ A c xs, v = .slice A xs.length c ∧ xs.length ≤ c ∧ c ≤ maxLen ∧ Arr w A .i64 xs ∧ Dig 1000000000 xs ∧ Norm xs ∧ val 1000000000 xs = x ∧ xs.length ≤ L

theorem LimV.below {w w' : World} {v : Value} {x : Int} {L : Nat} (h : LimV w v x L) (hb : Below w.heap.size w w') : LimV w' v x L := by
  obtain ⟨A, c, xs, rfl, h1, h2, h3, h4⟩ := h
  exact ⟨A, c, xs, rfl, h1, h2, h3.below hb, h4⟩
theorem LimV.more {w : World} {v : Value} {x : Int} {L L' : Nat} (h : LimV w v x L) (hL : L ≤ L') : LimV w v x L' := by
  obtain ⟨A, c, xs, rfl, h1, h2, h3, h4, h5, h6, h7⟩ := h
  exact ⟨A, c, xs, rfl, h1, h2, h3, h4, h5, h6, by omega⟩
theorem LimV.nonneg {w : World} {v : Value} {x : Int} {L : Nat} (h : LimV w v x L) : 0 ≤ x := by
  obtain ⟨A, c, xs, rfl, h1, h2, h3, h4, h5, h6, h7⟩ := h
  rw [← h6]; exact val_nonneg (by omega) h4
theorem LimV.open_ {w : World} {v : Value} {x : Int} {L : Nat} (h : LimV w v x L) :
  ∃ A c xs, v = .slice A xs.length c ∧ xs.length ≤ c ∧ c ≤ maxLen ∧ Arr w A .i64 xs ∧ Dig 1000000000 xs ∧ Norm xs ∧ val 1000000000 xs = x ∧ xs.length ≤ L := h
theorem LimV.nil (w : World) (L : Nat) : LimV w (.slice none 0 0) 0 L := ⟨none, 0, [], rfl, Nat.le_refl _, by simp, Arr.nil, Dig.nil _, Norm.nil, rfl, Nat.zero_le _⟩
theorem LimV.lt {w : World} {v : Value} {x : Int} {L : Nat} (h : LimV w v x L) : x < 1000000000 ^ L := by
  obtain ⟨A, c, xs, rfl, h1, h2, h3, h4, h5, rfl, h7⟩ := h
  exact Int.lt_of_lt_of_le (val_lt (by omega) h4) (pow_le_pow' (by omega) h7)
/-- how many limbs a number has, by its value -/
theorem LimV.fit {w : World} {v : Value} {x : Int} {L L' : Nat} (h : LimV w v x L) (hx : x < 1000000000 ^ L') : LimV w v x L' := by
  obtain ⟨A, c, xs, rfl, h1, h2, h3, h4, h5, rfl, h7⟩ := h
  refine ⟨A, c, xs, rfl, h1, h2, h3, h4, h5, rfl, ?_⟩
  rcases Nat.lt_or_ge L' xs.length with hlt | hge
  · have a := le_val_of_norm (B := 1000000000) (by omega) h4 h5 (by intro e; subst e; simp at hlt)
    have b := pow_le_pow' (B := 1000000000) (by omega) (show L' ≤ xs.length - 1 by omega)
    omega
  · exact hge
theorem LimV.of_trim {w : World} {A : Option Addr} {xs : List Int} {n c : Nat} (h : Arr w A .i64 xs) (hd : Dig 1000000000 xs) (hc : xs.length ≤ c) (hm : c ≤ maxLen) (ht : TrimAt xs n) :
    LimV w (.slice A n c) (val 1000000000 xs) xs.length := by
  obtain ⟨h1, h2, h3⟩ := ht
  have hl : (xs.take n).length = n := by rw [List.length_take]; omega
  refine ⟨A, c, xs.take n, by rw [hl], by omega, by omega, h.take n, hd.take n, Norm.of_last fun h0 => ?_, val_take_zeros _ _ _ h3, by omega⟩
  rw [hl] at h0 ⊢
  have := h2 h0
  simpa [List.getD, List.getElem?_take, show n - 1 < n by omega] using this
theorem lim_zero {w : World} {A : Option Addr} {c : Nat} {xs : List Int} {x : Int} {L : Nat} (h : LimV w (.slice A xs.length c) x L) : xs.length = 0 ↔ x = 0 := by
  obtain ⟨A', c', ys, e, h1, h2, h3, h4, h5, h6, h7⟩ := h
  injection e with e1 e2 e3
  have : xs.length = ys.length := e2
  rw [this, ← h6]
  constructor
  · intro h; rw [List.eq_nil_of_length_eq_zero h]; rfl
  · intro h
    rcases Nat.eq_zero_or_pos ys.length with h0 | h0
    · exact h0
    · have := val_pos (B := 1000000000) (by omega) h4 h5 (by intro e; rw [e] at h0; simp at h0); omega

def limR (w : World) (x : Int) (L : Nat) (v : Value) (w' : World) : Prop := LimV w' v x L ∧ Below w.heap.size w w'

def trimL (w : World) (A : Option Addr) (c : Nat) (xs : List Int) (v : Value) (w' : World) : Prop := ∃ n, TrimAt xs n ∧ v = .slice A n c ∧ w = w'

theorem trim9_c (w : World) (A : Option Addr) (c n : Nat) (xs : List Int) (hn : xs.length = n) (h : Arr w A .i64 xs) (hc : n ≤ c) (hm : c ≤ maxLen) :
    Calls Try.prog 80 #[.slice A n c] w (Ret (trimL w A c xs)) := by
  subst hn
  unfold maxLen at hm
  go_enter Try.func80, Try.ntmps80
  go_wp2
  go_loop [0] (fun s => ∃ k : Nat, k ≤ xs.length ∧ s = .slice A k c ∧ ∀ j, k ≤ j → xs.getD j 0 = 0) (fun s => match s with | .slice _ n _ => n | _ => 0)
  case atStart => exact ⟨xs.length, Nat.le_refl _, rfl, fun j hj => by simp [List.getD, List.getElem?_eq_none hj]⟩
  case round =>
    obtain ⟨k, hk, rfl, hz⟩ := hrel
    by_cases hk0 : 0 < k
    · obtain ⟨b, o, rfl, _, hcell⟩ := h (by omega)
      obtain ⟨d, hd⟩ : ∃ d, d = xs.getD (k - 1) 0 := ⟨_, rfl⟩
      have hx := hcell (k - 1) (by omega)
      rw [← hd] at hx
      have hc0 : ¬ c = 0 := by omega
      have HZ := hide hz; clear hz
      have HD := hide hd; clear hd
      clear h hcell
      by_cases h0 : d = 0
      · have hd0 : (d == 0) = true := by rw [h0]; rfl
        have H0 := hide h0; clear h0
        go_wp2
        go_round
        case rel =>
          refine ⟨k - 1, by omega, ?_, fun j hj => ?_⟩
          · first | rfl | (congr 1; omega) | simp
          · by_cases hjk : j = k - 1
            · subst hjk; rw [← HD.out]; exact H0.out
            · exact HZ.out j (by omega)
        case measure => simp; omega
      · have hd0 : (d == 0) = false := by rw [beq_eq_false_iff_ne]; exact h0
        have H0 := hide h0; clear h0
        go_wp2
        go_ret
        exact ⟨_, rfl, k, ⟨hk, fun _ => by rw [← HD.out]; exact H0.out, HZ.out⟩, rfl, rfl⟩
    · obtain rfl : k = 0 := by omega
      have HZ := hide hz; clear hz
      go_wp2
      go_ret
      exact ⟨_, rfl, 0, ⟨Nat.zero_le _, fun h => absurd h (by omega), HZ.out⟩, rfl, rfl⟩

theorem lcmp_c (w : World) (v v' : Value) (x y : Int) (L L' : Nat) (hx : LimV w v x L) (hy : LimV w v' y L') :
    Calls Try.prog 81 #[v, v'] w (Ret (quietR w (sgn x y))) := by
  obtain ⟨A, c, xs, rfl, hc, hm, ha, hd, hn, rfl, _⟩ := hx
  obtain ⟨A', c', ys, rfl, hc', hm', ha', hd', hn', rfl, _⟩ := hy
  unfold maxLen at hm hm'
  by_cases hl : xs.length = ys.length
  · have hl1 : ((xs.length : Int) != (ys.length : Int)) = false := by simp [hl]
    have HL := hide hl; clear hl
    go_enter Try.func81, Try.ntmps81
    go_wp2
    go_loopw [5] (fun s5 wr => ∃ k : Nat, k ≤ xs.length ∧ s5 = .int .i64 ((k : Int) - 1) ∧ (∀ j, k ≤ j → xs.getD j 0 = ys.getD j 0) ∧ ∃ m, wr = w.drewN m) (fun s5 _ => (intOf s5 + 1).toNat)
    case atStart =>
      refine ⟨xs.length, Nat.le_refl _, rfl, fun j hj => ?_, 0, rfl⟩
      have := HL.out
      rw [List.getD, List.getD, List.getElem?_eq_none hj, List.getElem?_eq_none (by omega)]
    case round =>
      obtain ⟨k, hk, rfl, heq, m, rfl⟩ := hrel
      by_cases hk0 : 0 < k
      · have hkl : k - 1 < xs.length := by omega
        have hkl' : k - 1 < ys.length := by have := HL.out; omega
        have hm0 : (0 : Int) ≤ (k : Int) - 1 := by omega
        have hm1 : (k : Int) - 1 < (xs.length : Int) := by omega
        have hm2 : (k : Int) - 1 < (ys.length : Int) := by omega
        obtain ⟨b, o, rfl, hb, hcell⟩ := ha.at_ (by omega)
        obtain ⟨b', o', rfl, hb', hcell'⟩ := ha'.at_ (by omega)
        obtain ⟨x, hx⟩ : ∃ x, x = xs.getD (k - 1) 0 := ⟨_, rfl⟩
        obtain ⟨y, hy⟩ : ∃ y, y = ys.getD (k - 1) 0 := ⟨_, rfl⟩
        have hxc := hcell (k - 1) hkl
        have hyc := hcell' (k - 1) hkl'
        rw [← hx] at hxc
        rw [← hy] at hyc
        have HX := hide (And.intro hx hy); clear hx hy
        have HE := hide heq; clear heq
        have HD := hide (And.intro hd hd'); clear hd hd'
        clear hcell hcell' ha ha'
        rcases Int.lt_trichotomy x y with hlt | heq | hgt
        · have HS := hide (sgn_lt (val_lt_of_digit (B := 1000000000) (by omega) HD.out.1 HD.out.2 HL.out (k - 1) hkl (fun j hj => HE.out j (by omega)) (by rw [← HX.out.1, ← HX.out.2]; exact hlt)))
          go_wp2
          go_quiet (fail)
          go_wp2
          go_ret
          exact ⟨_, rfl, by rw [HS.out]; rfl, by (first | exact ⟨_, rfl⟩ | (simp only [World.drewN_drewN]; exact ⟨_, rfl⟩))⟩
        · subst heq
          go_wp2
          go_quiet (fail)
          go_wp2
          go_quiet (fail)
          go_wp2
          go_roundw
          case rel =>
            refine ⟨k - 1, by omega, by go_num, fun j hj => ?_, by (first | exact ⟨_, rfl⟩ | (simp only [World.drewN_drewN]; exact ⟨_, rfl⟩))⟩
            by_cases hjk : j = k - 1
            · subst hjk; rw [← HX.out.1, ← HX.out.2]
            · exact HE.out j (by omega)
          case measure => simp [intOf]; omega
        · have HS := hide (sgn_gt (val_lt_of_digit (B := 1000000000) (by omega) HD.out.2 HD.out.1 HL.out.symm (k - 1) hkl' (fun j hj => (HE.out j (by omega)).symm) (by rw [← HX.out.1, ← HX.out.2]; exact hgt)))
          have hge : ¬ x < y := by omega
          go_wp2
          go_quiet (fail)
          go_wp2
          go_quiet (fail)
          go_wp2
          go_ret
          exact ⟨_, rfl, by rw [HS.out]; rfl, by (first | exact ⟨_, rfl⟩ | (simp only [World.drewN_drewN]; exact ⟨_, rfl⟩))⟩
      · obtain rfl : k = 0 := by omega
        have hxy : xs = ys := by
          apply List.ext_getElem HL.out
          intro i h1 h2
          have := heq i (by omega)
          rw [List.getD, List.getD, List.getElem?_eq_getElem h1, List.getElem?_eq_getElem h2] at this
          simpa using this
        have HS := hide (sgn_eq (congrArg (val 1000000000) hxy)); clear hxy heq
        go_wp2
        go_ret
        exact ⟨_, rfl, by rw [HS.out]; rfl, by (first | exact ⟨_, rfl⟩ | (simp only [World.drewN_drewN]; exact ⟨_, rfl⟩))⟩
  · have hl1 : ((xs.length : Int) != (ys.length : Int)) = true := by simp; omega
    rcases Nat.lt_or_gt_of_ne hl with h | h
    · have HS := hide (sgn_lt (val_lt_of_length (B := 1000000000) (by omega) hd hd' hn' h))
      clear ha ha' hd hd' hn hn' hl
      go_enter Try.func81, Try.ntmps81
      go_wp2
      all_goals (first | (exfalso; omega) | (go_ret; exact ⟨_, rfl, by rw [HS.out]; rfl, 0, rfl⟩))
    · have HS := hide (sgn_gt (val_lt_of_length (B := 1000000000) (by omega) hd' hd hn h))
      clear ha ha' hd hd' hn hn' hl
      go_enter Try.func81, Try.ntmps81
      go_wp2
      all_goals (first | (exfalso; omega) | (go_ret; exact ⟨_, rfl, by rw [HS.out]; rfl, 0, rfl⟩))
end Go.Proofs.Ythnnbpnocefmgaa
