/- Walks: the order of two naturals. -/
import Derived.Test.YtpoahodnakhmiaaGreatDig
import Derived.Deep.QuietTactic
import Derived.BigQuiet
namespace Go.Proofs.YtpoahodnakhmiaaGreat
set_option linter.unusedVariables false
set_option linter.unusedSimpArgs false
open Go.RowKit
/-- an integer comes back; the world has only drawn -/
def quietR (w : World) (n : Int) (v : Value) (w' : World) : Prop := v = .int .i64 n ∧ ∃ m, w' = w.drewN m
def sgn (x y : Int) : Int := if x < y then -1 else if y < x then 1 else 0
theorem sgn_lt {x y : Int} (h : x < y) : sgn x y = -1 := by simp [sgn, h]
theorem sgn_gt {x y : Int} (h : y < x) : sgn x y = 1 := by have : ¬ x < y := by omega
                                                           simp [sgn, h, this]
theorem sgn_eq {x y : Int} (h : x = y) : sgn x y = 0 := by simp [sgn, h]
theorem ncmp_c (w : World) (v v' : Value) (x y : Int) (L L' : Nat) (hx : NatV w v x L) (hy : NatV w v' y L') :
    Calls Tryz.prog 141 #[v, v'] w (Ret (quietR w (sgn x y))) := by
  obtain ⟨A, c, xs, rfl, hc, hm, ha, hd, hn, rfl, _⟩ := hx
  obtain ⟨A', c', ys, rfl, hc', hm', ha', hd', hn', rfl, _⟩ := hy
  unfold maxLen at hm hm'
  by_cases hl : xs.length = ys.length
  · have hl1 : ((xs.length : Int) != (ys.length : Int)) = false := by simp [hl]
    have HL := hide hl; clear hl
    go_enter Tryz.func141, Tryz.ntmps141
    go_wp2
    go_loopw [5] (fun s5 wr => ∃ k : Nat, k ≤ xs.length ∧ s5 = .int .i64 ((k : Int) - 1) ∧ (∀ j, k ≤ j → xs.getD j 0 = ys.getD j 0) ∧ ∃ m, wr = w.drewN m) (fun s5 _ => (intOf s5 + 1).toNat)
    case atStart =>
      refine ⟨xs.length, Nat.le_refl _, rfl, fun j hj => ?_, 0, rfl⟩
      have := HL.out
      rw [List.getD, List.getD, List.getElem?_eq_none hj, List.getElem?_eq_none (by omega)]
    case round =>
      obtain ⟨k, hk, rfl, heq, m, rfl⟩ := hrel
      by_cases hk0 : 0 < k
      · have hkl : k - 1 < xs.length := by omega
        have hkl' : k - 1 < ys.length := by have := HL.out; omega
        have hm0 : (0 : Int) ≤ (k : Int) - 1 := by omega
        have hm1 : (k : Int) - 1 < (xs.length : Int) := by omega
        have hm2 : (k : Int) - 1 < (ys.length : Int) := by omega
        obtain ⟨b, o, rfl, hb, hcell⟩ := ha.at_ (by omega)
        obtain ⟨b', o', rfl, hb', hcell'⟩ := ha'.at_ (by omega)
        obtain ⟨x, hx⟩ : ∃ x, x = xs.getD (k - 1) 0 := ⟨_, rfl⟩
        obtain ⟨y, hy⟩ : ∃ y, y = ys.getD (k - 1) 0 := ⟨_, rfl⟩
        have hxc := hcell (k - 1) hkl
        have hyc := hcell' (k - 1) hkl'
        rw [← hx] at hxc
        rw [← hy] at hyc
        have HX := hide (And.intro hx hy); clear hx hy
        have HE := hide heq; clear heq
        have HD := hide (And.intro hd hd'); clear hd hd'
        clear hcell hcell' ha ha'
        rcases Int.lt_trichotomy x y with hlt | heq | hgt
        · have HS := hide (sgn_lt (val_lt_of_digit (B := 4294967296) (by omega) HD.out.1 HD.out.2 HL.out (k - 1) hkl (fun j hj => HE.out j (by omega)) (by rw [← HX.out.1, ← HX.out.2]; exact hlt)))
          go_wp2
          go_quiet (fail)
          go_wp2
          go_ret
          exact ⟨_, rfl, by rw [HS.out]; rfl, by (first | exact ⟨_, rfl⟩ | (simp only [World.drewN_drewN]; exact ⟨_, rfl⟩))⟩
        · subst heq
          go_wp2
          go_quiet (fail)
          go_wp2
          go_quiet (fail)
          go_wp2
          go_roundw
          case rel =>
            refine ⟨k - 1, by omega, by go_num, fun j hj => ?_, by (first | exact ⟨_, rfl⟩ | (simp only [World.drewN_drewN]; exact ⟨_, rfl⟩))⟩
            by_cases hjk : j = k - 1
            · subst hjk; rw [← HX.out.1, ← HX.out.2]
            · exact HE.out j (by omega)
          case measure => simp [intOf]; omega
        · have HS := hide (sgn_gt (val_lt_of_digit (B := 4294967296) (by omega) HD.out.2 HD.out.1 HL.out.symm (k - 1) hkl' (fun j hj => (HE.out j (by omega)).symm) (by rw [← HX.out.1, ← HX.out.2]; exact hgt)))
          have hge : ¬ x < y := by omega
          go_wp2
          go_quiet (fail)
          go_wp2
          go_quiet (fail)
          go_wp2
          go_ret
          exact ⟨_, rfl, by rw [HS.out]; rfl, by (first | exact ⟨_, rfl⟩ | (simp only [World.drewN_drewN]; exact ⟨_, rfl⟩))⟩
      · obtain rfl : k = 0 := by omega
        have hxy : xs = ys := by
          apply List.ext_getElem HL.out
          intro i h1 h2
          have := heq i (by omega)
          rw [List.getD, List.getD, List.getElem?_eq_getElem h1, List.getElem?_eq_getElem h2] at this
          simpa using this
        have HS := hide (sgn_eq (congrArg (val 4294967296) hxy)); clear hxy heq
        go_wp2
        go_ret
        exact ⟨_, rfl, by rw [HS.out]; rfl, by (first | exact ⟨_, rfl⟩ | (simp only [World.drewN_drewN]; exact ⟨_, rfl⟩))⟩
  · have hl1 : ((xs.length : Int) != (ys.length : Int)) = true := by simp; omega
    rcases Nat.lt_or_gt_of_ne hl with h | h
    · have HS := hide (sgn_lt (val_lt_of_length (B := 4294967296) (by omega) hd hd' hn' h))
      clear ha ha' hd hd' hn hn' hl
      go_enter Tryz.func141, Tryz.ntmps141
      go_wp2
      all_goals (first | (exfalso; omega) | (go_ret; exact ⟨_, rfl, by rw [HS.out]; rfl, 0, rfl⟩))
    · have HS := hide (sgn_gt (val_lt_of_length (B := 4294967296) (by omega) hd' hd hn h))
      clear ha ha' hd hd' hn hn' hl
      go_enter Tryz.func141, Tryz.ntmps141
      go_wp2
      all_goals (first | (exfalso; omega) | (go_ret; exact ⟨_, rfl, by rw [HS.out]; rfl, 0, rfl⟩))
end Go.Proofs.YtpoahodnakhmiaaGreat
