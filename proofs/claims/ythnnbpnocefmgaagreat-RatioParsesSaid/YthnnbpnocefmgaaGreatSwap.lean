/- Walks: two rows are exchanged. -/
import Derived.Test.YthnnbpnocefmgaaGreatMat
import Derived.BigRegion
import Derived.Deep.Cut
namespace Go.Proofs.YthnnbpnocefmgaaGreat
set_option linter.unusedVariables false
set_option linter.unusedSimpArgs false
open Go.RowKit
set_option maxRecDepth 100000 in
set_option maxHeartbeats 4000000 in
theorem swap_c (w : World) (base M R D cR cD : Nat) (vs us rR rD : List Value) (gs hs : List Nat) (rows done : List (List Rat)) (L i k : Nat) (h : MatS w base M R D cR cD vs us rR rD gs hs rows done L) (hi : i < rows.length) (hk : k < rows.length) (hn : rows.length ≤ 17592186044416) :
    Calls Tryz.prog 135 #[.pointer (some ⟨M, 0, none⟩), .int .i64 i, .int .i64 k] w (Ret (fun v w' => v = .tuple #[] ∧
      MatS w' base M R D cR cD (swapL vs i k undef) (swapL us i k undef) rR rD (swapL gs i k 0) (swapL hs i k 0) (swapL rows i k []) (swapL done i k []) L ∧ Keeps w w' ∧ Below base w w' ∧ w'.heap.size = w.heap.size ∧ ∀ b, b < w.heap.size → b ≠ R → b ≠ D → w'.heap[b]? = w.heap[b]?)) := by
  have vR : VCel w R 26 vs rR := h.hR
  have vD : VCel w D 26 us rD := h.hD
  have m0 : w.cell? ⟨M, 0, none⟩ = some (.slice (some ⟨R, 0, none⟩) rows.length cR) := by simp [World.cell?, h.hM]
  have m1 : w.cell? ⟨M, 1, none⟩ = some (.slice (some ⟨D, 0, none⟩) rows.length cD) := by simp [World.cell?, h.hM]
  have hMR : ¬ M = R := by
    intro e; have h1 := h.hM; have h2 := h.hR; rw [e, h2] at h1; injection h1 with h1; injection h1 with _ h1 _; revert h1; decide
  have hMD : ¬ M = D := by
    intro e; have h1 := h.hM; have h2 := h.hD; rw [e, h2] at h1; injection h1 with h1; injection h1 with _ h1 _; revert h1; decide
  have hRD : ¬ R = D := h.hRD
  have ri := vR.cell (j := i) (by rw [h.n1]; exact hi)
  have rk := vR.cell (j := k) (by rw [h.n1]; exact hk)
  have di := vD.cell (j := i) (by rw [h.n2]; exact hi)
  have dk := vD.cell (j := k) (by rw [h.n2]; exact hk)
  obtain ⟨ci, ei⟩ := (h.rok i hi).2.slice
  obtain ⟨ck, ek⟩ := (h.rok k hk).2.slice
  obtain ⟨ci', ei'⟩ := (h.dok i hi).2.slice
  obtain ⟨ck', ek'⟩ := (h.dok k hk).2.slice
  rw [ei] at ri
  rw [ek] at rk
  rw [ei'] at di
  rw [ek'] at dk
  have fi := vR.frozen i
  have fk := vR.frozen k
  have fi' := vD.frozen i
  have fk' := vD.frozen k
  have HH := hide (And.intro h (And.intro vR (And.intro vD (And.intro ei (And.intro ek (And.intro ei' ek')))))); clear h vR vD ei ek ei' ek'
  obtain ⟨n, hrn⟩ : ∃ n, n = rows.length := ⟨_, rfl⟩
  rw [← hrn] at m0 m1 hi hk hn
  generalize gs.getD i 0 = gi at *
  generalize gs.getD k 0 = gk at *
  generalize hs.getD i 0 = hi2 at *
  generalize hs.getD k 0 = hk2 at *
  generalize (rows.getD i []).length = li at *
  generalize (rows.getD k []).length = lk at *
  generalize (done.getD i []).length = li' at *
  generalize (done.getD k []).length = lk' at *
  obtain ⟨z, hz⟩ : ∃ z, (w.setCell ⟨R, i, none⟩ (.slice (some ⟨gk, 0, none⟩) lk ck)).cell? ⟨R, k, none⟩ = some z ∧ (∀ d, z ≠ .int .u32 d) := by
    by_cases e : i = k
    · subst e; exact ⟨_, World.cell?_setCell_same _ _ _ ri, by intro d e; cases e⟩
    · exact ⟨_, (World.cell?_setCell_other _ _ _ _ (by intro e'; injection e' with e1 e2; exact e e2)).trans rk, by intro d e; cases e⟩
  obtain ⟨hz, hzn⟩ := hz
  go_enter Tryz.func135, Tryz.ntmps135
  go_wp2
  go_cut [0, 1, 2] from 6 (fun s0 s1 s2 w' => s0 = .pointer (some ⟨M, 0, none⟩) ∧ s1 = .int .i64 i ∧ s2 = .int .i64 k ∧ w' = ((w.setCell ⟨R, i, none⟩ (.slice (some ⟨gk, 0, none⟩) lk ck)).setCell ⟨R, k, none⟩ (.slice (some ⟨gi, 0, none⟩) li ci)).drew)
  case first =>
    go_region
    go_wp2
    go_meet
    exact ⟨rfl, rfl, rfl, rfl⟩
  case rest =>
    obtain ⟨rfl, rfl, rfl, hW1⟩ := hcut
    have hg1 : w.grownBy wc (some R) := by rw [hW1]; exact grownBy_drew (only_trans (setCell_only _ _ _ _) (setCell_only _ _ _ _))
    have hv1 : VCel wc R 26 (swapL vs i k undef) rR := by
      obtain ⟨h, vR, vD, ei, ek, ei', ek'⟩ := HH.out
      have := (vR.set_ (i := i) (.slice (some ⟨gk, 0, none⟩) lk ck) (by rw [h.n1, ← hrn]; exact hi)).set_ (i := k) (.slice (some ⟨gi, 0, none⟩) li ci) (by rw [List.length_set, h.n1, ← hrn]; exact hk)
      rw [hW1]; unfold swapL; rw [ek, ei]; exact this
    have hkp1 : Keeps w wc := by
      exact Keeps.only hg1 ⟨_, _, HH.out.2.1⟩ (by decide)
    have hs1 : wc.heap.size = w.heap.size := by rw [hW1]; simp [World.setCell, World.drew]
    have eM : wc.heap[M]? = w.heap[M]? := hg1.block M (lt_of_cell m0) (by intro e; injection e with e; exact hMR e)
    have eD : wc.heap[D]? = w.heap[D]? := hg1.block D (lt_of_cell di) (by intro e; injection e with e; exact hRD e.symm)
    replace m1 := (World.cell?_of_block (w := w) (a := ⟨M, 1, none⟩) eM).trans m1
    replace di := (World.cell?_of_block (w := w) (a := ⟨D, i, none⟩) eD).trans di
    replace dk := (World.cell?_of_block (w := w) (a := ⟨D, k, none⟩) eD).trans dk
    replace fi' := (World.frozen?_of_block (w := w) (a := ⟨D, i, none⟩) eD).trans fi'
    replace fk' := (World.frozen?_of_block (w := w) (a := ⟨D, k, none⟩) eD).trans fk'
    obtain ⟨z2, hz2⟩ : ∃ z, (wc.setCell ⟨D, i, none⟩ (.slice (some ⟨hk2, 0, none⟩) lk' ck')).cell? ⟨D, k, none⟩ = some z ∧ (∀ d, z ≠ .int .u32 d) := by
      by_cases e : i = k
      · subst e; exact ⟨_, World.cell?_setCell_same _ _ _ di, by intro d e; cases e⟩
      · exact ⟨_, (World.cell?_setCell_other _ _ _ _ (by intro e'; injection e' with e1 e2; exact e e2)).trans dk, by intro d e; cases e⟩
    obtain ⟨hz2, hzn2⟩ := hz2
    have HW := hide (And.intro hW1 (And.intro hg1 (And.intro hv1 (And.intro hkp1 (And.intro hs1 (And.intro eD hzn2))))))
    clear hW1 hg1 hv1 hkp1 hs1 eM eD m0 ri rk fi fk hz hzn hzn2
    go_wp2
    go_region
    go_wp2
    go_end0
    obtain ⟨hW1, hg1, hv1, hkp1, hs1, eD, hzn2⟩ := HW.out
    obtain ⟨h, vR, vD, ei, ek, ei', ek'⟩ := HH.out
    obtain ⟨W2, hW2⟩ : ∃ W2, W2 = ((wc.setCell ⟨D, i, none⟩ (.slice (some ⟨hk2, 0, none⟩) lk' ck')).setCell ⟨D, k, none⟩ (.slice (some ⟨hi2, 0, none⟩) li' ci')).drew := ⟨_, rfl⟩
    rw [← hW2]
    have hg2 : wc.grownBy W2 (some D) := by rw [hW2]; exact grownBy_drew (only_trans (setCell_only _ _ _ _) (setCell_only _ _ _ _))
    have vD1 : VCel wc D 26 us rD := by unfold VCel; rw [eD]; exact vD
    have hv2 : VCel W2 D 26 (swapL us i k undef) rD := by
      have := (vD1.set_ (i := i) (.slice (some ⟨hk2, 0, none⟩) lk' ck') (by rw [h.n2, ← hrn]; exact hi)).set_ (i := k) (.slice (some ⟨hi2, 0, none⟩) li' ci') (by rw [List.length_set, h.n2, ← hrn]; exact hk)
      rw [hW2]; unfold swapL; rw [ek', ei']; exact this
    have hkp2 : Keeps wc W2 := by
      exact Keeps.only hg2 ⟨_, _, vD1⟩ (by decide)
    have hs2 : W2.heap.size = wc.heap.size := by rw [hW2]; simp [World.setCell, World.drew]
    have eR : W2.heap[R]? = wc.heap[R]? := hg2.block R (by rw [hs1]; exact vR.lt) (by intro e; injection e with e; exact hRD e)
    have hall : ∀ b, b < w.heap.size → b ≠ R → b ≠ D → W2.heap[b]? = w.heap[b]? := by
      intro b hb hb1 hb2
      rw [hg2.block b (by rw [hs1]; exact hb) (by intro e; injection e with e; exact hb2 e), hg1.block b hb (by intro e; injection e with e; exact hb1 e)]
    refine ⟨_, rfl, rfl, h.swap (by rw [← hrn]; exact hi) (by rw [← hrn]; exact hk) (eR.trans hv1) hv2 hall (hkp1.trans hkp2), hkp1.trans hkp2, ?_, by rw [hs2, hs1], hall⟩
    · have hbs : base ≤ w.heap.size := Nat.le_trans h.bR (Nat.le_of_lt vR.lt)
      exact only_below (only_below (Below.refl _ _) hg1 hbs h.bR) hg2 (by rw [hs1]; exact hbs) h.bD
end Go.Proofs.YthnnbpnocefmgaaGreat
