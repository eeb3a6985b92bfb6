/- Walks: a row of fractions, times a fraction, is taken from another row. -/
import Derived.Test.YthnnbpnocefmgaaGreatDiv
import Derived.Deep.RegionLaw
import Derived.RegionCalls
namespace Go.Proofs.YthnnbpnocefmgaaGreat
set_option linter.unusedVariables false
set_option linter.unusedSimpArgs false
open Go.RowKit
set_option maxRecDepth 100000 in
set_option maxHeartbeats 4000000 in
theorem take_c (w : World) (g c : Nat) (qs : List Rat) (cv : Value) (q : Rat) (g2 c2 : Nat) (fs : List Rat) (L : Nat) (hrow : RowC w g qs L) (hq : RatV w cv q L) (hfrom : RowC w g2 fs L) (hL : L ≤ 134217700) (hne : g ≠ g2) (hlen : fs.length = qs.length) (hc : qs.length ≤ c) (hm : c ≤ maxLen)
    (hc2 : fs.length ≤ c2) (hm2 : c2 ≤ maxLen) (hfit : ∀ i, i < qs.length → FitQ L (qs.getD i 0 - q * fs.getD i 0)) :
    Calls Tryz.prog 136 #[.slice (some ⟨g, 0, none⟩) qs.length c, cv, .slice (some ⟨g2, 0, none⟩) fs.length c2] w (Ret (fun v w' => v = .tuple #[] ∧ RowC w' g (qs.mapIdx fun i x => x - q * fs.getD i 0) L ∧ Keeps w w' ∧ w.grownBy w' (some g))) := by
  unfold maxLen at hm hm2
  have hmt := meth_times
  have hmm := meth_minus
  have HA := hide (And.intro hrow (And.intro hq (And.intro hfrom hfit)))
  have hgl := hrow.lt
  have hgl2 := hfrom.lt
  obtain ⟨n1, l1, rfl, h1, g1⟩ := hq
  obtain ⟨A1, c1, xs1, rfl, _⟩ := h1.open_
  obtain ⟨A2, c2', xs2, rfl, _⟩ := g1.open_
  clear hrow h1 g1 hfit hfrom
  obtain ⟨b1, hs1⟩ : ∃ s, s = decide (q.num < 0) := ⟨_, rfl⟩
  rw [← hs1] at HA
  rw [← hs1]
  clear hs1
  rw [hlen]
  rw [hlen] at hc2
  go_enter Tryz.func136, Tryz.ntmps136
  go_wp2
  have hbw : Below w.heap.size w (w.alloc (.cells #[.bool b1, .slice A1 xs1.length c1, .slice A2 xs2.length c2'] 35)) := (Below.refl _ _).alloc (Nat.le_refl _) _
  go_loopw [10] (fun s8 wr => ∃ (k : Nat) (zs : List Rat), k ≤ qs.length ∧ s8 = .int .i64 k ∧ UpTo (fun i x => x - q * fs.getD i 0) qs zs k ∧ RowC wr g zs L ∧ Keeps w wr ∧
    (w.alloc (.cells #[.bool b1, .slice A1 xs1.length c1, .slice A2 xs2.length c2'] 35)).grownBy wr (some g)) (fun s8 _ => qs.length - (intOf s8).toNat)
  case atStart =>
    exact ⟨0, qs, Nat.zero_le _, rfl, upTo_zero _ _, HA.out.1.below hbw, Below.keeps hbw, ⟨rfl, rfl, rfl, Nat.le_refl _, fun _ _ _ => rfl⟩⟩
  case round =>
    obtain ⟨k, zs, hk, rfl, hup, hrow, hkeep, hgr⟩ := hrel
    by_cases hkl : k < qs.length
    · obtain ⟨s, B1, m1, d1, B2, m2, d2, e0, e1, e2, hr⟩ := (hrow.2 k (by rw [hup.1]; exact hkl)).rat
      have hfw : RowC wr g2 fs L := (HA.out.2.2.1).same hkeep ((hgr.block g2 (by simp; omega) (by intro e; injection e with e; exact hne e.symm)).trans (Below.heap_alloc _ _ _ hgl2))
      obtain ⟨s3, B3, m3, d3, B4, m4, d4, e3, e4, e5, hr2⟩ := (hfw.2 k (by rw [hlen]; exact hkl)).rat
      have hbx : wr.heap[w.heap.size]? = some (.cells #[.bool b1, .slice A1 xs1.length c1, .slice A2 xs2.length c2'] 35 (0, 0)) := (hgr.block w.heap.size (by simp) (by intro e; injection e with e; omega)).trans (heap_alloc_new w _)
      have hsz : w.heap.size < wr.heap.size := lt_of_block hbx
      have hgs : g < wr.heap.size := hrow.lt
      have x0 : wr.cell? ⟨w.heap.size, 0, none⟩ = some (.bool b1) := by simp [World.cell?, hbx]
      have x1 : wr.cell? ⟨w.heap.size, 1, none⟩ = some (.slice A1 xs1.length c1) := by simp [World.cell?, hbx]
      have x2 : wr.cell? ⟨w.heap.size, 2, none⟩ = some (.slice A2 xs2.length c2') := by simp [World.cell?, hbx]
      have HH := hide (And.intro hup (And.intro hrow (And.intro hkeep (And.intro hgr (And.intro hr (And.intro hr2 hfw)))))); clear hup hrow hkeep hgr hr hbx hr2 hfw
      go_wp2_with fail
      have hba : Below wr.heap.size wr (wr.alloc (.cells #[.bool s3, .slice B3 m3 d3, .slice B4 m4 d4] 35)).drew := ((Below.refl _ _).alloc (Nat.le_refl _) _).drew
      have hbx : Below (wr.heap.size + 1) (wr.alloc (.cells #[.bool s3, .slice B3 m3 d3, .slice B4 m4 d4] 35)) (wr.alloc (.cells #[.bool s3, .slice B3 m3 d3, .slice B4 m4 d4] 35)).drew := (below_start _ _).drew
      have hzk : zs.getD k 0 = qs.getD k 0 := by have := HH.out.1.2 k hkl; rw [if_neg (by omega)] at this; exact this
      have hrow0 := HH.out.2.1.below hba
      have HZ := hide (And.intro hzk hrow0); clear hzk hrow0
      -- the cells, in the world in which the region begins
      have p0 := (hba.cell (p := ⟨g, k * 3, none⟩) (by exact hgs)).trans e0
      have p1 := (hba.cell (p := ⟨g, k * 3 + 1, none⟩) (by exact hgs)).trans e1
      have p2 := (hba.cell (p := ⟨g, k * 3 + 2, none⟩) (by exact hgs)).trans e2
      have y0 := (hba.cell (p := ⟨w.heap.size, 0, none⟩) (by exact hsz)).trans x0
      have y1 := (hba.cell (p := ⟨w.heap.size, 1, none⟩) (by exact hsz)).trans x1
      have y2 := (hba.cell (p := ⟨w.heap.size, 2, none⟩) (by exact hsz)).trans x2
      obtain ⟨k0, k1, k2, _, _, _, _⟩ := box3 hbx
      clear hbx e0 e1 e2 e3 e4 e5 x0 x1 x2
      go_region_law (first
        | (go_simp; go_at_call 65; refine (times_q _ _ _ q (fs.getD k 0) L ((HA.out.2.1.keeps HH.out.2.2.1).below hba) (HH.out.2.2.2.2.2.1.below hba) (by omega)).mono ?_; rintro e w1 ⟨u1, rfl, hu1, hd1⟩; have p0 := (hd1.cell (p := ⟨g, k * 3, none⟩) (by simp; omega)).trans p0; have p1 := (hd1.cell (p := ⟨g, k * 3 + 1, none⟩) (by simp; omega)).trans p1; have p2 := (hd1.cell (p := ⟨g, k * 3 + 2, none⟩) (by simp; omega)).trans p2)
        | (go_simp; go_at_call 62; refine (minus_q _ _ _ (zs.getD k 0) (q * fs.getD k 0) (2 * L + 4) (((HH.out.2.2.2.2.1.below hba).below hd1).more (by omega)) hu1 (by omega)).mono ?_; rintro e w2 ⟨u2, rfl, hu2, hd2⟩; have hb2 := below_next (below_next hba hd1) hd2; have hrow2 := HH.out.2.1.below hb2; replace hu2 := hu2.fit (L' := L) (by rw [HZ.out.1]; exact HA.out.2.2.2 k hkl); generalize hX : zs.getD k 0 - q * fs.getD k 0 = X at hu2;
            obtain ⟨s', B1', m1', d1', B2', m2', d2', e0', e1', e2', _⟩ := (hrow2.2 k (by rw [HH.out.1.1]; exact hkl)).rat;
            have f0 := hrow2.frozen (k * 3); have f1 := hrow2.frozen (k * 3 + 1); have f2 := hrow2.frozen (k * 3 + 2);
            obtain ⟨rn, rl, rfl, r1, r2⟩ := id hu2; obtain ⟨A5, c5, xs5, rfl, _⟩ := r1.open_; obtain ⟨A6, c6, xs6, rfl, _⟩ := r2.open_;
            have HU := hide (And.intro hu2 (And.intro hrow2 (And.intro hb2 hX))); clear hu2 hrow2 hb2 r1 r2 hX p0 p1 p2 y0 y1 y2 k0 k1 k2))
      all_goals
        go_wp2
        go_roundw
        case rel =>
          obtain ⟨hup, hrow, hkeep, hgr, hr, _⟩ := HH.out
          obtain ⟨hu, hrow2, hb2, hX⟩ := HU.out
          obtain ⟨t1, t2, t3⟩ := hrow2.set3 (i := k) (by rw [hup.1]; exact hkl) hu
          exact ⟨k + 1, _, by omega, by go_num, by rw [← hX] at t1 ⊢; exact upTo_step (f := fun i x => x - q * fs.getD i 0) hup hkl, t1, (hkeep.trans (Below.keeps hb2)).trans t2, only_trans (grown_below hgr hb2) t3⟩
        case measure => simp [intOf]; omega
    · have HH := hide (And.intro hup (And.intro hrow (And.intro hkeep hgr))); clear hup hrow hkeep hgr
      go_wp2
      go_end0
      obtain ⟨hup, hrow, hkeep, hgr⟩ := HH.out
      have := upTo_end hup (by omega)
      subst this
      exact ⟨_, rfl, rfl, hrow, hkeep, only_start hbw hgr⟩
end Go.Proofs.YthnnbpnocefmgaaGreat
