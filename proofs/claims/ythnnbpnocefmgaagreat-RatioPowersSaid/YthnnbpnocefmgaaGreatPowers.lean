/- The law of powers. -/
import Derived.Test.YthnnbpnocefmgaaGreatPowF
import Derived.Test.YthnnbpnocefmgaaGreatLen9
import Derived.Test.YthnnbpnocefmgaaGreatQop9
import Derived.Test.YthnnbpnocefmgaaGreatAwake
namespace Go.Proofs.YthnnbpnocefmgaaGreat
set_option linter.unusedVariables false
set_option linter.unusedSimpArgs false
open Go.RowKit

theorem BoxQ.more {w : World} {g : Nat} {q : Rat} {L L' : Nat} (h : BoxQ w g q L) (hL : L ≤ L') : BoxQ w g q L' := by
  obtain ⟨t, A, n, c, B, m, d, h1, h2⟩ := h
  exact ⟨t, A, n, c, B, m, d, h1, h2.more hL⟩
theorem FracQ.more {n n' : Nat} {q : Rat} (h : FracQ n q) (hn : n ≤ n') : FracQ n' q := by
  have := pow_le_pow' (B := 10) (by omega) hn
  exact ⟨by have := h.1; omega, by have := h.2; omega⟩
theorem BoxQ.put4 {w : World} {g : Nat} {q q' : Rat} {L L' : Nat} (h : BoxQ w g q L) {t : Bool} {A B : Option Addr} {n c m d : Nat} (hq : QV w (.agg #[.bool t, .slice A n c, .bool false, .slice B m d]) q' L') :
    BoxQ ((((w.setCell ⟨g, 0, none⟩ (.bool t)).setCell ⟨g, 1, none⟩ (.slice A n c)).setCell ⟨g, 2, none⟩ (.bool false)).setCell ⟨g, 3, none⟩ (.slice B m d)) g q' L' := by
  obtain ⟨t0, A0, n0, c0, B0, m0, d0, h1, _⟩ := h
  obtain ⟨x, y, e, h2, h3⟩ := hq
  exact ⟨t, A, n, c, B, m, d, by simp [World.setCell, Array.getElem?_modify, h1], x, y, e, put4_lim h2 h1 (by decide), put4_lim h3 h1 (by decide)⟩
theorem pow_fit60 {q : Rat} (h : FracQ 30 q) (k : Nat) (hk : k ≤ 60) : FitQ 201 (powN q k) := by
  cases k with
  | zero => exact (fitQ_one _ (by omega)).1
  | succ k => exact ((h.pow k).more (n' := 1800) (by omega)).fit
theorem powZ_pos {q : Rat} {m : Int} (h : ¬ m < 0) : powZ q m = powN q m.natAbs := by unfold powZ; rw [if_neg h]
theorem powZ_neg {q : Rat} {m : Int} (h : m < 0) : powZ q m = 1 / powN q m.natAbs := by unfold powZ; rw [if_pos h, powN_inv]
theorem pow_inv60 {q : Rat} (h : FracQ 30 q) (h0 : q ≠ 0) (k : Nat) (hk : k ≤ 60) : FracQ 1800 (1 / powN q k) := by
  cases k with
  | zero => exact FracQ.inv (show FracQ 1800 1 from by have := FracQ.one 1800 (by omega); rwa [show Rat.divInt 1 1 = (1 : Rat) from Rat.num_divInt_den 1] at this) (powN_ne h0 0)
  | succ k => exact FracQ.inv ((h.pow k).more (n' := 1800) (by omega)) (powN_ne h0 _)
theorem sgnQ_ne {q : Rat} (h : q ≠ 0) : sgnQ q = 1 ∨ sgnQ q = -1 := by
  have hn : q.num ≠ 0 := fun e => h (Rat.num_eq_zero.1 e)
  unfold sgnQ
  by_cases h1 : q.num < 0
  · rw [if_pos h1]; exact Or.inr rfl
  · rw [if_neg h1, if_pos (by omega)]; exact Or.inl rfl
theorem wrap64_lo (x : Int) : -9223372036854775808 ≤ wrap64 x := by unfold wrap64; omega
theorem wrap64_hi (x : Int) : wrap64 x ≤ 9223372036854775807 := by unfold wrap64; omega

set_option maxRecDepth 100000 in
set_option maxHeartbeats 4000000 in
theorem powers_c (w : World) (s : ByteArray) (n : Int) (hs : s.size ≤ 140737488355328) (hn0 : -9223372036854775808 ≤ n) (hn1 : n ≤ 9223372036854775807) :
    Calls Tryz.prog 7 #[.string s, .int .i64 n] w (Ret (fun v w' => v = .bool true ∧ Below w.heap.size w w')) := by
  go_enter Tryz.func7, Tryz.ntmps7
  go_wp2_with fail
  refine (frac_c _ s hs 30 (by omega) (by omega)).mono ?_
  rintro e w1 ⟨_, rfl, q, s1, A1, n1, c1, B1, m1, d1, t1, A1', n1', c1', B1', m1', d1', rfl, hfq, hv, hv', hd⟩
  replace hv : RatV _ _ q 4 := hv
  replace hv' : QV _ _ q 4 := hv'
  obtain ⟨W1, hW1⟩ : ∃ W1, W1 = (w1.alloc (.cells #[.bool s1, .slice A1 n1 c1, .slice B1 m1 d1] 35)).alloc (.cells #[.bool t1, .slice A1' n1' c1', .bool false, .slice B1' m1' d1'] 41) := ⟨_, rfl⟩
  have hda : Below w1.heap.size w1 W1 := by rw [hW1]; exact ((Below.refl _ _).alloc (Nat.le_refl _) _).alloc (by simp) _
  have HW := hide (below_next hd hda)
  have HBa := hide (show BoxR W1 w1.heap.size q 4 from ⟨_, _, _, _, _, _, _, by rw [hW1]; exact at_old (at_new _ _) _, hv.below hda⟩)
  have HQa := hide (show BoxQ W1 (w1.heap.size + 1) q 4 from ⟨_, _, _, _, _, _, _, by rw [hW1]; exact at_new' _ (by simp), hv'.below hda⟩)
  have HL := hide hW1
  clear hW1 hd hda hv hv'
  go_wp2
  rw [← HL.out]
  clear HL
  go_loopw [1, 7] (fun s1 s7 wr => ∃ (m : Int) (k : Nat), k ≤ 2 ∧ s1 = .int .i64 m ∧ s7 = .int .i64 k ∧ -9223372036854775808 ≤ m ∧ m ≤ 9223372036854775807 ∧ Below W1.heap.size W1 wr) (fun _ s7 _ => 2 - (intOf s7).toNat)
  case atStart => exact ⟨n, 0, by omega, rfl, rfl, hn0, hn1, Below.refl _ _⟩
  case round =>
    obtain ⟨m, k, hk, rfl, rfl, hm0, hm1, hbel⟩ := hrel
    have HB := hide hbel
    have HR := hide (HBa.out.below hbel)
    have HQ := hide (HQa.out.below hbel)
    clear hbel
    by_cases hkl : k < 2
    · have hdk : decide ((k : Int) < 2) = true := by apply decide_eq_true; omega
      obtain ⟨sa, Aa, na, ca, Ba, ma, da, hxa, hqa⟩ := HR.out
      obtain ⟨r0, r1, r2⟩ := three_cells hxa
      clear hxa
      by_cases hfar : m < -1000 ∨ 1000 < m
      · go_wp2_with fail
        refine (pow_far _ _ q m 4 hqa hfar).mono ?_
        rintro e w2 ⟨_, rfl, r, rfl, hr, hd⟩
        obtain ⟨t, A3, n3, c3, A4, n4, c4, rfl⟩ := hr.open3
        have HX := hide (And.intro hr hd)
        clear hr hd r0 r1 r2
        have hx : decide (m < -1000) = true ∨ (decide (m < -1000) = false ∧ decide (1000 < m) = true) := by
          by_cases h : m < -1000
          · exact Or.inl (decide_eq_true h)
          · exact Or.inr ⟨decide_eq_false h, by apply decide_eq_true; omega⟩
        rcases hx with hx | ⟨hx, hx2⟩
        all_goals
          go_wp2_with fail
          refine (sign_q _ _ 0 4 (HX.out.1.below ((Below.refl _ _).alloc (Nat.le_refl _) _))).mono ?_
          rintro e w3 ⟨_, rfl, rfl, hd3⟩
          rw [show sgnQ 0 = 0 from rfl]
          have HY := hide (below_next HX.out.2 (below_next ((Below.refl _ _).alloc (Nat.le_refl _) _) hd3))
          clear hd3 HX
          go_wp2
          case roundEnd => exact ⟨⟨_, k + 1, by omega, rfl, by go_num, wrap64_lo _, wrap64_hi _, below_next HB.out HY.out⟩, by simp [intOf]; omega⟩
      · by_cases hzero : m < 0 ∧ q = 0
        · obtain ⟨hneg, rfl⟩ := hzero
          have e1 : decide (m < -1000) = false := by apply decide_eq_false; omega
          have e2 : decide (1000 < m) = false := by apply decide_eq_false; omega
          have e3 : decide (m < 0) = true := by apply decide_eq_true; omega
          go_wp2_with fail
          refine (pow_zero _ _ m 4 hqa hneg (by omega)).mono ?_
          rintro e w2 ⟨_, rfl, r, rfl, hr, hd⟩
          obtain ⟨t, A3, n3, c3, A4, n4, c4, rfl⟩ := hr.open3
          have HX := hide (And.intro hr hd)
          have hd2 := below_next hd ((Below.refl _ _).alloc (Nat.le_refl _) (.cells #[.bool t, .slice A3 n3 c3, .slice A4 n4 c4] 35))
          obtain ⟨sb, Ab, nb, cb, Bb, mb, db, hxb, hqb⟩ := HQ.out.below hd2
          obtain ⟨b0, b1, b2, b3, _⟩ := four_cells hxb
          have HX := hide (And.intro hr (And.intro hd2 hqb))
          clear hr hd hd2 r0 r1 r2 hxb hqb
          go_wp2_with fail
          refine (sgn9_c _ _ 0 4 HX.out.2.2).mono ?_
          rintro e w3 ⟨_, rfl, rfl, hd3⟩
          rw [show sgnQ 0 = 0 from rfl]
          have HY := hide (below_next HX.out.2.1 hd3)
          have hrb := at_later (at_new w2 (.cells #[.bool t, .slice A3 n3 c3, .slice A4 n4 c4] 35)) hd3
          obtain ⟨r0, r1, r2⟩ := three_cells hrb
          have hr3 := HX.out.1.below (below_next ((Below.refl _ _).alloc (Nat.le_refl _) _) hd3)
          clear hrb hd3 b0 b1 b2 b3
          go_wp2_with fail
          refine (sign_q _ _ 0 4 hr3).mono ?_
          rintro e w4 ⟨_, rfl, rfl, hd4⟩
          rw [show sgnQ 0 = 0 from rfl]
          have HZ := hide (below_next HY.out hd4)
          clear hr3 hd4 r0 r1 r2
          go_wp2
          case roundEnd => exact ⟨⟨_, k + 1, by omega, rfl, by go_num, wrap64_lo _, wrap64_hi _, below_next HB.out HZ.out⟩, by simp [intOf]; omega⟩
        · have e1 : decide (m < -1000) = false := by apply decide_eq_false; omega
          have e2 : decide (1000 < m) = false := by apply decide_eq_false; omega
          go_wp2_with fail
          refine (pow_ok _ _ q m hqa hfq (by omega) (by omega) hzero).mono ?_
          rintro e w2 ⟨_, rfl, hd, hor⟩
          rcases hor with ⟨hsm, r, rfl, hr⟩ | ⟨hs, _⟩
          rotate_left
          · exact absurd (powZ_small hfq (by omega) (by omega) hzero) hs
          obtain ⟨t, A3, n3, c3, A4, n4, c4, rfl⟩ := hr.open3
          have hd2 := below_next hd ((Below.refl _ _).alloc (Nat.le_refl _) (.cells #[.bool t, .slice A3 n3 c3, .slice A4 n4 c4] 35))
          obtain ⟨sb, Ab, nb, cb, Bb, mb, db, hxb, hqb⟩ := HQ.out.below hd2
          obtain ⟨b0, b1, b2, b3, _⟩ := four_cells hxb
          have HX := hide (And.intro hr (And.intro hd2 hqb))
          clear hr hd hd2 hsm r0 r1 r2 hxb hqb
          by_cases hneg : m < 0
          · have hq0 : q ≠ 0 := fun e => hzero ⟨hneg, e⟩
            have e3 : decide (m < 0) = true := decide_eq_true hneg
            clear hfar hzero
            go_wp2_with fail
            refine (sgn9_c _ _ q 4 HX.out.2.2).mono ?_
            rintro e w2a ⟨_, rfl, rfl, hd2a⟩
            have HX2 := hide (below_next HX.out.2.1 hd2a)
            have hxa := at_later (at_new w2 (.cells #[.bool t, .slice A3 n3 c3, .slice A4 n4 c4] 35)) hd2a
            have HXA := hide hxa
            have HR2 := hide (HX.out.1.below (below_next ((Below.refl _ _).alloc (Nat.le_refl _) (.cells #[.bool t, .slice A3 n3 c3, .slice A4 n4 c4] 35)) hd2a))
            clear hd2a hxa b0 b1 b2 b3
            rcases sgnQ_ne hq0 with hsg | hsg
            all_goals
              rw [hsg]
              clear hsg
              have e4 : decide (m ≤ 60) = true := by apply decide_eq_true; omega
              by_cases h60 : -60 ≤ m
              · have e5 : decide (-60 ≤ m) = true := decide_eq_true h60
                go_wp2_with fail
                refine (frac9_c _ 1 1 (by omega) (by omega) (by omega) (by omega) (by omega)).mono ?_
                rintro e w3 ⟨_, rfl, hy, hd3⟩
                rw [show Rat.divInt 1 1 = (1 : Rat) from Rat.num_divInt_den 1] at hy
                obtain ⟨sy, Ay, ny, cy, By, my, dy, rfl, _, _⟩ := hy.parts
                obtain ⟨W3, hW3⟩ : ∃ W3, W3 = w3.alloc (.cells #[.bool sy, .slice Ay ny cy, .bool false, .slice By my dy] 41) := ⟨_, rfl⟩
                have hda : Below w3.heap.size w3 W3 := by rw [hW3]; exact (Below.refl _ _).alloc (Nat.le_refl _) _
                have HY := hide (show BoxQ W3 w3.heap.size (powN q 0) 3 from ⟨_, _, _, _, _, _, _, by rw [hW3]; exact at_new _ _, hy.below hda⟩)
                have HD := hide (And.intro hd3 hda)
                have HL := hide hW3
                clear hy hd3 hda hW3
                go_wp2
                rw [← HL.out]
                clear HL
                go_loopw [11] (fun s11 wy => ∃ i : Nat, i ≤ m.natAbs ∧ s11 = .int .i64 i ∧ BoxQ wy w3.heap.size (powN q i) 201 ∧ Below w3.heap.size w3 wy) (fun s11 _ => m.natAbs - (intOf s11).toNat)
                case atStart => exact ⟨0, by omega, rfl, HY.out.more (by omega), HD.out.2⟩
                case round =>
                  obtain ⟨i, hi, rfl, hyb, hby⟩ := hrel
                  have hm9 : (m.natAbs : Int) = -m := by omega
                  by_cases hil : i < m.natAbs
                  · have e6 : decide ((i : Int) < m) = false := by apply decide_eq_false; omega
                    have e7 : decide ((i : Int) < -m) = true := by apply decide_eq_true; omega
                    obtain ⟨sz, Az, nz, cz, Bz, mz, dz, hxz, hqz⟩ := hyb
                    obtain ⟨c0, c1, c2, c3, _⟩ := four_cells hxz
                    have hpb := ((HQ.out.below HX2.out).below HD.out.1).below hby
                    obtain ⟨sx, Ax, nx, cx, Bx, mx, dx, hxx, hqx⟩ := hpb
                    obtain ⟨b0, b1, b2, b3, _⟩ := four_cells hxx
                    have HZ := hide (And.intro hxz (And.intro hqz (And.intro hqx hby)))
                    clear hxz hqz hxx hqx hby
                    go_wp2_with fail
                    refine (times9_c _ _ _ (powN q i) q 201 HZ.out.2.1 (HZ.out.2.2.1.more (by omega)) (by omega)).mono ?_
                    rintro e w5 ⟨_, rfl, hp5, hd5⟩
                    have hp6 := hp5.fit ((hfq.pow i).more (n' := 1800) (by omega))
                    rw [show powN q i * q = powN q (i + 1) from rfl] at hp6
                    obtain ⟨sn, An, nn, cn, Bn, mn, dn, rfl, _, _⟩ := hp5.parts
                    have hby5 := below_next HZ.out.2.2.2 hd5
                    have hyb5 : BoxQ _ w3.heap.size (powN q i) 201 := BoxQ.below ⟨sz, Az, nz, cz, Bz, mz, dz, HZ.out.1, HZ.out.2.1⟩ hd5
                    obtain ⟨_, _, _, _, _, _, _, hxz, _⟩ := id hyb5
                    clear c0 c1 c2 c3 b0 b1 b2 b3
                    obtain ⟨c0, c1, c2, c3, f0, f1, f2, f3⟩ := four_cells hxz
                    have HU := hide (And.intro (hyb5.put4 hp6) hby5)
                    clear hxz hyb5 hp5 hp6 hby5 hd5
                    go_wp2
                    case roundEnd => exact ⟨⟨i + 1, by omega, by go_num, HU.out.1, (((HU.out.2.setCell (Nat.le_refl _) _).setCell (Nat.le_refl _) _).setCell (Nat.le_refl _) _).setCell (Nat.le_refl _) _⟩, by simp [intOf]; omega⟩
                  · have e6 : decide ((i : Int) < m) = false := by apply decide_eq_false; omega
                    have e7 : decide ((i : Int) < -m) = false := by apply decide_eq_false; omega
                    have hie : m.natAbs = i := by omega
                    have hi0 : 1 ≤ i := by omega
                    have hba : Below wr.heap.size wr wr.drew := (Below.refl _ _).drew
                    have hyd := hyb.below hba
                    obtain ⟨sz, Az, nz, cz, Bz, mz, dz, hxz, hqz⟩ := id hyd
                    have hqne := powN_ne hq0 i
                    have hpf := pow_inv60 hfq hq0 i (by omega)
                    have lY : w3.heap.size < wr.drew.heap.size := lt_of_block hxz
                    obtain ⟨k0, k1, k2, k3, _⟩ := four_cells hxz
                    have HBY := hide hby
                    have HPW := hide (show powZ q m = 1 / powN q i by rw [powZ_neg hneg, hie])
                    have HQZ := hide (And.intro hqz (And.intro hyd (And.intro hqne hpf)))
                    have HM := hide (And.intro hm0 (And.intro hm1 (And.intro hm9 h60)))
                    clear hxz hqz hby hie hm9 hil hyb hyd hqne hpf
                    go_wp2_with fail
                    go_region_law (first
                      | (go_simp; go_at_call 48; refine (frac9_c _ 1 1 (by omega) (by omega) (by omega) (by omega) (by omega)).mono ?_; rintro e w5 ⟨u5, rfl, hu5, hd5⟩; rw [show Rat.divInt 1 1 = (1 : Rat) from Rat.num_divInt_den 1] at hu5; have k0 := (hd5.cell (p := ⟨w3.heap.size, 0, none⟩) lY).trans k0; have k1 := (hd5.cell (p := ⟨w3.heap.size, 1, none⟩) lY).trans k1; have k2 := (hd5.cell (p := ⟨w3.heap.size, 2, none⟩) lY).trans k2; have k3 := (hd5.cell (p := ⟨w3.heap.size, 3, none⟩) lY).trans k3)
                      | (go_simp; go_at_call 34; refine (over9_c _ _ _ 1 (powN q i) 201 (hu5.more (by omega)) (HQZ.out.1.below hd5) (by omega) HQZ.out.2.2.1).mono ?_; rintro e w6 ⟨u6, rfl, hu6, hd6⟩;
                          replace hu6 := hu6.fit HQZ.out.2.2.2;
                          obtain ⟨sn, An, nn, cn, Bn, mn, dn, rfl, _, _⟩ := hu6.parts;
                          have hyb6 := (HQZ.out.2.1.below hd5).below hd6;
                          have hdd := below_next hba (below_next hd5 hd6);
                          have HU := hide (And.intro (hyb6.put4 hu6) (below_put4 (B := w3.heap.size) (x := .bool sn) (y := .slice An nn cn) (z := .bool false) (u := .slice Bn mn dn) (below_next HBY.out hdd) (Nat.le_refl _)));
                          clear k0 k1 k2 k3;
                          obtain ⟨_, _, _, _, _, _, _, hxz, _⟩ := id hyb6;
                          obtain ⟨k0, k1, k2, k3, f0, f1, f2, f3⟩ := four_cells hxz;
                          clear hxz hyb6 hu6 hdd))
                    all_goals
                      have hxb := at_later (at_later HXA.out HD.out.1) HU.out.2
                      obtain ⟨r0, r1, r2⟩ := three_cells hxb
                      have hrx := (HR2.out.below HD.out.1).below HU.out.2
                      rw [HPW.out] at hrx
                      have hrf := hrx.fit (L' := 201) HQZ.out.2.2.2.fit
                      obtain ⟨sz9, Az9, nz9, cz9, Bz9, mz9, dz9, hxz9, hqz9⟩ := id HU.out.1
                      clear k0 k1 k2 k3 f0 f1 f2 f3
                      obtain ⟨k0, k1, k2, k3, _⟩ := four_cells hxz9
                      have HZ := hide (And.intro hrf (And.intro hqz9 (below_next HX2.out (below_next HD.out.1 HU.out.2))))
                      clear hd5 hd6 hu5 hxb hrx hrf hxz9 hqz9
                      go_wp2_with fail
                      refine (done_c _ _ _ (1 / powN q i) 201 HZ.out.1 HZ.out.2.1 (by omega)).mono ?_
                      rintro e w7 ⟨_, rfl, rfl, hd7⟩
                      have HB2 := hide (below_next HB.out (below_next HZ.out.2.2 hd7))
                      clear hd7 k0 k1 k2 k3 r0 r1 r2
                      go_wp2
                      case roundEnd => exact ⟨⟨_, k + 1, by omega, rfl, by go_num, wrap64_lo _, wrap64_hi _, HB2.out⟩, by simp [intOf]; omega⟩
              · have e5 : decide (-60 ≤ m) = false := decide_eq_false h60
                have HZ := hide HX2.out
                clear HX
                go_wp2
                case roundEnd => exact ⟨⟨_, k + 1, by omega, rfl, by go_num, wrap64_lo _, wrap64_hi _, below_next HB.out HZ.out⟩, by simp [intOf]; omega⟩
          · have e3 : decide (m < 0) = false := decide_eq_false hneg
            by_cases h60 : m ≤ 60
            · have e4 : decide (m ≤ 60) = true := decide_eq_true h60
              have e5 : decide (-60 ≤ m) = true := by apply decide_eq_true; omega
              clear hfar hzero
              go_wp2_with fail
              refine (frac9_c _ 1 1 (by omega) (by omega) (by omega) (by omega) (by omega)).mono ?_
              rintro e w3 ⟨_, rfl, hy, hd3⟩
              rw [show Rat.divInt 1 1 = (1 : Rat) from Rat.num_divInt_den 1] at hy
              obtain ⟨sy, Ay, ny, cy, By, my, dy, rfl, _, _⟩ := hy.parts
              obtain ⟨W3, hW3⟩ : ∃ W3, W3 = w3.alloc (.cells #[.bool sy, .slice Ay ny cy, .bool false, .slice By my dy] 41) := ⟨_, rfl⟩
              have hda : Below w3.heap.size w3 W3 := by rw [hW3]; exact (Below.refl _ _).alloc (Nat.le_refl _) _
              have HY := hide (show BoxQ W3 w3.heap.size (powN q 0) 3 from ⟨_, _, _, _, _, _, _, by rw [hW3]; exact at_new _ _, hy.below hda⟩)
              have HD := hide (And.intro hd3 hda)
              have HL := hide hW3
              clear hy hd3 hda hW3 b0 b1 b2 b3
              go_wp2
              rw [← HL.out]
              clear HL
              go_loopw [11] (fun s11 wy => ∃ i : Nat, i ≤ m.natAbs ∧ s11 = .int .i64 i ∧ BoxQ wy w3.heap.size (powN q i) 201 ∧ Below w3.heap.size w3 wy) (fun s11 _ => m.natAbs - (intOf s11).toNat)
              case atStart => exact ⟨0, by omega, rfl, HY.out.more (by omega), HD.out.2⟩
              case round =>
                obtain ⟨i, hi, rfl, hyb, hby⟩ := hrel
                have hm9 : (m.natAbs : Int) = m := by omega
                by_cases hil : i < m.natAbs
                · have e6 : decide ((i : Int) < m) = true := by apply decide_eq_true; omega
                  obtain ⟨sz, Az, nz, cz, Bz, mz, dz, hxz, hqz⟩ := hyb
                  obtain ⟨c0, c1, c2, c3, _⟩ := four_cells hxz
                  have hpb := ((HQ.out.below HX.out.2.1).below HD.out.1).below hby
                  obtain ⟨sx, Ax, nx, cx, Bx, mx, dx, hxx, hqx⟩ := hpb
                  obtain ⟨b0, b1, b2, b3, _⟩ := four_cells hxx
                  have HZ := hide (And.intro hxz (And.intro hqz (And.intro hqx hby)))
                  clear hxz hqz hxx hqx hby
                  go_wp2_with fail
                  refine (times9_c _ _ _ (powN q i) q 201 HZ.out.2.1 (HZ.out.2.2.1.more (by omega)) (by omega)).mono ?_
                  rintro e w5 ⟨_, rfl, hp5, hd5⟩
                  have hp6 := hp5.fit ((hfq.pow i).more (n' := 1800) (by omega))
                  rw [show powN q i * q = powN q (i + 1) from rfl] at hp6
                  obtain ⟨sn, An, nn, cn, Bn, mn, dn, rfl, _, _⟩ := hp5.parts
                  have hby5 := below_next HZ.out.2.2.2 hd5
                  have hyb5 : BoxQ _ w3.heap.size (powN q i) 201 := BoxQ.below ⟨sz, Az, nz, cz, Bz, mz, dz, HZ.out.1, HZ.out.2.1⟩ hd5
                  obtain ⟨_, _, _, _, _, _, _, hxz, _⟩ := id hyb5
                  clear c0 c1 c2 c3 b0 b1 b2 b3
                  obtain ⟨c0, c1, c2, c3, f0, f1, f2, f3⟩ := four_cells hxz
                  have HU := hide (And.intro (hyb5.put4 hp6) hby5)
                  clear hxz hyb5 hp5 hp6 hby5 hd5
                  go_wp2
                  case roundEnd => exact ⟨⟨i + 1, by omega, by go_num, HU.out.1, (((HU.out.2.setCell (Nat.le_refl _) _).setCell (Nat.le_refl _) _).setCell (Nat.le_refl _) _).setCell (Nat.le_refl _) _⟩, by simp [intOf]; omega⟩
                · have e6 : decide ((i : Int) < m) = false := by apply decide_eq_false; omega
                  have e7 : decide ((i : Int) < -m) = false := by apply decide_eq_false; omega
                  have hie : m.natAbs = i := by omega
                  obtain ⟨sz, Az, nz, cz, Bz, mz, dz, hxz, hqz⟩ := hyb
                  obtain ⟨k0, k1, k2, k3, _⟩ := four_cells hxz
                  have hxb := at_later (at_later (at_new w2 (.cells #[.bool t, .slice A3 n3 c3, .slice A4 n4 c4] 35)) HD.out.1) hby
                  obtain ⟨r0, r1, r2⟩ := three_cells hxb
                  have hrx := ((HX.out.1.below ((Below.refl _ _).alloc (Nat.le_refl _) (.cells #[.bool t, .slice A3 n3 c3, .slice A4 n4 c4] 35))).below HD.out.1).below hby
                  rw [powZ_pos (by omega), hie] at hrx
                  have hrf := hrx.fit (pow_fit60 hfq i (by omega))
                  have HZ := hide (And.intro hrf (And.intro hqz (below_next HX.out.2.1 (below_next HD.out.1 hby))))
                  have HM := hide (And.intro hm0 (And.intro hm1 (And.intro hm9 h60)))
                  clear hxz hqz hxb hrx hrf hby hie hm9 hil
                  go_wp2_with fail
                  refine (done_c _ _ _ (powN q i) 201 HZ.out.1 HZ.out.2.1 (by omega)).mono ?_
                  rintro e w6 ⟨_, rfl, rfl, hd6⟩
                  have HB2 := hide (below_next HB.out (below_next HZ.out.2.2 hd6))
                  clear hd6 k0 k1 k2 k3 r0 r1 r2
                  go_wp2
                  case roundEnd => exact ⟨⟨_, k + 1, by omega, rfl, by go_num, by omega, by omega, HB2.out⟩, by simp [intOf]; omega⟩
            · have e4 : decide (m ≤ 60) = false := decide_eq_false h60
              clear hfar hzero
              have HZ := hide HX.out.2.1
              clear HX b0 b1 b2 b3
              go_wp2
              case roundEnd => exact ⟨⟨_, k + 1, by omega, rfl, by go_num, by omega, by omega, below_next HB.out HZ.out⟩, by simp [intOf]; omega⟩
    · have hdk : decide ((k : Int) < 2) = false := by apply decide_eq_false; omega
      go_wp2_with fail
      refine (awake_c _).mono ?_
      rintro e w2 ⟨_, rfl, rfl, hd⟩
      have HX := hide (below_next HW.out (below_next HB.out hd))
      clear hd
      go_wp2
      refine bodyPost_ret (v := .bool true) ?_ rfl ?_
      · simp [results, Tryz.results7, go_sem]
      exact ⟨_, rfl, rfl, HX.out⟩
end Go.Proofs.YthnnbpnocefmgaaGreat
