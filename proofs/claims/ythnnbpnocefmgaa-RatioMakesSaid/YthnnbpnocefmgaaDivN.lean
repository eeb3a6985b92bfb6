/- Walks of the reference: long division. -/
import Derived.Test.YthnnbpnocefmgaaDiv9
import Derived.Deep.LoopGhost
namespace Go.Proofs.Ythnnbpnocefmgaa
set_option linter.unusedVariables false
set_option linter.unusedSimpArgs false
open Go.RowKit

def divR9 (w : World) (x y : Int) (L L' : Nat) (v : Value) (w' : World) : Prop := ∃ q r, v = .tuple #[q, r] ∧ LimV w' q (x / y) L ∧ LimV w' r (x % y) L' ∧ Below w.heap.size w w'

theorem LimV.of_new {w : World} {x : Int} (h0 : 0 < x) (h1 : x < 1000000000) : Arr (w.alloc (.cells #[.int .i64 x] 3)) (some ⟨w.heap.size, 0, none⟩) .i64 [x] := Arr.new (xs := [x]) rfl

theorem own_one (w : World) (x : Int) : OwnI (w.alloc (.cells #[.int .i64 x] 3)) w.heap.size 3 .i64 (.slice (some ⟨w.heap.size, 0, none⟩) 1 1) [x] :=
  ⟨rfl, .inr ⟨w.heap.size, 1, #[.int .i64 x], rfl, Nat.le_refl _, heap_alloc_new w _, Nat.le_refl _, by simp [maxLen], rfl, rfl⟩⟩

theorem own_arr {w : World} {base g c n : Nat} {xs : List Int} (h : OwnI w base 3 .i64 (.slice (some ⟨g, 0, none⟩) n c) xs) : Arr w (some ⟨g, 0, none⟩) .i64 xs := by
  obtain ⟨A, c', e, _, _, ha⟩ := h.form
  injection e with e1 e2 e3
  rw [e1]; exact ha

/-- the limbs ahead of which one is put -/
theorem dig_cons9 {x : Int} {rs : List Int} (h0 : 0 ≤ x) (h1 : x < 1000000000) (h : Dig 1000000000 rs) : Dig 1000000000 (x :: rs) := Dig.cons.2 ⟨⟨h0, h1⟩, h⟩

set_option maxRecDepth 100000 in
set_option maxHeartbeats 4000000 in
theorem div9_c (w : World) (v v' : Value) (x y : Int) (L L' : Nat) (hx : LimV w v x L) (hy : LimV w v' y L') (hL : L ≤ 1073741000) (hL' : L' ≤ 1073741000) (hy0 : 0 < y) :
    Calls Try.prog 54 #[v, v'] w (Ret (divR9 w x y L L')) := by
  have HA := hide (And.intro hx hy)
  have hx0 := hx.nonneg
  obtain ⟨A, c, xs, rfl, hc, hm, _⟩ := hx
  obtain ⟨A', c', ys, rfl, hc', hm', ha', hd', hn', hvy, hl'⟩ := hy
  have hyl : 0 < ys.length := by
    rcases Nat.eq_zero_or_pos ys.length with h | h
    · rw [List.eq_nil_of_length_eq_zero h] at hvy; simp [val] at hvy; omega
    · exact h
  obtain ⟨b', o', rfl, hbl', hcell'⟩ := ha'.at_ hyl
  obtain ⟨yt, hyt⟩ : ∃ yt, yt = ys.getD (ys.length - 1) 0 := ⟨_, rfl⟩
  have hyc := hcell' (ys.length - 1) (by omega)
  have hyb := hd'.at_ (k := ys.length - 1) (by omega)
  have hyn := hn'.last hyl
  rw [← hyt] at hyc hyb hyn
  unfold maxLen at hm hm'
  obtain ⟨hyb0, hyb1⟩ := hyb
  have hdv0 : 1 ≤ 1000000000 / (yt + 1) := (Int.le_ediv_iff_mul_le (by omega)).2 (by omega)
  have hdv1 : 1000000000 / (yt + 1) ≤ 1000000000 := Int.ediv_le_self _ (by omega)
  have HY := hide (And.intro hyt (And.intro hvy hyn)); clear hyt hvy hyn hn' hd' ha' hcell'
  obtain ⟨d, hd⟩ : ∃ d, d = 1000000000 / (yt + 1) := ⟨_, rfl⟩
  rw [← hd] at hdv0 hdv1
  have HD := hide hd; clear hd
  go_enter Try.func54, Try.ntmps54
  go_wp2_with fail
  rw [← HD.out]
  refine (tim9_c _ _ x d L HA.out.1 (by omega) (by omega) hdv1).mono ?_
  rintro e w1 ⟨v1, rfl, hv1, hd1⟩
  have HV1 := hide hv1; clear hv1
  go_wp2_with fail
  refine (tim9_c _ _ y d L' (HA.out.2.below hd1) (by omega) (by omega) hdv1).mono ?_
  rintro e w2 ⟨v2, rfl, hv2, hd2⟩
  have hv1 := HV1.out.below hd2
  have hb2 := below_next hd1 hd2
  obtain ⟨X, hX⟩ : ∃ X, X = x * d := ⟨_, rfl⟩
  obtain ⟨Y, hY⟩ : ∃ Y, Y = y * d := ⟨_, rfl⟩
  rw [← hX] at hv1
  rw [← hY] at hv2
  have hY0 : 0 < Y := by rw [hY]; exact Int.mul_pos hy0 (by omega)
  clear HV1 hyc hyb0 hyb1 hbl'
  obtain ⟨A1, c1, zs, rfl, hc1, hm1, ha1, hzd, hzn, hzv, hzl⟩ := hv1.open_
  obtain ⟨A2, c2, us, rfl, hc2, hm2, ha2, hud, hun, huv, hul⟩ := hv2.open_
  have hul0 : 0 < us.length := by
    rcases Nat.eq_zero_or_pos us.length with h | h
    · rw [List.eq_nil_of_length_eq_zero h] at huv; simp [val] at huv; omega
    · exact h
  obtain ⟨b2, o2, rfl, hbl2, hcell2⟩ := ha2.at_ hul0
  obtain ⟨ut, hut⟩ : ∃ ut, ut = us.getD (us.length - 1) 0 := ⟨_, rfl⟩
  have huc := hcell2 (us.length - 1) (by omega)
  have hub := hud.at_ (k := us.length - 1) (by omega)
  rw [← hut] at huc hub
  obtain ⟨hub0, hub1⟩ := hub
  unfold maxLen at hm1 hm2
  have HZ := hide (And.intro hv1 (And.intro ha1 (And.intro hzd (And.intro hzn hzv))))
  have HU := hide (And.intro hv2 (And.intro ha2 (And.intro hud (And.intro hun (And.intro huv hut)))))
  have HX := hide (And.intro hX (And.intro hY hb2))
  clear hv1 ha1 hzd hzn hzv hv2 ha2 hud hun huv hut hX hY hb2 hcell2 hd1 hd2
  have hmk := mk_run Try.limT zs.length (by omega)
  have hu1 : (0 : Int) ≤ (us.length : Int) - 1 := by omega
  have hu2 : (us.length : Int) - 1 < (us.length : Int) := by omega
  go_wp2
  go_loopw [11, 12] (fun s11 s12 wr => ∃ (k : Nat) (os : List Int) (r : Int), k ≤ zs.length ∧ s12 = .int .i64 ((k : Int) - 1) ∧ LimV wr s11 r us.length ∧ Fresh (w2.heap.size + 1) s11 ∧ os.length = zs.length ∧ Dig 1000000000 os ∧
      val 1000000000 (zs.drop k) = val 1000000000 (os.drop k) * Y + r ∧ 0 ≤ r ∧ r < Y ∧ Blk wr w2.heap.size 3 .i64 os ∧ Below w2.heap.size w2 wr ∧ ∀ j, j < k → os.getD j 0 = 0) (fun _ s12 _ => (intOf s12 + 1).toNat)
  case atStart => exact ⟨zs.length, List.replicate zs.length 0, 0, Nat.le_refl _, rfl, LimV.nil _ _, (by intro a l c e; cases e), by simp, Dig.replicate _ (by omega) _, by simp [val], Int.le_refl _, hY0, Blk.new _ _ _ _, (Below.refl _ _).alloc (Nat.le_refl _) _, fun j hj => by simp [List.getD, hj]⟩
  case round =>
    obtain ⟨wo, rfl⟩ : ∃ wo : World, wo = wr := ⟨_, rfl⟩
    obtain ⟨k, os, r, hk, rfl, hr, hfr, hos, hdos, hval, hr0, hr1, hblk, hbel, hzero⟩ := hrel
    by_cases hk0 : 0 < k
    · have hkl : k - 1 < zs.length := by omega
      obtain ⟨b1, o1, rfl, hbl1, hcell1⟩ := HZ.out.2.1.at_ (by omega)
      obtain ⟨z, hz⟩ : ∃ z, z = zs.getD (k - 1) 0 := ⟨_, rfl⟩
      have hzc := (hbel.cell (p := ⟨b1, o1 + (k - 1), none⟩) hbl1).trans (hcell1 (k - 1) hkl)
      have hzx := drop_cons zs (k - 1) hkl
      have hzb := HZ.out.2.2.1.at_ (k := k - 1) hkl
      rw [← hz] at hzb hzc hzx
      obtain ⟨hzb0, hzb1⟩ := hzb
      obtain ⟨Ar, cr, rs, rfl, hcr, hmr, har, hrd, hrn, hrv, hrl⟩ := hr.open_
      have HR := hide (And.intro hr (And.intro har (And.intro hrd (And.intro hrn (And.intro hrv (And.intro hval (And.intro hos (And.intro hdos (And.intro hblk (And.intro hbel (And.intro hzx (And.intro hz (And.intro hfr (And.intro hmr hzero))))))))))))))
      clear hr har hrd hrn hrv hval hos hdos hblk hzx hz hcell1 hmk hmr hfr hzero
      have hbs : w2.heap.size ≤ wo.heap.size := hbel.size
      go_wp2_with (at_builtin; refine appN Try.limT _ rfl _ _ rfl wo.heap.size _ [z] rs rfl (own_one wo z) _ cr rfl (HR.out.2.1.below ((Below.refl _ _).alloc (Nat.le_refl _) _)) (by simp) (by simp; omega) (by simp) (z :: rs) rfl ?_; intro g3 c3 w3 hown3 hc3 hm3 hg3 hd3)
      have hb3 : Below wo.heap.size wo w3 := ((Below.refl _ _).alloc (Nat.le_refl _) _).trans hd3
      have harr3 := hown3.form
      have hfr3 := hown3.fresh
      have HO := hide (And.intro hown3 (And.intro harr3 (And.intro hfr3 (And.intro hc3 (And.intro hm3 hb3))))); clear hown3 harr3 hfr3 hc3 hm3 hd3 hb3
      have hdg : Dig 1000000000 (z :: rs) := dig_cons9 hzb0 hzb1 HR.out.2.2.1
      refine (trim9_c _ _ _ _ (z :: rs) rfl (own_arr HO.out.1) HO.out.2.2.2.1 HO.out.2.2.2.2.1).mono ?_
      rintro e w4 ⟨_, rfl, nn, hnn, rfl, rfl⟩
      have hr4 := LimV.of_trim (own_arr HO.out.1) hdg HO.out.2.2.2.1 HO.out.2.2.2.2.1 hnn
      obtain ⟨T, hT⟩ : ∃ T, T = z + 1000000000 * r := ⟨_, rfl⟩
      have hTv : val 1000000000 (z :: rs) = T := by rw [hT, ← HR.out.2.2.2.2.1]; rfl
      rw [hTv] at hr4
      have hT0 : 0 ≤ T := by rw [hT]; omega
      have hTY : T < Y * 1000000000 := by rw [hT]; omega
      have hYb : Y < 1000000000 ^ us.length := by have := val_lt (B := 1000000000) (by omega) HU.out.2.2.1; rw [HU.out.2.2.2.2.1] at this; exact this
      replace hr4 := hr4.fit (L' := us.length + 1) (by rw [Int.pow_succ]; omega)
      have hfr4 : Fresh (w2.heap.size + 1) (.slice (some ⟨g3, 0, none⟩) nn c3) := by
        have h1 := HO.out.2.2.1
        have h2 := HR.out.2.2.2.2.2.2.2.2.1.lt
        exact (h1.mono (by omega)).len
      have hb4 : Below w2.heap.size w2 w3 := HR.out.2.2.2.2.2.2.2.2.2.1.trans (HO.out.2.2.2.2.2.mono hbs)
      have hset : os.set (k - 1) 0 = os := by
        have h1 := HR.out.2.2.2.2.2.2.2.2.2.2.2.2.2.2 (k - 1) (by omega)
        apply List.ext_getElem (by simp)
        intro i h2 h3
        rw [List.getElem_set]
        split
        · rename_i h4; subst h4; rw [List.getD, List.getElem?_eq_getElem h3] at h1; simpa using h1.symm
        · rfl
      have hblk4 : Blk w3 w2.heap.size 3 .i64 (os.set (k - 1) 0) := by rw [hset]; exact HR.out.2.2.2.2.2.2.2.2.1.below HO.out.2.2.2.2.2 HR.out.2.2.2.2.2.2.2.2.1.lt
      have HT := hide (And.intro hr4 (And.intro hfr4 (And.intro hb4 (And.intro hblk4 (And.intro hT hnn)))))
      have HYB := hide hYb
      clear hr4 hfr4 hb4 hblk4 hT hnn hset hdg hTv hYb hzc
      go_wp2
      go_loopg [11] (T.toNat) (fun g s11 wr => ∃ (t q : Int), LimV wr s11 t (us.length + 1) ∧ Fresh (w2.heap.size + 1) s11 ∧ g = t.toNat ∧ 0 ≤ q ∧ T = q * Y + t ∧ 0 ≤ t ∧ Blk wr w2.heap.size 3 .i64 (os.set (k - 1) q) ∧ Below w2.heap.size w2 wr)
      case atStart => exact ⟨T, 0, HT.out.1, HT.out.2.1, rfl, Int.le_refl _, by omega, hT0, HT.out.2.2.2.1, HT.out.2.2.1⟩
      case round =>
        obtain ⟨w5, rfl⟩ : ∃ w5 : World, w5 = wr := ⟨_, rfl⟩
        obtain ⟨t, q, ht, hft, rfl, hq0, hTq, ht0, hbq, hb5⟩ := hrel
        by_cases hlt : t < Y
        · have hsg := sgn_lt hlt
          have hv2 := HU.out.1.below hb5
          have HH := hide (And.intro ht (And.intro hft (And.intro hTq (And.intro hbq (And.intro hb5 hsg))))); clear ht hft hTq hbq hb5 hsg
          obtain ⟨At, ct, ts, rfl, _⟩ := HH.out.1.open_
          have HV2 := hide hv2; clear hv2
          go_wp2_with fail
          refine (lcmp_c _ _ _ t Y _ _ HH.out.1 HV2.out).mono ?_
          rintro e w6 ⟨_, rfl, rfl, m, rfl⟩
          rw [HH.out.2.2.2.2.2]
          go_wp2
          go_roundw
          case rel =>
            obtain ⟨h1, h2, h3, h4, h5, _⟩ := HH.out
            have hbd := (Below.refl w5.heap.size w5)
            have hqB := div9_q Y q t T hY0 h3 ht0 hTY
            have hol := HR.out.2.2.2.2.2.2.1
            refine ⟨k - 1, os.set (k - 1) q, t, by omega, by go_num, ?_, h2, by rw [List.length_set]; exact hol, HR.out.2.2.2.2.2.2.2.1.set_ _ hq0 hqB, ?_, ht0, hlt, h4.keep (below_drewN hbd m), below_drewN h5 m, ?_⟩
            · exact (h1.below (below_drewN hbd m)).fit (Int.lt_trans hlt HYB.out)
            · rw [HR.out.2.2.2.2.2.2.2.2.2.2.1, drop_set_cons _ _ _ (by rw [hol]; omega), show k - 1 + 1 = k by omega]
              simp only [val]
              rw [HR.out.2.2.2.2.2.1]
              exact div9_step _ _ _ _ _ _ _ HT.out.2.2.2.2.1 h3
            · intro j hj
              rw [getD_set_ne (by omega)]
              exact HR.out.2.2.2.2.2.2.2.2.2.2.2.2.2.2 j (by omega)
          case measure => simp [intOf]; omega
        · obtain ⟨sg, hsg, hsg0⟩ : ∃ sg, sgn t Y = sg ∧ 0 ≤ sg := by
            rcases Int.lt_or_eq_of_le (show Y ≤ t by omega) with h | h
            · exact ⟨1, sgn_gt h, by omega⟩
            · exact ⟨0, sgn_eq h.symm, by omega⟩
          have hv2 := HU.out.1.below hb5
          obtain ⟨At, ct, ts, rfl, hct, hmt, hta, htd, htn, htv, htl⟩ := ht.open_
          have hul : us.length ≤ ts.length := by
            rcases Nat.lt_or_ge ts.length us.length with h | h
            · have := val_lt_of_length (B := 1000000000) (by omega) htd HU.out.2.2.1 HU.out.2.2.2.1 h
              rw [htv, HU.out.2.2.2.2.1] at this; omega
            · exact h
          obtain ⟨bt, ot, rfl, hbt, hct2⟩ := hta.at_ (by omega)
          have HH := hide (And.intro ht (And.intro hft (And.intro hTq (And.intro hbq (And.intro hb5 (And.intro hsg (And.intro hv2 (And.intro htd (And.intro htv hct2))))))))); clear ht hft hTq hbq hb5 hsg hv2 htd htv hta htn hct2
          unfold maxLen at hmt
          go_wp2_with fail
          refine (lcmp_c _ _ _ t Y _ _ HH.out.1 HH.out.2.2.2.2.2.2.1).mono ?_
          rintro e w6 ⟨_, rfl, rfl, m, rfl⟩
          rw [HH.out.2.2.2.2.2.1]
          go_wp2
          go_loop [14, 15] (fun s14 s15 => ∃ j : Nat, us.length ≤ j + 1 ∧ j ≤ ts.length ∧ s15 = .int .i64 ((j : Int) - 1) ∧ s14 = .int .i64 (val 1000000000 (ts.drop j))) (fun _ s15 => (intOf s15 + 1).toNat)
          case atStart => exact ⟨ts.length, by omega, Nat.le_refl _, rfl, by rw [List.drop_length]; rfl⟩
          case round =>
            obtain ⟨j, hj0, hj1, rfl, rfl⟩ := hrel
            have hV0 := val_nonneg (B := 1000000000) (by omega) (HH.out.2.2.2.2.2.2.2.1.drop j)
            by_cases hjl : us.length ≤ j
            · have hV1 : val 1000000000 (ts.drop j) ≤ 999999999 := by
                have h1 := val_lt (B := 1000000000) (by omega) (HH.out.2.2.2.2.2.2.2.1.drop j)
                have h2 := pow_le_pow' (B := 1000000000) (by omega) (show (ts.drop j).length ≤ 1 by rw [List.length_drop]; omega)
                omega
              obtain ⟨dd, hdd⟩ : ∃ dd, dd = ts.getD (j - 1) 0 := ⟨_, rfl⟩
              have hdc := HH.out.2.2.2.2.2.2.2.2.2 (j - 1) (by omega)
              have hdb := HH.out.2.2.2.2.2.2.2.1.at_ (k := j - 1) (by omega)
              have hdx := drop_cons ts (j - 1) (by omega)
              rw [← hdd] at hdc hdb hdx
              obtain ⟨hdb0, hdb1⟩ := hdb
              have HJ := hide (And.intro hdd hdx); clear hdd hdx
              have hnext : val 1000000000 (ts.drop (j - 1)) = val 1000000000 (ts.drop j) * 1000000000 + dd := by
                rw [HJ.out.2, show j - 1 + 1 = j by omega]; simp only [val]; omega
              have HN := hide hnext; clear hnext
              generalize val 1000000000 (ts.drop j) = V at *
              go_wp2
              go_round
              case rel => exact ⟨j - 1, by omega, by omega, by go_num, by rw [HN.out]⟩
              case measure => simp [intOf]; omega
            · obtain ⟨top, htop⟩ : ∃ top, top = val 1000000000 (ts.drop j) := ⟨_, rfl⟩
              have hjj : j = us.length - 1 := by omega
              have htopb : top ≤ 999999999999999999 := by
                have h1 := val_lt (B := 1000000000) (by omega) (HH.out.2.2.2.2.2.2.2.1.drop j)
                have h2 := pow_le_pow' (B := 1000000000) (by omega) (show (ts.drop j).length ≤ 2 by rw [List.length_drop]; omega)
                rw [htop]; omega
              rw [← htop] at hV0 ⊢
              have hg1 : 0 ≤ top / (ut + 1) := Int.ediv_nonneg hV0 (by omega)
              have hg2 : top / (ut + 1) ≤ 999999999999999999 := Int.le_trans (Int.ediv_le_self _ hV0) htopb
              have HJ := hide (And.intro htop hjj); clear htop hjj
              obtain ⟨qn, hqn⟩ : ∃ qn, qn = top / (ut + 1) := ⟨_, rfl⟩
              rw [← hqn] at hg1 hg2
              have hqd : top / (ut + 1) = qn := hqn.symm
              have HQN := hide hqn; clear hqn
              rcases (show 999999999 ≤ qn ∨ (1 < qn ∧ qn < 999999999) ∨ qn ≤ 1 by omega) with h | ⟨h, h'⟩ | h
              · have hgm : guess9 top (ut + 1) = 999999999 := by unfold guess9; rw [← HQN.out]; omega
                have HG := hide hgm; clear hgm
                go_wp2_with fail
                refine (tim9_c _ _ Y 999999999 (L' + 1) (HH.out.2.2.2.2.2.2.1.below (below_drewN (Below.refl _ _) m)) (by omega) (by omega) (by omega)).mono ?_
                rintro e w7 ⟨v7, rfl, hv7, hd7⟩
                rw [← HG.out] at hv7
                have hb7 : Below w5.heap.size w5 w7 := (below_drewN (Below.refl _ _) m).trans hd7
                have hle : Y * guess9 top (ut + 1) ≤ t := by
                  have h1 := guess9_le ts us HH.out.2.2.2.2.2.2.2.1 HU.out.2.2.1 hul0 hul (by rw [HU.out.2.2.2.2.1, HH.out.2.2.2.2.2.2.2.2.1]; omega)
                  rw [HU.out.2.2.2.2.1, HH.out.2.2.2.2.2.2.2.2.1, ← HJ.out.2, ← HJ.out.1, HJ.out.2, ← HU.out.2.2.2.2.2] at h1
                  exact h1
                have HV7 := hide (And.intro hv7 (And.intro hb7 hle)); clear hv7 hb7 hle
                go_wp2_with fail
                refine (sub9_c _ _ _ t _ (us.length + 1) _ (HH.out.1.below HV7.out.2.1) HV7.out.1 (by omega) HV7.out.2.2).mono ?_
                rintro e w8 ⟨v8, rfl, hv8, hd8, hf8⟩
                have hb8 := below_next HV7.out.2.1 hd8
                have hbq8 : Blk w8 w2.heap.size 3 .i64 (os.set (k - 1) q) := HH.out.2.2.2.1.keep hb8
                have hqc := hbq8.cell (j := k - 1) (by rw [List.length_set, HR.out.2.2.2.2.2.2.1]; omega)
                rw [getD_set_eq (by rw [HR.out.2.2.2.2.2.2.1]; omega)] at hqc
                have hqf := hbq8.frozen (k - 1)
                have hqB := div9_q Y q t T hY0 HH.out.2.2.1 ht0 hTY
                have hff : Fresh (w2.heap.size + 1) v8 := hf8.mono (by have h1 := HH.out.2.2.2.2.1.size; have h2 := HV7.out.2.1.size; have h3 := HH.out.2.2.2.1.lt; omega)
                have H8 := hide (And.intro hv8 (And.intro hb8 (And.intro hbq8 hff))); clear hv8 hb8 hbq8 hff hf8 hd7 hd8
                go_wp2
                go_roundg (t - Y * guess9 top (ut + 1)).toNat
                case measure =>
                  have h1 := HV7.out.2.2
                  have h2 := guess9_bd top (ut + 1)
                  have h3 : Y * 1 ≤ Y * guess9 top (ut + 1) := Int.mul_le_mul_of_nonneg_left h2.1 (by omega)
                  omega
                case rel =>
                  have h1 := HV7.out.2.2
                  refine ⟨t - Y * guess9 top (ut + 1), q + guess9 top (ut + 1), H8.out.1.put H8.out.2.2.2 (Nat.lt_succ_self _), H8.out.2.2.2, rfl, ?_, ?_, by omega, ?_, (HH.out.2.2.2.2.1.trans (H8.out.2.1.mono HH.out.2.2.2.2.1.size)).setCell (Nat.le_refl _) _⟩
                  · have := (guess9_bd top (ut + 1)).1; omega
                  · have h2 := HH.out.2.2.1
                    rw [Int.add_mul, Int.mul_comm (guess9 top (ut + 1)) Y]; omega
                  · have h2 := H8.out.2.2.1.set_ (k - 1) (q + guess9 top (ut + 1))
                    rw [List.set_set, HG.out] at h2
                    rw [HG.out]
                    exact h2
              · have hgm : guess9 top (ut + 1) = qn := by unfold guess9; rw [← HQN.out]; omega
                have HG := hide hgm; clear hgm
                go_wp2_with fail
                refine (tim9_c _ _ Y qn (L' + 1) (HH.out.2.2.2.2.2.2.1.below (below_drewN (Below.refl _ _) m)) (by omega) (by omega) (by omega)).mono ?_
                rintro e w7 ⟨v7, rfl, hv7, hd7⟩
                rw [← HG.out] at hv7
                have hb7 : Below w5.heap.size w5 w7 := (below_drewN (Below.refl _ _) m).trans hd7
                have hle : Y * guess9 top (ut + 1) ≤ t := by
                  have h1 := guess9_le ts us HH.out.2.2.2.2.2.2.2.1 HU.out.2.2.1 hul0 hul (by rw [HU.out.2.2.2.2.1, HH.out.2.2.2.2.2.2.2.2.1]; omega)
                  rw [HU.out.2.2.2.2.1, HH.out.2.2.2.2.2.2.2.2.1, ← HJ.out.2, ← HJ.out.1, HJ.out.2, ← HU.out.2.2.2.2.2] at h1
                  exact h1
                have HV7 := hide (And.intro hv7 (And.intro hb7 hle)); clear hv7 hb7 hle
                go_wp2_with fail
                refine (sub9_c _ _ _ t _ (us.length + 1) _ (HH.out.1.below HV7.out.2.1) HV7.out.1 (by omega) HV7.out.2.2).mono ?_
                rintro e w8 ⟨v8, rfl, hv8, hd8, hf8⟩
                have hb8 := below_next HV7.out.2.1 hd8
                have hbq8 : Blk w8 w2.heap.size 3 .i64 (os.set (k - 1) q) := HH.out.2.2.2.1.keep hb8
                have hqc := hbq8.cell (j := k - 1) (by rw [List.length_set, HR.out.2.2.2.2.2.2.1]; omega)
                rw [getD_set_eq (by rw [HR.out.2.2.2.2.2.2.1]; omega)] at hqc
                have hqf := hbq8.frozen (k - 1)
                have hqB := div9_q Y q t T hY0 HH.out.2.2.1 ht0 hTY
                have hff : Fresh (w2.heap.size + 1) v8 := hf8.mono (by have h1 := HH.out.2.2.2.2.1.size; have h2 := HV7.out.2.1.size; have h3 := HH.out.2.2.2.1.lt; omega)
                have H8 := hide (And.intro hv8 (And.intro hb8 (And.intro hbq8 hff))); clear hv8 hb8 hbq8 hff hf8 hd7 hd8
                go_wp2
                go_roundg (t - Y * guess9 top (ut + 1)).toNat
                case measure =>
                  have h1 := HV7.out.2.2
                  have h2 := guess9_bd top (ut + 1)
                  have h3 : Y * 1 ≤ Y * guess9 top (ut + 1) := Int.mul_le_mul_of_nonneg_left h2.1 (by omega)
                  omega
                case rel =>
                  have h1 := HV7.out.2.2
                  refine ⟨t - Y * guess9 top (ut + 1), q + guess9 top (ut + 1), H8.out.1.put H8.out.2.2.2 (Nat.lt_succ_self _), H8.out.2.2.2, rfl, ?_, ?_, by omega, ?_, (HH.out.2.2.2.2.1.trans (H8.out.2.1.mono HH.out.2.2.2.2.1.size)).setCell (Nat.le_refl _) _⟩
                  · have := (guess9_bd top (ut + 1)).1; omega
                  · have h2 := HH.out.2.2.1
                    rw [Int.add_mul, Int.mul_comm (guess9 top (ut + 1)) Y]; omega
                  · have h2 := H8.out.2.2.1.set_ (k - 1) (q + guess9 top (ut + 1))
                    rw [List.set_set, HG.out] at h2
                    rw [HG.out]
                    exact h2
              · have hgm : guess9 top (ut + 1) = 1 := by unfold guess9; rw [← HQN.out]; omega
                have HG := hide hgm; clear hgm
                go_wp2_with fail
                refine (tim9_c _ _ Y 1 (L' + 1) (HH.out.2.2.2.2.2.2.1.below (below_drewN (Below.refl _ _) m)) (by omega) (by omega) (by omega)).mono ?_
                rintro e w7 ⟨v7, rfl, hv7, hd7⟩
                rw [← HG.out] at hv7
                have hb7 : Below w5.heap.size w5 w7 := (below_drewN (Below.refl _ _) m).trans hd7
                have hle : Y * guess9 top (ut + 1) ≤ t := by
                  have h1 := guess9_le ts us HH.out.2.2.2.2.2.2.2.1 HU.out.2.2.1 hul0 hul (by rw [HU.out.2.2.2.2.1, HH.out.2.2.2.2.2.2.2.2.1]; omega)
                  rw [HU.out.2.2.2.2.1, HH.out.2.2.2.2.2.2.2.2.1, ← HJ.out.2, ← HJ.out.1, HJ.out.2, ← HU.out.2.2.2.2.2] at h1
                  exact h1
                have HV7 := hide (And.intro hv7 (And.intro hb7 hle)); clear hv7 hb7 hle
                go_wp2_with fail
                refine (sub9_c _ _ _ t _ (us.length + 1) _ (HH.out.1.below HV7.out.2.1) HV7.out.1 (by omega) HV7.out.2.2).mono ?_
                rintro e w8 ⟨v8, rfl, hv8, hd8, hf8⟩
                have hb8 := below_next HV7.out.2.1 hd8
                have hbq8 : Blk w8 w2.heap.size 3 .i64 (os.set (k - 1) q) := HH.out.2.2.2.1.keep hb8
                have hqc := hbq8.cell (j := k - 1) (by rw [List.length_set, HR.out.2.2.2.2.2.2.1]; omega)
                rw [getD_set_eq (by rw [HR.out.2.2.2.2.2.2.1]; omega)] at hqc
                have hqf := hbq8.frozen (k - 1)
                have hqB := div9_q Y q t T hY0 HH.out.2.2.1 ht0 hTY
                have hff : Fresh (w2.heap.size + 1) v8 := hf8.mono (by have h1 := HH.out.2.2.2.2.1.size; have h2 := HV7.out.2.1.size; have h3 := HH.out.2.2.2.1.lt; omega)
                have H8 := hide (And.intro hv8 (And.intro hb8 (And.intro hbq8 hff))); clear hv8 hb8 hbq8 hff hf8 hd7 hd8
                go_wp2
                go_roundg (t - Y * guess9 top (ut + 1)).toNat
                case measure =>
                  have h1 := HV7.out.2.2
                  have h2 := guess9_bd top (ut + 1)
                  have h3 : Y * 1 ≤ Y * guess9 top (ut + 1) := Int.mul_le_mul_of_nonneg_left h2.1 (by omega)
                  omega
                case rel =>
                  have h1 := HV7.out.2.2
                  refine ⟨t - Y * guess9 top (ut + 1), q + guess9 top (ut + 1), H8.out.1.put H8.out.2.2.2 (Nat.lt_succ_self _), H8.out.2.2.2, rfl, ?_, ?_, by omega, ?_, (HH.out.2.2.2.2.1.trans (H8.out.2.1.mono HH.out.2.2.2.2.1.size)).setCell (Nat.le_refl _) _⟩
                  · have := (guess9_bd top (ut + 1)).1; omega
                  · have h2 := HH.out.2.2.1
                    rw [Int.add_mul, Int.mul_comm (guess9 top (ut + 1)) Y]; omega
                  · have h2 := H8.out.2.2.1.set_ (k - 1) (q + guess9 top (ut + 1))
                    rw [List.set_set, HG.out] at h2
                    rw [HG.out]
                    exact h2
    · obtain rfl : k = 0 := by omega
      simp only [List.drop_zero] at hval
      have HR := hide (And.intro hr (And.intro hval (And.intro hos (And.intro hdos (And.intro hblk hbel))))); clear hr hval hos hdos hblk hbel hzero hfr
      obtain ⟨Ar, cr, rs, rfl, _⟩ := HR.out.1.open_
      have hml : zs.length ≤ maxLen := by unfold maxLen; omega
      clear hmk
      go_wp2_with fail
      refine (small9_c _ _ r d us.length HR.out.1 (by omega) (by omega) hdv1).mono ?_
      rintro e w3 ⟨_, rfl, s, rfl, hs, hd3⟩
      have hb3 := HR.out.2.2.2.2.1.keep hd3
      have HS := hide (And.intro hs (And.intro hb3 hd3)); clear hs hb3 hd3
      go_wp2_with fail
      refine (trim9_c _ _ _ _ os HR.out.2.2.1 HS.out.2.1.arr (Nat.le_refl _) hml).mono ?_
      rintro e w4 ⟨_, rfl, nn, hnn, rfl, rfl⟩
      have HN := hide hnn; clear hnn
      go_wp2
      go_ret2
      have hq := LimV.of_trim HS.out.2.1.arr HR.out.2.2.2.1 (by rw [HR.out.2.2.1]; exact Nat.le_refl _) hml HN.out
      have he := div9_end x y d (val 1000000000 os) r (by omega) hy0 (by rw [← HX.out.1, ← HX.out.2.1, ← HZ.out.2.2.2.2]; exact HR.out.2.1) hr0 (by rw [← HX.out.2.1]; exact hr1)
      have hxl := HA.out.1.lt
      have hyl := HA.out.2.lt
      have hdx : x / y ≤ x := Int.ediv_le_self _ hx0
      have hmy : x % y < y := Int.emod_lt_of_pos _ hy0
      refine ⟨_, rfl, _, _, rfl, ?_, ?_, ?_⟩
      · rw [he.1] at hq; exact hq.fit (by omega)
      · have h1 := HS.out.1
        rw [he.2] at h1; exact h1.fit (by omega)
      · exact (HX.out.2.2.trans (HR.out.2.2.2.2.2.mono HX.out.2.2.size)).trans (HS.out.2.2.mono (Nat.le_trans HX.out.2.2.size HR.out.2.2.2.2.2.size))
end Go.Proofs.Ythnnbpnocefmgaa
