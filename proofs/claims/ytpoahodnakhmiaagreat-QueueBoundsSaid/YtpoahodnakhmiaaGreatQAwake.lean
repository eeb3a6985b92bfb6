/- Shops: those of the law open; the law's own example. No walk. Walks: awake of the law. -/
import Derived.Test.YtpoahodnakhmiaaGreatQChance
import Derived.Test.YtpoahodnakhmiaaGreatOpenJ
import Derived.Test.YtpoahodnakhmiaaGreatQGive
namespace Go.Proofs.YtpoahodnakhmiaaGreat
set_option linter.unusedVariables false
set_option linter.unusedSimpArgs false
theorem TameS.shopG {n : Nat} {a b : Nat → Nat} {c : Nat → Nat → Nat} (h : TameS n a b c) : ShopG n (tR n a b) (tW n c) where
  ok := h.openOK 3000 (by omega) (by omega)
  len := h.loads_len
  vlen := by rw [h.visE, visV_length n _ h.pos]
  ld := h.ldOK.congr (fun i hi => h.loads_get i hi)
  rf i hi := by rw [tR_get n a b i hi]; exact (h.rate_fit i).more (by omega)
/-- the law's example: two stations, one after the other, of rates 1 and 2 -/
def aA (i : Nat) : Nat := if i = 0 then 1 else 2
def bA (_ : Nat) : Nat := 1
def cA (i j : Nat) : Nat := if i = j then 0 else 1
theorem tameA : TameS 2 aA bA cA where
  pos := by omega
  n6 := by omega
  ra i := by unfold aA; split <;> omega
  rb i := by unfold bA; omega
  cw i j _ _ := by unfold cA; split <;> omega
  next i hi := by
    rcases (show i = 0 ∨ i = 1 by omega) with e | e <;> subst e <;> decide
theorem rateA0 : rateT aA bA 0 = 1 := by decide +kernel
theorem rateA1 : rateT aA bA 1 = 2 := by decide +kernel
theorem tRA : tR 2 aA bA = [1, 2] := by
  show [rateT aA bA 0, rateT aA bA 1] = [1, 2]
  rw [rateA0, rateA1]
theorem wayA (i j : Nat) (hi : i < 2) (hj : j < 2) : wayT 2 cA i j = if i = j then 0 else 1 := by
  rcases (show i = 0 ∨ i = 1 by omega) with e | e <;> subst e <;> rcases (show j = 0 ∨ j = 1 by omega) with e | e <;> subst e <;> decide +kernel
theorem tWA : tW 2 cA = [[0, 1], [1, 0]] := by
  show [[wayT 2 cA 0 0, wayT 2 cA 0 1], [wayT 2 cA 1 0, wayT 2 cA 1 1]] = _
  rw [wayA 0 0 (by omega) (by omega), wayA 0 1 (by omega) (by omega), wayA 1 0 (by omega) (by omega), wayA 1 1 (by omega) (by omega)]
  rfl
theorem visA : (visV 2 (wayT 2 cA)).getD 0 0 = 1 ∧ (visV 2 (wayT 2 cA)).getD 1 0 = 1 := by
  obtain ⟨h1, h2⟩ := tameA.ring.sol tameA.sys
  refine ⟨h2, ?_⟩
  have h3 := h1 1 (by omega)
  simp only [sumN] at h3
  rw [wayA 0 1 (by omega) (by omega), wayA 1 1 (by omega) (by omega), h2] at h3
  rw [h3, if_neg (by omega), if_pos rfl]; grind
theorem ldA0 : ldF 2 [1, 2] [[0, 1], [1, 0]] 0 = 1 := by
  have h := tameA.loads_get 0 (by omega)
  rw [tRA, tWA] at h
  show (loadsV _ _).getD 0 0 = _
  rw [h, TameS.load, visA.1, rateA0]; decide +kernel
theorem ldA1 : ldF 2 [1, 2] [[0, 1], [1, 0]] 1 = 1 / 2 := by
  have h := tameA.loads_get 1 (by omega)
  rw [tRA, tWA] at h
  show (loadsV _ _).getD 1 0 = _
  rw [h, TameS.load, visA.2, rateA1]
theorem shopA : ShopG 2 [1, 2] [[0, 1], [1, 0]] := by
  have h := tameA.shopG
  rwa [tRA, tWA] at h
theorem gA1 : gN (ldF 2 [1, 2] [[0, 1], [1, 0]]) 2 1 = 3 / 2 := by
  simp only [gN_step, gN_zero, gN_none, ldA0, ldA1]; decide +kernel
theorem gA2 : gN (ldF 2 [1, 2] [[0, 1], [1, 0]]) 2 2 = 7 / 4 := by
  simp only [gN_step, gN_zero, gN_none, ldA0, ldA1]; decide +kernel
theorem stA : stOf [1, 1] = [1, 1, 0, 0, 0, 0, 0, 0] := by decide
theorem chA : chQ (ldF 2 [1, 2] [[0, 1], [1, 0]]) 2 (stOf [1, 1]) = 2 / 7 := by
  rw [stA]
  unfold chQ
  rw [show (([1, 1, 0, 0, 0, 0, 0, 0] : List Int).sum).toNat = 2 from rfl, gA2, wtQ_step, wtQ_step]
  show 1 * (powN (ldF 2 [1, 2] [[0, 1], [1, 0]] 0) 1) * (powN (ldF 2 [1, 2] [[0, 1], [1, 0]] 1) 1) / (7 / 4) = 2 / 7
  rw [ldA0, ldA1]; decide +kernel
theorem spA : spQ 2 [1, 2] [[0, 1], [1, 0]] 0 2 = 6 / 7 := by
  unfold spQ atQ
  rw [if_neg (by omega), if_neg (by omega), show ((2 : Int) - 1).toNat = 1 from rfl, show (2 : Int).toNat = 2 from rfl, show (1 : Int).toNat = 1 from rfl, gA1, gA2, ldA0]
  decide +kernel
theorem textA1 : str (ratText (7 / 4)) = ByteArray.mk #[55, 47, 52] := by decide +kernel
theorem textA2 : str (ratText (2 / 7)) = ByteArray.mk #[50, 47, 55] := by decide +kernel
theorem textA3 : str (ratText (6 / 7)) = ByteArray.mk #[54, 47, 55] := by decide +kernel
end Go.Proofs.YtpoahodnakhmiaaGreat
namespace Go.Proofs.YtpoahodnakhmiaaGreat
set_option linter.unusedVariables false
set_option linter.unusedSimpArgs false
open Go.RowKit
set_option maxRecDepth 100000 in
set_option maxHeartbeats 4000000 in
theorem awake_q (w : World) :
    Calls Tryz.prog 25 #[] w (Ret (fun v w' => v = .bool true ∧ Below w.heap.size w w')) := by
  go_enter Tryz.func25, Tryz.ntmps25
  go_wp2_with fail
  refine (of_c _ 1 (by omega) (by omega)).mono ?_
  rintro e w1 ⟨v1, rfl, hr1, hd1⟩
  replace hr1 : RatV w1 v1 1 3000 := hr1.more (by omega)
  obtain ⟨s1, A1, n1, c1, B1, m1, d1, rfl⟩ := hr1.shape
  have H1 := hide (And.intro hr1 hd1)
  clear hr1 hd1
  go_wp2_with fail
  refine (of_c _ 2 (by omega) (by omega)).mono ?_
  rintro e w2 ⟨v2, rfl, hr2, hd2⟩
  replace hr2 : RatV w2 v2 2 3000 := hr2.more (by omega)
  obtain ⟨s2, A2, n2, c2, B2, m2, d2, rfl⟩ := hr2.shape
  obtain ⟨W, hW⟩ : ∃ W, W = (w2.alloc (.cells #[.bool s1, .slice A1 n1 c1, .slice B1 m1 d1] 43)).alloc (.cells #[.bool s2, .slice A2 n2 c2, .slice B2 m2 d2] 43) := ⟨_, rfl⟩
  have hbW : Below w2.heap.size w2 W := by rw [hW]; exact below_al (below_al (Below.refl _ _) _) _
  have hx1 : W.heap[w2.heap.size]? = some (.cells #[.bool s1, .slice A1 n1 c1, .slice B1 m1 d1] 43) := by rw [hW]; exact at_later (at_new w2 _) (below_al (Below.refl _ _) _)
  have hx2 : W.heap[w2.heap.size + 1]? = some (.cells #[.bool s2, .slice A2 n2 c2, .slice B2 m2 d2] 43) := by rw [hW]; exact at_new' _ (by simp)
  obtain ⟨x0, x1, x2⟩ := three_cells hx1
  obtain ⟨y0, y1, y2⟩ := three_cells hx2
  have hq1 := (H1.out.1.below hd2).below hbW
  have hq2 := hr2.below hbW
  have hq0 : RatV W (.agg #[.bool false, .slice none 0 0, .slice none 0 0]) 0 3000 := ⟨_, _, rfl, NatV.nil _ _, NatV.nil _ _⟩
  have hbw := below_next (below_next H1.out.2 hd2) hbW
  -- the five blocks of the shop
  obtain ⟨D1, hD1⟩ : ∃ D1, D1 = W.alloc (.cells #[.bool s1, .slice A1 n1 c1, .slice B1 m1 d1, .bool s2, .slice A2 n2 c2, .slice B2 m2 d2] 43) := ⟨_, rfl⟩
  obtain ⟨D2, hD2⟩ : ∃ D2, D2 = D1.alloc (.cells #[.bool false, .slice none 0 0, .slice none 0 0, .bool s1, .slice A1 n1 c1, .slice B1 m1 d1] 43) := ⟨_, rfl⟩
  obtain ⟨D3, hD3⟩ : ∃ D3, D3 = D2.alloc (.cells #[.bool s1, .slice A1 n1 c1, .slice B1 m1 d1, .bool false, .slice none 0 0, .slice none 0 0] 43) := ⟨_, rfl⟩
  have hW1 : Below W.heap.size W D1 := by rw [hD1]; exact below_al (Below.refl _ _) _
  have hW2 : Below D1.heap.size D1 D2 := by rw [hD2]; exact below_al (Below.refl _ _) _
  have hW3 : Below D2.heap.size D2 D3 := by rw [hD3]; exact below_al (Below.refl _ _) _
  have hR1 : RowV D1 (.slice (some ⟨W.heap.size, 0, none⟩) 2 2) [1, 2] 3000 := by rw [hD1]; exact row_pair hq1 hq2
  have hR2 : RowV D2 (.slice (some ⟨D1.heap.size, 0, none⟩) 2 2) [0, 1] 3000 := by rw [hD2]; exact row_pair (hq0.below hW1) (hq1.below hW1)
  have hR3 : RowV D3 (.slice (some ⟨D2.heap.size, 0, none⟩) 2 2) [1, 0] 3000 := by rw [hD3]; exact row_pair (hq1.below (below_next hW1 hW2)) (hq0.below (below_next hW1 hW2))
  have hsD1 : D1.heap.size = W.heap.size + 1 := by rw [hD1]; simp
  have hsD2 : D2.heap.size = W.heap.size + 2 := by rw [hD2]; simp; omega
  have hsD3 : D3.heap.size = W.heap.size + 3 := by rw [hD3]; simp; omega
  obtain ⟨D4, hD4⟩ : ∃ D4, D4 = D3.alloc (.cells #[.slice (some ⟨D1.heap.size, 0, none⟩) 2 2, .slice (some ⟨D2.heap.size, 0, none⟩) 2 2] 30) := ⟨_, rfl⟩
  have hW4 : Below D3.heap.size D3 D4 := by rw [hD4]; exact below_al (Below.refl _ _) _
  have hx4 : D4.heap[D3.heap.size]? = some (.cells #[.slice (some ⟨D1.heap.size, 0, none⟩) 2 2, .slice (some ⟨D2.heap.size, 0, none⟩) 2 2] 30) := by rw [hD4]; exact at_new _ _
  have hRs : RowsV D4 (.slice (some ⟨D3.heap.size, 0, none⟩) 2 2) [[0, 1], [1, 0]] 3000 := by
    refine ⟨_, 2, rfl, Nat.le_refl _, by simp [maxLen], fun _ => ⟨_, 0, rfl, fun i hi => ?_⟩⟩
    obtain ⟨z0, z1, -, -⟩ := two_cells hx4
    rcases (show i = 0 ∨ i = 1 by simp at hi; omega) with e | e <;> subst e
    · exact ⟨_, z0, (hR2.below hW3).below hW4⟩
    · exact ⟨_, z1, hR3.below hW4⟩
  obtain ⟨D5, hD5⟩ : ∃ D5, D5 = D4.alloc (.cells #[.slice (some ⟨W.heap.size, 0, none⟩) 2 2, .slice (some ⟨D3.heap.size, 0, none⟩) 2 2] 33) := ⟨_, rfl⟩
  have hsD4 : D4.heap.size = W.heap.size + 4 := by rw [hD4]; simp; omega
  have hW5 : Below D4.heap.size D4 D5 := by rw [hD5]; exact below_al (Below.refl _ _) _
  have hx5 : D5.heap[D4.heap.size]? = some (.cells #[.slice (some ⟨W.heap.size, 0, none⟩) 2 2, .slice (some ⟨D3.heap.size, 0, none⟩) 2 2] 33 (0, 0)) := by rw [hD5]; exact at_new _ _
  have hWD := below_next (below_next (below_next (below_next hW1 hW2) hW3) hW4) hW5
  have hV : ShopV D5 (.agg #[.slice (some ⟨W.heap.size, 0, none⟩) 2 2, .slice (some ⟨D3.heap.size, 0, none⟩) 2 2]) [1, 2] [[0, 1], [1, 0]] 3000 := ⟨_, _, rfl, (((hR1.below hW2).below hW3).below hW4).below hW5, hRs.below hW5⟩
  have hD : D5 = ((((W.alloc (.cells #[.bool s1, .slice A1 n1 c1, .slice B1 m1 d1, .bool s2, .slice A2 n2 c2, .slice B2 m2 d2] 43)).alloc (.cells #[.bool false, .slice none 0 0, .slice none 0 0, .bool s1, .slice A1 n1 c1, .slice B1 m1 d1] 43)).alloc (.cells #[.bool s1, .slice A1 n1 c1, .slice B1 m1 d1, .bool false, .slice none 0 0, .slice none 0 0] 43)).alloc (.cells #[.slice (some ⟨W.heap.size + 1, 0, none⟩) 2 2, .slice (some ⟨W.heap.size + 1 + 1, 0, none⟩) 2 2] 30)).alloc (.cells #[.slice (some ⟨W.heap.size, 0, none⟩) 2 2, .slice (some ⟨W.heap.size + 1 + 1 + 1, 0, none⟩) 2 2] 33) := by
    rw [hD5, hD4, hsD3, hsD2, hsD1, hD3, hD2, hD1]
  rw [hsD3] at hV hx5
  rw [hsD4] at hx5
  have hV' : ShopV D5 (.agg #[.slice (some ⟨W.heap.size, 0, none⟩) 2 2, .slice (some ⟨W.heap.size + 1 + 1 + 1, 0, none⟩) 2 2]) [1, 2] [[0, 1], [1, 0]] 3000 := hV
  have hx5' : D5.heap[W.heap.size + 1 + 1 + 1 + 1]? = some (.cells #[.slice (some ⟨W.heap.size, 0, none⟩) 2 2, .slice (some ⟨W.heap.size + 1 + 1 + 1, 0, none⟩) 2 2] 33 (0, 0)) := hx5
  have hsW := lt_of_block hx2
  have hsW0 : w2.heap.size < W.heap.size := by omega
  have hsW1 : w2.heap.size < W.heap.size + 1 := by omega
  have hsW2 : w2.heap.size < W.heap.size + 1 + 1 := by omega
  have H5 := hide (And.intro hV' (And.intro hx5' (below_next hbw hWD)))
  have HL := hide hW
  have HD := hide hD
  clear hr2 hd2 hbW hx1 hx2 hq1 hq2 hq0 hbw hD1 hD2 hD3 hD4 hD5 hW1 hW2 hW3 hW4 hW5 hR1 hR2 hR3 hRs hx4 hx5 hWD hV hD hsD1 hsD2 hsD3 hsD4 hW hV' hx5'
  go_upto_region 2 with fail
  rw [← HL.out]
  go_upto_region 3 with fail
  rw [← HD.out]
  clear x0 x1 x2 y0 y1 y2 HD HL hsW1 hsW2 D1 D2 D3 D4
  obtain ⟨x0, x1, -, -⟩ := two_cells H5.out.2.1
  have hl5 := lt_of_block H5.out.2.1
  go_wp2_with fail
  refine (Constants_c D5 _ 2 2 [1, 2] [[0, 1], [1, 0]] H5.out.1 shopA (by omega)).mono ?_
  rintro e w6 ⟨_, rfl, r6, rfl, hr6, hd6⟩
  obtain ⟨Ag, cg, rfl, hcg, hmg, -⟩ := id hr6
  obtain ⟨-, -, -, hcg1⟩ := hr6.at_
  rw [gL_length] at hcg hcg1 ⊢
  obtain ⟨bg, og, rfl, hcg2⟩ := hcg1 (by omega)
  obtain ⟨s3, A3, n3, c3, B3, m3, d3, g0, g1, g2, hq3⟩ := (hcg2 2 (by omega)).rat
  rw [gL_get _ _ _ _ (by omega), gA2] at hq3
  unfold maxLen at hmg
  have hx6 := at_later H5.out.2.1 hd6
  have H6 := hide (And.intro (H5.out.1.below hd6) (And.intro hx6 (And.intro (below_next H5.out.2.2 hd6) hq3)))
  clear x0 x1 hl5
  obtain ⟨x0, x1, -, -⟩ := two_cells hx6
  have hl6 := lt_of_block hx6
  have hk7 : Arr (w6.alloc (.cells #[.int .i64 1, .int .i64 1] 3)) (some ⟨w6.heap.size, 0, none⟩) .i64 [1, 1] := Arr.new rfl
  have hb7 : Below w6.heap.size w6 (w6.alloc (.cells #[.int .i64 1, .int .i64 1] 3)) := below_al (Below.refl _ _) _
  have HK := hide (And.intro hk7 hb7)
  clear hr6 hd6 hcg1 hcg2 hq3 hx6 hk7 hb7
  go_wp2_with fail
  refine (Chance_c _ _ 2 2 (some ⟨w6.heap.size, 0, none⟩) [1, 1] [1, 2] [[0, 1], [1, 0]] (H6.out.1.below HK.out.2) shopA HK.out.1 (by simp) (by simp [maxLen]) rfl (by simp) (by simp)).mono ?_
  rintro e w7 ⟨_, rfl, r7, rfl, hr7, hd7⟩
  rw [chA] at hr7
  obtain ⟨s4, A4, n4, c4, B4, m4, d4, rfl⟩ := hr7.shape
  obtain ⟨W8, hW8⟩ : ∃ W8, W8 = w7.alloc (.cells #[.bool s4, .slice A4 n4 c4, .slice B4 m4 d4] 43) := ⟨_, rfl⟩
  have hb8 : Below w7.heap.size w7 W8 := by rw [hW8]; exact below_al (Below.refl _ _) _
  have hx8 : W8.heap[w7.heap.size]? = some (.cells #[.bool s4, .slice A4 n4 c4, .slice B4 m4 d4] 43) := by rw [hW8]; exact at_new _ _
  have hd8 := below_next (below_next HK.out.2 hd7) hb8
  have hx8s := at_later H6.out.2.1 hd8
  have g0' := (hd8.cell (lt_of_cell g0)).trans g0
  have g1' := (hd8.cell (lt_of_cell g1)).trans g1
  have g2' := (hd8.cell (lt_of_cell g2)).trans g2
  have H8 := hide (And.intro (H6.out.1.below hd8) (And.intro (below_next H6.out.2.2.1 hd8) (And.intro (H6.out.2.2.2.below hd8) (And.intro hx8 (hr7.below hb8)))))
  have HL8 := hide hW8
  clear x0 x1 hl6 g0 g1 g2
  obtain ⟨x0, x1, -, -⟩ := two_cells hx8s
  have hl8 := lt_of_block hx8s
  clear hr7 hd7 hb8 hx8 hd8 hx8s hW8
  go_upto_region 5 with fail
  rw [← HL8.out]
  go_wp2_with fail
  refine (Speed_c _ _ 2 0 2 [1, 2] [[0, 1], [1, 0]] H8.out.1 shopA (by omega) (by omega) (by omega)).mono ?_
  rintro e w9 ⟨_, rfl, r9, rfl, hr9, hd9⟩
  rw [spA] at hr9
  obtain ⟨s5, A5, n5, c5, B5, m5, d5, rfl⟩ := hr9.shape
  obtain ⟨W9, hW9⟩ : ∃ W9, W9 = w9.alloc (.cells #[.bool s5, .slice A5 n5 c5, .slice B5 m5 d5] 43) := ⟨_, rfl⟩
  have hb9 : Below w9.heap.size w9 W9 := by rw [hW9]; exact below_al (Below.refl _ _) _
  have hx9 : W9.heap[w9.heap.size]? = some (.cells #[.bool s5, .slice A5 n5 c5, .slice B5 m5 d5] 43) := by rw [hW9]; exact at_new _ _
  have hd10 := below_next hd9 hb9
  have hx8' := at_later H8.out.2.2.2.1 hd10
  have g0 := (hd10.cell (lt_of_cell g0')).trans g0'
  have g1 := (hd10.cell (lt_of_cell g1')).trans g1'
  have g2 := (hd10.cell (lt_of_cell g2')).trans g2'
  have H9 := hide (And.intro (H8.out.2.2.1.below hd10) (And.intro (H8.out.2.2.2.2.below hd10) (And.intro (hr9.below hb9) (And.intro (below_next H8.out.2.1 hd10) (And.intro hx8' hx9)))))
  have HL9 := hide hW9
  clear x0 x1 hl8 g0' g1' g2' hr9 hd9 hb9 hx9 hd10 hx8' hW9
  go_upto_region 6 with fail
  rw [← HL9.out]
  go_wp2_with fail
  refine (string_c _ _ (7 / 4) 3000 H9.out.1 (by omega)).mono ?_
  rintro e w10 ⟨_, rfl, rfl, hd10⟩
  rw [textA1]
  have hx8' := at_later H9.out.2.2.2.2.1 hd10
  have hx9' := at_later H9.out.2.2.2.2.2 hd10
  obtain ⟨x0, x1, x2⟩ := three_cells hx8'
  have HA := hide (And.intro hd10 (And.intro hx8' hx9'))
  clear hd10 hx8' hx9' g0 g1 g2
  go_wp2_with fail
  refine (string_c _ _ (2 / 7) 3000 (H9.out.2.1.below HA.out.1) (by omega)).mono ?_
  rintro e w11 ⟨_, rfl, rfl, hd11⟩
  rw [textA2]
  obtain ⟨y0, y1, y2⟩ := three_cells (at_later HA.out.2.2 hd11)
  have HB := hide (below_next HA.out.1 hd11)
  clear hd11 x0 x1 x2
  go_wp2_with fail
  refine (string_c _ _ (6 / 7) 3000 (H9.out.2.2.1.below HB.out) (by omega)).mono ?_
  rintro e w12 ⟨_, rfl, rfl, hd12⟩
  rw [textA3]
  have HC := hide (below_next H9.out.2.2.2.1 (below_next HB.out hd12))
  clear hd12 y0 y1 y2
  go_wp2
  refine bodyPost_ret (v := .bool true) ?_ rfl ⟨_, rfl, rfl, HC.out⟩
  simp [results, Tryz.results25, go_sem]
end Go.Proofs.YtpoahodnakhmiaaGreat
