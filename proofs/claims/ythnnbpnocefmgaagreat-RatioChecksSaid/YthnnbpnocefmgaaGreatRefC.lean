import Derived.Test.YthnnbpnocefmgaaGreatRefM
namespace Go.Proofs.YthnnbpnocefmgaaGreat
open Go.RowKit
set_option linter.unusedVariables false
set_option linter.unusedSimpArgs false
theorem ent_set_row (rows : List (List Rat)) (k : Nat) (qs : List Rat) (j : Nat) (hk : k < rows.length) : ent (rows.set k qs) k j = qs.getD j 0 := by
 unfold ent
 rw [show (rows.set k qs).getD k [] = qs by simp [List.getD, hk]]
def ClearQ (w : World) (base R cR : Nat) (vs rR : List Value) (gs : List Nat) (S : St) (L a col k : Nat) (w' : World) : Prop :=
 MatQ w' base R cR vs rR gs (clearN a col k S).1 L ∧ KpI w w' ∧ Below base w w' ∧ w.heap.size ≤ w'.heap.size
set_option maxRecDepth 1000000 in
set_option maxHeartbeats 4000000 in
theorem clear_ref (w : World) (base R cR : Nat) (vs rR : List Value) (gs : List Nat) (S : St) (m wd a n N : Nat)
  (h : MatQ w base R cR vs rR gs S.1 (m / 9 + 1)) (hrect : Rect wd S) (hN : S.1.length = N) (haN : a < N) (hnw : n < wd) (hwb : wd ≤ 1073741824) (hNb : N ≤ 1073741824) (hm : m ≤ 100000000)
  (hfit : ∀ k, k ≤ N → ∀ i j, FracQ m (ent (clearN a n k S).1 i j))
  (c0 c2 c3 c4 c6 c7 c10 c11 c12 c13 c15 c16 c17 c18 c19 c20 c21 c22 c23 c24 c25 c26 c27 c28 c29 c30 c31 c32 c33 c34 c35 c36 c37 c38 c39 c40 c41 c42 c43 c44 c45 c46 c47 c48 c49 c50 c51 c52 c53 c54 c55 c56 c57 c58 c59 c60 c61 c62 c63 c64 c65 c66 c67 c68 c69 c70 c71 c72 c73 c74 c75 c76 c77 c78 c79 c80 c81 c82 c83 c84 c85 c86 c87 c88 c89 c90 c91 c92 c93 c94 c95 c96 c97 c98 c99 c100 c101 c102 c103 c104 c105 c106 c107 c108 c109 c110 c111 c112 c113 c114 c115 c116 c117 c118 c119 c120 c121 c122 c123 c124 c125 c126 c127 c128 c129 c130 c131 c132 c133 c134 c135 c136 c137 c138 c139 c140 c141 c142 c143 c144 c145 c146 c147 c148 c149 c150 c151 c152 c153 c154 c155 c156 c157 c158 c159 c160 c161 c162 c163 c164 c165 c166 c167 : Value) (Q : Exit → Act → World → Prop)
  (hexit : ∀ (u14 u15 u16 u108 u109 u110 u111 u112 u113 u114 u115 u116 u117 u118 u119 u120 u121 u122 u123 u124 u125 u126 u127 u128 u129 u130 u131 u132 u133 u134 u135 u136 u137 u138 u139 u140 u141 u142 u143 u144 u145 u146 u147 u148 u149 u150 u151 u152 u153 u154 u155 u156 u157 u158 u159 u160 u161 u162 : Value) (w' : World), ClearQ w base R cR vs rR gs S (m / 9 + 1) a n N w' → Q (.exit 8) ⟨(c0 :: (.int .i64 wd : Value) :: c2 :: c3 :: c4 :: (.slice (some ⟨R, 0, none⟩) N cR : Value) :: c6 :: c7 :: (.int .i64 a : Value) :: (.int .i64 n : Value) :: c10 :: c11 :: c12 :: c13 :: u14 :: u15 :: u16 :: c17 :: c18 :: c19 :: c20 :: c21 :: c22 :: c23 :: c24 :: c25 :: c26 :: c27 :: c28 :: c29 :: c30 :: c31 :: c32 :: c33 :: c34 :: c35 :: c36 :: c37 :: c38 :: c39 :: c40 :: c41 :: c42 :: c43 :: c44 :: c45 :: c46 :: c47 :: c48 :: c49 :: c50 :: c51 :: c52 :: c53 :: c54 :: c55 :: c56 :: c57 :: c58 :: c59 :: c60 :: c61 :: c62 :: c63 :: c64 :: c65 :: c66 :: c67 :: c68 :: c69 :: c70 :: c71 :: c72 :: c73 :: c74 :: c75 :: c76 :: c77 :: c78 :: c79 :: c80 :: c81 :: c82 :: c83 :: c84 :: c85 :: c86 :: c87 :: c88 :: c89 :: c90 :: c91 :: c92 :: c93 :: c94 :: c95 :: c96 :: c97 :: c98 :: c99 :: c100 :: c101 :: c102 :: c103 :: c104 :: c105 :: c106 :: c107 :: u108 :: u109 :: u110 :: u111 :: u112 :: u113 :: u114 :: u115 :: u116 :: u117 :: u118 :: u119 :: u120 :: u121 :: u122 :: u123 :: u124 :: u125 :: u126 :: u127 :: u128 :: u129 :: u130 :: u131 :: u132 :: u133 :: u134 :: u135 :: u136 :: u137 :: u138 :: u139 :: u140 :: u141 :: u142 :: u143 :: u144 :: u145 :: u146 :: u147 :: u148 :: u149 :: u150 :: u151 :: u152 :: u153 :: u154 :: u155 :: u156 :: u157 :: u158 :: u159 :: u160 :: u161 :: u162 :: c163 :: c164 :: c165 :: c166 :: c167 :: []).toArray, []⟩ w') :
  Code.wp Tryz.prog (Code.loop (refBody 8)) Q ⟨(c0 :: (.int .i64 wd : Value) :: c2 :: c3 :: c4 :: (.slice (some ⟨R, 0, none⟩) N cR : Value) :: c6 :: c7 :: (.int .i64 a : Value) :: (.int .i64 n : Value) :: c10 :: c11 :: c12 :: c13 :: (.int .i64 0 : Value) :: c15 :: c16 :: c17 :: c18 :: c19 :: c20 :: c21 :: c22 :: c23 :: c24 :: c25 :: c26 :: c27 :: c28 :: c29 :: c30 :: c31 :: c32 :: c33 :: c34 :: c35 :: c36 :: c37 :: c38 :: c39 :: c40 :: c41 :: c42 :: c43 :: c44 :: c45 :: c46 :: c47 :: c48 :: c49 :: c50 :: c51 :: c52 :: c53 :: c54 :: c55 :: c56 :: c57 :: c58 :: c59 :: c60 :: c61 :: c62 :: c63 :: c64 :: c65 :: c66 :: c67 :: c68 :: c69 :: c70 :: c71 :: c72 :: c73 :: c74 :: c75 :: c76 :: c77 :: c78 :: c79 :: c80 :: c81 :: c82 :: c83 :: c84 :: c85 :: c86 :: c87 :: c88 :: c89 :: c90 :: c91 :: c92 :: c93 :: c94 :: c95 :: c96 :: c97 :: c98 :: c99 :: c100 :: c101 :: c102 :: c103 :: c104 :: c105 :: c106 :: c107 :: c108 :: c109 :: c110 :: c111 :: c112 :: c113 :: c114 :: c115 :: c116 :: c117 :: c118 :: c119 :: c120 :: c121 :: c122 :: c123 :: c124 :: c125 :: c126 :: c127 :: c128 :: c129 :: c130 :: c131 :: c132 :: c133 :: c134 :: c135 :: c136 :: c137 :: c138 :: c139 :: c140 :: c141 :: c142 :: c143 :: c144 :: c145 :: c146 :: c147 :: c148 :: c149 :: c150 :: c151 :: c152 :: c153 :: c154 :: c155 :: c156 :: c157 :: c158 :: c159 :: c160 :: c161 :: c162 :: c163 :: c164 :: c165 :: c166 :: c167 :: []).toArray, []⟩ w := by
 conv => arg 2; arg 1; whnf
 have HA := hide (ai h (ai hrect (ai hfit hN))); clear h hrect hfit hN
 have HE := hide hexit; clear hexit
 go_loopw [14] (fun s14 wr => ∃ k : Nat, k ≤ N ∧ s14 = .int .i64 k ∧ ClearQ w base R cR vs rR gs S (m / 9 + 1) a n k wr) (fun s14 _ => N - (intOf s14).toNat)
 case atStart => exact ⟨0, Nat.zero_le _, rfl, HA.out.1, fun _ _ => rfl, Below.refl _ _, nr _⟩
 case round =>
  obtain ⟨k, hk, rfl, hI⟩ := hrel
  by_cases hkl : k < N
  ·have d1 : decide (k < N) = true := decide_eq_true hkl
   obtain ⟨T, hT⟩ : ∃ T, T = clearN a n k S := ⟨_, rfl⟩
   have hrk : Rect wd T := by rw [hT]; exact rect_clearN k HA.out.2.1 (by rw [HA.out.2.2.2]; omega)
   have hlk : T.1.length = N := by rw [hT, clearN_length]; exact HA.out.2.2.2
   have hnx : clearN a n (k + 1) S = clearS a n k T := by rw [hT]; rfl
   have hfk : ∀ i j, FracQ m (ent (clearS a n k T).1 i j) := by rw [← hnx]; exact HA.out.2.2.1 (k + 1) (by omega)
   unfold ClearQ at hI
   rw [← hT] at hI
   obtain ⟨hmat, hty, hbel, hsz⟩ := hI
   obtain ⟨gk, ck, hgk, r0, hc1, hc2, hrow, hbg⟩ := hmat.rowAt (i := k) (by rw [hlk]; exact hkl)
   have qk := hrk.row k (by rw [hlk]; exact hkl)
   have qa := hrk.row a (by rw [hlk]; exact haN)
   rw [qk] at r0 hc1
   obtain ⟨s2, B3, m3, d3, B4, m4, d4, e0, e1, e2, e3, hq⟩ := hrow.2 n (by rw [qk]; omega)
   have HX := hide (ai hT (ai hrk (ai hlk (ai hfk (ai hnx (ai hmat (ai hty (ai hbel (ai hsz (ai hgk (ai hrow (ai hbg (ai qk (ai qa hq))))))))))))))
   clear hT hrk hlk hfk hnx hmat hty hbel hsz hgk hrow hbg qk qa hq hc1 hc2
   by_cases hka : k = a
   ·have hne : ((k : Int) == (a : Int)) = true := by rw [hka]; simp
    have HKA := hide hka; clear hka
    go_wp2
    case roundEnd =>
     obtain ⟨hT, hrk, hlk, hfk, hnx, hmat, hty, hbel, hsz, hgk, hrow, hbg, qk, qa, hq⟩ := HX.out
     have e : clearS a n k T = T := by unfold clearS; rw [if_pos (.inl HKA.out)]
     refine ⟨⟨k + 1, by omega, by go_num, ?_⟩, by simp [intOf]; omega⟩
     unfold ClearQ
     rw [hnx, e]
     exact ⟨hmat, hty, hbel, hsz⟩
   ·have hne : ((k : Int) == (a : Int)) = false := by rw [beq_eq_false_iff_ne]; omega
    have HKA := hide hka; clear hka
    have HS := hide (fun w1 (hb : Below wr.heap.size wr w1) => sgn9_c w1 _ _ _ (HX.out.2.2.2.2.2.2.2.2.2.2.2.2.2.2.below hb))
    by_cases hz : ent T.1 k n = 0
    ·go_wp2_with fail
     refine (HS.out _ (Below.refl _ _)).mono ?_
     rintro e w1 ⟨_, rfl, rfl, hd1⟩
     rw [show sgnQ ((T.1.getD k []).getD n 0) = 0 by rw [show (T.1.getD k []).getD n 0 = 0 from hz]; rfl]
     have HD := hide hd1; clear hd1
     go_wp2
     case roundEnd =>
      obtain ⟨hT, hrk, hlk, hfk, hnx, hmat, hty, hbel, hsz, hgk, hrow, hbg, qk, qa, hq⟩ := HX.out
      have hd1 := HD.out
      have e : clearS a n k T = T := by unfold clearS; rw [if_pos (.inr hz)]
      refine ⟨⟨k + 1, by omega, by go_num, ?_⟩, by simp [intOf]; omega⟩
      unfold ClearQ
      rw [hnx, e]
      exact ⟨hmat.below hd1, hty.trans (Below.kpI hd1), hbel.trans (hd1.mono hmat.le), by have := hd1.size; omega⟩
    ·go_wp2_with fail
     refine (HS.out _ (Below.refl _ _)).mono ?_
     rintro e w1 ⟨_, rfl, rfl, hd1⟩
     obtain ⟨z, hzz⟩ : ∃ z, z = sgnQ ((T.1.getD k []).getD n 0) := ⟨_, rfl⟩
     have hs : (z == 0) = false := by rw [beq_eq_false_iff_ne, hzz]; exact sgnQ_nz hz
     rw [← hzz]
     have HZ := hide (ai hz hzz); clear hz hzz
     have HD := hide hd1
     have r1 := (hd1.cell (lt_of_cell r0)).trans r0
     have y0 := (hd1.cell (lt_of_cell e0)).trans e0
     have y1 := (hd1.cell (lt_of_cell e1)).trans e1
     have y2 := (hd1.cell (lt_of_cell e2)).trans e2
     have y3 := (hd1.cell (lt_of_cell e3)).trans e3
     clear hd1 r0 e0 e1 e2 e3
     have hcl : clearS a n k T = (T.1.set k (takeL (T.1.getD k []) (ent T.1 k n) (T.1.getD a [])), T.2.set k (takeL (T.2.getD k []) (ent T.1 k n) (T.2.getD a []))) := (by unfold clearS; rw [if_neg (fun h => h.elim HKA.out HZ.out.1)])
     have HCL := hide hcl; clear hcl
     obtain ⟨z0, z1, z2, z3, _⟩ := four_cells (heap_alloc_new w1 (.cells #[.bool s2, .slice B3 m3 d3, .bool false, .slice B4 m4 d4] 41))
     have hbW := below_al HD.out (.cells #[.bool s2, .slice B3 m3 d3, .bool false, .slice B4 m4 d4] 41)
     have HM := hide (ai (HX.out.2.2.2.2.2.1.below hbW) (ai (HX.out.2.2.2.2.2.2.2.2.2.2.2.2.2.2.below hbW) (ai hbW (ai z0 (ai z1 (ai z2 z3))))))
     clear hbW z0 z1 z2 z3
     go_wp2
     refine minus_loop _ base R cR vs rR gs T.1 m wd a k N w1.heap.size (ent T.1 k n) s2 B3 m3 d3 B4 m4 d4 HM.out.1 HX.out.2.2.1 haN hkl HKA.out HX.out.2.2.2.2.2.2.2.2.2.2.2.2.1 HX.out.2.2.2.2.2.2.2.2.2.2.2.2.2.1 hwb hm (by have h1 := HX.out.2.2.2.2.2.2.2.2.2.2.1.lt; have h2 := HD.out.size; have h3 := HX.out.2.2.2.2.2.2.2.2.2.1; omega) HM.out.2.2.2.1 HM.out.2.2.2.2.1 HM.out.2.2.2.2.2.1 HM.out.2.2.2.2.2.2 HM.out.2.1 ?fit _ _ _ _ _ _ _ _ _ _ _ _ _ _ _ _ _ _ _ _ _ _ _ _ _ _ _ _ _ _ _ _ _ _ _ _ _ _ _ _ _ _ _ _ _ _ _ _ _ _ _ _ _ _ _ _ _ _ _ _ _ _ _ _ _ _ _ _ _ _ _ _ _ _ _ _ _ _ _ _ _ _ _ _ _ _ _ _ _ _ _ _ _ _ _ _ _ _ _ _ _ _ _ _ _ _ _ _ _ _ _ _ _ _ _ _ _ _ _ _ _ _ _ _ _ _ _ _ _ _ _ _ _ _ _ _ _ _ _ _ _ _ _ _ _ _ _ _ _ _ _ _ _ _ _ _ _ _ _ _ _ _ _ ?_
     case fit =>
      intro j hj
      have h1 := HX.out.2.2.2.1 k j
      rw [HCL.out] at h1
      have e : ent (T.1.set k (takeL (T.1.getD k []) (ent T.1 k n) (T.1.getD a []))) k j = (T.1.getD k []).getD j 0 - ent T.1 k n * (T.1.getD a []).getD j 0 := by
       rw [ent_set_row _ _ _ _ (by rw [HX.out.2.2.1]; exact hkl), takeL_getA _ _ _ _ (by rw [HX.out.2.2.2.2.2.2.2.2.2.2.2.2.1, HX.out.2.2.2.2.2.2.2.2.2.2.2.2.2.1]; exact nr _)]
      rw [e] at h1
      exact h1
     intro v16 v135 v136 v137 v138 v139 v140 v141 v142 v143 v144 v145 v146 v147 v148 v149 v150 v151 v152 v153 v154 v155 v156 v157 v158 v159 v160 v161 v162 w6 hR
     have HR := hide hR; clear hR
     go_wp2
     case roundEnd =>
      obtain ⟨hT, hrk, hlk, hfk, hnx, hmat, hty, hbel, hsz, hgk, hrow, hbg, qk, qa, hq⟩ := HX.out
      obtain ⟨h1, h2, h3, h4, h5⟩ := HR.out
      have hbW := HM.out.2.2.1
      refine ⟨⟨k + 1, by omega, by go_num, ?_⟩, by simp [intOf]; omega⟩
      unfold ClearQ
      have el : mixL (takeL (T.1.getD k []) (ent T.1 k n) (T.1.getD a [])) (T.1.getD k []) wd = takeL (T.1.getD k []) (ent T.1 k n) (T.1.getD a []) := by rw [← qk]; exact mixL_all (takeL_length _ _ _)
      rw [el] at h1
      rw [hnx, HCL.out]
      exact ⟨h1, (hty.trans (Below.kpI hbW)).trans h2, (hbel.trans (hbW.mono hmat.le)).trans h4, by have := hbW.size; omega⟩
  ·have d1 : decide (k < N) = false := decide_eq_false hkl
   obtain rfl : k = N := by omega
   have HI := hide hI; clear hI
   go_wp2
   exact HE.out _ _ _ _ _ _ _ _ _ _ _ _ _ _ _ _ _ _ _ _ _ _ _ _ _ _ _ _ _ _ _ _ _ _ _ _ _ _ _ _ _ _ _ _ _ _ _ _ _ _ _ _ _ _ _ _ _ _ _ HI.out
end Go.Proofs.YthnnbpnocefmgaaGreat
