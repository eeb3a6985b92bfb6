import Derived.Test.YthnnbpnocefmgaaGreatRefO
namespace Go.Proofs.YthnnbpnocefmgaaGreat
open Go.RowKit
set_option linter.unusedVariables false
set_option linter.unusedSimpArgs false
set_option maxRecDepth 1000000 in
set_option maxHeartbeats 4000000 in
theorem minus_loop (w : World) (base R cR : Nat) (vs rR : List Value) (gs : List Nat) (rows : List (List Rat)) (n wd a i N B : Nat) (q : Rat) (s : Bool) (A2 : Option Addr) (n2 c2' : Nat) (B2 : Option Addr) (m2 d2 : Nat)
  (h : MatQ w base R cR vs rR gs rows (n / 9 + 1)) (hN : rows.length = N) (haN : a < N) (hiN : i < N) (hia : i ≠ a) (hwd : (rows.getD i []).length = wd) (hwa : (rows.getD a []).length = wd) (hwb : wd ≤ 1073741824) (hn : n ≤ 100000000) (hgB : gs.getD i 0 ≠ B)
  (hB0 : w.cell? ⟨B, 0, none⟩ = some (.bool s)) (hB1 : w.cell? ⟨B, 1, none⟩ = some (.slice A2 n2 c2')) (hB2 : w.cell? ⟨B, 2, none⟩ = some (.bool false)) (hB3 : w.cell? ⟨B, 3, none⟩ = some (.slice B2 m2 d2))
  (hqB : QV w (.agg #[.bool s, .slice A2 n2 c2', .bool false, .slice B2 m2 d2]) q (n / 9 + 1)) (hfit : ∀ j, j < wd → FracQ n ((rows.getD i []).getD j 0 - q * (rows.getD a []).getD j 0))
  (c0 c2 c3 c4 c6 c7 c9 c10 c11 c12 c13 c17 c18 c19 c20 c21 c22 c23 c24 c25 c26 c27 c28 c29 c30 c31 c32 c33 c34 c35 c36 c37 c38 c39 c40 c41 c42 c43 c44 c45 c46 c47 c48 c49 c50 c51 c52 c53 c54 c55 c56 c57 c58 c59 c60 c61 c62 c63 c64 c65 c66 c67 c68 c69 c70 c71 c72 c73 c74 c75 c76 c77 c78 c79 c80 c81 c82 c83 c84 c85 c86 c87 c88 c89 c90 c91 c92 c93 c94 c95 c96 c97 c98 c99 c100 c101 c102 c103 c104 c105 c106 c107 c108 c109 c110 c111 c112 c113 c114 c115 c116 c117 c118 c119 c120 c121 c122 c123 c124 c125 c126 c127 c128 c129 c130 c131 c132 c133 c134 c135 c136 c137 c138 c139 c140 c141 c142 c143 c144 c145 c146 c147 c148 c149 c150 c151 c152 c153 c154 c155 c156 c157 c158 c159 c160 c161 c162 c163 c164 c165 c166 c167 : Value) (Q : Exit → Act → World → Prop)
  (hexit : ∀ (u16 u135 u136 u137 u138 u139 u140 u141 u142 u143 u144 u145 u146 u147 u148 u149 u150 u151 u152 u153 u154 u155 u156 u157 u158 u159 u160 u161 u162 : Value) (w' : World), RowI w base R cR vs rR gs rows (takeL (rows.getD i []) q (rows.getD a [])) (n / 9 + 1) i B wd w' → Q (.exit 10) ⟨(c0 :: (.int .i64 wd : Value) :: c2 :: c3 :: c4 :: (.slice (some ⟨R, 0, none⟩) N cR : Value) :: c6 :: c7 :: (.int .i64 a : Value) :: c9 :: c10 :: c11 :: c12 :: c13 :: (.int .i64 i : Value) :: (.pointer (some ⟨B, 0, none⟩) : Value) :: u16 :: c17 :: c18 :: c19 :: c20 :: c21 :: c22 :: c23 :: c24 :: c25 :: c26 :: c27 :: c28 :: c29 :: c30 :: c31 :: c32 :: c33 :: c34 :: c35 :: c36 :: c37 :: c38 :: c39 :: c40 :: c41 :: c42 :: c43 :: c44 :: c45 :: c46 :: c47 :: c48 :: c49 :: c50 :: c51 :: c52 :: c53 :: c54 :: c55 :: c56 :: c57 :: c58 :: c59 :: c60 :: c61 :: c62 :: c63 :: c64 :: c65 :: c66 :: c67 :: c68 :: c69 :: c70 :: c71 :: c72 :: c73 :: c74 :: c75 :: c76 :: c77 :: c78 :: c79 :: c80 :: c81 :: c82 :: c83 :: c84 :: c85 :: c86 :: c87 :: c88 :: c89 :: c90 :: c91 :: c92 :: c93 :: c94 :: c95 :: c96 :: c97 :: c98 :: c99 :: c100 :: c101 :: c102 :: c103 :: c104 :: c105 :: c106 :: c107 :: c108 :: c109 :: c110 :: c111 :: c112 :: c113 :: c114 :: c115 :: c116 :: c117 :: c118 :: c119 :: c120 :: c121 :: c122 :: c123 :: c124 :: c125 :: c126 :: c127 :: c128 :: c129 :: c130 :: c131 :: c132 :: c133 :: c134 :: u135 :: u136 :: u137 :: u138 :: u139 :: u140 :: u141 :: u142 :: u143 :: u144 :: u145 :: u146 :: u147 :: u148 :: u149 :: u150 :: u151 :: u152 :: u153 :: u154 :: u155 :: u156 :: u157 :: u158 :: u159 :: u160 :: u161 :: u162 :: c163 :: c164 :: c165 :: c166 :: c167 :: []).toArray, []⟩ w') :
  Code.wp Tryz.prog (Code.loop (refBody 10)) Q ⟨(c0 :: (.int .i64 wd : Value) :: c2 :: c3 :: c4 :: (.slice (some ⟨R, 0, none⟩) N cR : Value) :: c6 :: c7 :: (.int .i64 a : Value) :: c9 :: c10 :: c11 :: c12 :: c13 :: (.int .i64 i : Value) :: (.pointer (some ⟨B, 0, none⟩) : Value) :: (.int .i64 0 : Value) :: c17 :: c18 :: c19 :: c20 :: c21 :: c22 :: c23 :: c24 :: c25 :: c26 :: c27 :: c28 :: c29 :: c30 :: c31 :: c32 :: c33 :: c34 :: c35 :: c36 :: c37 :: c38 :: c39 :: c40 :: c41 :: c42 :: c43 :: c44 :: c45 :: c46 :: c47 :: c48 :: c49 :: c50 :: c51 :: c52 :: c53 :: c54 :: c55 :: c56 :: c57 :: c58 :: c59 :: c60 :: c61 :: c62 :: c63 :: c64 :: c65 :: c66 :: c67 :: c68 :: c69 :: c70 :: c71 :: c72 :: c73 :: c74 :: c75 :: c76 :: c77 :: c78 :: c79 :: c80 :: c81 :: c82 :: c83 :: c84 :: c85 :: c86 :: c87 :: c88 :: c89 :: c90 :: c91 :: c92 :: c93 :: c94 :: c95 :: c96 :: c97 :: c98 :: c99 :: c100 :: c101 :: c102 :: c103 :: c104 :: c105 :: c106 :: c107 :: c108 :: c109 :: c110 :: c111 :: c112 :: c113 :: c114 :: c115 :: c116 :: c117 :: c118 :: c119 :: c120 :: c121 :: c122 :: c123 :: c124 :: c125 :: c126 :: c127 :: c128 :: c129 :: c130 :: c131 :: c132 :: c133 :: c134 :: c135 :: c136 :: c137 :: c138 :: c139 :: c140 :: c141 :: c142 :: c143 :: c144 :: c145 :: c146 :: c147 :: c148 :: c149 :: c150 :: c151 :: c152 :: c153 :: c154 :: c155 :: c156 :: c157 :: c158 :: c159 :: c160 :: c161 :: c162 :: c163 :: c164 :: c165 :: c166 :: c167 :: []).toArray, []⟩ w := by
 conv => arg 2; arg 1; whnf
 have HA := hide (ai h (ai hN (ai hwd (ai hqB (ai hfit (ai hgB hwa))))))
 have HB := hide (ai hB0 (ai hB1 (ai hB2 hB3)))
 have HE := hide hexit
 have hlB := lt_of_cell hB0
 clear h hN hwd hqB hfit hgB hwa hexit hB0 hB1 hB2 hB3
 obtain ⟨new, hnew⟩ : ∃ new, new = takeL (rows.getD i []) q (rows.getD a []) := ⟨_, rfl⟩
 have hdl : new.length = (rows.getD i []).length := by rw [hnew]; exact takeL_length _ _ _
 have hng : ∀ j, new.getD j 0 = (rows.getD i []).getD j 0 - q * (rows.getD a []).getD j 0 := fun j => by rw [hnew]; exact takeL_getA _ _ _ _ (by rw [HA.out.2.2.1, HA.out.2.2.2.2.2.2]; exact nr _)
 rw [← hnew] at HE
 have HN := hide (ai hdl hng)
 clear hdl hng hnew
 go_loopw [16] (fun s16 wr => ∃ j : Nat, j ≤ wd ∧ s16 = .int .i64 j ∧ RowI w base R cR vs rR gs rows new (n / 9 + 1) i B j wr) (fun s16 _ => wd - (intOf s16).toNat)
 case atStart =>
  refine ⟨0, Nat.zero_le _, rfl, ?_, fun _ _ => rfl, rfl, Below.refl _ _, nr _⟩
  rw [mixL_zero, set_self]
  exact HA.out.1
 case round =>
  obtain ⟨j, hj, rfl, hI⟩ := hrel
  by_cases hjl : j < wd
  ·have d1 : decide (j < wd) = true := decide_eq_true hjl
   obtain ⟨hm, hk, hbk, hbel, hsz⟩ := hI
   have hlr : (rows.set i (mixL new (rows.getD i []) j)).length = N := (by rw [List.length_set]; exact HA.out.2.1)
   have hra : (rows.set i (mixL new (rows.getD i []) j)).getD i [] = mixL new (rows.getD i []) j := (by simp [List.getD, HA.out.2.1, hiN])
   have hro : (rows.set i (mixL new (rows.getD i []) j)).getD a [] = rows.getD a [] := (by simp [List.getD, List.getElem?_set_ne hia])
   obtain ⟨g, cg, hg, r0, hc1, hc2, hrow, hbg⟩ := hm.rowAt (i := i) (by rw [hlr]; exact hiN)
   obtain ⟨ga, ca, hga, ra0, hca1, hca2, hrowa, hbga⟩ := hm.rowAt (i := a) (by rw [hlr]; exact haN)
   rw [hra, mixL_length HN.out.1, HA.out.2.2.1] at r0 hc1
   rw [hra] at hrow
   rw [hro, HA.out.2.2.2.2.2.2] at ra0 hca1
   rw [hro] at hrowa
   obtain ⟨s1, A1, n1, c1', B1, m1, d1', e0, e1, e2, e3, hqv⟩ := hrow.2 j (by rw [mixL_length HN.out.1, HA.out.2.2.1]; exact hjl)
   rw [mixL_get HN.out.1, if_neg (by omega)] at hqv
   obtain ⟨s3, A3, n3, c3', B3, m3, d3', x0, x1, x2, x3, hqa⟩ := hrowa.2 j (by rw [HA.out.2.2.2.2.2.2]; exact hjl)
   have b0 := (World.cell?_of_block (w := w) hbk).trans HB.out.1
   have b1 := (World.cell?_of_block (w := w) hbk).trans HB.out.2.1
   have b2 := (World.cell?_of_block (w := w) hbk).trans HB.out.2.2.1
   have b3 := (World.cell?_of_block (w := w) hbk).trans HB.out.2.2.2
   have hqB := HA.out.2.2.2.1.kpI hk
   have hti := times9_c wr.drew _ _ _ _ _ (hqB.below (Below.refl _ _).drew) (hqa.below (Below.refl _ _).drew) (by omega)
   have HO := hide hti
   have HQ := hide (QV.more (hqv.below (Below.refl wr.heap.size wr).drew) (L' := 2 * (n / 9 + 1) + 1) (by omega))
   have HV := hide (ai hm (ai hk (ai hbk (ai hbel (ai hsz (ai hg (ai hrow (ai hbg (ai hlr hra)))))))))
   have hSk : ∀ w' : World, Below wr.drew.heap.size wr.drew w' → w'.cell? ⟨R, i, none⟩ = some (.slice (some ⟨g, 0, none⟩) wd cg) ∧ w'.cell? ⟨R, a, none⟩ = some (.slice (some ⟨ga, 0, none⟩) wd ca) ∧ w'.cell? ⟨g, j * 4, none⟩ = some (.bool s1) ∧ w'.cell? ⟨g, j * 4 + 1, none⟩ = some (.slice A1 n1 c1') ∧ w'.cell? ⟨g, j * 4 + 2, none⟩ = some (.bool false) ∧ w'.cell? ⟨g, j * 4 + 3, none⟩ = some (.slice B1 m1 d1') ∧ w'.cell? ⟨ga, j * 4, none⟩ = some (.bool s3) ∧ w'.cell? ⟨ga, j * 4 + 1, none⟩ = some (.slice A3 n3 c3') ∧ w'.cell? ⟨ga, j * 4 + 2, none⟩ = some (.bool false) ∧ w'.cell? ⟨ga, j * 4 + 3, none⟩ = some (.slice B3 m3 d3') ∧ w'.cell? ⟨B, 0, none⟩ = some (.bool s) ∧ w'.cell? ⟨B, 1, none⟩ = some (.slice A2 n2 c2') ∧ w'.cell? ⟨B, 2, none⟩ = some (.bool false) ∧ w'.cell? ⟨B, 3, none⟩ = some (.slice B2 m2 d2) ∧ w'.frozen? ⟨g, j * 4, none⟩ = false ∧ w'.frozen? ⟨g, j * 4 + 1, none⟩ = false ∧ w'.frozen? ⟨g, j * 4 + 2, none⟩ = false ∧ w'.frozen? ⟨g, j * 4 + 3, none⟩ = false := (by
    intro w' hb
    have e : ∀ b j v, wr.cell? ⟨b, j, none⟩ = some v → w'.cell? ⟨b, j, none⟩ = some v := fun b j v hv => (hb.cell (p := ⟨b, j, none⟩) (lt_of_cell hv)).trans hv
    have ef : ∀ j, w'.frozen? ⟨g, j, none⟩ = false := fun j => QRowC.frozen ((hrow.below (Below.refl _ _).drew).below hb) j
    exact ⟨e _ _ _ r0, e _ _ _ ra0, e _ _ _ e0, e _ _ _ e1, e _ _ _ e2, e _ _ _ e3, e _ _ _ x0, e _ _ _ x1, e _ _ _ x2, e _ _ _ x3, e _ _ _ b0, e _ _ _ b1, e _ _ _ b2, e _ _ _ b3, ef _, ef _, ef _, ef _⟩)
   have HSk := hide hSk
   clear hSk hti hm hk hbk hbel hsz hg hrow hbg hlr hra hro hga hrowa hbga hca1 hca2 hqv hqa hqB hc1 hc2 r0 ra0 e0 e1 e2 e3 x0 x1 x2 x3 b0 b1 b2 b3
   go_wp2
   have hdr : Below wr.drew.heap.size wr.drew wr.drew := Below.refl _ _
   refine wp_region_noPanic ?_
   refine till_begin (fun w' => w'.cell? ⟨R, i, none⟩ = some (.slice (some ⟨g, 0, none⟩) wd cg) ∧ w'.cell? ⟨R, a, none⟩ = some (.slice (some ⟨ga, 0, none⟩) wd ca) ∧ w'.cell? ⟨g, j * 4, none⟩ = some (.bool s1) ∧ w'.cell? ⟨g, j * 4 + 1, none⟩ = some (.slice A1 n1 c1') ∧ w'.cell? ⟨g, j * 4 + 2, none⟩ = some (.bool false) ∧ w'.cell? ⟨g, j * 4 + 3, none⟩ = some (.slice B1 m1 d1') ∧ w'.cell? ⟨ga, j * 4, none⟩ = some (.bool s3) ∧ w'.cell? ⟨ga, j * 4 + 1, none⟩ = some (.slice A3 n3 c3') ∧ w'.cell? ⟨ga, j * 4 + 2, none⟩ = some (.bool false) ∧ w'.cell? ⟨ga, j * 4 + 3, none⟩ = some (.slice B3 m3 d3') ∧ w'.cell? ⟨B, 0, none⟩ = some (.bool s) ∧ w'.cell? ⟨B, 1, none⟩ = some (.slice A2 n2 c2') ∧ w'.cell? ⟨B, 2, none⟩ = some (.bool false) ∧ w'.cell? ⟨B, 3, none⟩ = some (.slice B2 m2 d2) ∧ w'.frozen? ⟨g, j * 4, none⟩ = false ∧ w'.frozen? ⟨g, j * 4 + 1, none⟩ = false ∧ w'.frozen? ⟨g, j * 4 + 2, none⟩ = false ∧ w'.frozen? ⟨g, j * 4 + 3, none⟩ = false) [0, 1, 2, 3, 4, 5, 6, 7, 8, 9, 10, 11, 12, 13, 14, 15, 16, 17, 18, 19, 20, 21, 22] (by kernel_rfl) (HSk.out _ hdr) (fun hh => ?_)
   refine tt (i := 0) hh (some 140) ?_
   try simp only [Act.put, ptA, ptB, ptC]
   refine tt (i := 1) hh (some 141) ?_
   try simp only [Act.put, ptA, ptB, ptC]
   refine tt (i := 2) hh (some 142) ?_
   try simp only [Act.put, ptA, ptB, ptC]
   refine tt (i := 4) hh (some 144) ?_
   try simp only [Act.put, ptA, ptB, ptC]
   refine tt (i := 5) hh (some 145) ?_
   try simp only [Act.put, ptA, ptB, ptC]
   refine tt (i := 6) hh (some 146) ?_
   try simp only [Act.put, ptA, ptB, ptC]
   refine tt (i := 7) hh (some 147) ?_
   try simp only [Act.put, ptA, ptB, ptC]
   refine tt (i := 9) hh (some 149) ?_
   try simp only [Act.put, ptA, ptB, ptC]
   refine tt (i := 13) hh (some 153) ?_
   try simp only [Act.put, ptA, ptB, ptC]
   refine tt (i := 14) hh (some 154) ?_
   try simp only [Act.put, ptA, ptB, ptC]
   refine tt (i := 15) hh (some 155) ?_
   try simp only [Act.put, ptA, ptB, ptC]
   refine tt (i := 17) hh (some 157) ?_
   try simp only [Act.put, ptA, ptB, ptC]
   refine tt (i := 3) hh (some 143) ?_
   try simp only [Act.put, ptA, ptB, ptC]
   refine tt (i := 8) hh (some 148) ?_
   try simp only [Act.put, ptA, ptB, ptC]
   refine tt (i := 10) hh (some 150) ?_
   try simp only [Act.put, ptA, ptB, ptC]
   refine tt (i := 11) hh (some 151) ?_
   try simp only [Act.put, ptA, ptB, ptC]
   refine tt (i := 12) hh (some 152) ?_
   try simp only [Act.put, ptA, ptB, ptC]
   refine tt (i := 16) hh (some 156) ?_
   try simp only [Act.put, ptA, ptB, ptC]
   refine tt (i := 18) hh (some 158) ?_
   try simp only [Act.put, ptA, ptB, ptC]
   refine tt (i := 19) hh (some 159) ?_
   try simp only [Act.put, ptA, ptB, ptC]
   refine till_ready (rs := [20]) (by kernel_rfl) (by simp) ?_
   refine mem1 ?_
   refine till_step rfl (fun K hK => ?_)
   go_simp
   go_at_call 25
   refine HO.out.mono ?_
   rintro e u1 ⟨_, rfl, hqv4, hd4⟩
   obtain ⟨s5, A5, n5, c5', B5, m5, d5', rfl, -⟩ := QV.parts hqv4
   have H3 := hide (ai hqv4 hd4)
   clear hqv4 hd4
   go_wp2_with fail
   refine hK.out _ _ (HSk.out _ H3.out.2) (fun hh => ?_)
   clear hK K
   try simp only [Act.put, ptA, ptB, ptC]
   refine till_ready (rs := [21]) (by kernel_rfl) (by simp) ?_
   refine mem1 ?_
   refine till_step rfl (fun K hK => ?_)
   go_simp
   go_at_call 24
   refine (minus9_c _ _ _ _ _ _ (HQ.out.below H3.out.2) H3.out.1 (by omega)).mono ?_
   rintro e u2 ⟨_, rfl, hqv4, hd4⟩
   obtain ⟨s4, A4, n4, c4', B4, m4, d4', rfl, -⟩ := QV.parts hqv4
   have H4 := hide (ai hqv4 (bnx H3.out.2 hd4))
   clear hqv4 hd4
   go_wp2_with fail
   refine hK.out _ _ (HSk.out _ H4.out.2) (fun hh => ?_)
   clear hK K
   try simp only [Act.put, ptA, ptB, ptC]
   refine tt (i := 22) hh (some 162) ?_
   try simp only [Act.put, ptA, ptB, ptC]
   refine till_end (k := 23) (by rfl) (by rfl) (by kernel_rfl) ?_
   simp only [List.drop_succ_cons, List.drop_zero]
   obtain ⟨r0, ra0, e0, e1, e2, e3, x0, x1, x2, x3, b0, b1, b2, b3, f0, f1, f2, f3⟩ := HSk.out _ H4.out.2
   clear hh
   go_wp2_with fail
   refine NoPanic.normal ?_
   go_wp2
   case roundEnd =>
    obtain ⟨hm, hk, hbk, hbel, hsz, hg, hrow, hbg, hlr, hra⟩ := HV.out
    have hb4 : Below wr.heap.size wr u2 := (Below.refl wr.heap.size wr).drew.trans H4.out.2
    have hq4 := H4.out.1.fit (HA.out.2.2.2.2.1 j hjl)
    obtain ⟨t1, t2, t3⟩ := (hrow.below hb4).set4 (i := j) (by rw [mixL_length HN.out.1, HA.out.2.2.1]; exact hjl) hq4 rfl
    rw [← HN.out.2, mixL_set HN.out.1 (by rw [HA.out.2.2.1]; exact hjl)] at t1
    have hm5 := (hm.below hb4).row (i := i) (qs := mixL new (rows.getD i []) (j + 1)) (by rw [hlr]; exact hiN) (by rw [hra, mixL_length HN.out.1, mixL_length HN.out.1]) (by rw [← hg]; exact t1) t2 (by rw [← hg]; exact t3)
    rw [List.set_set] at hm5
    have h1 := hb4.size
    have h2 := t3.size
    refine ⟨⟨j + 1, by omega, by go_num, hm5, (hk.trans (Below.kpI hb4)).trans t2, ?_, only_below (hbel.trans (hb4.mono hm.le)) t3 (by have := hm.le; omega) hbg, by omega⟩, by simp [intOf]; omega⟩
    refine (t3.block B (by omega) ?_).trans ((hb4.block B (by omega)).trans hbk)
    intro e
    injection e with e
    exact HA.out.2.2.2.2.2.1 (by rw [← hg, ← e])
  ·have d1 : decide (j < wd) = false := decide_eq_false hjl
   obtain rfl : j = wd := by omega
   have HI := hide hI; clear hI
   go_wp2
   exact HE.out _ _ _ _ _ _ _ _ _ _ _ _ _ _ _ _ _ _ _ _ _ _ _ _ _ _ _ _ _ _ HI.out
end Go.Proofs.YthnnbpnocefmgaaGreat
