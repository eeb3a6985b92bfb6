/- Walks: elimination, the loop that clears a column. -/
import Derived.Test.YtpoahodnakhmiaaGreatElim
import Derived.Test.YtpoahodnakhmiaaGreatSwap
namespace Go.Proofs.YtpoahodnakhmiaaGreat
set_option linter.unusedVariables false
set_option linter.unusedSimpArgs false
open Go.RowKit
def blockAt (n : Nat) : Code → Option Code
  | .block id c => if id = n then some c else blockAt n c
  | .seq a b => match blockAt n a with
    | some c => some c
    | none => blockAt n b
  | .loop c => blockAt n c
  | .scope c => blockAt n c
  | .cond _ a b => match blockAt n a with
    | some c => some c
    | none => blockAt n b
  | _ => none
def loopBody : Code → Code
  | .loop c => c
  | _ => .skip
noncomputable def clearBody : Code := loopBody ((Tryz.f191.body.bind (blockAt 4)).getD .skip)
/-- after k rows -/
def ClearI (w : World) (base M R D cR cD : Nat) (vs us rR rD : List Value) (gs hs : List Nat) (S : St) (L a n k : Nat) (w' : World) : Prop :=
  MatS w' base M R D cR cD vs us rR rD gs hs (clearN a n k S).1 (clearN a n k S).2 L ∧ (∀ b, Typed w b 3 → w'.heap[b]? = w.heap[b]?) ∧ Below base w w' ∧ w.heap.size ≤ w'.heap.size
theorem getD_len {wd : Nat} {S : St} (h : Rect wd S) {i : Nat} (hi : i < S.1.length) : (S.1.getD i []).length = wd ∧ (S.2.getD i []).length = S.1.length := ⟨h.row i hi, h.done i hi⟩
set_option maxRecDepth 1000000 in
set_option maxHeartbeats 4000000 in
theorem clear_loop (w : World) (base M R D cR cD : Nat) (vs us rR rD : List Value) (gs hs : List Nat) (S : St) (L wd a n N : Nat) (h : MatS w base M R D cR cD vs us rR rD gs hs S.1 S.2 L) (hrect : Rect wd S) (hN : S.1.length = N) (haN : a < N) (hnw : n < wd) (hwd : wd ≤ 1073741824) (hNb : N ≤ 1073741824)
    (hfit : ∀ i, i ≤ N → FitS L (clearN a n i S)) (hL : L ≤ 134217700)
    (c1 c2 c3 c4 c5 c8 c9 c10 c11 c12 c13 c14 c15 c16 c17 c18 c19 c20 c21 c22 c23 c24 c25 c26 c27 c28 c29 c30 c31 c32 c33 c34 c35 c36 c37 c38 c39 c40 c41 c42 c43 c44 c45 c46 c47 c48 c49 c50 c51 c52 c53 c54 c55 c56 c57 c58 c59 c60 c61 c62 c63 c64 c65 c66 c67 c68 c69 c70 c71 c72 c73 c74 c75 c76 c77 c78 c79 c80 c81 c82 c83 c84 c87 c88 c89 c90 c91 c92 c93 c94 c95 c96 c97 c98 c99 c100 c101 c102 c103 c104 c105 c106 c107 c108 c109 c110 c111 c112 c113 c114 c115 c116 c117 c118 c119 c120 c121 c122 c123 c124 c125 c126 c127 c128 c129 c130 c131 c132 c133 c134 c135 c136 c137 c138 c139 c140 c141 c142 c143 c144 c145 c146 : Value) (Q : Exit → Act → World → Prop)
    (hexit : ∀ (u10 u11 u86 u87 u88 u89 u90 u91 u92 u93 u94 u95 u96 u97 u98 u99 u100 u101 u102 u103 u104 u105 u106 u107 u108 u109 u110 u111 u112 u113 u114 u115 u116 u117 u118 u119 u120 u121 u122 u123 u124 u125 u126 u127 u128 u129 u130 u131 u132 u133 u134 u135 u136 u137 u138 u139 u140 : Value) (w' : World), ClearI w base M R D cR cD vs us rR rD gs hs S L a n N w' → Q (.exit 4) ⟨((.pointer (some ⟨M, 0, none⟩) : Value) :: c1 :: c2 :: c3 :: c4 :: c5 :: (.int .i64 n : Value) :: (.int .i64 a : Value) :: c8 :: c9 :: u10 :: u11 :: c12 :: c13 :: c14 :: c15 :: c16 :: c17 :: c18 :: c19 :: c20 :: c21 :: c22 :: c23 :: c24 :: c25 :: c26 :: c27 :: c28 :: c29 :: c30 :: c31 :: c32 :: c33 :: c34 :: c35 :: c36 :: c37 :: c38 :: c39 :: c40 :: c41 :: c42 :: c43 :: c44 :: c45 :: c46 :: c47 :: c48 :: c49 :: c50 :: c51 :: c52 :: c53 :: c54 :: c55 :: c56 :: c57 :: c58 :: c59 :: c60 :: c61 :: c62 :: c63 :: c64 :: c65 :: c66 :: c67 :: c68 :: c69 :: c70 :: c71 :: c72 :: c73 :: c74 :: c75 :: c76 :: c77 :: c78 :: c79 :: c80 :: c81 :: c82 :: c83 :: c84 :: (.int .i64 N : Value) :: u86 :: u87 :: u88 :: u89 :: u90 :: u91 :: u92 :: u93 :: u94 :: u95 :: u96 :: u97 :: u98 :: u99 :: u100 :: u101 :: u102 :: u103 :: u104 :: u105 :: u106 :: u107 :: u108 :: u109 :: u110 :: u111 :: u112 :: u113 :: u114 :: u115 :: u116 :: u117 :: u118 :: u119 :: u120 :: u121 :: u122 :: u123 :: u124 :: u125 :: u126 :: u127 :: u128 :: u129 :: u130 :: u131 :: u132 :: u133 :: u134 :: u135 :: u136 :: u137 :: u138 :: u139 :: u140 :: c141 :: c142 :: c143 :: c144 :: c145 :: c146 :: []).toArray, []⟩ w') :
    Code.wp Tryz.prog (Code.loop clearBody) Q ⟨((.pointer (some ⟨M, 0, none⟩) : Value) :: c1 :: c2 :: c3 :: c4 :: c5 :: (.int .i64 n : Value) :: (.int .i64 a : Value) :: c8 :: c9 :: c10 :: c11 :: c12 :: c13 :: c14 :: c15 :: c16 :: c17 :: c18 :: c19 :: c20 :: c21 :: c22 :: c23 :: c24 :: c25 :: c26 :: c27 :: c28 :: c29 :: c30 :: c31 :: c32 :: c33 :: c34 :: c35 :: c36 :: c37 :: c38 :: c39 :: c40 :: c41 :: c42 :: c43 :: c44 :: c45 :: c46 :: c47 :: c48 :: c49 :: c50 :: c51 :: c52 :: c53 :: c54 :: c55 :: c56 :: c57 :: c58 :: c59 :: c60 :: c61 :: c62 :: c63 :: c64 :: c65 :: c66 :: c67 :: c68 :: c69 :: c70 :: c71 :: c72 :: c73 :: c74 :: c75 :: c76 :: c77 :: c78 :: c79 :: c80 :: c81 :: c82 :: c83 :: c84 :: (.int .i64 N : Value) :: (.int .i64 0 : Value) :: c87 :: c88 :: c89 :: c90 :: c91 :: c92 :: c93 :: c94 :: c95 :: c96 :: c97 :: c98 :: c99 :: c100 :: c101 :: c102 :: c103 :: c104 :: c105 :: c106 :: c107 :: c108 :: c109 :: c110 :: c111 :: c112 :: c113 :: c114 :: c115 :: c116 :: c117 :: c118 :: c119 :: c120 :: c121 :: c122 :: c123 :: c124 :: c125 :: c126 :: c127 :: c128 :: c129 :: c130 :: c131 :: c132 :: c133 :: c134 :: c135 :: c136 :: c137 :: c138 :: c139 :: c140 :: c141 :: c142 :: c143 :: c144 :: c145 :: c146 :: []).toArray, []⟩ w := by
  conv => arg 2; arg 1; whnf
  have hmz := meth_isZero
  have HA := hide (And.intro h (And.intro hrect (And.intro hfit hN))); clear h hrect hfit hN
  have HE := hide hexit; clear hexit
  go_loopw [86] (fun s86 wr => ∃ k : Nat, k ≤ N ∧ s86 = .int .i64 k ∧ ClearI w base M R D cR cD vs us rR rD gs hs S L a n k wr) (fun s86 _ => N - (intOf s86).toNat)
  case atStart => exact ⟨0, Nat.zero_le _, rfl, HA.out.1, fun _ _ => rfl, Below.refl _ _, Nat.le_refl _⟩
  case round =>
    obtain ⟨k, hk, rfl, hI⟩ := hrel
    by_cases hkl : k < N
    · have hT : ∃ T, T = clearN a n k S := ⟨_, rfl⟩
      obtain ⟨T, hT⟩ := hT
      have hrk : Rect wd T := by rw [hT]; exact rect_clearN k HA.out.2.1 (by rw [HA.out.2.2.2]; omega)
      have hlk : T.1.length = N := by rw [hT, clearN_length]; exact HA.out.2.2.2
      have hfk : FitS L (clearS a n k T) := by rw [hT]; exact HA.out.2.2.1 (k + 1) (by omega)
      have hnx : clearN a n (k + 1) S = clearS a n k T := by rw [hT]; rfl
      unfold ClearI at hI
      rw [← hT] at hI
      obtain ⟨hmat, hty, hbel, hsz⟩ := hI
      obtain ⟨gk, ck, hgk, r0, hc1, hc2, hrow, hbg⟩ := hmat.rowAt (i := k) (by rw [hlk]; exact hkl)
      obtain ⟨qk, qk'⟩ := getD_len hrk (i := k) (by rw [hlk]; exact hkl)
      obtain ⟨qa, qa'⟩ := getD_len hrk (i := a) (by rw [hlk]; exact haN)
      rw [hlk] at qk' qa'
      rw [qk] at r0 hc1
      obtain ⟨s2, B3, m3, d3, B4, m4, d4, e0, e1, e2, hq⟩ := (hrow.2 n (by rw [qk]; omega)).rat
      have hm0 := hmat.m0
      rw [hlk] at hm0
      obtain ⟨Wb, hWb⟩ : ∃ Wb, Wb = wr.alloc (.cells #[.bool s2, .slice B3 m3 d3, .slice B4 m4 d4] 43) := ⟨_, rfl⟩
      have hbb : Below wr.heap.size wr Wb := by rw [hWb]; exact (Below.refl _ _).alloc (Nat.le_refl _) _
      have hbx := box3 (below_start wr (.cells #[.bool s2, .slice B3 m3 d3, .slice B4 m4 d4] 43))
      rw [← hWb] at hbx
      obtain ⟨x0, x1, x2, _, _, _, hszb⟩ := hbx
      have hTyb : Typed Wb wr.heap.size 43 := by rw [hWb]; exact ⟨_, _, heap_alloc_new wr _⟩
      have HX := hide (And.intro hT (And.intro hrk (And.intro hlk (And.intro hfk (And.intro hnx (And.intro hmat (And.intro hty (And.intro hbel (And.intro hsz (And.intro hgk (And.intro hrow (And.intro hbg (And.intro qk (And.intro qk' (And.intro qa (And.intro qa' (And.intro hq (And.intro hWb (And.intro hbb (And.intro hTyb (And.intro hc1 hc2)))))))))))))))))))))
      clear hT hrk hlk hfk hnx hmat hty hbel hsz hgk hrow hbg qk qk' qa qa' hq hbb hTyb hc1 hc2 hWb hszb x0 x1 x2
      by_cases hka : k = a
      · have hne : ((k : Int) != (a : Int)) = false := by rw [hka]; simp
        have HKA := hide hka; clear hka
        go_wp2
        go_roundw
        case rel =>
          obtain ⟨hT, hrk, hlk, hfk, hnx, hmat, hty, hbel, hsz, hgk, hrow, hbg, qk, qk', qa, qa', hq, hWb, hbb, hTyb, hc1, hc2⟩ := HX.out
          rw [← hWb]
          refine ⟨k + 1, by omega, by go_num, ?_⟩
          unfold ClearI
          have e : clearS a n k T = T := by unfold clearS; rw [if_pos (.inl HKA.out)]
          rw [hnx, e]
          exact ⟨hmat.below hbb, fun b hb => (hbb.block b (hb.same (hty b hb)).lt).trans (hty b hb), hbel.trans (hbb.mono hmat.le), by have := hbb.size; omega⟩
        case measure => simp [intOf]; omega
      · have hne : ((k : Int) != (a : Int)) = true := by rw [bne_iff_ne]; omega
        by_cases hz : ent T.1 k n = 0
        · go_wp2_with (go_at_call 75; refine (isZero_q _ _ _ L ((HX.out.2.2.2.2.2.2.2.2.2.2.2.2.2.2.2.2.1).below (by rw [← HX.out.2.2.2.2.2.2.2.2.2.2.2.2.2.2.2.2.2.1]; exact HX.out.2.2.2.2.2.2.2.2.2.2.2.2.2.2.2.2.2.2.1))).mono ?_; rintro e w1 ⟨_, rfl, rfl, hd1⟩; rw [show decide ((T.1.getD k []).getD n 0 = 0) = true from decide_eq_true hz])
          go_roundw
          case rel =>
            obtain ⟨hT, hrk, hlk, hfk, hnx, hmat, hty, hbel, hsz, hgk, hrow, hbg, qk, qk', qa, qa', hq, hWb, hbb, hTyb, hc1, hc2⟩ := HX.out
            rw [← hWb] at hd1
            have hb1 := below_next hbb hd1
            refine ⟨k + 1, by omega, by go_num, ?_⟩
            unfold ClearI
            have e : clearS a n k T = T := by unfold clearS; rw [if_pos (.inr hz)]
            rw [hnx, e]
            exact ⟨hmat.below hb1, fun b hb => (hb1.block b (hb.same (hty b hb)).lt).trans (hty b hb), hbel.trans (hb1.mono hmat.le), by have := hb1.size; omega⟩
          case measure => simp [intOf]; omega
        · go_wp2_with (go_at_call 75; refine (isZero_q _ _ _ L ((HX.out.2.2.2.2.2.2.2.2.2.2.2.2.2.2.2.2.1).below (by rw [← HX.out.2.2.2.2.2.2.2.2.2.2.2.2.2.2.2.2.2.1]; exact HX.out.2.2.2.2.2.2.2.2.2.2.2.2.2.2.2.2.2.2.1))).mono ?_; rintro e w1 ⟨_, rfl, rfl, hd1⟩; rw [show decide ((T.1.getD k []).getD n 0 = 0) = false from decide_eq_false hz])
          obtain ⟨hT, hrk, hlk, hfk, hnx, hmat, hty, hbel, hsz, hgk, hrow, hbg, qk, qk', qa, qa', hq, hWb, hbb, hTyb, hc1, hc2⟩ := HX.out
          rw [← hWb] at hd1
          have hb1 := below_next hbb hd1
          have hbx := box3 (below_start wr (.cells #[.bool s2, .slice B3 m3 d3, .slice B4 m4 d4] 43))
          rw [← hWb] at hbx
          obtain ⟨x0, x1, x2, _, _, _, hszb⟩ := hbx
          have y0 := (hd1.cell (lt_of_cell x0)).trans x0
          have y1 := (hd1.cell (lt_of_cell x1)).trans x1
          have y2 := (hd1.cell (lt_of_cell x2)).trans x2
          have hTy1 : Typed w1 wr.heap.size 43 := hTyb.same (hd1.block _ hszb)
          have hmat1 := hmat.below hb1
          have hq1 := hq.below hb1
          have hty1 : ∀ b, Typed w b 3 → w1.heap[b]? = w.heap[b]? := fun b hb => (hb1.block b (hb.same (hty b hb)).lt).trans (hty b hb)
          have hbel1 := hbel.trans (hb1.mono hmat.le)
          have hsz1 : w.heap.size ≤ w1.heap.size := by have := hb1.size; omega
          have hgkl : gk ≠ wr.heap.size := by have := hrow.lt; omega
          obtain ⟨ga, ca, hga, ra0, hca1, hca2, hrowa, hbga⟩ := hmat1.rowAt (i := a) (by rw [hlk]; exact haN)
          obtain ⟨gk', ck', hgk', rk', hck1', hck2', hrowk', hbgk'⟩ := hmat1.doneAt (i := k) (by rw [hlk]; exact hkl)
          obtain ⟨ga', ca', hga', ra', hca1', hca2', hrowa', hbga'⟩ := hmat1.doneAt (i := a) (by rw [hlk]; exact haN)
          rw [qa] at ra0 hca1
          rw [qk'] at rk' hck1'
          rw [qa'] at ra' hca1'
          have hgne : gk ≠ ga := by rw [hgk, hga]; exact hmat1.dg k a (by rw [hlk]; exact hkl) (by rw [hlk]; exact haN) hka
          have hgne' : gk' ≠ ga' := by rw [hgk', hga']; exact hmat1.dh k a (by rw [hlk]; exact hkl) (by rw [hlk]; exact haN) hka
          have hrow1 := hrow.below hb1
          have p0 := hmat1.m0
          have p1 := hmat1.m1
          rw [hlk] at p0 p1
          have rk1 := (hb1.cell (lt_of_cell r0)).trans r0
          obtain ⟨hft, hft'⟩ := fit_take hfk hrk.len (by rw [hlk]; exact hkl) hka hz
          have tR : ∀ {b e}, Typed w1 b e → e ≠ 43 → gk ≠ b := fun hb he => Typed.ne ⟨_, _, hrow1.1.choose_spec⟩ hb he.symm
          have gM : gk ≠ M := tR ⟨_, _, hmat1.hM⟩ (by decide)
          have gR : gk ≠ R := tR ⟨_, _, hmat1.hR⟩ (by decide)
          have gD : gk ≠ D := tR ⟨_, _, hmat1.hD⟩ (by decide)
          have hd := (Below.refl w1.heap.size w1).drew
          have ht := take_c w1.drew gk ck (T.1.getD k []) (.agg #[.bool s2, .slice B3 m3 d3, .slice B4 m4 d4]) (ent T.1 k n) ga ca (T.1.getD a []) L (hrow1.below hd) (hq1.below hd) (hrowa.below hd) hL hgne (by rw [qk, qa]) (by rw [qk]; exact hc1) hc2 (by rw [qa]; exact hca1) hca2 hft
          rw [qk, qa] at ht
          have hS0 := And.intro p0 (And.intro rk1 (And.intro ra0 (And.intro y0 (And.intro y1 y2))))
          have hSk : ∀ w' : World, w1.drew.grownBy w' (some gk) → w'.cell? ⟨M, 0, none⟩ = some (.slice (some ⟨R, 0, none⟩) N cR) ∧ w'.cell? ⟨R, k, none⟩ = some (.slice (some ⟨gk, 0, none⟩) wd ck) ∧ w'.cell? ⟨R, a, none⟩ = some (.slice (some ⟨ga, 0, none⟩) wd ca) ∧ w'.cell? ⟨wr.heap.size, 0, none⟩ = some (.bool s2) ∧ w'.cell? ⟨wr.heap.size, 1, none⟩ = some (.slice B3 m3 d3) ∧ w'.cell? ⟨wr.heap.size, 2, none⟩ = some (.slice B4 m4 d4) := by
            intro w' hg
            have e : ∀ b j v, w1.cell? ⟨b, j, none⟩ = some v → gk ≠ b → w'.cell? ⟨b, j, none⟩ = some v := fun b j v hv hne => (World.cell?_of_block (w := w1.drew) (hg.block b (lt_of_cell hv) (by intro e; injection e with e; exact hne e.symm))).trans hv
            exact ⟨e _ _ _ p0 gM, e _ _ _ rk1 gR, e _ _ _ ra0 gR, e _ _ _ y0 hgkl, e _ _ _ y1 hgkl, e _ _ _ y2 hgkl⟩
          have HSk := hide hSk; clear hSk
          have HT := hide ht; clear ht
          have HV := hide (And.intro hb1 (And.intro hTy1 (And.intro hmat1 (And.intro hq1 (And.intro hty1 (And.intro hbel1 (And.intro hsz1 (And.intro hgkl (And.intro hga (And.intro hgk' (And.intro hga' (And.intro hgne' (And.intro hrow1 (And.intro hft' (And.intro gM (And.intro gR (And.intro gD (And.intro hck1' (And.intro hck2' (And.intro hca1' hca2'))))))))))))))))))))
          have HP := hide (And.intro p1 (And.intro rk' (And.intro ra' (And.intro y0 (And.intro y1 y2)))))
          clear hT hrk hlk hfk hnx hmat hty hbel hsz hgk hrow hbg qk qk' qa qa' hq hbb hTyb hc1 hc2 hWb hszb x0 x1 x2 hb1 hTy1 hmat1 hq1 hty1 hbel1 hsz1 hgkl hga hgk' hga' hgne hgne' hrow1 hft hft' gM gR gD hrowa hrowk' hrowa' hbga hbgk' hbga' hck1' hck2' hca1' hca2' hca1 hca2 tR hd hd1 r0 e0 e1 e2 hm0 p0 p1 rk1 ra0 rk' ra' y0 y1 y2
          go_wp2
          go_region_held3 (fun w' => w'.cell? ⟨M, 0, none⟩ = some (.slice (some ⟨R, 0, none⟩) N cR) ∧ w'.cell? ⟨R, k, none⟩ = some (.slice (some ⟨gk, 0, none⟩) wd ck) ∧ w'.cell? ⟨R, a, none⟩ = some (.slice (some ⟨ga, 0, none⟩) wd ca) ∧ w'.cell? ⟨wr.heap.size, 0, none⟩ = some (.bool s2) ∧ w'.cell? ⟨wr.heap.size, 1, none⟩ = some (.slice B3 m3 d3) ∧ w'.cell? ⟨wr.heap.size, 2, none⟩ = some (.slice B4 m4 d4))
            (first | (exact HSk.out _ hg4) | (exact hS0) | (go_keep; done))
            (first | (go_at_call 207; refine HT.out.mono ?_; rintro e w4 ⟨_, rfl, rfl, hrow4, hk4, hg4⟩))
          obtain ⟨hT, hrk, hlk, hfk, hnx, hmat, hty, hbel, hsz, hgk, hrow, hbg, qk, qk', qa, qa', hq, hWb, hbb, hTyb, hc1, hc2⟩ := HX.out
          obtain ⟨hb1, hTy1, hmat1, hq1, hty1, hbel1, hsz1, hgkl, hga, hgk', hga', hgne', hrow1, hft', gM, gR, gD, hck1', hck2', hca1', hca2'⟩ := HV.out
          obtain ⟨p1, rk', ra', y0, y1, y2⟩ := HP.out
          have hd := (Below.refl w1.heap.size w1).drew
          have e4 : ∀ b j v, w1.cell? ⟨b, j, none⟩ = some v → gk ≠ b → w4.cell? ⟨b, j, none⟩ = some v := fun b j v hv hne => (World.cell?_of_block (w := w1.drew) (hg4.block b (lt_of_cell hv) (by intro e; injection e with e; exact hne e.symm))).trans hv
          have p1 := e4 _ _ _ p1 gM
          have rk' := e4 _ _ _ rk' gD
          have ra' := e4 _ _ _ ra' gD
          have y0 := e4 _ _ _ y0 hgkl
          have y1 := e4 _ _ _ y1 hgkl
          have y2 := e4 _ _ _ y2 hgkl
          have hTy4 : Typed w4 wr.heap.size 43 := hTy1.same (hg4.block _ hTy1.lt (by intro e; injection e with e; exact hgkl e.symm))
          have hm4 : MatS w4 base M R D cR cD vs us rR rD gs hs (T.1.set k (takeL (T.1.getD k []) (ent T.1 k n) (T.1.getD a []))) T.2 L :=
            (hmat1.below hd).row (i := k) (by rw [hlk]; exact hkl) (by rw [takeL_length]) (by rw [← hgk]; exact hrow4) hk4 (by rw [← hgk]; exact hg4)
          have hq4 := (hq1.below hd).keeps hk4
          have hl4 : (T.1.set k (takeL (T.1.getD k []) (ent T.1 k n) (T.1.getD a []))).length = N := by rw [List.length_set, hlk]
          obtain ⟨g5, c5, hg5e, v5, hv51, hv52, hrowk4, _⟩ := hm4.doneAt (i := k) (by rw [hl4]; exact hkl)
          obtain ⟨g6, c6, hg6e, v6, hv61, hv62, hrowa4, _⟩ := hm4.doneAt (i := a) (by rw [hl4]; exact haN)
          rw [← hgk'] at hg5e
          rw [← hga'] at hg6e
          have hg5e := hg5e.symm
          have hg6e := hg6e.symm
          subst hg5e hg6e
          have hty4 : ∀ b, Typed w b 3 → w4.heap[b]? = w.heap[b]? := by
            intro b hb
            have tb := hb.same (hty1 b hb)
            exact (hg4.block b tb.lt (by intro e; injection e with e; exact (tb.ne ⟨_, _, hrow1.1.choose_spec⟩ (by decide)) e)).trans (hty1 b hb)
          have hbel4 : Below base w w4 := only_below hbel1.drew hg4 hmat1.le hbg
          have hsz4 : w.heap.size ≤ w4.heap.size := by have h1 := hg4.size; have h2 : w1.drew.heap.size = w1.heap.size := rfl; omega
          have tR : ∀ {b e}, Typed w4 b e → e ≠ 43 → gk' ≠ b := fun hb he => Typed.ne ⟨_, _, hrowk4.1.choose_spec⟩ hb he.symm
          have gM' : gk' ≠ M := tR ⟨_, _, hm4.hM⟩ (by decide)
          have gD' : gk' ≠ D := tR ⟨_, _, hm4.hD⟩ (by decide)
          have hgkl' : gk' ≠ wr.heap.size := by
            obtain ⟨g7, c7, hg7e, _, _, _, hrow7, _⟩ := hmat.doneAt (i := k) (by rw [hlk]; exact hkl)
            have := hrow7.lt
            rw [hgk', ← hg7e]; omega
          have hd4 := (Below.refl w4.heap.size w4).drew
          have ht := take_c w4.drew gk' ck' (T.2.getD k []) (.agg #[.bool s2, .slice B3 m3 d3, .slice B4 m4 d4]) (ent T.1 k n) ga' ca' (T.2.getD a []) L (hrowk4.below hd4) (hq4.below hd4) (hrowa4.below hd4) hL hgne' (by rw [qk', qa']) (by rw [qk']; exact hck1') hck2' (by rw [qa']; exact hca1') hca2' hft'
          rw [qk', qa'] at ht
          have hS0 := And.intro p1 (And.intro rk' (And.intro ra' (And.intro y0 (And.intro y1 y2))))
          have hSk : ∀ w' : World, w4.drew.grownBy w' (some gk') → w'.cell? ⟨M, 1, none⟩ = some (.slice (some ⟨D, 0, none⟩) N cD) ∧ w'.cell? ⟨D, k, none⟩ = some (.slice (some ⟨gk', 0, none⟩) N ck') ∧ w'.cell? ⟨D, a, none⟩ = some (.slice (some ⟨ga', 0, none⟩) N ca') ∧ w'.cell? ⟨wr.heap.size, 0, none⟩ = some (.bool s2) ∧ w'.cell? ⟨wr.heap.size, 1, none⟩ = some (.slice B3 m3 d3) ∧ w'.cell? ⟨wr.heap.size, 2, none⟩ = some (.slice B4 m4 d4) := by
            intro w' hg
            have e : ∀ b j v, w4.cell? ⟨b, j, none⟩ = some v → gk' ≠ b → w'.cell? ⟨b, j, none⟩ = some v := fun b j v hv hne => (World.cell?_of_block (w := w4.drew) (hg.block b (lt_of_cell hv) (by intro e; injection e with e; exact hne e.symm))).trans hv
            exact ⟨e _ _ _ p1 gM', e _ _ _ rk' gD', e _ _ _ ra' gD', e _ _ _ y0 hgkl', e _ _ _ y1 hgkl', e _ _ _ y2 hgkl'⟩
          have HSk2 := hide hSk; clear hSk
          have HT2 := hide ht; clear ht
          have HW := hide (And.intro hm4 (And.intro hty4 (And.intro hbel4 (And.intro hsz4 (And.intro hrowk4 (And.intro hl4 (And.intro hgk' (And.intro hbg hnx))))))))
          clear hm4 hty4 hbel4 hsz4 hrowk4 hl4 hTy4 hq4 hrow4 hk4 hg4 hS0 HSk HT HP e4 gM' gD' hgkl' tR hd4 hd v5 v6 hv51 hv52 hv61 hv62 hrowa4
          have hS4 := And.intro p1 (And.intro rk' (And.intro ra' (And.intro y0 (And.intro y1 y2))))
          clear hT hrk hlk hfk hnx hmat hty hbel hsz hgk hrow hbg qk qk' qa qa' hq hWb hbb hTyb hc1 hc2 hb1 hTy1 hmat1 hq1 hty1 hbel1 hsz1 hgkl hga hgk' hga' hgne' hrow1 hft' gM gR gD hck1' hck2' hca1' hca2' p1 rk' ra' y0 y1 y2
          go_wp2
          go_region_held3 (fun w' => w'.cell? ⟨M, 1, none⟩ = some (.slice (some ⟨D, 0, none⟩) N cD) ∧ w'.cell? ⟨D, k, none⟩ = some (.slice (some ⟨gk', 0, none⟩) N ck') ∧ w'.cell? ⟨D, a, none⟩ = some (.slice (some ⟨ga', 0, none⟩) N ca') ∧ w'.cell? ⟨wr.heap.size, 0, none⟩ = some (.bool s2) ∧ w'.cell? ⟨wr.heap.size, 1, none⟩ = some (.slice B3 m3 d3) ∧ w'.cell? ⟨wr.heap.size, 2, none⟩ = some (.slice B4 m4 d4))
            (first | (exact HSk2.out _ hg5) | (exact hS4) | (go_keep; done))
            (first | (go_at_call 207; refine HT2.out.mono ?_; rintro e w5 ⟨_, rfl, rfl, hrow5, hk5, hg5⟩))
          clear hS4
          go_wp2
          go_roundw
          case rel =>
            obtain ⟨hm4, hty4, hbel4, hsz4, hrowk4, hl4, hgk', hbg, hnx⟩ := HW.out
            have hd4 := (Below.refl w4.heap.size w4).drew
            refine ⟨k + 1, by omega, by go_num, ?_⟩
            unfold ClearI
            have e : clearS a n k T = (T.1.set k (takeL (T.1.getD k []) (ent T.1 k n) (T.1.getD a [])), T.2.set k (takeL (T.2.getD k []) (ent T.1 k n) (T.2.getD a []))) := by
              unfold clearS; rw [if_neg (fun e => e.elim hka hz)]
            rw [hnx, e]
            have hm5 := (hm4.below hd4).doneRow (i := k) (qs := takeL (T.2.getD k []) (ent T.1 k n) (T.2.getD a [])) (by rw [hl4]; exact hkl) (by rw [takeL_length]) (by rw [← hgk']; exact hrow5) hk5 (by rw [← hgk']; exact hg5)
            refine ⟨hm5, ?_, ?_, ?_⟩
            · intro b hb
              have tb := hb.same (hty4 b hb)
              exact (hg5.block b tb.lt (by intro e; injection e with e; exact (tb.ne ⟨_, _, hrowk4.1.choose_spec⟩ (by decide)) e)).trans (hty4 b hb)
            · exact only_below hbel4.drew hg5 hm4.le (by rw [hgk']; exact (hm4.dok k (by rw [hl4]; exact hkl)).1)
            · have h1 := hg5.size; have h2 : w4.drew.heap.size = w4.heap.size := rfl; omega
          case measure => simp [intOf]; omega
    · obtain rfl : k = N := by omega
      have HI := hide hI; clear hI
      go_wp2
      exact HE.out _ _ _ _ _ _ _ _ _ _ _ _ _ _ _ _ _ _ _ _ _ _ _ _ _ _ _ _ _ _ _ _ _ _ _ _ _ _ _ _ _ _ _ _ _ _ _ _ _ _ _ _ _ _ _ _ _ _ HI.out
end Go.Proofs.YtpoahodnakhmiaaGreat
