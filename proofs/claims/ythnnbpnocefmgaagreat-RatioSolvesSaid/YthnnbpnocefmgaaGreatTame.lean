import Derived.Test.YthnnbpnocefmgaaGreatOpenS
namespace Go.Proofs.YthnnbpnocefmgaaGreat
set_option linter.unusedVariables false
set_option linter.unusedSimpArgs false
open Go.RowKit
def StrV (w : World) (u : Value) (s : ByteArray) : Prop := u = .string s
def GoodS (s : ByteArray) : Prop := s.size ≤ 140737488355328 ∧ FracQ 12 (fracOf 200 s)
theorem stB_strV : StB StrV := fun w w' u x hb h => h
theorem stK_strV {T : TypeId} : StK T StrV := fun w w' u x hk h => h
theorem good_short {s : ByteArray} (h : s.size ≤ 12) : GoodS s := by
 refine ⟨by omega, ?_⟩
 rcases fracOf_is 200 s with ⟨h1, h2⟩ | ⟨_, h2⟩
 ·exact FracQ.of_text (by rw [← h1, bytesOf_length]; exact h) (by omega)
 ·rw [h2]
  have := FracQ.one 12 (by omega)
  rwa [show Rat.divInt 1 1 = (1 : Rat) from Rat.num_divInt_den 1] at this
theorem good_snoc {P : ByteArray → Prop} {l : List ByteArray} {s : ByteArray} (h : ∀ x ∈ l, P x) (hs : P s) : ∀ x ∈ l ++ [s], P x := by
 intro x hx
 rcases List.mem_append.1 hx with hx | hx
 ·exact h x hx
 ·rw [List.mem_singleton] at hx; rw [hx]; exact hs
theorem good_snocs {P : ByteArray → Prop} {n : Nat} {l : List (List ByteArray)} {s : List ByteArray} (h : ∀ x ∈ l, x.length = n ∧ ∀ y ∈ x, P y) (hs : s.length = n) (hp : ∀ y ∈ s, P y) : ∀ x ∈ l ++ [s], x.length = n ∧ ∀ y ∈ x, P y := by
 intro x hx
 rcases List.mem_append.1 hx with hx | hx
 ·exact h x hx
 ·rw [List.mem_singleton] at hx; rw [hx]; exact ⟨hs, hp⟩
def StrsA (gv : Option Nat) (w : World) (u : Value) (ss : List ByteArray) : Prop := LstV 9 1 StrV w u ss ∧ ∀ g, u.ownBlock = some g → Typed w g 9 ∧ gv ≠ some g
theorem stB_strsA (gv : Option Nat) : StB (StrsA gv) := fun w w' u x hb h => ⟨h.1.below stB_strV hb, fun g hg => ⟨(h.2 g hg).1.same (hb.block g (h.2 g hg).1.lt), (h.2 g hg).2⟩⟩
theorem stK_strsA {T : TypeId} (gv : Option Nat) (hT : 9 ≠ T) : StK T (StrsA gv) := fun w w' u x hk h => ⟨h.1.kp stK_strV hT hk, fun g hg => ⟨(h.2 g hg).1.same (hk.typed (h.2 g hg).1 hT), (h.2 g hg).2⟩⟩
theorem Tryz.strE : ElT Tryz.prog 23 9 1 16 := ⟨Tryz.underlying23, ⟨.string ⟨#[]⟩, rfl, by kernel_rfl⟩, by decide, by decide⟩
theorem Tryz.strsE : ElT Tryz.prog 22 23 1 24 := ⟨Tryz.underlying22, ⟨.slice none 0 0, rfl, by kernel_rfl⟩, by decide, by decide⟩
theorem one_str (s : ByteArray) : ∀ x ∈ (Value.string s).cells.toList, x.oneCell' = true := by
 intro x hx
 simp [Value.cells] at hx
 subst hx; rfl
theorem strsA_turn {W w8 : World} {v : Value} {g8 : Nat} (hg : Grew W w8 9 v g8) (u : Value) (x : List ByteArray) (h : StrsA v.ownBlock W u x) : StrsA (some g8) w8 u x := by
 have key : ∀ g, u.ownBlock = some g → w8.heap[g]? = W.heap[g]? := fun g hu => hg.by_.block g (h.2 g hu).1.lt (fun e => (h.2 g hu).2 e.symm)
 refine ⟨h.1.same (fun u x h => h) (fun b o n c e _ => key b (by rw [e]; rfl)), fun g hu => ⟨(h.2 g hu).1.same (key g hu), fun e => ?_⟩⟩
 injection e with e
 rcases hg.new with h1 | h1
 ·exact (h.2 g hu).2 (by rw [h1, e])
 ·have := (h.2 g hu).1.lt; omega
def tameR (w : World) (m p : Nat) (v : Value) (w' : World) : Prop :=
 ∃ (va vm vv vc : Value) (rows : List (List Rat)) (bs : List Rat) (wd : Nat), v = .tuple #[va, vm, vv, vc] ∧ rows.length ≤ m ∧ wd ≤ p ∧ (∀ i, i < rows.length → (rows.getD i []).length = wd) ∧ bs.length = rows.length ∧
  (∀ i j, FracQ 12 (ent rows i j)) ∧ (∀ i, FracQ 12 (bs.getD i 0)) ∧
  LstV 26 1 (RowE 23) w' va rows ∧ LstV 27 1 (QRowE 23) w' vm rows ∧ RowE 23 w' vv bs ∧ QRowE 23 w' vc bs ∧ Below w.heap.size w w'
theorem tame_facts {ms : List (List ByteArray)} {vs : List ByteArray} {m p wd : Nat} (h1 : ∀ ss ∈ ms, ss.length = min wd p ∧ ∀ s ∈ ss, GoodS s) (h2 : ∀ s ∈ vs, GoodS s) (hm : ms.length ≤ m) (hl : vs.length = ms.length) :
  ((ms.take m).map (fracRow p)).length ≤ m ∧ True ∧ (∀ i, i < ((ms.take m).map (fracRow p)).length → (((ms.take m).map (fracRow p)).getD i []).length = min wd p) ∧ ((vs.take m).map (fracOf 200)).length = ((ms.take m).map (fracRow p)).length ∧
  (∀ i j, FracQ 12 (ent ((ms.take m).map (fracRow p)) i j)) ∧ (∀ i, FracQ 12 (((vs.take m).map (fracOf 200)).getD i 0)) ∧ True := by
 rw [List.take_of_length_le hm, List.take_of_length_le (by omega)]
 have hz : FracQ 12 0 := ⟨by decide, by decide⟩
 have hrow : ∀ i, i < (ms.map (fracRow p)).length → ∃ ss ∈ ms, (ms.map (fracRow p)).getD i [] = fracRow p ss := by
  intro i hi
  rw [List.length_map] at hi
  exact ⟨ms[i], List.getElem_mem hi, by simp [List.getD, hi]⟩
 refine ⟨by simp; omega, trivial, fun i hi => ?_, by simp [hl], fun i j => ?_, fun i => ?_, trivial⟩
 ·obtain ⟨ss, hss, e⟩ := hrow i hi
  rw [e]
  have := (h1 ss hss).1
  simp [fracRow]; omega
 ·by_cases hi : i < (ms.map (fracRow p)).length
  ·obtain ⟨ss, hss, e⟩ := hrow i hi
   unfold ent
   rw [e]
   unfold fracRow
   by_cases hj : j < ((ss.take p).map (fracOf 200)).length
   ·have : ((ss.take p).map (fracOf 200)).getD j 0 = fracOf 200 ((ss.take p)[j]'(by rw [List.length_map] at hj; exact hj)) := by
     simp only [List.getD_eq_getElem?_getD, List.getElem?_eq_getElem hj, Option.getD_some, List.getElem_map]
    rw [this]
    exact ((h1 ss hss).2 _ (List.mem_of_mem_take (List.getElem_mem _))).2
   ·have : ((ss.take p).map (fracOf 200)).getD j 0 = 0 := by simp only [List.getD_eq_getElem?_getD]; rw [List.getElem?_eq_none (by omega)]; rfl
    rw [this]; exact hz
  ·have : ent (ms.map (fracRow p)) i j = 0 := by
    unfold ent
    rw [show (ms.map (fracRow p)).getD i [] = [] from by simp only [List.getD_eq_getElem?_getD]; rw [List.getElem?_eq_none (by omega)]; rfl]
    rfl
   rw [this]; exact hz
 ·by_cases hi : i < vs.length
  ·have : (vs.map (fracOf 200)).getD i 0 = fracOf 200 vs[i] := by simp [List.getD, hi]
   rw [this]; exact (h2 _ (List.getElem_mem _)).2
  ·have : (vs.map (fracOf 200)).getD i 0 = 0 := by simp only [List.getD_eq_getElem?_getD]; rw [List.getElem?_eq_none (by simp; omega)]; rfl
   rw [this]; exact hz
set_option maxRecDepth 100000 in
set_option maxHeartbeats 8000000 in
theorem tame_c (w : World) (vl vb : Value) (ls : List (List ByteArray)) (bs : List ByteArray) (m p : Nat) {T : TypeId} (hl : LstV T 1 StrsE w vl ls) (hb : StrsE w vb bs) (hm : m ≤ 10) (hp : p ≤ 10) :
  Calls Tryz.prog 11 #[vl, vb, .int .i64 m, .int .i64 p] w (Ret (tameR w m p)) := by
 obtain ⟨A, c, rfl, hc1, hc2, hc3⟩ := hl
 obtain ⟨TB, B, d, rfl, hd1, hd2, hd3⟩ := hb
 unfold maxLen at hc2 hd2
 have HC := hide hc3
 have HD := hide hd3
 clear hc3 hd3
 go_enter Tryz.func11, Tryz.ntmps11
 go_wp2
 go_loopw [12, 13, 14] (fun s12 s13 s14 wr => ∃ (k : Nat) (ms : List (List ByteArray)) (vs : List ByteArray), k ≤ ls.length ∧ k ≤ m ∧ s14 = .int .i64 k ∧ ms.length = k ∧ vs.length = k ∧ (∀ ss ∈ ms, ss.length = min (ls.getD 0 []).length p ∧ ∀ s ∈ ss, GoodS s) ∧ (∀ s ∈ vs, GoodS s) ∧
   OwnG 23 1 (StrsA s13.ownBlock) wr w.heap.size s12 ms ∧ OwnG 9 1 StrV wr w.heap.size s13 vs ∧ Below w.heap.size w wr) (fun _ _ s14 _ => ls.length - (intOf s14).toNat)
 case atStart => exact ⟨0, [], [], by omega, by omega, rfl, rfl, rfl, fun _ h => by simp at h, fun _ h => by simp at h, OwnG.nil _ _ _ _ _, OwnG.nil _ _ _ _ _, Below.refl _ _⟩
 case round =>
  obtain ⟨k, ms, vs, hk, hkm, rfl, hml, hvl, hgm, hgv, hom, hov, hbel⟩ := hrel
  have HO := hide (ai hom (ai hov (ai hbel (ai hgm (ai hgv (ai hml hvl))))))
  obtain ⟨Am, cm, em, _⟩ := hom.len
  obtain ⟨Av, cv, ev, _⟩ := hov.len
  rw [hml] at em
  rw [hvl] at ev
  clear hom hov hbel hgm hgv hml hvl
  subst em ev
  obtain ⟨wo, rfl⟩ : ∃ wo : World, wo = wr := ⟨_, rfl⟩
  by_cases hklm : k < ls.length ∧ k < m
  ·have hkl := hklm.1
   have hkm2 := hklm.2
   clear hklm
   have d1 : decide (k < ls.length) = true := decide_eq_true hkl
   ·have d2 : decide (k < m) = true := decide_eq_true hkm2
    obtain ⟨b, o, rfl, ht, hcl⟩ := HC.out (by omega)
    have hsk : ls[k]? = some ls[k] := List.getElem?_eq_getElem hkl
    have hs0 : ls[0]? = some (ls.getD 0 []) := by rw [List.getElem?_eq_getElem (by omega)]; simp [List.getD, show 0 < ls.length by omega]
    obtain ⟨lk, hlk⟩ : ∃ s, s = ls[k] := ⟨_, rfl⟩
    rw [← hlk] at hsk
    obtain ⟨l0, hl0⟩ : ∃ s, s = ls.getD 0 [] := ⟨_, rfl⟩
    rw [← hl0] at hs0
    obtain ⟨uk, hu1, hu2, Tk, Ak, ck, rfl, hk1, hk2, hk3⟩ := hcl k lk hsk
    obtain ⟨u0, hv1, hv2, T0, A0, c0, rfl, h01, h02, h03⟩ := hcl 0 l0 hs0
    have hbo : b < w.heap.size := ht.lt
    have hbo2 := HO.out.2.2.1.size
    have hck := hu2 0 (by rw [hu1]; decide)
    have hc0 := hv2 0 (by rw [hv1]; decide)
    rw [Nat.mul_one, Nat.add_zero] at hck
    simp only [Nat.zero_mul, Nat.add_zero] at hc0
    have hck2 := (HO.out.2.2.1.cell (p := ⟨b, o + k, none⟩) hbo).trans hck
    have hc02 := (HO.out.2.2.1.cell (p := ⟨b, o, none⟩) hbo).trans hc0
    unfold maxLen at hk2 h02
    have HK := hide (ai hk3 (ai hck hc0))
    have HL0 := hide hl0
    clear hcl hu1 hu2 hv1 hv2 hk3 h03 hsk hs0 hlk hl0 hck hc0 ht
    go_wp2_with fail
    go_loopw [15, 16] (fun s15 s16 wr => ∃ (j : Nat) (rs : List ByteArray), j ≤ l0.length ∧ j ≤ p ∧ s16 = .int .i64 j ∧ rs.length = j ∧ (∀ s ∈ rs, GoodS s) ∧ OwnG 9 1 StrV wr wo.heap.size s15 rs ∧ Below wo.heap.size wo wr) (fun _ s16 _ => l0.length - (intOf s16).toNat)
    case atStart => exact ⟨0, [], by omega, by omega, rfl, rfl, fun _ h => by simp at h, OwnG.nil _ _ _ _ _, Below.refl _ _⟩
    case round =>
     obtain ⟨j, rs, hj, hjp, rfl, hrl, hgr, hor, hbi⟩ := hrel
     have HI := hide (ai hor (ai hbi (ai hgr hrl)))
     obtain ⟨Ar, cr, er, _⟩ := hor.len
     rw [hrl] at er
     clear hor hbi hgr hrl
     subst er
     have hck3 := (HI.out.2.1.cell (p := ⟨b, o + k, none⟩) (show b < _ by omega)).trans hck2
     have hc03 := (HI.out.2.1.cell (p := ⟨b, o, none⟩) (show b < _ by omega)).trans hc02
     by_cases hjlp : j < l0.length ∧ j < p
     ·have d3 : decide (j < l0.length) = true := decide_eq_true hjlp.1
      have hjl := hjlp.1
      have hjp2 := hjlp.2
      clear hjlp
      ·have d4 : decide (j < p) = true := decide_eq_true hjp2
       clear hck2 hc02
       go_upto_if 57 with fail
       go_cut [17] (fun s17 wx => ∃ s : ByteArray, s17 = .string s ∧ s.size ≤ 140737488355328 ∧ wx = wr)
       case first =>
        by_cases hjk : j < lk.length
        ·have d5 : decide (j < lk.length) = true := decide_eq_true hjk
         obtain ⟨bk, ok, rfl, htk, hclk⟩ := HK.out.1 (by omega)
         obtain ⟨x, hx⟩ : ∃ x, lk[j]? = some x := ⟨_, List.getElem?_eq_getElem hjk⟩
         obtain ⟨ux, hx1, hx2, rfl, hx4⟩ := hclk j x hx
         have hcx := ((HO.out.2.2.1.trans (HI.out.2.1.mono hbo2)).cell (p := ⟨bk, ok + j * 1 + 0, none⟩) htk.lt).trans (hx2 0 (by rw [hx1]; decide))
         rw [Nat.mul_one, Nat.add_zero] at hcx
         replace hcx : wr.cell? ⟨bk, ok + j, none⟩ = some (.string x) := hcx
         have HX := hide hx4
         clear hclk hx hx1 hx2 hx4 htk
         go_wp2
         go_meet
         exact ⟨x, rfl, HX.out, rfl⟩
        ·have d5 : decide (j < lk.length) = false := decide_eq_false hjk
         go_wp2
         go_meet
         exact ⟨_, rfl, by decide, rfl⟩
       case rest =>
        obtain ⟨s, rfl, hs, hwc⟩ := hcut
        obtain rfl : wr = wc := hwc.symm
        have HF := hide (fun w1 => frac_f w1 s hs 200 (by omega) (by omega))
        have HS := hide hs
        clear hs
        go_wp2_with fail
        refine (HF.out _).mono ?_
        rintro e w1 ⟨_, rfl, q, s1, A1, n1, c1, B1, m1, d1', t1, A1', n1', c1', B1', m1', d1'', rfl, hfq, hv, hv', hd⟩
        replace hv' : QV _ _ q 23 := hv'
        have HV := hide (ai hfq (ai hv' hd))
        clear hv hv' hd hfq
        go_wp2_with fail
        refine (digits_c _ _ q 23 12 (HV.out.2.1.below (below_al (below_al (Below.refl _ _) _) _)) (by omega) (by omega) (by omega)).mono ?_
        rintro e w2 ⟨_, rfl, rfl, hd2⟩
        obtain ⟨bd, hbd⟩ : ∃ bd, bd = digitsB 12 q := ⟨_, rfl⟩
        rw [← hbd]
        have hgood : bd = false → GoodS s := by
         intro e
         rw [hbd] at e
         have := digitsB_frac e
         rw [FracIs.eq HV.out.1.2] at this
         exact ⟨HS.out, this⟩
        have HG := hide hgood
        have hbw2 := bnx (below_al (below_al HV.out.2.2 (.cells #[.bool s1, .slice A1 n1 c1, .slice B1 m1 d1'] 35)) (.cells #[.bool t1, .slice A1' n1' c1', .bool false, .slice B1' m1' d1''] 41)) hd2
        have HB2 := hide hbw2
        clear hbd hgood hbw2 hd2 hck3 hc03
        go_upto_if 71 with fail
        go_cut [17] (fun s17 wx => ∃ s : ByteArray, s17 = .string s ∧ GoodS s ∧ wx = w2)
        case first =>
         cases bd with
         | true =>
          go_wp2
          go_meet
          exact ⟨_, rfl, good_short (by decide), rfl⟩
         | false =>
          go_wp2
          go_meet
          exact ⟨_, rfl, HG.out (by trivial), rfl⟩
        case rest =>
         obtain ⟨s', rfl, hs', hwc⟩ := hcut
         obtain rfl : w2 = wc := hwc.symm
         have HS' := hide hs'
         clear hs'
         have hrl := HI.out.2.2.2
         have HRL := hide hrl
         clear hrl
         have hwo : wo.heap.size ≤ w2.heap.size := by have := HI.out.2.1.size; have := HB2.out.size; omega
         go_wp2_with (first
          | (at_builtin; refine appG Tryz.strE stK_strV _ rfl _ _ rfl wo.heap.size _ rs s' rfl (OwnG.below stB_strV HI.out.1 (below_al HB2.out _)) ⟨w2.heap.size, 0, none⟩ _ rfl (.string s') rfl rfl (cells_new1 _ _ rfl _ rfl) (one_str _) (by rw [HRL.out]; omega) (by simp; omega) ?_; intro g5 c5 w5 hown5 hb5 hg5; rw [HRL.out]; rw [HRL.out] at hown5;
             have hbl5 := (bnx HI.out.2.1 HB2.out).trans (((Below.refl _ _).alloc hwo (.cells #[.string s'] 9)).trans hb5);
             have H5 := hide (ai hown5 hbl5);
             clear hown5 hb5 hg5 hbl5))
         case roundEnd => exact ⟨⟨j + 1, rs ++ [s'], by omega, by omega, by go_num, by simp [HRL.out], good_snoc HI.out.2.2.1 HS'.out, H5.out.1, H5.out.2⟩, by simp [intOf]; omega⟩
     ·have hjm : j = min l0.length p := by omega
      have hx : decide (j < l0.length) = false ∨ (decide (j < l0.length) = true ∧ decide (j < p) = false) := by
       by_cases h : j < l0.length
       ·exact Or.inr ⟨decide_eq_true h, decide_eq_false (by omega)⟩
       ·exact Or.inl (decide_eq_false h)
      have hrow : StrsA (Value.slice Av k cv).ownBlock wr (.slice Ar j cr) rs :=
       ⟨HI.out.1.lst, fun g hg => ⟨(HI.out.1.lt g hg).2.2, fun e => by have a := (HI.out.1.lt g hg).1; have b := (HO.out.2.1.lt g e).2.1; omega⟩⟩
      have HROW := hide hrow
      have hml := HO.out.2.2.2.2.2.1
      have HML := hide hml
      have hvl := HO.out.2.2.2.2.2.2
      have HVL := hide hvl
      have HJ := hide hjm
      have hwo : w.heap.size ≤ wr.heap.size := by have := HI.out.2.1.size; omega
      clear hrow hml hvl hjm hjlp hck2 hc02 hck3 HK
      rcases hx with d3 | ⟨d3, d4⟩
      all_goals
       go_upto_if 83 with (first
        | (at_builtin; refine appG Tryz.strsE (stK_strsA _ (by decide)) _ rfl _ _ rfl w.heap.size _ ms rs rfl (OwnG.below (stB_strsA _) HO.out.1 (below_al HI.out.2.1 _)) ⟨wr.heap.size, 0, none⟩ _ rfl (.slice Ar j cr) (stB_strsA _ _ _ _ _ (below_al (Below.refl _ _) _) HROW.out) rfl (cells_new1 _ _ rfl _ rfl) (one_slice _ _ _) (by rw [HML.out]; omega) (by simp; omega) ?_; intro g5 c5 w5 hown5 hb5 hg5; rw [HML.out]; rw [HML.out] at hown5;
           have hown6 := OwnG.kp stK_strV (OwnG.below stB_strV HO.out.2.1 (below_al HI.out.2.1 (.cells #[.slice Ar j cr] 23))) (by decide) hg5.kp;
           have hbl5 := (HO.out.2.2.1.trans (HI.out.2.1.mono hbo2)).trans (((Below.refl _ _).alloc hwo (.cells #[.slice Ar j cr] 23)).trans hb5);
           have H5 := hide (ai hown5 (ai hown6 hbl5));
           clear hown5 hb5 hg5 hown6 hbl5))
       clear hc03
       go_cut [20] (fun s20 wx => ∃ s : ByteArray, s20 = .string s ∧ s.size ≤ 140737488355328 ∧ wx = w5)
       case first =>
        by_cases hkb : k < bs.length
        ·have d5 : decide (k < bs.length) = true := decide_eq_true hkb
         obtain ⟨bb, ob, rfl, htb, hclb⟩ := HD.out (by omega)
         obtain ⟨x, hx⟩ : ∃ x, bs[k]? = some x := ⟨_, List.getElem?_eq_getElem hkb⟩
         obtain ⟨ux, hx1, hx2, rfl, hx4⟩ := hclb k x hx
         have hcx := (H5.out.2.2.cell (p := ⟨bb, ob + k * 1 + 0, none⟩) htb.lt).trans (hx2 0 (by rw [hx1]; decide))
         rw [Nat.mul_one, Nat.add_zero] at hcx
         replace hcx : w5.cell? ⟨bb, ob + k, none⟩ = some (.string x) := hcx
         have HX := hide hx4
         clear hclb hx hx1 hx2 hx4 htb
         go_wp2
         go_meet
         exact ⟨x, rfl, HX.out, rfl⟩
        ·have d5 : decide (k < bs.length) = false := decide_eq_false hkb
         go_wp2
         go_meet
         exact ⟨_, rfl, by decide, rfl⟩
       case rest =>
        obtain ⟨s, rfl, hs, hwc⟩ := hcut
        obtain rfl : w5 = wc := hwc.symm
        have HF := hide (fun w1 => frac_f w1 s hs 200 (by omega) (by omega))
        have HS := hide hs
        clear hs
        go_wp2_with fail
        refine (HF.out _).mono ?_
        rintro e w1 ⟨_, rfl, q, s1, A1, n1, c1, B1, m1, d1', t1, A1', n1', c1', B1', m1', d1'', rfl, hfq, hv, hv', hd⟩
        replace hv' : QV _ _ q 23 := hv'
        have HV := hide (ai hfq (ai hv' hd))
        clear hv hv' hd hfq
        go_wp2_with fail
        refine (digits_c _ _ q 23 12 (HV.out.2.1.below (below_al (below_al (Below.refl _ _) _) _)) (by omega) (by omega) (by omega)).mono ?_
        rintro e w2 ⟨_, rfl, rfl, hd2⟩
        obtain ⟨bd, hbd⟩ : ∃ bd, bd = digitsB 12 q := ⟨_, rfl⟩
        rw [← hbd]
        have hgood : bd = false → GoodS s := by
         intro e
         rw [hbd] at e
         have := digitsB_frac e
         rw [FracIs.eq HV.out.1.2] at this
         exact ⟨HS.out, this⟩
        have HG := hide hgood
        have hbw2 := bnx (below_al (below_al HV.out.2.2 (.cells #[.bool s1, .slice A1 n1 c1, .slice B1 m1 d1'] 35)) (.cells #[.bool t1, .slice A1' n1' c1', .bool false, .slice B1' m1' d1''] 41)) hd2
        have HB2 := hide hbw2
        clear hbd hgood hbw2 hd2
        go_upto_if 94 with fail
        go_cut [20] (fun s20 wx => ∃ s : ByteArray, s20 = .string s ∧ GoodS s ∧ wx = w2)
        case first =>
         cases bd with
         | true =>
          go_wp2
          go_meet
          exact ⟨_, rfl, good_short (by decide), rfl⟩
         | false =>
          go_wp2
          go_meet
          exact ⟨_, rfl, HG.out (by trivial), rfl⟩
        case rest =>
         obtain ⟨s', rfl, hs', hwc⟩ := hcut
         obtain rfl : w2 = wc := hwc.symm
         have HS' := hide hs'
         clear hs'
         have hw2 : w.heap.size ≤ w2.heap.size := by have := H5.out.2.2.size; have := HB2.out.size; omega
         go_wp2_with (first
          | (at_builtin; refine appG Tryz.strE stK_strV _ rfl _ _ rfl w.heap.size _ vs s' rfl (OwnG.below stB_strV H5.out.2.1 (below_al HB2.out _)) ⟨w2.heap.size, 0, none⟩ _ rfl (.string s') rfl rfl (cells_new1 _ _ rfl _ rfl) (one_str _) (by rw [HVL.out]; omega) (by simp; omega) ?_; intro g8 c8 w8 hown8 hb8 hg8; rw [HVL.out]; rw [HVL.out] at hown8;
             have hm8 := (OwnG.below (stB_strsA _) H5.out.1 (below_al HB2.out (.cells #[.string s'] 9))).turn (strsA_turn hg8) (fun g hg => hg8.kp.typed ((OwnG.below (stB_strsA _) H5.out.1 (below_al HB2.out (.cells #[.string s'] 9))).lt g hg).2.2 (by decide));
             have hbl8 := (H5.out.2.2.trans (HB2.out.mono H5.out.2.2.size)).trans (((Below.refl _ _).alloc hw2 (.cells #[.string s'] 9)).trans hb8);
             have H8 := hide (ai hown8 (ai hm8 hbl8));
             clear hown8 hb8 hg8 hm8 hbl8))
         case roundEnd => exact ⟨⟨k + 1, ms ++ [rs], vs ++ [s'], by omega, by omega, by go_num, by simp [HML.out], by simp [HVL.out], good_snocs HO.out.2.2.2.1 (by rw [HI.out.2.2.2, HJ.out, HL0.out]) HI.out.2.2.1, good_snoc HO.out.2.2.2.2.1 HS'.out, H8.out.2.1, H8.out.1, H8.out.2.2⟩, by simp [intOf]; omega⟩
  ·have hx : decide (k < ls.length) = false ∨ (decide (k < ls.length) = true ∧ decide (k < m) = false) := by
    by_cases h : k < ls.length
    ·exact Or.inr ⟨decide_eq_true h, decide_eq_false (by omega)⟩
    ·exact Or.inl (decide_eq_false h)
   have hms : LstV 23 1 StrsE wo (.slice Am k cm) ms := HO.out.1.lst.imp fun u x hx h => ⟨_, h.1.imp fun u' x' hx' h' => ⟨h', ((HO.out.2.2.2.1 x hx).2 x' hx').1⟩⟩
   have hvs : LstV 9 1 StrE wo (.slice Av k cv) vs := HO.out.2.1.lst.imp fun u' x' hx' h' => ⟨h', (HO.out.2.2.2.2.1 x' hx').1⟩
   have HS := hide (ai hms hvs)
   clear hms hvs hklm
   rcases hx with d1 | ⟨d1, d2⟩
   all_goals
    go_wp2_with fail
    refine (matrix_c _ (.slice Am k cm) ms m p HS.out.1 (by omega) (by omega)).mono ?_
    rintro e w1 ⟨_, rfl, va, vm, rfl, hva, hvm, hd1⟩
    have HV := hide (ai hva (ai hvm hd1))
    clear hva hvm hd1
    go_wp2_with fail
    refine (list_c _ (.slice Av k cv) vs m (LstV.below stB_str HS.out.2 HV.out.2.2) (by omega)).mono ?_
    rintro e w2 ⟨_, rfl, vv, vc, rfl, hvv, hvc, hd2⟩
    have HW := hide (ai hvv (ai hvc hd2))
    clear hvv hvc hd2
    go_wp2
    refine bodyPost_ret (v := .tuple #[va, vm, vv, vc]) ?_ rfl ?_
    ·simp [results, Tryz.results11, go_sem]
    obtain ⟨f1, f2, f3, f4, f5, f6, f7⟩ := tame_facts (m := m) (p := p) HO.out.2.2.2.1 HO.out.2.2.2.2.1 (by rw [HO.out.2.2.2.2.2.1]; exact hkm) (by rw [HO.out.2.2.2.2.2.1, HO.out.2.2.2.2.2.2])
    exact ⟨_, rfl, va, vm, vv, vc, _, _, _, rfl, f1, Nat.min_le_right _ _, f3, f4, f5, f6, LstV.below (stB_row 23) HV.out.1 HW.out.2.2, LstV.below (stB_qrow 23) HV.out.2.1 HW.out.2.2, HW.out.1, HW.out.2.1, HO.out.2.2.1.trans ((bnx HV.out.2.2 HW.out.2.2).mono HO.out.2.2.1.size)⟩
end Go.Proofs.YthnnbpnocefmgaaGreat
