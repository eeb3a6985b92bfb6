/- Walks: rat, rats and give of the law. Walks: give of the law. -/
import Derived.Test.YtpoahodnakhmiaaGreatQCheck
import Derived.Test.YtpoahodnakhmiaaGreatQOpen
import Derived.Test.YtpoahodnakhmiaaGreatSysL
import Derived.Test.YtpoahodnakhmiaaGreatParse
import Derived.Test.YtpoahodnakhmiaaGreatStr9
namespace Go.Proofs.YtpoahodnakhmiaaGreat
set_option linter.unusedVariables false
set_option linter.unusedSimpArgs false
open Go.RowKit
set_option maxRecDepth 100000 in
theorem rat_c (w : World) (v : Value) (q : Rat) (L : Nat) (hq : QV w v q L) (hL : L ≤ 1073741000) (hf : FracQ 6 q) :
    Calls Tryz.prog 23 #[v] w (Ret (ratR w q 1)) := by
  obtain ⟨s, A, n, c, B, m, d, rfl, -, -⟩ := hq.parts
  have htl := text_len hf (by omega)
  obtain ⟨W, hW⟩ : ∃ W, W = (w.alloc (.cells #[.bool s, .slice A n c, .bool false, .slice B m d] 55)).alloc (.cells #[.bool false, .slice none 0 0, .slice none 0 0] 43) := ⟨_, rfl⟩
  have hb0 : Below w.heap.size w W := by rw [hW]; exact below_al (below_al (Below.refl _ _) _) _
  have hbx : W.heap[w.heap.size]? = some (.cells #[.bool s, .slice A n c, .bool false, .slice B m d] 55) := by rw [hW]; exact at_later (at_new w _) (below_al (Below.refl _ _) _)
  have hbr : W.heap[w.heap.size + 1]? = some (.cells #[.bool false, .slice none 0 0, .slice none 0 0] 43) := by rw [hW]; exact at_new' _ (by simp)
  obtain ⟨y0, y1, y2, y3, -⟩ := four_cells hbx
  have H0 := hide (And.intro hb0 (And.intro hbr (hq.below hb0)))
  have HL := hide hW
  clear hb0 hbx hbr hq hW
  go_enter Tryz.func23, Tryz.ntmps23
  go_upto_region 1 with fail
  rw [← HL.out]
  go_wp2_with fail
  refine (form9_c _ _ q L H0.out.2.2 hL).mono ?_
  rintro e w1 ⟨_, rfl, rfl, hd1⟩
  have H1 := hide hd1
  clear hd1
  go_wp2_with fail
  refine (parse_c _ q (by omega)).mono ?_
  rintro e w2 ⟨v2, rfl, hdn⟩
  obtain ⟨r, rfl, hr6, hd2⟩ := hdn.ok (hf.fit.smallQ (by omega))
  replace hr6 : RatV w2 r q 1 := hr6.fit hf.fit
  obtain ⟨s6, A6, n6, c6, B6, m6, d6, rfl⟩ := hr6.shape
  obtain ⟨W3, hW3⟩ : ∃ W3, W3 = w2.alloc (.cells #[.bool s6, .slice A6 n6 c6, .slice B6 m6 d6] 43) := ⟨_, rfl⟩
  have hb3 : Below w2.heap.size w2 W3 := by rw [hW3]; exact below_al (Below.refl _ _) _
  have hbx : W3.heap[w2.heap.size]? = some (.cells #[.bool s6, .slice A6 n6 c6, .slice B6 m6 d6] 43) := by rw [hW3]; exact at_new _ _
  obtain ⟨z0, z1, z2⟩ := three_cells hbx
  have hd3 := below_next (below_next H1.out hd2) hb3
  have hrb := at_later H0.out.2.1 hd3
  clear y0 y1 y2 y3
  obtain ⟨x0, x1, x2⟩ := three_cells hrb
  obtain ⟨f0, f1, f2⟩ := three_frozen hrb
  have hlt := lt_of_block hrb
  have HU := hide (And.intro (hr6.below hb3) (below_next H0.out.1 hd3))
  have HL3 := hide hW3
  clear hrb hr6 hd2 hd3 hdn hb3 hbx hW3
  go_upto_region 2 with fail
  rw [← HL3.out]
  go_wp2
  refine bodyPost_ret (v := .agg #[.bool s6, .slice A6 n6 c6, .slice B6 m6 d6]) ?_ rfl ?_
  · simp [results, Tryz.results23, go_sem, x0, x1, x2, hlt]
  have hr := HU.out.1
  obtain ⟨rn, rl, e, r1, r2⟩ := hr
  injection e with e
  simp only [Array.mk.injEq, List.cons.injEq, Value.bool.injEq, and_true] at e
  obtain ⟨rfl, rfl, rfl⟩ := e
  exact ⟨_, rfl, ⟨_, _, rfl, r1.set3 x0 x1 x2, r2.set3 x0 x1 x2⟩, below_set3 HU.out.2 (by omega) _ _ _⟩
theorem take_snocQ {α : Type} {l : List α} {k : Nat} {s : α} (h : l[k]? = some s) : l.take (k + 1) = l.take k ++ [s] := by
  obtain ⟨hk, e⟩ := List.getElem?_eq_some_iff.1 h
  rw [List.take_succ_eq_append_getElem hk, e]
set_option maxRecDepth 100000 in
set_option maxHeartbeats 4000000 in
theorem rats_c (w : World) (v : Value) (qs : List Rat) (L : Nat) (hv : QRowE L w v qs) (hl100 : qs.length ≤ 100) (hL : L ≤ 1000) (hf : ∀ q ∈ qs, FracQ 6 q) :
    Calls Tryz.prog 49 #[v] w (Ret (fun v w' => RowE 1 w' v qs ∧ Below w.heap.size w w')) := by
  obtain ⟨A, c, rfl, hc1, hc2, hc3⟩ := hv
  unfold maxLen at hc2
  have HC := hide (And.intro hc3 hf)
  clear hc3 hf
  go_enter Tryz.func49, Tryz.ntmps49
  go_wp2
  go_loopw [3, 4] (fun s3 s4 wr => ∃ k : Nat, k ≤ qs.length ∧ s4 = .int .i64 k ∧ OwnG 43 3 (RatE 1) wr w.heap.size s3 (qs.take k) ∧ Below w.heap.size w wr) (fun _ s4 _ => qs.length - (intOf s4).toNat)
  case atStart => exact ⟨0, by omega, rfl, OwnG.nil _ _ _ _ _, Below.refl _ _⟩
  case round =>
    obtain ⟨k, hk, rfl, hoa, hbel⟩ := hrel
    have HO := hide (And.intro hoa hbel)
    obtain ⟨Aa, ca, ea, _⟩ := hoa.len
    have hlk : (qs.take k).length = k := by simp; omega
    rw [hlk] at ea
    clear hlk hoa hbel
    subst ea
    by_cases hkl : k < qs.length
    · have d1 : decide (k < qs.length) = true := decide_eq_true hkl
      obtain ⟨b, o, rfl, ht, hcl⟩ := HC.out.1 (by omega)
      have hsk : qs[k]? = some qs[k] := List.getElem?_eq_getElem hkl
      obtain ⟨q, hs⟩ : ∃ q, q = qs[k] := ⟨_, rfl⟩
      rw [← hs] at hsk
      obtain ⟨u, hu1, hu2, hu3⟩ := hcl k q hsk
      have hqf : FracQ 6 q := HC.out.2 q (by rw [hs]; exact List.getElem_mem hkl)
      obtain ⟨s, A1, n1, c1, B1, m1, d1', rfl, -, -⟩ := QV.parts hu3
      have kc : ∀ j x, j < 4 → (Value.agg #[.bool s, .slice A1 n1 c1, .bool false, .slice B1 m1 d1']).cells.getD j undef = x → wr.cell? ⟨b, o + k * 4 + j, none⟩ = some x := fun j x hj e => by
        have := (HO.out.2.cell (p := ⟨b, o + k * 4 + j, none⟩) ht.lt).trans (hu2 j (by rw [hu1]; exact hj))
        rw [this, e]
      have k0 := kc 0 _ (by omega) rfl
      have k1 := kc 1 _ (by omega) rfl
      have k2 := kc 2 _ (by omega) rfl
      have k3 := kc 3 _ (by omega) rfl
      rw [Nat.add_zero] at k0
      have HS := hide (And.intro hsk (And.intro (QV.below (show QV w _ q L from hu3) HO.out.2) hqf))
      clear hcl hu1 hu2 hu3 ht hs hsk kc hqf
      go_wp2_with fail
      refine (rat_c _ _ q L HS.out.2.1 (by omega) HS.out.2.2).mono ?_
      rintro e w1 ⟨r, rfl, hr, hd⟩
      obtain ⟨s6, A6, n6, c6, B6, m6, d6, rfl⟩ := hr.shape
      have HV := hide (And.intro hr hd)
      have hwk : (qs.take k).length = k := by simp; omega
      have HWK := hide hwk
      have hbw1 : w.heap.size ≤ w1.heap.size := by have := HO.out.2.size; have := hd.size; omega
      clear hr hd hwk k0 k1 k2 k3
      go_wp2_with (first
        | (at_builtin; refine appG Tryz.ratE (stK_rat 1 (by decide)) _ rfl _ _ rfl w.heap.size _ (qs.take k) q rfl (OwnG.below (stB_rat 1) HO.out.1 (below_al HV.out.2 _)) ⟨w1.heap.size, 0, none⟩ _ rfl (.agg #[.bool s6, .slice A6 n6 c6, .slice B6 m6 d6]) (RatV.below HV.out.1 (below_al (Below.refl _ _) _)) rfl (cells_new3 _ _ _ _ _ rfl) (one_rat _ _ _ _ _ _ _) (by rw [HWK.out]; omega) (by simp; omega) ?_; intro g5 c5 w5 hown5 hb5 hg5; rw [HWK.out]; rw [HWK.out, ← take_snocQ HS.out.1] at hown5;
            have H5 := hide (And.intro hown5 ((HO.out.2.trans ((below_al HV.out.2 (.cells #[.bool s6, .slice A6 n6 c6, .slice B6 m6 d6] 43)).mono HO.out.2.size)).trans hb5)); clear hown5 hb5 hg5))
      case roundEnd => exact ⟨⟨k + 1, by omega, by go_num, H5.out.1, H5.out.2⟩, by simp [intOf]; omega⟩
    · have d1 : decide (k < qs.length) = false := decide_eq_false hkl
      obtain rfl : k = qs.length := by omega
      have htk := List.take_length (l := qs)
      have HT := hide htk
      clear htk
      go_wp2
      refine bodyPost_ret (v := .slice Aa qs.length ca) ?_ rfl ?_
      · simp [results, Tryz.results49, go_sem]
      have := HO.out.1.lst
      rw [HT.out] at this
      exact ⟨_, rfl, this, HO.out.2⟩
end Go.Proofs.YtpoahodnakhmiaaGreat
namespace Go.Proofs.YtpoahodnakhmiaaGreat
set_option linter.unusedVariables false
set_option linter.unusedSimpArgs false
open Go.RowKit
/-- a shop of the law in memory -/
def GiveV (w : World) (v : Value) (R : List Rat) (Ws : List (List Rat)) (L : Nat) : Prop := ∃ a b, v = .agg #[a, b] ∧ QRowE L w a R ∧ LstV 25 1 (QRowE L) w b Ws
theorem GiveV.below {w w' : World} {v : Value} {R : List Rat} {Ws : List (List Rat)} {L : Nat} (h : GiveV w v R Ws L) (hb : Below w.heap.size w w') : GiveV w' v R Ws L := by
  obtain ⟨a, b, rfl, h1, h2⟩ := h
  exact ⟨a, b, rfl, stB_qrow L _ _ _ _ hb h1, h2.below (stB_qrow L) hb⟩
/-- a row of lists of fractions -/
theorem LstV.rowsE {w : World} {v : Value} {rows : List (List Rat)} {L : Nat} (h : LstV 30 1 (RowE L) w v rows) : RowsV w v rows L := by
  obtain ⟨A, c, rfl, h1, h2, h3⟩ := h
  refine ⟨A, c, rfl, h1, h2, fun hx => ?_⟩
  obtain ⟨b, o, rfl, ht, hc⟩ := h3 hx
  refine ⟨b, o, rfl, fun i hi => ?_⟩
  obtain ⟨u, hs, hcu, hr⟩ := hc i (rows.getD i []) (by simp [List.getD, hi])
  have hrv := LstV.rowV hr
  obtain ⟨A1, c1, rfl, -⟩ := id hrv
  refine ⟨_, ?_, hrv⟩
  have := hcu 0 (by rw [hs]; decide)
  rw [Nat.mul_one, Nat.add_zero] at this
  exact this
theorem set2_last {w : World} {B : Nat} {a b u : Value} {e : TypeId} (h : w.heap[B]? = some (.cells #[a, b] e (0, 0))) : (w.setCell ⟨B, 1, none⟩ u).heap[B]? = some (.cells #[a, u] e (0, 0)) := by
  simp [World.setCell, Array.getElem?_modify, h]
set_option maxRecDepth 100000 in
set_option maxHeartbeats 4000000 in
theorem give_c (w : World) (v : Value) (R : List Rat) (Ws : List (List Rat)) (L : Nat) (hv : GiveV w v R Ws L) (hL : L ≤ 1000) (hR : R.length ≤ 100) (hW : Ws.length ≤ 100) (hWl : ∀ r ∈ Ws, r.length ≤ 100) (hf : ∀ q ∈ R, FracQ 6 q) (hg : ∀ r ∈ Ws, ∀ q ∈ r, FracQ 6 q) :
    Calls Tryz.prog 14 #[v] w (Ret (fun v w' => ShopV w' v R Ws 1 ∧ Below w.heap.size w w')) := by
  obtain ⟨va, vb, rfl, ha, hb⟩ := hv
  obtain ⟨A1, c1, rfl, -, hm1, -⟩ := id ha
  obtain ⟨A2, c2, rfl, hl2, hm2, -⟩ := id hb
  unfold maxLen at hm1 hm2
  obtain ⟨W, hWW⟩ : ∃ W, W = (w.alloc (.cells #[.slice A1 R.length c1, .slice A2 Ws.length c2] 28)).alloc (.cells #[.slice none 0 0, .slice none 0 0] 33) := ⟨_, rfl⟩
  have hb0 : Below w.heap.size w W := by rw [hWW]; exact below_al (below_al (Below.refl _ _) _) _
  have hbx : W.heap[w.heap.size]? = some (.cells #[.slice A1 R.length c1, .slice A2 Ws.length c2] 28 (0, 0)) := by rw [hWW]; exact at_later (at_new w _) (below_al (Below.refl _ _) _)
  have hbr : W.heap[w.heap.size + 1]? = some (.cells #[.slice none 0 0, .slice none 0 0] 33 (0, 0)) := by rw [hWW]; exact at_new' _ (by simp)
  obtain ⟨y0, y1, -, -⟩ := two_cells hbx
  have hlW := lt_of_block hbr
  have H0 := hide (And.intro hb0 (And.intro hbx (And.intro hbr (And.intro (stB_qrow L _ _ _ _ hb0 ha) (hb.below (stB_qrow L) hb0)))))
  have HF := hide (And.intro hf (And.intro hg hWl))
  have HL := hide hWW
  clear ha hb hb0 hbx hbr hWW hf hg hWl
  go_enter Tryz.func14, Tryz.ntmps14
  go_upto_region 1 with fail
  rw [← HL.out]
  go_wp2_with fail
  refine (rats_c _ _ R L H0.out.2.2.2.1 hR hL HF.out.1).mono ?_
  rintro e w1 ⟨ra, rfl, hra, hd1⟩
  obtain ⟨A3, c3, rfl, -, -, -⟩ := id hra
  obtain ⟨W2, hW2⟩ : ∃ W2, W2 = w1.alloc (.cells #[.slice A3 R.length c3, .slice none 0 0] 33) := ⟨_, rfl⟩
  have hb2 : Below w1.heap.size w1 W2 := by rw [hW2]; exact below_al (Below.refl _ _) _
  have hbs : W2.heap[w1.heap.size]? = some (.cells #[.slice A3 R.length c3, .slice none 0 0] 33 (0, 0)) := by rw [hW2]; exact at_new _ _
  have hd2 := below_next hd1 hb2
  have hs2 : w1.heap.size < W2.heap.size := lt_of_block hbs
  have hs1 : W.heap.size ≤ w1.heap.size := hd1.size
  have H2 := hide (And.intro hbs (And.intro hra (And.intro hd1 (And.intro (below_next H0.out.1 hd1) hb2))))
  have HL2 := hide hW2
  clear hra hd1 hb2 hbs hd2 hW2 y0 y1
  go_upto_region 2 with fail
  rw [← HL2.out]
  go_wp2_with fail
  go_loopw [4] (fun s4 wr => ∃ (k : Nat) (rv : Value), k ≤ Ws.length ∧ s4 = .int .i64 k ∧ wr.heap[w1.heap.size]? = some (.cells #[.slice A3 R.length c3, rv] 33 (0, 0)) ∧ OwnG 30 1 (RowE 1) wr W2.heap.size rv (Ws.take k) ∧ Below w1.heap.size w1 wr) (fun s4 _ => Ws.length - (intOf s4).toNat)
  case atStart => exact ⟨0, _, by omega, rfl, H2.out.1, OwnG.nil _ _ _ _ _, H2.out.2.2.2.2⟩
  case round =>
    obtain ⟨k, rv, hk, rfl, hbs, hown, hbel⟩ := hrel
    obtain ⟨Aa, ca, rfl, hca, hma⟩ := hown.len
    have hlk : (Ws.take k).length = k := by simp; omega
    rw [hlk] at hbs hown hca
    have hWr := below_next H2.out.2.2.1 hbel
    obtain ⟨y0, y1, -, -⟩ := two_cells (at_later H0.out.2.1 hWr)
    have hly := lt_of_block (at_later H0.out.2.1 hWr)
    obtain ⟨x0, x1, f0, f1⟩ := two_cells hbs
    have hlx := lt_of_block hbs
    by_cases hkl : k < Ws.length
    · obtain ⟨A2', c2', e2, -, -, hcl'⟩ := H0.out.2.2.2.2.below (stB_qrow L) hWr
      obtain ⟨b, o, e0, ht, hcl⟩ := hcl' (by omega)
      injection e2 with e2 _ e3
      subst e2
      subst e3
      subst e0
      have hsk : Ws[k]? = some Ws[k] := List.getElem?_eq_getElem hkl
      obtain ⟨row, hs⟩ : ∃ q, q = Ws[k] := ⟨_, rfl⟩
      rw [← hs] at hsk
      have hmem : row ∈ Ws := by rw [hs]; exact List.getElem_mem hkl
      obtain ⟨u, hu1, hu2, hu3⟩ := hcl k row hsk
      obtain ⟨A5, c5, rfl, -, -, -⟩ := id hu3
      have z0 := hu2 0 (by rw [hu1]; decide)
      rw [Nat.mul_one, Nat.add_zero] at z0
      replace z0 : wr.cell? ⟨b, o + k, none⟩ = some (.slice A5 row.length c5) := z0
      have HS := hide (And.intro hsk (And.intro hu3 (And.intro hmem True.intro)))
      have HI := hide (And.intro hbs (And.intro hown hbel))
      have HWK := hide hlk
      have i1 : (k : Int) < (Ws.length : Int) := by omega
      clear hcl hcl' hu1 hu2 hu3 ht hs hsk hmem hbs hown hbel hlk hWr
      go_wp2_with fail
      refine (rats_c _ _ row L HS.out.2.1 (HF.out.2.2 row HS.out.2.2.1) hL (HF.out.2.1 row HS.out.2.2.1)).mono ?_
      rintro e w3 ⟨rr, rfl, hr, hd⟩
      obtain ⟨A6, c6, rfl, -, -, -⟩ := id hr
      have hbd := at_later HI.out.1 hd
      have HV := hide (And.intro hr (And.intro hd hbd))
      have hs3 := hd.size
      have hsr := HI.out.2.2.size
      have hsr2 : W2.heap.size ≤ wr.heap.size := by have h1 := H2.out.2.2.2.2; have h2 := lt_of_block HI.out.1; have h3 : W2.heap.size = w1.heap.size + 1 := (by rw [HL2.out]; simp); omega
      clear hr hd hbd x0 x1 f0 f1 y0 y1 z0
      go_wp2_with (first
        | (at_builtin; refine appG Tryz.rowE (stK_row 1 (by decide) (by decide)) _ rfl _ _ rfl W2.heap.size _ (Ws.take k) row rfl (OwnG.below (stB_row 1) HI.out.2.1 (below_al HV.out.2.1 _)) ⟨w3.heap.size, 0, none⟩ _ rfl (.slice A6 row.length c6) (stB_row 1 _ _ _ _ (below_al (Below.refl _ _) _) HV.out.1) rfl (cells_new1 _ _ rfl _ rfl) (one_slice _ _ _) (by rw [HWK.out]; omega) (by simp; omega) ?_; intro g7 c7 w7 hown7 hb7 hg7; rw [HWK.out]; rw [HWK.out, ← take_snocQ HS.out.1] at hown7;
            have hbx7 := (hg7.by_.block w1.heap.size (by have := lt_of_block HV.out.2.2; simp; omega) (fun e => by have := (HI.out.2.1.lt _ e.symm).1; omega)).trans (at_later HV.out.2.2 (below_al (Below.refl _ _) (.cells #[.slice A6 row.length c6] 30)));
            obtain ⟨x0, x1, f0, f1⟩ := two_cells hbx7;
            have H7 := hide (And.intro hown7 (And.intro hbx7 ((HI.out.2.2.trans ((below_al HV.out.2.1 (.cells #[.slice A6 row.length c6] 30)).mono HI.out.2.2.size)).trans (hb7.mono (by omega)))));
            clear hown7 hb7 hg7 hbx7))
      case roundEnd =>
        obtain ⟨hown7, hbx7, hb7⟩ := H7.out
        have ho := setCell_only w7 w1.heap.size 1 (.slice (some ⟨g7, 0, none⟩) (k + 1) c7)
        have hkp : Kp 33 w7 (w7.setCell ⟨w1.heap.size, 1, none⟩ (.slice (some ⟨g7, 0, none⟩) (k + 1) c7)) := fun b hb hn => ho.block b hb (by intro e; injection e with e; exact hn (by rw [e]; exact ⟨_, _, hbx7⟩))
        refine ⟨⟨k + 1, .slice (some ⟨g7, 0, none⟩) (k + 1) c7, by omega, by go_num, set2_last hbx7, hown7.same (fun u x h => stK_row 1 (by decide) (by decide) _ _ _ _ hkp h) (fun g hg => ho.block g (hown7.lt g hg).2.1 (by intro e; injection e with e; have := (hown7.lt g hg).1; omega)), ?_⟩, by simp [intOf]; omega⟩
        exact hb7.setCell (Nat.le_refl _) _
    · obtain rfl : k = Ws.length := by omega
      rw [List.take_length] at hown
      have hbrr := at_later H0.out.2.2.1 hWr
      obtain ⟨v0, v1, g0, g1⟩ := two_cells hbrr
      have hlz := lt_of_block hbrr
      have HI := hide (And.intro hown.lst (And.intro hbel (And.intro hbs hbrr)))
      clear hown hbel hbs hWr hbrr hlk
      go_wp2
      refine bodyPost_ret (v := .agg #[.slice A3 R.length c3, .slice Aa Ws.length ca]) ?_ rfl ?_
      · simp [results, Tryz.results14, go_sem, v0, v1, hlz]
      obtain ⟨hl1, hb1, hbs1, hbr1⟩ := HI.out
      have hkp : ∀ j u w', (∃ cs, w'.heap[w.heap.size + 1]? = some (.cells cs 33 (0, 0))) → Kp 33 w' (w'.setCell ⟨w.heap.size + 1, j, none⟩ u) ∧ (∃ cs, (w'.setCell ⟨w.heap.size + 1, j, none⟩ u).heap[w.heap.size + 1]? = some (.cells cs 33 (0, 0))) := fun j u w' h => by
        obtain ⟨cs, h⟩ := h
        have ho := setCell_only w' (w.heap.size + 1) j u
        refine ⟨fun b hb hn => ho.block b hb (by intro e; injection e with e; exact hn (by rw [e]; exact ⟨_, _, h⟩)), ?_⟩
        exact ⟨cs.setIfInBounds j u, by simp [World.setCell, Array.getElem?_modify, h]⟩
      obtain ⟨k1, m1⟩ := hkp 0 (.slice A3 R.length c3) wr ⟨_, hbr1⟩
      obtain ⟨k2, m2⟩ := hkp 1 (.slice Aa Ws.length ca) _ m1
      refine ⟨_, rfl, ⟨_, _, rfl, ?_, ?_⟩, ((H2.out.2.2.2.1.trans (hb1.mono H2.out.2.2.2.1.size)).setCell (show w.heap.size ≤ w.heap.size + 1 by omega) _).setCell (show w.heap.size ≤ w.heap.size + 1 by omega) _⟩
      · exact LstV.rowV (stK_row 1 (by decide) (by decide) _ _ _ _ k2 (stK_row 1 (by decide) (by decide) _ _ _ _ k1 (stB_row 1 _ _ _ _ hb1 H2.out.2.1)))
      · exact LstV.rowsE ((hl1.kp (stK_row 1 (by decide) (by decide)) (by decide) k1).kp (stK_row 1 (by decide) (by decide)) (by decide) k2)
end Go.Proofs.YtpoahodnakhmiaaGreat
