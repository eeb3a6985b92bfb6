import Derived.Test.YthnnbpnocefmgaaGreatSwap
import Derived.WalkSpells
import Derived.Deep.AppendLies
namespace Go.Proofs.YthnnbpnocefmgaaGreat
set_option linter.unusedVariables false
set_option linter.unusedSimpArgs false
open Go.RowKit
def cellsAt (w : World) (b o n : Nat) : List Value := (List.range (n * 3)).map fun j => (w.cell? ⟨b, o + j, none⟩).getD undef
theorem cellsAt_get (w : World) (b o n j : Nat) (hj : j < n * 3) : (cellsAt w b o n)[j]? = some ((w.cell? ⟨b, o + j, none⟩).getD undef) := by
 simp [cellsAt, List.getElem?_map, List.getElem?_range, hj]
theorem row_cell {w : World} {b o : Nat} {qs : List Rat} {L : Nat} (h : ∀ i, i < qs.length → At3 w b (o + i * 3) (qs.getD i 0) L) {j : Nat} (hj : j < qs.length * 3) :
  ∃ v, w.cell? ⟨b, o + j, none⟩ = some v ∧ v.oneCell' = true := by
 obtain ⟨A1, n1, c1, A2, n2, c2, h0, h1, h2, _⟩ := h (j / 3) (by omega)
 rcases (show j % 3 = 0 ∨ j % 3 = 1 ∨ j % 3 = 2 by omega) with e | e | e
 ·exact ⟨_, by rw [show o + j = o + j / 3 * 3 by omega]; exact h0, rfl⟩
 ·exact ⟨_, by rw [show o + j = o + j / 3 * 3 + 1 by omega]; exact h1, rfl⟩
 ·exact ⟨_, by rw [show o + j = o + j / 3 * 3 + 2 by omega]; exact h2, rfl⟩
theorem row_copied {w w' : World} {b o g : Nat} {qs : List Rat} {L : Nat} (h : ∀ i, i < qs.length → At3 w b (o + i * 3) (qs.getD i 0) L) (hk : Keeps w w') {cur : Array Value}
  (hg : w'.heap[g]? = some (.cells cur 35 (0, 0))) (hc : cur.toList.take (qs.length * 3) = cellsAt w b o qs.length) : RowC w' g qs L := by
 have hcell : ∀ j, j < qs.length * 3 → w'.cell? ⟨g, j, none⟩ = w.cell? ⟨b, o + j, none⟩ := by
  intro j hj
  obtain ⟨v, hv, _⟩ := row_cell h hj
  have h1 := cellsAt_get w b o qs.length j hj
  rw [← hc, List.getElem?_take, if_pos hj, hv] at h1
  have h2 : cur[j]? = some v := by simpa using h1
  rw [hv]
  simp [World.cell?, hg, h2]
 refine ⟨⟨cur, hg⟩, fun i hi => ?_⟩
 obtain ⟨A1, n1, c1, A2, n2, c2, h0, h1, h2, g1, g2⟩ := h i hi
 refine ⟨A1, n1, c1, A2, n2, c2, ?_, ?_, ?_, g1.keeps hk, g2.keeps hk⟩
 ·rw [hcell _ (by omega)]; exact h0
 ·rw [hcell _ (by omega)]; exact h1
 ·rw [hcell _ (by omega)]; exact h2
theorem ratInfo : (Tryz.prog.info? 35).map (fun i => (i.zero, i.size, i.bytes)) = some (some (.agg #[.bool false, .slice none 0 0, .slice none 0 0]), 3, 56) := by kernel_rfl
theorem clone_c (w : World) (v : Value) (qs : List Rat) (L : Nat) (h : RowV w v qs L) (h0 : 0 < qs.length) (hl : qs.length ≤ 1073741824) :
  Calls Tryz.prog 134 #[v] w (Ret (fun u w' => ∃ g, RV w' u g qs L ∧ w.heap.size ≤ g ∧ Below w.heap.size w w')) := by
 obtain ⟨A, c, rfl, hc, hm, hx⟩ := h
 obtain ⟨b, o, rfl, hat⟩ := hx h0
 have hbl : b < w.heap.size := by
  obtain ⟨_, _, _, _, _, _, e0, _⟩ := hat 0 h0
  exact lt_of_cell e0
 have heq : ∀ w : World, (binOp .eql 26 (.slice (some ⟨b, o, none⟩) qs.length c) (.slice none 0 0)).run Tryz.prog w = .ok (.bool false) w := fun w => Lib.run_eql_slice_nil w _ _ _ _ _ _ _ Tryz.underlying26
 have hlc : (cellsAt w b o qs.length).length = qs.length * 3 := by simp [cellsAt]
 have HH := hide (ai hat (ai hlc (ai hc hm))); clear hat hlc hx hc hm
 go_enter Tryz.func134, Tryz.ntmps134
 have hb0 : Below w.heap.size w (w.alloc (.cells #[] 35)) := (Below.refl _ _).alloc (nr _) _
 have hown : (w.alloc (.cells #[] 35)).ownsRow w.heap.size 35 3 (.slice (some ⟨w.heap.size, 0, none⟩) 0 0) 0 [] := ⟨rfl, .inr ⟨w.heap.size, 0, #[], rfl, nr _, heap_alloc_new w _, nr _, by simp [maxLen], rfl, rfl⟩⟩
 obtain ⟨i, hi, hz, hsz, hby⟩ := info_parts ratInfo
 have HO := hide hown; clear hown
 go_wp2_with (at_builtin; refine wpList_append_lies _ rfl _ _ 26 rfl w.heap.size 35 i (.agg #[.bool false, .slice none 0 0, .slice none 0 0]) 3 56 Tryz.underlying26 hi hz hsz hby rfl (by decide) _ 0 [] rfl HO.out ⟨b, o, none⟩ qs.length c (cellsAt w b o qs.length) rfl HH.out.2.1 ?_ ?_ h0 ?_ ?_ ?_ _ rfl ?_)
 ·intro j u hj
  have hjl := (List.getElem?_eq_some_iff.1 hj).1
  rw [HH.out.2.1] at hjl
  rw [cellsAt_get _ _ _ _ _ hjl] at hj
  obtain ⟨v, hv, _⟩ := row_cell HH.out.1 hjl
  rw [hv] at hj
  rw [show (Addr.add ⟨b, o, none⟩ j) = ⟨b, o + j, none⟩ by unfold Addr.add; split <;> simp_all]
  rw [hb0.cell (p := ⟨b, o + j, none⟩) hbl, hv, ← hj]; rfl
 ·intro u hu
  obtain ⟨j, hj⟩ := List.mem_iff_getElem?.1 hu
  have hjl := (List.getElem?_eq_some_iff.1 hj).1
  rw [HH.out.2.1] at hjl
  rw [cellsAt_get _ _ _ _ _ hjl] at hj
  obtain ⟨v, hv, h1⟩ := row_cell HH.out.1 hjl
  rw [hv] at hj
  have hj := Option.some.inj hj
  rw [← hj]; exact h1
 ·unfold maxLen; omega
 ·omega
 ·simp
 ·intro g cap w' hown' hg hor hlt
  have hk : Keeps w w' := by
   have h1 := Keeps.only hg (e := 35) ⟨_, _, heap_alloc_new w _⟩ (by decide)
   exact (Below.keeps hb0).trans h1
  have hb1 : Below w.heap.size w w' := only_below hb0 hg (by simp) (nr _)
  have hown2 := hown'
  clear hown' hg hlt
  have HW := hide (ai hk (ai hb1 (ai hown2 hor))); clear hk hb1 hown2 hor
  go_wp2
  go_ret
  obtain ⟨hk, hb1, hown2, hor⟩ := HW.out
  rcases hown2.2 with ⟨_, h00⟩ | ⟨g', cap', cur, hv, hgb, hh, hcc, hmm, hss, htt⟩
  ·omega
  ·injection hv with e1 e2 e3
   injection e1 with e1
   injection e1 with e1
   subst e1 e3
   refine ⟨_, rfl, g, ⟨cap, by simp, by omega, hmm, row_copied HH.out.1 hk hh ?_⟩, hgb, hb1⟩
   exact htt
def RX (w : World) (v : Value) (g : Nat) (qs : List Rat) (L : Nat) : Prop := (∃ A c, v = .slice A qs.length c) ∧ (0 < qs.length → RV w v g qs L)
theorem clone_0 (w : World) (A : Option Addr) (c : Nat) :
  Calls Tryz.prog 134 #[.slice A 0 c] w (Ret (fun u w' => (∃ A' c', u = .slice A' 0 c') ∧ Below w.heap.size w w')) := by
 have heq : ∀ w : World, (binOp .eql 26 (.slice A 0 c) (.slice none 0 0)).run Tryz.prog w = .ok (.bool A.isNone) w := fun w => Lib.run_eql_slice_nil w _ _ _ _ _ _ _ Tryz.underlying26
 cases A with
 | none =>
  go_enter Tryz.func134, Tryz.ntmps134
  go_wp2
  go_ret
  exact ⟨_, rfl, ⟨_, _, rfl⟩, Below.refl _ _⟩
 | some a =>
  go_enter Tryz.func134, Tryz.ntmps134
  have hown : (w.alloc (.cells #[] 35)).ownsRow w.heap.size 35 3 (.slice (some ⟨w.heap.size, 0, none⟩) 0 0) 0 [] := ⟨rfl, .inr ⟨w.heap.size, 0, #[], rfl, nr _, heap_alloc_new w _, nr _, by simp [maxLen], rfl, rfl⟩⟩
  obtain ⟨i, hi, hz, hsz, hby⟩ := info_parts ratInfo
  have HO := hide hown; clear hown
  go_wp2_with (at_builtin; refine wpList_append_own _ rfl _ _ 26 rfl w.heap.size 35 i (.agg #[.bool false, .slice none 0 0, .slice none 0 0]) 3 56 Tryz.underlying26 hi hz hsz hby rfl (by decide) _ 0 [] rfl HO.out a 0 c [] rfl rfl (fun j u h => by simp at h) (fun u h => by simp at h) (by simp [maxLen]) (by decide) (by simp) ?_; intro v' w' hown' hg' _)
  have hv : ∃ A' c', v' = .slice A' 0 c' := by
   rcases hown'.2 with ⟨h, _⟩ | ⟨g, cap, cur, h, _⟩
   ·exact ⟨_, _, h⟩
   ·exact ⟨_, _, h⟩
  have hb : Below w.heap.size w w' := ((Below.refl _ _).alloc (nr _) _).grown hg' (by simp) (fun k hk => by
   have : w.heap.size = k := by injection hk
   omega)
  have HB := hide (ai hv hb)
  clear hown' hg' hv hb
  go_wp2
  refine bodyPost_ret (v := v') ?_ rfl ?_
  ·simp [results, Tryz.results134, go_sem]
  exact ⟨_, rfl, HB.out⟩
theorem clone_x (w : World) (v : Value) (qs : List Rat) (L : Nat) (h : RowV w v qs L) (hl : qs.length ≤ 1073741824) :
  Calls Tryz.prog 134 #[v] w (Ret (fun u w' => ∃ g, RX w' u g qs L ∧ (0 < qs.length → w.heap.size ≤ g) ∧ Below w.heap.size w w')) := by
 by_cases h0 : 0 < qs.length
 ·refine (clone_c w v qs L h h0 hl).mono ?_
  rintro e w' ⟨u, rfl, g, h1, h2, h3⟩
  obtain ⟨c, hc, _⟩ := id h1
  exact ⟨_, rfl, g, ⟨⟨_, c, hc⟩, fun _ => h1⟩, fun _ => h2, h3⟩
 ·obtain ⟨A, c, rfl, _⟩ := h
  rw [show qs.length = 0 by omega]
  refine (clone_0 w A c).mono ?_
  rintro e w' ⟨u, rfl, ⟨A', c', hu⟩, h3⟩
  exact ⟨_, rfl, 0, ⟨⟨A', c', by rw [hu, show qs.length = 0 by omega]⟩, fun h => absurd h h0⟩, fun h => absurd h (by omega), h3⟩
end Go.Proofs.YthnnbpnocefmgaaGreat
