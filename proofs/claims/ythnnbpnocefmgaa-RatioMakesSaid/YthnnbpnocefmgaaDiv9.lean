/- Long division in limbs, without memory; one more limb, in memory. -/
import Derived.Test.YthnnbpnocefmgaaLim3
import Derived.Test.YthnnbpnocefmgaaApp
import Derived.Deep.Upon
namespace Go.Proofs.Ythnnbpnocefmgaa
set_option linter.unusedVariables false
set_option linter.unusedSimpArgs false
open Go.RowKit

/-- what is guessed is never too much -/
def guess9 (top high : Int) : Int := max 1 (min 999999999 (top / high))

theorem val_drop (B : Int) (xs : List Int) (k : Nat) (h : k ≤ xs.length) : val B xs = val B (xs.take k) + B ^ k * val B (xs.drop k) := by
  have e := val_append B (xs.take k) (xs.drop k)
  rw [List.take_append_drop, List.length_take, Nat.min_eq_left h] at e
  exact e

theorem guess9_bd (top high : Int) : 1 ≤ guess9 top high ∧ guess9 top high ≤ 999999999 := by
  unfold guess9; omega

theorem guess9_le (rs ys : List Int) (hd : Dig 1000000000 rs) (hd' : Dig 1000000000 ys) (hy : 0 < ys.length) (hr : ys.length ≤ rs.length) (hle : val 1000000000 ys ≤ val 1000000000 rs) :
    val 1000000000 ys * guess9 (val 1000000000 (rs.drop (ys.length - 1))) (ys.getD (ys.length - 1) 0 + 1) ≤ val 1000000000 rs := by
  obtain ⟨m, hm⟩ : ∃ m, m = ys.length - 1 := ⟨_, rfl⟩
  rw [← hm]
  have hP := pow_pos' (B := 1000000000) (by omega) m
  have e1 := val_drop 1000000000 rs m (by omega)
  have e2 := val_take_succ 1000000000 ys m (by omega)
  rw [List.take_of_length_le (show ys.length ≤ m + 1 by omega)] at e2
  have b1 := val_nonneg (B := 1000000000) (by omega) (hd.take m)
  have b2 := val_nonneg (B := 1000000000) (by omega) (hd.drop m)
  have b3 := val_lt (B := 1000000000) (by omega) (hd'.take m)
  rw [List.length_take, Nat.min_eq_left (by omega)] at b3
  have b4 := hd'.at_ (k := m) (by omega)
  have b5 := val_nonneg (B := 1000000000) (by omega) hd'
  have hdiv := Int.ediv_mul_le (val 1000000000 (rs.drop m)) (show ys.getD m 0 + 1 ≠ 0 by omega)
  have hdn : 0 ≤ val 1000000000 (rs.drop m) / (ys.getD m 0 + 1) := Int.ediv_nonneg b2 (by omega)
  generalize hT : val 1000000000 (rs.drop m) = top at *
  generalize hY : ys.getD m 0 = yt at *
  generalize hP2 : (1000000000 : Int) ^ m = P at *
  have hy1 : val 1000000000 ys ≤ P * (yt + 1) := by rw [e2]; grind
  unfold guess9
  generalize hq : top / (yt + 1) = q at *
  by_cases hq1 : q < 1
  · rw [show max 1 (min 999999999 q) = 1 by omega, Int.mul_one]; exact hle
  · have h1 : max 1 (min 999999999 q) ≤ q := by omega
    have h2 : val 1000000000 ys * max 1 (min 999999999 q) ≤ (P * (yt + 1)) * q :=
      Int.le_trans (Int.mul_le_mul_of_nonneg_right hy1 (by omega)) (Int.mul_le_mul_of_nonneg_left h1 (Int.mul_nonneg (by omega) (by omega)))
    have h3 : P * (yt + 1) * q ≤ P * top := by
      have := Int.mul_le_mul_of_nonneg_left hdiv (show 0 ≤ P by omega)
      rw [Int.mul_assoc, Int.mul_comm (yt + 1) q]; exact this
    rw [e1]; omega

theorem div9_step (V Y q t z r T : Int) (h1 : T = z + 1000000000 * r) (h2 : T = q * Y + t) : z + 1000000000 * (V * Y + r) = (q + 1000000000 * V) * Y + t := by
  rw [h1] at h2
  have e : (q + 1000000000 * V) * Y = q * Y + 1000000000 * (V * Y) := by rw [Int.add_mul, Int.mul_assoc]
  rw [e]; omega
theorem div9_q (Y q t T : Int) (hY : 0 < Y) (h2 : T = q * Y + t) (ht : 0 ≤ t) (hT : T < Y * 1000000000) : q < 1000000000 := by
  rcases Int.lt_or_le q 1000000000 with h | h
  · exact h
  · exfalso
    have := Int.mul_le_mul_of_nonneg_right h (show 0 ≤ Y by omega)
    rw [Int.mul_comm 1000000000 Y] at this
    omega

theorem div9_end (x y d V r : Int) (hd : 0 < d) (hy : 0 < y) (h : x * d = V * (y * d) + r) (h0 : 0 ≤ r) (h1 : r < y * d) : V = x / y ∧ r / d = x % y := by
  have e : r = (x - V * y) * d := by rw [Int.sub_mul, Int.mul_assoc]; omega
  have e1 : r / d = x - V * y := by rw [e, Int.mul_ediv_cancel _ (by omega)]
  have b0 : 0 ≤ x - V * y := by rw [← e1]; exact Int.ediv_nonneg h0 (by omega)
  have b1 : x - V * y < y := by rw [← e1]; exact Int.ediv_lt_of_lt_mul hd h1
  have := (Int.ediv_emod_unique (a := x) (b := y) (r := x - V * y) (q := V) hy).2 ⟨by rw [Int.mul_comm y V]; omega, b0, b1⟩
  exact ⟨this.1.symm, by rw [e1, ← this.2]⟩

theorem LimV.put {w : World} {v : Value} {x : Int} {L n Q i : Nat} {u : Value} (h : LimV w v x L) (hf : Fresh n v) (hQ : Q < n) : LimV (w.setCell ⟨Q, i, none⟩ u) v x L := by
  obtain ⟨A, c, xs, rfl, h1, h2, h3, h4⟩ := h
  refine ⟨A, c, xs, rfl, h1, h2, ?_, h4⟩
  intro hx
  obtain ⟨b, o, rfl, ht, hc⟩ := h3 hx
  have hb : n ≤ b := hf _ _ _ rfl
  refine ⟨b, o, rfl, ht.setCell _ _, fun j hj => ?_⟩
  rw [World.cell?_setCell_other _ _ _ _ (by intro e; injection e with e1; omega)]
  exact hc j hj

/-- a row of integers is appended to one of the call's own -/
theorem appN {P : Program} {t e : TypeId} {k : IntKind} {bytes : Nat} (S : IntT P t e k bytes) (w : World) {ops : Array Oper} {rest : List Oper} {o : Oper} {a : Act} {Q : Exit → Act → World → Prop} (hgd : o.guard = none) (s x : Operand)
    (ho : o.op = .call { callee := .builtin .append, args := #[s, x], argTypes := #[t, t] })
    (base : Nat) (v : Value) (xs ys : List Int) (hs : a.eval s = v) (hown : OwnI w base e k v xs)
    (A : Option Addr) (c : Nat) (hx : a.eval x = .slice A ys.length c) (hy : Arr w A k ys) (hx0 : 0 < xs.length)
    (hlen : xs.length + ys.length ≤ 4398046511104) (hbase : base ≤ w.heap.size)
    (zs : List Int) (hzs : zs = xs ++ ys) (h : ∀ g c' w', OwnI w' base e k (.slice (some ⟨g, 0, none⟩) zs.length c') zs → zs.length ≤ c' → c' ≤ maxLen → base ≤ g → Below base w w' →
      wpList P ops Q rest (a.put o.dst (.slice (some ⟨g, 0, none⟩) zs.length c')) w') : wpList P ops Q (o :: rest) a w := by
  subst hzs
  rw [List.length_append] at h
  obtain ⟨i, hi, hz, hsz, hby⟩ := info_parts S.hi
  have hb := S.hb
  rcases Nat.eq_zero_or_pos ys.length with hy0 | hy0
  · obtain rfl : ys = [] := List.eq_nil_of_length_eq_zero hy0
    rcases hown.2 with ⟨_, h00⟩ | ⟨g, cap, cur, rfl, hgb, hh, hc, hm, _, _⟩
    · omega
    have hsrc : Src P i.size t (.slice A ([] : List Int).length c) 0 [] w := by
      cases A with
      | none => exact Src.ofNil w S.ht c
      | some ad => exact Src.ofSlice w S.ht ad 0 c [] (by simp) (fun j u hj => by simp at hj) (fun u hu => by cases hu)
    have hr := run_append_nothing w t t o.type e i S.ht hi (some ⟨g, 0, none⟩) xs.length cap hc _ hsrc
    refine wpList_plain hgd fun _ hK => ?_
    unfold Oper.wp execOp
    simp only [ho, resolve, invoke, builtin, Sem.run_bind, Sem.run_pure, Result.andThen_ok, List.map_toArray, List.map_cons, List.map_nil, hs, hx, hr]
    exact hK _ _ (h g cap w (by rw [List.append_nil]; exact hown) hc hm hgb (Below.refl _ _))
  obtain ⟨b, oo, rfl, _, hc⟩ := hy hy0
  refine wpList_append_lies w hgd s x t ho base e i (.int k 0) 1 bytes S.ht hi hz hsz hby rfl (by decide) v xs.length (xs.map (Value.int k)) hs hown ⟨b, oo, none⟩ ys.length c (ys.map (Value.int k)) hx (by simp) ?_ ?_ hy0 ?_ ?_ hbase w.heap.size rfl ?_
  · intro j u hj
    rw [List.getElem?_map, Option.map_eq_some_iff] at hj
    obtain ⟨d, hd, rfl⟩ := hj
    have hjl := (List.getElem?_eq_some_iff.1 hd).1
    have := hc j hjl
    rw [List.getD, hd] at this
    rw [show (Addr.add ⟨b, oo, none⟩ j) = ⟨b, oo + j, none⟩ by unfold Addr.add; split <;> simp_all]
    exact this
  · intro u hu
    rw [List.mem_map] at hu
    obtain ⟨d, _, rfl⟩ := hu
    rfl
  · unfold maxLen; omega
  · have := Nat.mul_le_mul_left (xs.length + ys.length) hb; omega
  · intro g cap w' hown' hg hor hlt
    have hbl : Below base w w' := (Below.refl _ _).grown hg hbase fun g hgv => (hown.lt g hgv).1
    have hown2 : OwnI w' base e k (.slice (some ⟨g, 0, none⟩) (xs.length + ys.length) cap) (xs ++ ys) := by unfold OwnI; simpa using hown'
    rcases hown'.2 with ⟨_, h0⟩ | ⟨g', cap', cur, hv, hgb, _, hc, hm, _, _⟩
    · omega
    · injection hv with e1 e2 e3
      injection e1 with e1
      injection e1 with e1
      subst e1 e3
      exact h g cap w' hown2 hc hm hgb hbl
end Go.Proofs.Ythnnbpnocefmgaa
