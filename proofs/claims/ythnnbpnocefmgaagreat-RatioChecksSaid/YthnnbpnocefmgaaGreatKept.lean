import Derived.Test.YthnnbpnocefmgaaGreatRat4
import Derived.Test.YthnnbpnocefmgaaGreatBits
import Derived.Defers
import Derived.Recover
import Derived.WalkSmall
namespace Go.Proofs.YthnnbpnocefmgaaGreat
set_option linter.unusedVariables false
set_option linter.unusedSimpArgs false
open Go.RowKit
theorem minus_q (w : World) (a b : Value) (p q : Rat) (L : Nat) (ha : RatV w a p L) (hb : RatV w b q L) (hL : L ≤ 268435456) :
  Calls Tryz.prog 62 #[a, b] w (Ret (ratR w (p - q) (2 * L + 4))) := by
 have HA := hide (ai ha hb)
 obtain ⟨n1, l1, rfl, h1, g1⟩ := ha
 obtain ⟨n2, l2, rfl, h2, g2⟩ := hb
 obtain ⟨A1, c1, xs1, rfl, _⟩ := h1.open_
 obtain ⟨A2, c2, xs2, rfl, _⟩ := g1.open_
 obtain ⟨A3, c3, xs3, rfl, _⟩ := h2.open_
 obtain ⟨A4, c4, xs4, rfl, _⟩ := g2.open_
 clear h1 g1 h2 g2
 obtain ⟨b1, hs1⟩ : ∃ s, s = decide (p.num < 0) := ⟨_, rfl⟩
 obtain ⟨b2, hs2⟩ : ∃ s, s = decide (q.num < 0) := ⟨_, rfl⟩
 rw [← hs1, ← hs2] at HA
 rw [← hs1, ← hs2]
 clear hs1 hs2
 have hsub : p - q = p + -q := Rat.sub_eq_add_neg p q
 rw [hsub]; clear hsub
 go_enter Tryz.func62, Tryz.ntmps62
 go_wp2_with fail
 have hb0 : Below w.heap.size w (((w.alloc (.cells #[.bool b1, .slice A1 xs1.length c1, .slice A2 xs2.length c2] 35)).alloc (.cells #[.bool b2, .slice A3 xs3.length c3, .slice A4 xs4.length c4] 35)).alloc (.cells #[.bool false, .slice none 0 0, .slice none 0 0] 35)).drew := ((((Below.refl _ _).alloc (nr _) _).alloc (by simp) _).alloc (by simp; omega) _).drew
 have hs0 : Below (w.heap.size + 3) (((w.alloc (.cells #[.bool b1, .slice A1 xs1.length c1, .slice A2 xs2.length c2] 35)).alloc (.cells #[.bool b2, .slice A3 xs3.length c3, .slice A4 xs4.length c4] 35)).alloc (.cells #[.bool false, .slice none 0 0, .slice none 0 0] 35)) (((w.alloc (.cells #[.bool b1, .slice A1 xs1.length c1, .slice A2 xs2.length c2] 35)).alloc (.cells #[.bool b2, .slice A3 xs3.length c3, .slice A4 xs4.length c4] 35)).alloc (.cells #[.bool false, .slice none 0 0, .slice none 0 0] 35)).drew := (Below.refl _ _).drew
 have HK := hide (fun w' (h : Below (w.heap.size + 3) (((w.alloc (.cells #[.bool b1, .slice A1 xs1.length c1, .slice A2 xs2.length c2] 35)).alloc (.cells #[.bool b2, .slice A3 xs3.length c3, .slice A4 xs4.length c4] 35)).alloc (.cells #[.bool false, .slice none 0 0, .slice none 0 0] 35)) w') => (two_of h : (w'.cell? ⟨w.heap.size, 0, none⟩ = some (.bool b1) ∧ w'.cell? ⟨w.heap.size, 1, none⟩ = some (.slice A1 xs1.length c1) ∧ w'.cell? ⟨w.heap.size, 2, none⟩ = some (.slice A2 xs2.length c2) ∧ w'.cell? ⟨w.heap.size + 1, 0, none⟩ = some (.bool b2) ∧ w'.cell? ⟨w.heap.size + 1, 1, none⟩ = some (.slice A3 xs3.length c3) ∧ w'.cell? ⟨w.heap.size + 1, 2, none⟩ = some (.slice A4 xs4.length c4))))
 go_region_held3 (fun w' => (w'.cell? ⟨w.heap.size, 0, none⟩ = some (.bool b1) ∧ w'.cell? ⟨w.heap.size, 1, none⟩ = some (.slice A1 xs1.length c1) ∧ w'.cell? ⟨w.heap.size, 2, none⟩ = some (.slice A2 xs2.length c2) ∧ w'.cell? ⟨w.heap.size + 1, 0, none⟩ = some (.bool b2) ∧ w'.cell? ⟨w.heap.size + 1, 1, none⟩ = some (.slice A3 xs3.length c3) ∧ w'.cell? ⟨w.heap.size + 1, 2, none⟩ = some (.slice A4 xs4.length c4)))
  (first | (go_keep; done) | (have hq := HK.out _ hs2; simp only [set3_other (show w.heap.size ≠ w.heap.size + 1 + 1 by omega), set3_other (show w.heap.size + 1 ≠ w.heap.size + 1 + 1 by omega)]; exact hq) | (exact HK.out _ hs2) | (have hq := HK.out _ hs1; simp only [set3_other (show w.heap.size ≠ w.heap.size + 1 + 1 by omega), set3_other (show w.heap.size + 1 ≠ w.heap.size + 1 + 1 by omega)]; exact hq) | (exact HK.out _ hs1))
  (first
   | (go_at_call 35; refine (neg_q _ _ q L (HA.out.2.below hb0)).mono ?_; rintro e w1 ⟨u1, rfl, q1, hd1⟩; have hs1 := below_more hs0 hd1 (by simp); have hb1 := bnx hb0 hd1)
   | (go_at_call 64; refine (plus_q _ _ _ p (-q) L (HA.out.1.below hb1) q1 hL).mono ?_; rintro e w2 ⟨u2, rfl, ⟨rn, rl, rfl, q2, p2⟩, hd2⟩; have hs2 := below_more hs1 hd2 (by simp); have hb2 := bnx hb1 hd2; obtain ⟨_, _, ⟨m0, m1, m2⟩, ⟨f0, f1, f2⟩, hz⟩ := boxes3 hs2; obtain ⟨Ae, ce, xe, rfl, _⟩ := q2.open_; obtain ⟨Af, cf, xf, rfl, _⟩ := p2.open_))
 go_wp2
 refine bodyPost_ret (v := .agg #[.bool (decide ((p + -q).num < 0)), .slice Ae xe.length ce, .slice Af xf.length cf]) ?_ rfl ?_
 ·simp [results, Tryz.results62, go_sem, m0, m1, m2, hz]
 refine ⟨_, rfl, ⟨.slice Ae xe.length ce, .slice Af xf.length cf, rfl, ?_, ?_⟩, below_set3 hb2 (by omega) _ _ _⟩
 ·exact q2.set3 m0 m1 m2
 ·exact p2.set3 m0 m1 m2
theorem wrap_neg (n : Int) (h0 : -9223372036854775808 ≤ n) (hn : n < 0) : IntKind.u64.wrap (-IntKind.u64.wrap n) = (n.natAbs : Int) := by
 simp only [IntKind.wrap, IntKind.bits, IntKind.signed]
 simp
 omega
theorem sized_c (w : World) (n : Int) (h0 : -9223372036854775808 ≤ n) (h1 : n ≤ 9223372036854775807) :
  Calls Tryz.prog 83 #[.int .i64 n] w (Ret (natR w (n.natAbs : Int) 2)) := by
 by_cases hn : n < 0
 ·have hd : decide (n < 0) = true := decide_eq_true hn
  go_enter Tryz.func83, Tryz.ntmps83
  go_wp2_with fail
  rw [wrap_neg n h0 hn]
  refine (natOf_c _ _ (by omega) (by omega)).mono ?_
  rintro e w1 ⟨u1, rfl, q1, hd1⟩
  go_wp2
  go_ret
  exact ⟨_, rfl, q1, hd1⟩
 ·have hd : decide (n < 0) = false := decide_eq_false hn
  go_enter Tryz.func83, Tryz.ntmps83
  go_wp2_with fail
  rw [show n = (n.natAbs : Int) from by omega]
  refine (natOf_c _ _ (by omega) (by omega)).mono ?_
  rintro e w1 ⟨u1, rfl, q1, hd1⟩
  go_wp2
  go_ret
  exact ⟨_, rfl, q1, hd1⟩
theorem of_c (w : World) (n : Int) (h0 : -9223372036854775808 ≤ n) (h1 : n ≤ 9223372036854775807) :
  Calls Tryz.prog 36 #[.int .i64 n] w (Ret (ratR w (n : Rat) 2)) := by
 go_enter Tryz.func36, Tryz.ntmps36
 go_wp2_with fail
 have hb0 : Below w.heap.size w (w.alloc (.cells #[.bool false, .slice none 0 0, .slice none 0 0] 35)) := (Below.refl _ _).alloc (nr _) _
 refine (sized_c _ n h0 h1).mono ?_
 rintro e w1 ⟨u1, rfl, q1, hd1⟩
 have hc1 := below_more (below_start w _) hd1 (by simp)
 have hb1 := bnx hb0 hd1
 obtain ⟨k0, k1, k2, f0, f1, f2, ks⟩ := box3 hc1
 obtain ⟨A1, c1, xs1, rfl, _⟩ := q1.open_
 go_wp2
 refine bodyPost_ret (v := .agg #[.bool (decide (n < 0)), .slice A1 xs1.length c1, .slice none 0 0]) ?_ rfl ?_
 ·simp [results, Tryz.results36, go_sem, k0, k1, k2, ks]
 refine ⟨_, rfl, ⟨.slice A1 xs1.length c1, .slice none 0 0, by rw [Rat.num_intCast], ?_, ?_⟩, below_set3 hb1 (nr _) _ _ _⟩
 ·rw [Rat.num_intCast]; exact q1.set3 k0 k1 k2
 ·rw [Rat.den_intCast]; exact NatV.nil _ _
def makeR (w : World) (m n : Int) (v : Value) (w' : World) : Prop :=
 Below w.heap.size w w' ∧ ∃ r, v = .tuple #[r, .int .i64 (if n = 0 then 6 else 0)] ∧ RatV w' r (if n = 0 then 0 else Rat.divInt m n) 2
theorem make_id (m n : Int) : Rat.divInt (sgd (!(decide (m < 0) == decide (n < 0))) (m.natAbs : Int)) (n.natAbs : Int) = Rat.divInt m n := by
 have hx := sgd_abs m
 generalize (m.natAbs : Int) = A at *
 by_cases hy : n < 0
 ·rw [show (n.natAbs : Int) = - n from by omega]
  rw [Rat.divInt_neg']
  simp only [hy, decide_true, beq_true, sgd_neg, hx]
  congr 1
  omega
 ·rw [show (n.natAbs : Int) = n from by omega]
  simp only [hy, decide_false, beq_false, Bool.not_not, hx]
theorem make_c (w : World) (m n : Int) (h0 : -9223372036854775808 ≤ m) (h1 : m ≤ 9223372036854775807) (g0 : -9223372036854775808 ≤ n) (g1 : n ≤ 9223372036854775807) :
  Calls Tryz.prog 68 #[.int .i64 m, .int .i64 n] w (Ret (makeR w m n)) := by
 have hb0 : Below w.heap.size w (w.alloc (.cells #[.bool false, .slice none 0 0, .slice none 0 0] 35)) := (Below.refl _ _).alloc (nr _) _
 have hs0 := below_start w (.cells #[.bool false, .slice none 0 0, .slice none 0 0] 35)
 by_cases hn : n = 0
 ·have hd : (n == 0) = true := by simp [hn]
  have hm : makeR w m n = makeR w m 0 := by rw [hn]
  rw [hm]; clear hm
  obtain ⟨k0, k1, k2, f0, f1, f2, ks⟩ := box3 hs0
  go_enter Tryz.func68, Tryz.ntmps68
  go_wp2
  refine bodyPost_ret (v := .tuple #[.agg #[.bool false, .slice none 0 0, .slice none 0 0], .int .i64 6]) ?_ rfl ?_
  ·simp [results, Tryz.results68, go_sem, k0, k1, k2, ks]
  ·exact ⟨_, rfl, hb0, _, rfl, ⟨_, _, rfl, NatV.nil _ _, NatV.nil _ _⟩⟩
 ·have hd : (n == 0) = false := by simp [hn]
  go_enter Tryz.func68, Tryz.ntmps68
  go_wp2_with fail
  refine (sized_c _ m h0 h1).mono ?_
  rintro e w1 ⟨u1, rfl, q1, hd1⟩
  have hs1 := below_more hs0 hd1 (by simp)
  have hb1 := bnx hb0 hd1
  go_wp2_with fail
  refine (sized_c _ n g0 g1).mono ?_
  rintro e w2 ⟨u2, rfl, q2, hd2⟩
  have hs2 := below_more hs1 hd2 (by simp)
  have hb2 := bnx hb1 hd2
  go_wp2_with fail
  refine (lowest_c _ _ _ _ _ _ 2 (q1.below hd2) q2 (by omega) (by omega)).mono ?_
  rw [make_id]
  rintro e w3 ⟨u3, rfl, ⟨rn, rl, rfl, q3, p3⟩, hd3⟩
  have hs3 := below_more hs2 hd3 (by simp)
  have hb3 := bnx hb2 hd3
  obtain ⟨k0, k1, k2, f0, f1, f2, ks⟩ := box3 hs3
  obtain ⟨A1, c1, xs1, rfl, _⟩ := q3.open_
  obtain ⟨A2, c2, xs2, rfl, _⟩ := p3.open_
  go_wp2
  refine bodyPost_ret (v := .tuple #[.agg #[.bool (decide ((Rat.divInt m n).num < 0)), .slice A1 xs1.length c1, .slice A2 xs2.length c2], .int .i64 0]) ?_ rfl ?_
  ·simp [results, Tryz.results68, go_sem, k0, k1, k2, ks]
  ·refine ⟨_, rfl, below_set3 hb3 (nr _) _ _ _, _, by rw [if_neg hn], ?_⟩
   rw [if_neg hn]
   exact ⟨_, _, rfl, q3.set3 k0 k1 k2, p3.set3 k0 k1 k2⟩
theorem boxes2 {w w' : World} {a0 b0 c0 a1 b1 c1 : Value} {e : TypeId}
  (h : Below (w.heap.size + 2) ((w.alloc (.cells #[a0, b0, c0] e)).alloc (.cells #[a1, b1, c1] e)) w') :
  (w'.cell? ⟨w.heap.size, 0, none⟩ = some a0 ∧ w'.cell? ⟨w.heap.size, 1, none⟩ = some b0 ∧ w'.cell? ⟨w.heap.size, 2, none⟩ = some c0) ∧
  (w'.cell? ⟨w.heap.size + 1, 0, none⟩ = some a1 ∧ w'.cell? ⟨w.heap.size + 1, 1, none⟩ = some b1 ∧ w'.cell? ⟨w.heap.size + 1, 2, none⟩ = some c1) ∧
  (w'.frozen? ⟨w.heap.size + 1, 0, none⟩ = false ∧ w'.frozen? ⟨w.heap.size + 1, 1, none⟩ = false ∧ w'.frozen? ⟨w.heap.size + 1, 2, none⟩ = false) ∧ w.heap.size + 1 < w'.heap.size := by
 have s1 : (w.alloc (.cells #[a0, b0, c0] e)).heap.size = w.heap.size + 1 := by simp
 have h1 : w'.heap[w.heap.size + 1]? = some (.cells #[a1, b1, c1] e (0, 0)) := (h.block _ (by omega)).trans (by rw [← s1]; exact heap_alloc_new _ _)
 have h0 : w'.heap[w.heap.size]? = some (.cells #[a0, b0, c0] e (0, 0)) := (h.block _ (by omega)).trans (by rw [Below.heap_alloc _ _ _ (by rw [s1]; omega)]; exact heap_alloc_new _ _)
 refine ⟨⟨?_, ?_, ?_⟩, ⟨?_, ?_, ?_⟩, ⟨?_, ?_, ?_⟩, ?_⟩
 all_goals first
  | (simp [World.cell?, h0]; done)
  | (simp [World.cell?, h1]; done)
  | (simp [World.frozen?, h1]; done)
  | (have := h.size; simp at this; omega)
def mostBits : Nat := 100000
def Small (x : Int) : Prop := x < 2 ^ mostBits
theorem small_of (M n : Nat) (x : Int) (h0 : 0 < n) (h1 : (2 : Int) ^ (n - 1) ≤ x) (h2 : x < 2 ^ n) : n ≤ M ↔ x < 2 ^ M := by
 constructor
 ·intro h
  have := pow_le_pow' (B := 2) (by omega) h
  omega
 ·intro h
  rcases Nat.lt_or_ge M n with hlt | hge
  ·have := pow_le_pow' (B := 2) (by omega) (show M ≤ n - 1 by omega)
   omega
  ·exact hge
def failedV : Value := .iface 144 (.agg #[.int .i64 11])
theorem small_zero {x : Int} (h : x ≤ 0) : Small x := by
 unfold Small
 have : (0 : Int) < 2 ^ mostBits := Int.pow_pos (by omega)
 omega
theorem kept_small (w : World) (v : Value) (x : Int) (L : Nat) (hx : NatV w v x L) (hL : L ≤ 1073741824) (hs : Small x) :
  Calls Tryz.prog 112 #[v] w (Ret (fun v' w' => v' = v ∧ w = w')) := by
 have hx0 := hx.nonneg
 go_enter Tryz.func112, Tryz.ntmps112
 go_wp2_with fail
 refine (size_c _ _ x L hx hL).mono ?_
 rintro e w1 ⟨_, rfl, n, rfl, hn0, hn1, rfl⟩
 have hn : decide ((100000 : Int) < (n : Int)) = false := by
  apply decide_eq_false
  rcases Int.lt_or_eq_of_le hx0 with hp | hp
  ·obtain ⟨g1, g2, g3⟩ := hn1 hp
   have := (small_of mostBits n x g1 g2 g3).2 hs
   unfold mostBits at this; omega
  ·have := hn0 hp.symm; omega
 clear hn0 hn1 hs
 go_wp2
 go_ret
 exact ⟨_, rfl, rfl, rfl⟩
theorem kept_large (w : World) (v : Value) (x : Int) (L : Nat) (hx : NatV w v x L) (hL : L ≤ 1073741824) (hs : ¬ Small x) :
  Calls Tryz.prog 112 #[v] w (fun e w' => e = .panicked [{ v := failedV, recovered := false }] ∧ w = w') := by
 have hx0 := hx.nonneg
 go_enter Tryz.func112, Tryz.ntmps112
 go_wp2_with fail
 refine (size_c _ _ x L hx hL).mono ?_
 rintro e w1 ⟨_, rfl, n, rfl, hn0, hn1, rfl⟩
 have hn : decide ((100000 : Int) < (n : Int)) = true := by
  apply decide_eq_true
  rcases Int.lt_or_eq_of_le hx0 with hp | hp
  ·obtain ⟨g1, g2, g3⟩ := hn1 hp
   have := (small_of mostBits n x g1 g2 g3).1
   unfold mostBits at this
   rcases Nat.lt_or_ge 100000 n with h | h
   ·omega
   ·exact absurd (this h) hs
  ·exact absurd (small_zero (by omega)) hs
 clear hn0 hn1 hs
 go_wp2
 exact ⟨rfl, rfl, rfl⟩
def SmallQ (q : Rat) : Prop := Small (q.num.natAbs : Int) ∧ Small (q.den : Int)
theorem keptQ_small (w : World) (a : Value) (q : Rat) (L : Nat) (ha : RatV w a q L) (hL : L ≤ 1073741800) (hs : SmallQ q) :
  Calls Tryz.prog 70 #[a] w (Ret (ratR w q L)) := by
 obtain ⟨n1, l1, rfl, h1, g1⟩ := ha
 obtain ⟨A1, c1, xs1, rfl, _⟩ := h1.open_
 obtain ⟨A2, c2, xs2, rfl, _⟩ := g1.open_
 have HA := hide (ai h1 (ai g1 hs)); clear h1 g1 hs
 obtain ⟨b1, hs1⟩ : ∃ s, s = decide (q.num < 0) := ⟨_, rfl⟩
 rw [← hs1]
 have HS := hide hs1; clear hs1
 go_enter Tryz.func70, Tryz.ntmps70
 have hb0 : Below w.heap.size w ((w.alloc (.cells #[.bool b1, .slice A1 xs1.length c1, .slice A2 xs2.length c2] 35)).alloc (.cells #[.bool false, .slice none 0 0, .slice none 0 0] 35)) := ((Below.refl _ _).alloc (nr _) _).alloc (by simp) _
 have hs0 : Below (w.heap.size + 2) ((w.alloc (.cells #[.bool b1, .slice A1 xs1.length c1, .slice A2 xs2.length c2] 35)).alloc (.cells #[.bool false, .slice none 0 0, .slice none 0 0] 35)) ((w.alloc (.cells #[.bool b1, .slice A1 xs1.length c1, .slice A2 xs2.length c2] 35)).alloc (.cells #[.bool false, .slice none 0 0, .slice none 0 0] 35)) := Below.refl _ _
 go_wp2_with fail
 refine (kept_small _ _ (q.num.natAbs : Int) L (HA.out.1.below hb0) (by omega) HA.out.2.2.1).mono ?_
 rintro e w1 ⟨_, rfl, rfl, rfl⟩
 go_wp2_with fail
 refine (den_c _ _ _ _ ((q.den : Int) - 1) L (HA.out.2.1.below hb0) (by omega)).mono ?_
 rintro e w2 ⟨u, rfl, q2, hd2⟩
 have hb2 := bnx hb0 hd2
 have hs2 := below_more hs0 hd2 (by simp)
 go_wp2_with fail
 refine (kept_small _ _ _ (L + 2) q2 (by omega) (by rw [show (q.den : Int) - 1 + 1 = q.den from by omega]; exact HA.out.2.2.2)).mono ?_
 rintro e w3 ⟨_, rfl, rfl, rfl⟩
 obtain ⟨⟨k0, k1, k2⟩, ⟨m0, m1, m2⟩, ⟨f0, f1, f2⟩, hz⟩ := boxes2 hs2
 go_wp2
 refine bodyPost_ret (v := .agg #[.bool b1, .slice A1 xs1.length c1, .slice A2 xs2.length c2]) ?_ rfl ?_
 ·simp [results, Tryz.results70, go_sem, m0, m1, m2, hz]
 rw [HS.out]
 refine ⟨_, rfl, ⟨.slice A1 xs1.length c1, .slice A2 xs2.length c2, rfl, ?_, ?_⟩, below_set3 hb2 (by omega) _ _ _⟩
 ·exact (HA.out.1.below hb2).set3 m0 m1 m2
 ·exact (HA.out.2.1.below hb2).set3 m0 m1 m2
theorem keptQ_large (w : World) (a : Value) (q : Rat) (L : Nat) (ha : RatV w a q L) (hL : L ≤ 1073741800) (hs : ¬ SmallQ q) :
  Calls Tryz.prog 70 #[a] w (fun e w' => e = .panicked [{ v := failedV, recovered := false }] ∧ Below w.heap.size w w') := by
 obtain ⟨n1, l1, rfl, h1, g1⟩ := ha
 obtain ⟨A1, c1, xs1, rfl, _⟩ := h1.open_
 obtain ⟨A2, c2, xs2, rfl, _⟩ := g1.open_
 have HA := hide (ai h1 g1); clear h1 g1
 obtain ⟨b1, hs1⟩ : ∃ s, s = decide (q.num < 0) := ⟨_, rfl⟩
 rw [← hs1]
 clear hs1
 have hb0 : Below w.heap.size w ((w.alloc (.cells #[.bool b1, .slice A1 xs1.length c1, .slice A2 xs2.length c2] 35)).alloc (.cells #[.bool false, .slice none 0 0, .slice none 0 0] 35)) := ((Below.refl _ _).alloc (nr _) _).alloc (by simp) _
 have hs0 : Below (w.heap.size + 2) ((w.alloc (.cells #[.bool b1, .slice A1 xs1.length c1, .slice A2 xs2.length c2] 35)).alloc (.cells #[.bool false, .slice none 0 0, .slice none 0 0] 35)) ((w.alloc (.cells #[.bool b1, .slice A1 xs1.length c1, .slice A2 xs2.length c2] 35)).alloc (.cells #[.bool false, .slice none 0 0, .slice none 0 0] 35)) := Below.refl _ _
 by_cases hs1 : Small (q.num.natAbs : Int)
 ·have HS := hide (ai hs1 hs); clear hs1 hs
  go_enter Tryz.func70, Tryz.ntmps70
  go_wp2_with fail
  refine (kept_small _ _ (q.num.natAbs : Int) L (HA.out.1.below hb0) (by omega) HS.out.1).mono ?_
  rintro e w1 ⟨_, rfl, rfl, rfl⟩
  go_wp2_with fail
  refine (den_c _ _ _ _ ((q.den : Int) - 1) L (HA.out.2.below hb0) (by omega)).mono ?_
  rintro e w2 ⟨u, rfl, q2, hd2⟩
  have hb2 := bnx hb0 hd2
  go_wp2_with fail
  refine (kept_large _ _ _ (L + 2) q2 (by omega) ?_).mono ?_
  ·rw [show (q.den : Int) - 1 + 1 = q.den from by omega]; intro h; exact HS.out.2 ⟨HS.out.1, h⟩
  rintro e w3 ⟨rfl, rfl⟩
  exact ⟨rfl, rfl, hb2⟩
 ·have HS := hide hs1; clear hs1 hs
  go_enter Tryz.func70, Tryz.ntmps70
  go_wp2_with fail
  refine (kept_large _ _ (q.num.natAbs : Int) L (HA.out.1.below hb0) (by omega) HS.out).mono ?_
  rintro e w1 ⟨rfl, rfl⟩
  exact ⟨rfl, rfl, hb0⟩
end Go.Proofs.YthnnbpnocefmgaaGreat
