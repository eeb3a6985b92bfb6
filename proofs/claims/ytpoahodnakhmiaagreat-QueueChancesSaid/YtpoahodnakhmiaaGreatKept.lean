import Derived.Test.YtpoahodnakhmiaaGreatRat3
import Derived.BigQuiet
import Derived.Deep.QuietTactic
import Derived.Defers
import Derived.Recover
import Derived.WalkSmall
namespace Go.Proofs.YtpoahodnakhmiaaGreat
set_option linter.unusedVariables false
set_option linter.unusedSimpArgs false
open Go.RowKit
theorem zcp (x:Int):sgd (decide (x<0)) (x.natAbs:Int)=x:=by
 unfold sgd
 by_cases h:x<0 <;> simp[h] <;> omega
theorem ziu (b:Bool) (x:Int):sgd (!b) x=-sgd b x:=by unfold sgd;cases b <;> simp
theorem ziv (b:Bool) (x y:Int):sgd b (x*y)=sgd b x*y:=by unfold sgd;cases b <;> simp <;> grind
theorem zlw (x y:Int):sgd (!(decide (x<0) == decide (y<0))) ((x.natAbs:Int)*(y.natAbs:Int))=x*y:=by
 have hx:=zcp x
 have hy:=zcp y
 generalize (x.natAbs:Int)=a at *
 generalize (y.natAbs:Int)=b at *
 generalize decide (x<0)=s at *
 generalize decide (y<0)=t at *
 subst hx hy
 cases s <;> cases t <;> simp[sgd] <;> grind
theorem za3 (p:Rat):Rat.divInt p.num p.den=p:=Rat.num_divInt_den p
theorem zG (p:Rat):(0:Int)<p.den:=by have:=p.den_pos;omega
theorem zlx (p q:Rat):Rat.divInt (p.num*q.num) (p.den*q.den)=p*q:=by
 conv=>rhs;rw[<-za3 p,<-za3 q]
 rw[Rat.divInt_mul_divInt]
theorem zmO (p q:Rat) (hq:q.num≠0):Rat.divInt (p.num*q.den) (p.den*q.num)=p / q:=by
 conv=>rhs;rw[<-za3 p,<-za3 q]
 rw[Rat.div_def,Rat.inv_divInt,Rat.divInt_mul_divInt]
theorem zmP (p q:Rat):Rat.divInt (p.num*q.den+q.num*p.den) (p.den*q.den)=p+q:=by
 conv=>rhs;rw[<-za3 p,<-za3 q]
 have:=zG p
 have:=zG q
 rw[Rat.divInt_add_divInt _ _ (by omega) (by omega)]
theorem zh7 {q:Rat} (h:q≠0):q.num≠0:=by
 intro e;exact h (Rat.num_eq_zero.1 e)
theorem zcq (w:World) (a b:Value) (p q:Rat) (L:Nat) (ha:RatV w a p L) (hb:RatV w b q L) (hL:L<=268435456):
  Calls Tryz.prog 73 #[a,b] w (Ret (ratR w (p*q) (2*L+4))):=by
 obtain⟨n1,l1,rfl,h1,g1⟩:=ha
 obtain⟨n2,l2,rfl,h2,g2⟩:=hb
 have:=zkD w (decide (p.num<0)) (decide (q.num<0)) _ _ _ _ _ _ _ _ L h1 g1 h2 g2 hL
 rw[zlw,show (p.den:Int)-1+1=p.den from by omega,show (q.den:Int)-1+1=q.den from by omega,zlx] at this
 exact this
theorem zj0 (w:World) (a b:Value) (p q:Rat) (L:Nat) (ha:RatV w a p L) (hb:RatV w b q L) (hL:L<=268435456) (hq:q≠0):
  Calls Tryz.prog 76 #[a,b] w (Ret (ratR w (p / q) (2*L+4))):=by
 obtain⟨n1,l1,rfl,h1,g1⟩:=ha
 obtain⟨n2,l2,rfl,h2,g2⟩:=hb
 have hn:=zh7 hq
 have:=zlV w (decide (p.num<0)) (decide (q.num<0)) _ _ _ _ _ _ _ _ L h1 g1 h2 g2 hL (by omega)
 rw[show (p.den:Int)-1+1=p.den from by omega,show (q.den:Int)-1+1=q.den from by omega] at this
 have e:Rat.divInt (sgd (!(decide (p.num<0) == decide (q.num<0))) ((p.num.natAbs:Int)*(q.den:Int))) ((p.den:Int)*(q.num.natAbs:Int))=p / q:=by
  rw[<-zmO p q hn]
  have hx:=zcp p.num
  generalize (p.num.natAbs:Int)=A at *
  by_cases hy:q.num<0
  ·rw[show (q.num.natAbs:Int)=-q.num from by omega]
   rw[Int.mul_neg,Rat.divInt_neg']
   simp only[hy,decide_true,beq_true,ziu,ziv,hx]
   congr 1
   grind
  ·rw[show (q.num.natAbs:Int)=q.num from by omega]
   simp only[hy,decide_false,beq_false,Bool.not_not,ziv,hx]
 rw[e] at this
 exact this
theorem zgR (w:World) (a b:Value) (p q:Rat) (L:Nat) (ha:RatV w a p L) (hb:RatV w b q L) (hL:L<=268435456):
  Calls Tryz.prog 97 #[a,b] w (Ret (ratR w (p+q) (2*L+4))):=by
 obtain⟨n1,l1,rfl,h1,g1⟩:=ha
 obtain⟨n2,l2,rfl,h2,g2⟩:=hb
 have hx:=zcp p.num
 have hy:=zcp q.num
 have e1:(p.den:Int)-1+1=p.den:=by omega
 have e2:(q.den:Int)-1+1=q.den:=by omega
 have hid:=zmP p q
 rcases hB:(decide (p.num<0) == decide (q.num<0)) with _|_
 ·have hB':decide (q.num<0) = !decide (p.num<0):=by
   revert hB;cases decide (p.num<0) <;> cases decide (q.num<0) <;> simp
  rcases Int.lt_or_le ((p.num.natAbs:Int)*((q.den:Int)-1+1)) ((q.num.natAbs:Int)*((p.den:Int)-1+1)) with hC|hC
  ·have:=zkG w (decide (p.num<0)) (decide (q.num<0)) _ _ _ _ _ _ _ _ L h1 g1 h2 g2 hL hB hC
   rw[e1,e2] at this
   rw[show Rat.divInt (sgd (decide (q.num<0)) ((q.num.natAbs:Int)*p.den-(p.num.natAbs:Int)*q.den)) ((p.den:Int)*q.den)=p+q from ?_] at this
   ·exact this
   ·rw[<-hid]
    congr 1
    rw[hB'] at hy ⊢
    generalize decide (p.num<0)=s at *
    generalize (p.num.natAbs:Int)=A at *
    generalize (q.num.natAbs:Int)=B at *
    rw[<-hx,<-hy]
    cases s <;> simp[sgd] <;> grind
  ·have:=zkF w (decide (p.num<0)) (decide (q.num<0)) _ _ _ _ _ _ _ _ L h1 g1 h2 g2 hL hB hC
   rw[e1,e2] at this
   rw[show Rat.divInt (sgd (decide (p.num<0)) ((p.num.natAbs:Int)*q.den-(q.num.natAbs:Int)*p.den)) ((p.den:Int)*q.den)=p+q from ?_] at this
   ·exact this
   ·rw[<-hid]
    congr 1
    rw[hB'] at hy
    generalize decide (p.num<0)=s at *
    generalize (p.num.natAbs:Int)=A at *
    generalize (q.num.natAbs:Int)=B at *
    rw[<-hx,<-hy]
    cases s <;> simp[sgd] <;> grind
 ·have hB':decide (q.num<0)=decide (p.num<0):=by
   revert hB;cases decide (p.num<0) <;> cases decide (q.num<0) <;> simp
  have:=zkE w (decide (p.num<0)) (decide (q.num<0)) _ _ _ _ _ _ _ _ L h1 g1 h2 g2 hL hB
  rw[e1,e2] at this
  rw[show Rat.divInt (sgd (decide (p.num<0)) ((p.num.natAbs:Int)*q.den+(q.num.natAbs:Int)*p.den)) ((p.den:Int)*q.den)=p+q from ?_] at this
  ·exact this
  ·rw[<-hid]
   congr 1
   rw[hB'] at hy
   generalize decide (p.num<0)=s at *
   generalize (p.num.natAbs:Int)=A at *
   generalize (q.num.natAbs:Int)=B at *
   rw[<-hx,<-hy]
   cases s <;> simp[sgd] <;> grind
theorem zbf {w:World} {A:Option Addr} {c:Nat} {xs:List Int} {x:Int} {L:Nat} (h:NatV w (.slice A xs.length c) x L):xs.length=0↔x=0:=by
 obtain⟨A',c',ys,e,h1,h2,h3,h4,h5,h6,h7⟩:=h
 injection e with e1 e2 e3
 have:xs.length=ys.length:=e2
 rw[this,<-h6]
 constructor
 ·intro h;rw[List.eq_nil_of_length_eq_zero h];rfl
 ·intro h
  rcases Nat.eq_zero_or_pos ys.length with h0|h0
  ·exact h0
  ·have:=zaQ (B:=4294967296) (by omega) h4 h5 (by intro e;rw[e] at h0;simp at h0);omega
theorem zbg (w:World) (a:Value) (p:Rat) (L:Nat) (ha:RatV w a p L):
  Calls Tryz.prog 75 #[a] w (Ret (fun v w'=>v=.bool (decide (p=0))/\Below w.heap.size w w')):=by
 obtain⟨n1,l1,rfl,h1,g1⟩:=ha
 obtain⟨A1,c1,xs1,rfl,_⟩:=h1.open_
 obtain⟨A2,c2,xs2,rfl,_⟩:=g1.open_
 have hz:=zbf h1
 have e:decide (p=0)=((xs1.length:Int) == 0):=by
  rw[Bool.eq_iff_iff]
  simp only[decide_eq_true_eq,beq_iff_eq]
  rw[<-Rat.num_eq_zero]
  omega
 rw[e];clear e hz
 have HA:=hide (ai h1 g1);clear h1 g1
 go_enter Tryz.func75,Tryz.ntmps75
 go_wp2
 go_ret
 exact⟨_,rfl,rfl,(blr _ _).alloc (nr _) _⟩
theorem zml (w:World) (a:Value) (p:Rat) (L:Nat) (ha:RatV w a p L):
  Calls Tryz.prog 124 #[a] w (Ret (ratR w (-p) L)):=by
 obtain⟨n1,l1,rfl,h1,g1⟩:=ha
 obtain⟨A1,c1,xs1,rfl,_⟩:=h1.open_
 obtain⟨A2,c2,xs2,rfl,_⟩:=g1.open_
 have hz:=zbf h1
 have HA:=hide (ai h1 g1);clear h1 g1
 have hn:(-p).num=-p.num:=Rat.neg_num p
 have hd:(-p).den=p.den:=Rat.neg_den p
 have hN:decide ((-p).num<0)=(!decide (p.num<0)&&decide (0<xs1.length)):=by
  rw[hn,Bool.eq_iff_iff]
  simp only[Bool.and_eq_true,Bool.not_eq_true',decide_eq_true_eq,decide_eq_false_iff_not]
  omega
 have HN:=hide (ai hN (ai hn hd));clear hN hn hd hz
 obtain⟨s,hs⟩:∃s,s=decide (p.num<0):=⟨_,rfl⟩
 rw[<-hs] at HN ⊢
 clear hs
 cases s
 ·go_enter Tryz.func124,Tryz.ntmps124
  go_wp2
  refine bodyPost_ret (v:=.agg #[.bool (!false&&decide (0<xs1.length)),.slice A1 xs1.length c1,.slice A2 xs2.length c2]) ?_ rfl ?_
  ·simp[results,Tryz.results124,go_sem]
  ·obtain⟨e1,e2,e3⟩:=HN.out
   refine⟨_,rfl,⟨.slice A1 xs1.length c1,.slice A2 xs2.length c2,by rw[e1],?_,?_⟩,?_⟩
   ·rw[e2,Int.natAbs_neg];exact HA.out.1.below (((blr _ _).alloc (nr _) _).alloc (by simp) _)
   ·rw[e3];exact HA.out.2.below (((blr _ _).alloc (nr _) _).alloc (by simp) _)
   ·exact((blr _ _).alloc (nr _) _).alloc (by simp) _
 ·go_enter Tryz.func124,Tryz.ntmps124
  go_wp2
  refine bodyPost_ret (v:=.agg #[.bool false,.slice A1 xs1.length c1,.slice A2 xs2.length c2]) ?_ rfl ?_
  ·simp[results,Tryz.results124,go_sem]
  ·obtain⟨e1,e2,e3⟩:=HN.out
   refine⟨_,rfl,⟨.slice A1 xs1.length c1,.slice A2 xs2.length c2,by rw[e1];rfl,?_,?_⟩,?_⟩
   ·rw[e2,Int.natAbs_neg];exact HA.out.1.below (((blr _ _).alloc (nr _) _).alloc (by simp) _)
   ·rw[e3];exact HA.out.2.below (((blr _ _).alloc (nr _) _).alloc (by simp) _)
   ·exact((blr _ _).alloc (nr _) _).alloc (by simp) _
def sgnQ (p:Rat):Int:=if p.num<0 then -1 else if 0<p.num then 1 else 0
theorem zce (w:World) (a:Value) (p:Rat) (L:Nat) (ha:RatV w a p L):
  Calls Tryz.prog 28 #[a] w (Ret (fun v w'=>v=.int .i64 (sgnQ p)/\Below w.heap.size w w')):=by
 obtain⟨n1,l1,rfl,h1,g1⟩:=ha
 obtain⟨A1,c1,xs1,rfl,_⟩:=h1.open_
 obtain⟨A2,c2,xs2,rfl,_⟩:=g1.open_
 have hz:=zbf h1
 have hN:sgnQ p=if decide (p.num<0)=true then -1 else if 0<xs1.length then 1 else 0:=by
  unfold sgnQ
  simp only[decide_eq_true_eq]
  split
  ·rfl
  ·have:(0<p.num)=(0<xs1.length):=by rw[eq_iff_iff];omega
   simp only[this]
 clear h1 g1 hz
 obtain⟨s,hs⟩:∃s,s=decide (p.num<0):=⟨_,rfl⟩
 rw[<-hs] at hN ⊢
 rw[hN];clear hs hN
 cases s
 ·rcases Nat.eq_zero_or_pos xs1.length with h0|h0
  ·have hd:decide (0<xs1.length)=false:=by simp[h0]
   go_enter Tryz.func28,Tryz.ntmps28
   go_wp2
   go_ret
   exact⟨_,rfl,by simp[h0],(blr _ _).alloc (nr _) _⟩
  ·have hd:decide (0<xs1.length)=true:=by simp[h0]
   go_enter Tryz.func28,Tryz.ntmps28
   go_wp2
   go_ret
   exact⟨_,rfl,by simp[h0],(blr _ _).alloc (nr _) _⟩
 ·go_enter Tryz.func28,Tryz.ntmps28
  go_wp2
  go_ret
  exact⟨_,rfl,rfl,(blr _ _).alloc (nr _) _⟩
theorem zfl (w:World) (a b:Value) (p q:Rat) (L:Nat) (ha:RatV w a p L) (hb:RatV w b q L) (hL:L<=268435456):
  Calls Tryz.prog 70 #[a,b] w (Ret (ratR w (p-q) (2*L+4))):=by
 have HA:=hide (ai ha hb)
 obtain⟨n1,l1,rfl,h1,g1⟩:=ha
 obtain⟨n2,l2,rfl,h2,g2⟩:=hb
 obtain⟨A1,c1,xs1,rfl,_⟩:=h1.open_
 obtain⟨A2,c2,xs2,rfl,_⟩:=g1.open_
 obtain⟨A3,c3,xs3,rfl,_⟩:=h2.open_
 obtain⟨A4,c4,xs4,rfl,_⟩:=g2.open_
 clear h1 g1 h2 g2
 obtain⟨b1,hs1⟩:∃s,s=decide (p.num<0):=⟨_,rfl⟩
 obtain⟨b2,hs2⟩:∃s,s=decide (q.num<0):=⟨_,rfl⟩
 rw[<-hs1,<-hs2] at HA
 rw[<-hs1,<-hs2]
 clear hs1 hs2
 have hsub:p-q=p + -q:=Rat.sub_eq_add_neg p q
 rw[hsub];clear hsub
 go_enter Tryz.func70,Tryz.ntmps70
 go_wp2_with fail
 have hb0:Below w.heap.size w (((w.alloc (.cells #[.bool b1,.slice A1 xs1.length c1,.slice A2 xs2.length c2] 43)).alloc (.cells #[.bool b2,.slice A3 xs3.length c3,.slice A4 xs4.length c4] 43)).alloc (.cells #[.bool false,.slice none 0 0,.slice none 0 0] 43)).drew:=((((blr _ _).alloc (nr _) _).alloc (by simp) _).alloc (by simp;omega) _).drew
 have hs0:Below (w.heap.size+3) (((w.alloc (.cells #[.bool b1,.slice A1 xs1.length c1,.slice A2 xs2.length c2] 43)).alloc (.cells #[.bool b2,.slice A3 xs3.length c3,.slice A4 xs4.length c4] 43)).alloc (.cells #[.bool false,.slice none 0 0,.slice none 0 0] 43)) (((w.alloc (.cells #[.bool b1,.slice A1 xs1.length c1,.slice A2 xs2.length c2] 43)).alloc (.cells #[.bool b2,.slice A3 xs3.length c3,.slice A4 xs4.length c4] 43)).alloc (.cells #[.bool false,.slice none 0 0,.slice none 0 0] 43)).drew:=(blr _ _).drew
 have HK:=hide (fun w' (h:Below (w.heap.size+3) (((w.alloc (.cells #[.bool b1,.slice A1 xs1.length c1,.slice A2 xs2.length c2] 43)).alloc (.cells #[.bool b2,.slice A3 xs3.length c3,.slice A4 xs4.length c4] 43)).alloc (.cells #[.bool false,.slice none 0 0,.slice none 0 0] 43)) w')=>(two_of h:(w'.cell? ⟨w.heap.size,0,none⟩=some (.bool b1)/\w'.cell? ⟨w.heap.size,1,none⟩=some (.slice A1 xs1.length c1)/\w'.cell? ⟨w.heap.size,2,none⟩=some (.slice A2 xs2.length c2)/\w'.cell? ⟨w.heap.size+1,0,none⟩=some (.bool b2)/\w'.cell? ⟨w.heap.size+1,1,none⟩=some (.slice A3 xs3.length c3)/\w'.cell? ⟨w.heap.size+1,2,none⟩=some (.slice A4 xs4.length c4))))
 go_region_held3 (fun w'=>(w'.cell? ⟨w.heap.size,0,none⟩=some (.bool b1)/\w'.cell? ⟨w.heap.size,1,none⟩=some (.slice A1 xs1.length c1)/\w'.cell? ⟨w.heap.size,2,none⟩=some (.slice A2 xs2.length c2)/\w'.cell? ⟨w.heap.size+1,0,none⟩=some (.bool b2)/\w'.cell? ⟨w.heap.size+1,1,none⟩=some (.slice A3 xs3.length c3)/\w'.cell? ⟨w.heap.size+1,2,none⟩=some (.slice A4 xs4.length c4)))
  (first|(go_keep;done)|(have hq:=HK.out _ hs2;simp only[zi (show w.heap.size≠w.heap.size+1+1 by omega),zi (show w.heap.size+1≠w.heap.size+1+1 by omega)];exact hq)|(exact HK.out _ hs2)|(have hq:=HK.out _ hs1;simp only[zi (show w.heap.size≠w.heap.size+1+1 by omega),zi (show w.heap.size+1≠w.heap.size+1+1 by omega)];exact hq)|(exact HK.out _ hs1))
  (first
   | (go_at_call 124;refine(zml _ _ q L (HA.out.2.below hb0)).mono ?_;rintro e w1 ⟨u1,rfl,q1,hd1⟩;have hs1:=zh hs0 hd1 (by simp);have hb1:=bnx hb0 hd1)
   | (go_at_call 97;refine(zgR _ _ _ p (-q) L (HA.out.1.below hb1) q1 hL).mono ?_;rintro e w2 ⟨u2,rfl,⟨rn,rl,rfl,q2,p2⟩,hd2⟩;have hs2:=zh hs1 hd2 (by simp);have hb2:=bnx hb1 hd2;obtain⟨_,_,⟨m0,m1,m2⟩,⟨f0,f1,f2⟩,hz⟩:=zaE hs2;obtain⟨Ae,ce,xe,rfl,_⟩:=q2.open_;obtain⟨Af,cf,xf,rfl,_⟩:=p2.open_))
 go_wp2
 refine bodyPost_ret (v:=.agg #[.bool (decide ((p + -q).num<0)),.slice Ae xe.length ce,.slice Af xf.length cf]) ?_ rfl ?_
 ·simp[results,Tryz.results70,go_sem,m0,m1,m2,hz]
 refine⟨_,rfl,⟨.slice Ae xe.length ce,.slice Af xf.length cf,rfl,?_,?_⟩,zm hb2 (by omega) _ _ _⟩
 ·exact q2.set3 m0 m1 m2
 ·exact p2.set3 m0 m1 m2
theorem zgS (n:Int) (h0:-9223372036854775808<=n) (hn:n<0):IntKind.u64.wrap (-IntKind.u64.wrap n)=(n.natAbs:Int):=by
 simp only[IntKind.wrap,IntKind.bits,IntKind.signed]
 simp
 omega
theorem zmQ (w:World) (n:Int) (h0:-9223372036854775808<=n) (h1:n<=9223372036854775807):
  Calls Tryz.prog 71 #[.int .i64 n] w (Ret (natR w (n.natAbs:Int) 2)):=by
 by_cases hn:n<0
 ·have hd:decide (n<0)=true:=decide_eq_true hn
  go_enter Tryz.func71,Tryz.ntmps71
  go_wp2_with fail
  rw[zgS n h0 hn]
  refine(zc4 _ _ (by omega) (by omega)).mono ?_
  rintro e w1 ⟨u1,rfl,q1,hd1⟩
  go_wp2
  go_ret
  exact⟨_,rfl,q1,hd1⟩
 ·have hd:decide (n<0)=false:=decide_eq_false hn
  go_enter Tryz.func71,Tryz.ntmps71
  go_wp2_with fail
  rw[show n=(n.natAbs:Int) from by omega]
  refine(zc4 _ _ (by omega) (by omega)).mono ?_
  rintro e w1 ⟨u1,rfl,q1,hd1⟩
  go_wp2
  go_ret
  exact⟨_,rfl,q1,hd1⟩
theorem zcu (w:World) (n:Int) (h0:-9223372036854775808<=n) (h1:n<=9223372036854775807):
  Calls Tryz.prog 20 #[.int .i64 n] w (Ret (ratR w (n:Rat) 2)):=by
 go_enter Tryz.func20,Tryz.ntmps20
 go_wp2_with fail
 have hb0:Below w.heap.size w (w.alloc (.cells #[.bool false,.slice none 0 0,.slice none 0 0] 43)):=(blr _ _).alloc (nr _) _
 refine(zmQ _ n h0 h1).mono ?_
 rintro e w1 ⟨u1,rfl,q1,hd1⟩
 have hc1:=zh (zL w _) hd1 (by simp)
 have hb1:=bnx hb0 hd1
 obtain⟨k0,k1,k2,f0,f1,f2,ks⟩:=box3 hc1
 obtain⟨A1,c1,xs1,rfl,_⟩:=q1.open_
 go_wp2
 refine bodyPost_ret (v:=.agg #[.bool (decide (n<0)),.slice A1 xs1.length c1,.slice none 0 0]) ?_ rfl ?_
 ·simp[results,Tryz.results20,go_sem,k0,k1,k2,ks]
 refine⟨_,rfl,⟨.slice A1 xs1.length c1,.slice none 0 0,by rw[Rat.num_intCast],?_,?_⟩,zm hb1 (nr _) _ _ _⟩
 ·rw[Rat.num_intCast];exact q1.set3 k0 k1 k2
 ·rw[Rat.den_intCast];exact NatV.nil _ _
theorem znD {w w':World} {a0 b0 c0 a1 b1 c1:Value} {e:TypeId}
  (h:Below (w.heap.size+2) ((w.alloc (.cells #[a0,b0,c0] e)).alloc (.cells #[a1,b1,c1] e)) w'):
  (w'.cell? ⟨w.heap.size,0,none⟩=some a0/\w'.cell? ⟨w.heap.size,1,none⟩=some b0/\w'.cell? ⟨w.heap.size,2,none⟩=some c0) /\
  (w'.cell? ⟨w.heap.size+1,0,none⟩=some a1/\w'.cell? ⟨w.heap.size+1,1,none⟩=some b1/\w'.cell? ⟨w.heap.size+1,2,none⟩=some c1) /\
  (w'.frozen? ⟨w.heap.size+1,0,none⟩=false/\w'.frozen? ⟨w.heap.size+1,1,none⟩=false/\w'.frozen? ⟨w.heap.size+1,2,none⟩=false)/\w.heap.size+1<w'.heap.size:=by
 have s1:(w.alloc (.cells #[a0,b0,c0] e)).heap.size=w.heap.size+1:=by simp
 have h1:w'.heap[w.heap.size+1]?=some (.cells #[a1,b1,c1] e (0,0)):=(h.block _ (by omega)).trans (by rw[<-s1];exact heap_alloc_new _ _)
 have h0:w'.heap[w.heap.size]?=some (.cells #[a0,b0,c0] e (0,0)):=(h.block _ (by omega)).trans (by rw[Below.heap_alloc _ _ _ (by rw[s1];omega)];exact heap_alloc_new _ _)
 refine⟨⟨?_,?_,?_⟩,⟨?_,?_,?_⟩,⟨?_,?_,?_⟩,?_⟩
 all_goals first
  | (simp[World.cell?,h0];done)
  | (simp[World.cell?,h1];done)
  | (simp[World.frozen?,h1];done)
  | (have:=h.size;simp at this;omega)
def mostBits:Nat:=100000
def Small (x:Int):Prop:=x<2^mostBits
theorem zgT (M n:Nat) (x:Int) (h0:0<n) (h1:(2:Int)^(n-1)<=x) (h2:x<2^n):n<=M↔x<2^M:=by
 constructor
 ·intro h
  have:=zt (B:=2) (by omega) h
  omega
 ·intro h
  rcases Nat.lt_or_ge M n with hlt|hge
  ·have:=zt (B:=2) (by omega) (show M<=n-1 by omega)
   omega
  ·exact hge
def zc6:Value:=.iface 153 (.agg #[.int .i64 11])
theorem zi6 {x:Int} (h:x<=0):Small x:=by
 unfold Small
 have:(0:Int)<2^mostBits:=Int.pow_pos (by omega)
 omega
theorem zdm (w:World) (v:Value) (x:Int) (L:Nat) (hx:NatV w v x L) (hL:L<=1073741824) (hs:Small x):
  Calls Tryz.prog 130 #[v] w (Ret (fun v' w'=>v'=v/\w=w')):=by
 have hx0:=hx.nonneg
 go_enter Tryz.func130,Tryz.ntmps130
 go_wp2_with fail
 refine(zjJ _ _ x L hx hL).mono ?_
 rintro e w1 ⟨_,rfl,n,rfl,hn0,hn1,rfl⟩
 have hn:decide ((100000:Int)<(n:Int))=false:=by
  apply decide_eq_false
  rcases Int.lt_or_eq_of_le hx0 with hp|hp
  ·obtain⟨g1,g2,g3⟩:=hn1 hp
   have:=(zgT mostBits n x g1 g2 g3).2 hs
   unfold mostBits at this;omega
  ·have:=hn0 hp.symm;omega
 clear hn0 hn1 hs
 go_wp2
 go_ret
 exact⟨_,rfl,rfl,rfl⟩
theorem zeZ (w:World) (v:Value) (x:Int) (L:Nat) (hx:NatV w v x L) (hL:L<=1073741824) (hs:¬Small x):
  Calls Tryz.prog 130 #[v] w (fun e w'=>e=.panicked [{ v:=zc6,recovered:=false }]/\w=w'):=by
 have hx0:=hx.nonneg
 go_enter Tryz.func130,Tryz.ntmps130
 go_wp2_with fail
 refine(zjJ _ _ x L hx hL).mono ?_
 rintro e w1 ⟨_,rfl,n,rfl,hn0,hn1,rfl⟩
 have hn:decide ((100000:Int)<(n:Int))=true:=by
  apply decide_eq_true
  rcases Int.lt_or_eq_of_le hx0 with hp|hp
  ·obtain⟨g1,g2,g3⟩:=hn1 hp
   have:=(zgT mostBits n x g1 g2 g3).1
   unfold mostBits at this
   rcases Nat.lt_or_ge 100000 n with h|h
   ·omega
   ·exact absurd (this h) hs
  ·exact absurd (zi6 (by omega)) hs
 clear hn0 hn1 hs
 go_wp2
 exact⟨rfl,rfl,rfl⟩
def SmallQ (q:Rat):Prop:=Small (q.num.natAbs:Int)/\Small (q.den:Int)
theorem zbB (w:World) (a:Value) (q:Rat) (L:Nat) (ha:RatV w a q L) (hL:L<=1073741800) (hs:SmallQ q):
  Calls Tryz.prog 74 #[a] w (Ret (ratR w q L)):=by
 obtain⟨n1,l1,rfl,h1,g1⟩:=ha
 obtain⟨A1,c1,xs1,rfl,_⟩:=h1.open_
 obtain⟨A2,c2,xs2,rfl,_⟩:=g1.open_
 have HA:=hide (ai h1 (ai g1 hs));clear h1 g1 hs
 obtain⟨b1,hs1⟩:∃s,s=decide (q.num<0):=⟨_,rfl⟩
 rw[<-hs1]
 have HS:=hide hs1;clear hs1
 go_enter Tryz.func74,Tryz.ntmps74
 have hb0:Below w.heap.size w ((w.alloc (.cells #[.bool b1,.slice A1 xs1.length c1,.slice A2 xs2.length c2] 43)).alloc (.cells #[.bool false,.slice none 0 0,.slice none 0 0] 43)):=((blr _ _).alloc (nr _) _).alloc (by simp) _
 have hs0:Below (w.heap.size+2) ((w.alloc (.cells #[.bool b1,.slice A1 xs1.length c1,.slice A2 xs2.length c2] 43)).alloc (.cells #[.bool false,.slice none 0 0,.slice none 0 0] 43)) ((w.alloc (.cells #[.bool b1,.slice A1 xs1.length c1,.slice A2 xs2.length c2] 43)).alloc (.cells #[.bool false,.slice none 0 0,.slice none 0 0] 43)):=blr _ _
 go_wp2_with fail
 refine(zdm _ _ (q.num.natAbs:Int) L (HA.out.1.below hb0) (by omega) HA.out.2.2.1).mono ?_
 rintro e w1 ⟨_,rfl,rfl,rfl⟩
 go_wp2_with fail
 refine(zar _ _ _ _ ((q.den:Int)-1) L (HA.out.2.1.below hb0) (by omega)).mono ?_
 rintro e w2 ⟨u,rfl,q2,hd2⟩
 have hb2:=bnx hb0 hd2
 have hs2:=zh hs0 hd2 (by simp)
 go_wp2_with fail
 refine(zdm _ _ _ (L+2) q2 (by omega) (by rw[show (q.den:Int)-1+1=q.den from by omega];exact HA.out.2.2.2)).mono ?_
 rintro e w3 ⟨_,rfl,rfl,rfl⟩
 obtain⟨⟨k0,k1,k2⟩,⟨m0,m1,m2⟩,⟨f0,f1,f2⟩,hz⟩:=znD hs2
 go_wp2
 refine bodyPost_ret (v:=.agg #[.bool b1,.slice A1 xs1.length c1,.slice A2 xs2.length c2]) ?_ rfl ?_
 ·simp[results,Tryz.results74,go_sem,m0,m1,m2,hz]
 rw[HS.out]
 refine⟨_,rfl,⟨.slice A1 xs1.length c1,.slice A2 xs2.length c2,rfl,?_,?_⟩,zm hb2 (by omega) _ _ _⟩
 ·exact(HA.out.1.below hb2).set3 m0 m1 m2
 ·exact(HA.out.2.1.below hb2).set3 m0 m1 m2
theorem zh8 (w:World) (a:Value) (q:Rat) (L:Nat) (ha:RatV w a q L) (hL:L<=1073741800) (hs:¬SmallQ q):
  Calls Tryz.prog 74 #[a] w (fun e w'=>e=.panicked [{ v:=zc6,recovered:=false }]/\Below w.heap.size w w'):=by
 obtain⟨n1,l1,rfl,h1,g1⟩:=ha
 obtain⟨A1,c1,xs1,rfl,_⟩:=h1.open_
 obtain⟨A2,c2,xs2,rfl,_⟩:=g1.open_
 have HA:=hide (ai h1 g1);clear h1 g1
 obtain⟨b1,hs1⟩:∃s,s=decide (q.num<0):=⟨_,rfl⟩
 rw[<-hs1]
 clear hs1
 have hb0:Below w.heap.size w ((w.alloc (.cells #[.bool b1,.slice A1 xs1.length c1,.slice A2 xs2.length c2] 43)).alloc (.cells #[.bool false,.slice none 0 0,.slice none 0 0] 43)):=((blr _ _).alloc (nr _) _).alloc (by simp) _
 have hs0:Below (w.heap.size+2) ((w.alloc (.cells #[.bool b1,.slice A1 xs1.length c1,.slice A2 xs2.length c2] 43)).alloc (.cells #[.bool false,.slice none 0 0,.slice none 0 0] 43)) ((w.alloc (.cells #[.bool b1,.slice A1 xs1.length c1,.slice A2 xs2.length c2] 43)).alloc (.cells #[.bool false,.slice none 0 0,.slice none 0 0] 43)):=blr _ _
 by_cases hs1:Small (q.num.natAbs:Int)
 ·have HS:=hide (ai hs1 hs);clear hs1 hs
  go_enter Tryz.func74,Tryz.ntmps74
  go_wp2_with fail
  refine(zdm _ _ (q.num.natAbs:Int) L (HA.out.1.below hb0) (by omega) HS.out.1).mono ?_
  rintro e w1 ⟨_,rfl,rfl,rfl⟩
  go_wp2_with fail
  refine(zar _ _ _ _ ((q.den:Int)-1) L (HA.out.2.below hb0) (by omega)).mono ?_
  rintro e w2 ⟨u,rfl,q2,hd2⟩
  have hb2:=bnx hb0 hd2
  go_wp2_with fail
  refine(zeZ _ _ _ (L+2) q2 (by omega) ?_).mono ?_
  ·rw[show (q.den:Int)-1+1=q.den from by omega];intro h;exact HS.out.2 ⟨HS.out.1,h⟩
  rintro e w3 ⟨rfl,rfl⟩
  exact⟨rfl,rfl,hb2⟩
 ·have HS:=hide hs1;clear hs1 hs
  go_enter Tryz.func74,Tryz.ntmps74
  go_wp2_with fail
  refine(zeZ _ _ (q.num.natAbs:Int) L (HA.out.1.below hb0) (by omega) HS.out).mono ?_
  rintro e w1 ⟨rfl,rfl⟩
  exact⟨rfl,rfl,hb0⟩
end Go.Proofs.YtpoahodnakhmiaaGreat
