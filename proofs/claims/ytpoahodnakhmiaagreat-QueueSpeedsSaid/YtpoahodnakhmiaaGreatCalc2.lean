import Derived.Test.YtpoahodnakhmiaaGreatInt64
import Derived.Deep.RegionHeld3
namespace Go.Proofs.YtpoahodnakhmiaaGreat
open Go.RowKit
set_option linter.unusedVariables false
set_option linter.unusedSimpArgs false
theorem zn4 (w:World) (a b:Value) (p q:Rat) (L:Nat) (ha:RatV w a p L) (hb:RatV w b q L) (hL:L<=268435456):
  Calls Tryz.prog 55 #[a,b] w (Ret (doneR w (p-q) (2*L+4))):=by
 have hmf:=hmf0 Tryz.prog
 have HA:=hide (ai ha hb)
 obtain⟨n1,l1,rfl,h1,g1⟩:=ha
 obtain⟨n2,l2,rfl,h2,g2⟩:=hb
 obtain⟨A1,c1,xs1,rfl,_⟩:=h1.open_
 obtain⟨A2,c2,xs2,rfl,_⟩:=g1.open_
 obtain⟨A3,c3,xs3,rfl,_⟩:=h2.open_
 obtain⟨A4,c4,xs4,rfl,_⟩:=g2.open_
 clear h1 g1 h2 g2
 obtain⟨b1,hs1⟩:∃s,s=decide (p.num<0):=⟨_,rfl⟩
 obtain⟨b2,hs2⟩:∃s,s=decide (q.num<0):=⟨_,rfl⟩
 rw[<-hs1,<-hs2] at HA
 rw[<-hs1,<-hs2]
 clear hs1 hs2
 have hb0:Below w.heap.size w (((w.alloc (.cells #[.bool b1,.slice A1 xs1.length c1,.slice A2 xs2.length c2] 43)).alloc (.cells #[.bool b2,.slice A3 xs3.length c3,.slice A4 xs4.length c4] 43)).alloc (.cells #[.bool false,.slice none 0 0,.slice none 0 0] 43)):=((((blr _ _).alloc (nr _) _).alloc (by simp) _).alloc (by simp;omega) _)
 have hs0:Below (w.heap.size+3) (((w.alloc (.cells #[.bool b1,.slice A1 xs1.length c1,.slice A2 xs2.length c2] 43)).alloc (.cells #[.bool b2,.slice A3 xs3.length c3,.slice A4 xs4.length c4] 43)).alloc (.cells #[.bool false,.slice none 0 0,.slice none 0 0] 43)) (((w.alloc (.cells #[.bool b1,.slice A1 xs1.length c1,.slice A2 xs2.length c2] 43)).alloc (.cells #[.bool b2,.slice A3 xs3.length c3,.slice A4 xs4.length c4] 43)).alloc (.cells #[.bool false,.slice none 0 0,.slice none 0 0] 43)):=(blr _ _)
 go_enter Tryz.func55,Tryz.ntmps55
 go_wp2_with fail
 refine(zfC _ _ _ p q L (HA.out.1.below hb0) (HA.out.2.below hb0) hL).mono ?_
 rintro e w1 ⟨u1,rfl,q1,hd1⟩
 have hs1:=zi hs0 hd1 (by simp)
 have hb1:=bnx hb0 hd1
 go_wp2_with fail
 refine(zbk _ u1 (p-q) (2*L+4) q1 (by omega)).mono ?_
 rintro e w2 ⟨_,rfl,hd2,⟨hq,u2,rfl,n1,l1,rfl,q2,p2⟩|⟨hq,u2,rfl,n1,l1,rfl,q2,p2⟩⟩
 ·have hs2:=zi hs1 hd2 (by simp)
  have hb2:=bnx hb1 hd2
  obtain⟨_,_,⟨m0,m1,m2⟩,⟨f0,f1,f2⟩,hz⟩:=zaC hs2
  obtain⟨Ae,ce,xe,rfl,_⟩:=q2.open_
  obtain⟨Af,cf,xf,rfl,_⟩:=p2.open_
  have HQ:=hide hq;clear hq
  go_wp2
  refine bodyPost_ret (v:=.tuple #[.agg #[.bool (decide ((p-q).num<0)),.slice Ae xe.length ce,.slice Af xf.length cf],.int .i64 0]) ?_ rfl ?_
  ·simp[results,Tryz.results55,go_sem,m0,m1,m2,hz]
  exact⟨_,rfl,zl hb2 (by omega) _ _ _,Or.inl ⟨HQ.out,_,rfl,_,_,rfl,q2.set3 m0 m1 m2,p2.set3 m0 m1 m2⟩⟩
 ·have hs2:=zi hs1 hd2 (by simp)
  have hb2:=bnx hb1 hd2
  obtain⟨_,_,⟨m0,m1,m2⟩,⟨f0,f1,f2⟩,hz⟩:=zaC hs2
  obtain⟨Ae,ce,xe,rfl,_⟩:=q2.open_
  obtain⟨Af,cf,xf,rfl,_⟩:=p2.open_
  have HQ:=hide hq;clear hq
  go_wp2
  refine bodyPost_ret (v:=.tuple #[.agg #[.bool (decide ((0:Rat).num<0)),.slice Ae xe.length ce,.slice Af xf.length cf],.int .i64 11]) ?_ rfl ?_
  ·simp[results,Tryz.results55,go_sem,m0,m1,m2,hz]
  exact⟨_,rfl,zl hb2 (by omega) _ _ _,Or.inr ⟨HQ.out,_,rfl,_,_,rfl,q2.set3 m0 m1 m2,p2.set3 m0 m1 m2⟩⟩
theorem zn5 (w:World) (a b:Value) (p q:Rat) (L:Nat) (ha:RatV w a p L) (hb:RatV w b q L) (hL:L<=268435456) (hq0:q≠0):
  Calls Tryz.prog 22 #[a,b] w (Ret (doneR w (p / q) (2*L+4))):=by
 have hmf:=hmf0 Tryz.prog
 have hz0:decide (q=0)=false:=decide_eq_false hq0
 have HZ:=hide (ai hz0 hq0);clear hz0 hq0
 have HA:=hide (ai ha hb)
 obtain⟨n1,l1,rfl,h1,g1⟩:=ha
 obtain⟨n2,l2,rfl,h2,g2⟩:=hb
 obtain⟨A1,c1,xs1,rfl,_⟩:=h1.open_
 obtain⟨A2,c2,xs2,rfl,_⟩:=g1.open_
 obtain⟨A3,c3,xs3,rfl,_⟩:=h2.open_
 obtain⟨A4,c4,xs4,rfl,_⟩:=g2.open_
 clear h1 g1 h2 g2
 obtain⟨b1,hs1⟩:∃s,s=decide (p.num<0):=⟨_,rfl⟩
 obtain⟨b2,hs2⟩:∃s,s=decide (q.num<0):=⟨_,rfl⟩
 rw[<-hs1,<-hs2] at HA
 rw[<-hs1,<-hs2]
 clear hs1 hs2
 have hb0:Below w.heap.size w (((w.alloc (.cells #[.bool b1,.slice A1 xs1.length c1,.slice A2 xs2.length c2] 43)).alloc (.cells #[.bool b2,.slice A3 xs3.length c3,.slice A4 xs4.length c4] 43)).alloc (.cells #[.bool false,.slice none 0 0,.slice none 0 0] 43)):=((((blr _ _).alloc (nr _) _).alloc (by simp) _).alloc (by simp;omega) _)
 have hs0:Below (w.heap.size+3) (((w.alloc (.cells #[.bool b1,.slice A1 xs1.length c1,.slice A2 xs2.length c2] 43)).alloc (.cells #[.bool b2,.slice A3 xs3.length c3,.slice A4 xs4.length c4] 43)).alloc (.cells #[.bool false,.slice none 0 0,.slice none 0 0] 43)) (((w.alloc (.cells #[.bool b1,.slice A1 xs1.length c1,.slice A2 xs2.length c2] 43)).alloc (.cells #[.bool b2,.slice A3 xs3.length c3,.slice A4 xs4.length c4] 43)).alloc (.cells #[.bool false,.slice none 0 0,.slice none 0 0] 43)):=(blr _ _)
 go_enter Tryz.func22,Tryz.ntmps22
 go_wp2_with fail
 refine(zbi _ _ q L (HA.out.2.below hb0)).mono ?_
 rintro e w0 ⟨_,rfl,rfl,hd0⟩
 rw[HZ.out.1]
 replace hs0:=zi hs0 hd0 (by simp)
 replace hb0:=bnx hb0 hd0
 obtain⟨⟨i0,i1,i2⟩,⟨j0,j1,j2⟩,_,_,_⟩:=zaC hs0
 go_wp2_with fail
 refine(zj2 _ _ _ p q L (HA.out.1.below hb0) (HA.out.2.below hb0) hL HZ.out.2).mono ?_
 rintro e w1 ⟨u1,rfl,q1,hd1⟩
 clear i0 i1 i2 j0 j1 j2
 have hs1:=zi hs0 hd1 (by simp)
 have hb1:=bnx hb0 hd1
 go_wp2_with fail
 refine(zbk _ u1 (p / q) (2*L+4) q1 (by omega)).mono ?_
 rintro e w2 ⟨_,rfl,hd2,⟨hq,u2,rfl,n1,l1,rfl,q2,p2⟩|⟨hq,u2,rfl,n1,l1,rfl,q2,p2⟩⟩
 ·have hs2:=zi hs1 hd2 (by simp)
  have hb2:=bnx hb1 hd2
  obtain⟨_,_,⟨m0,m1,m2⟩,⟨f0,f1,f2⟩,hz⟩:=zaC hs2
  obtain⟨Ae,ce,xe,rfl,_⟩:=q2.open_
  obtain⟨Af,cf,xf,rfl,_⟩:=p2.open_
  have HQ:=hide hq;clear hq
  go_wp2
  refine bodyPost_ret (v:=.tuple #[.agg #[.bool (decide ((p / q).num<0)),.slice Ae xe.length ce,.slice Af xf.length cf],.int .i64 0]) ?_ rfl ?_
  ·simp[results,Tryz.results22,go_sem,m0,m1,m2,hz]
  exact⟨_,rfl,zl hb2 (by omega) _ _ _,Or.inl ⟨HQ.out,_,rfl,_,_,rfl,q2.set3 m0 m1 m2,p2.set3 m0 m1 m2⟩⟩
 ·have hs2:=zi hs1 hd2 (by simp)
  have hb2:=bnx hb1 hd2
  obtain⟨_,_,⟨m0,m1,m2⟩,⟨f0,f1,f2⟩,hz⟩:=zaC hs2
  obtain⟨Ae,ce,xe,rfl,_⟩:=q2.open_
  obtain⟨Af,cf,xf,rfl,_⟩:=p2.open_
  have HQ:=hide hq;clear hq
  go_wp2
  refine bodyPost_ret (v:=.tuple #[.agg #[.bool (decide ((0:Rat).num<0)),.slice Ae xe.length ce,.slice Af xf.length cf],.int .i64 11]) ?_ rfl ?_
  ·simp[results,Tryz.results22,go_sem,m0,m1,m2,hz]
  exact⟨_,rfl,zl hb2 (by omega) _ _ _,Or.inr ⟨HQ.out,_,rfl,_,_,rfl,q2.set3 m0 m1 m2,p2.set3 m0 m1 m2⟩⟩
theorem zn6 (w:World) (a b:Value) (p q:Rat) (L:Nat) (ha:RatV w a p L) (hb:RatV w b q L) (hL:L<=268435456):
  Calls Tryz.prog 19 #[a,b] w (Ret fun v w'=>v=.int .i64 (sgnQ (p-q))/\Below w.heap.size w w'):=by
 have HA:=hide (ai ha hb)
 obtain⟨b1,A1,n1,c1,A2,n2,c2,rfl⟩:=ha.shape
 obtain⟨b2,A3,n3,c3,A4,n4,c4,rfl⟩:=hb.shape
 clear ha hb
 have hb0:Below w.heap.size w ((w.alloc (.cells #[.bool b1,.slice A1 n1 c1,.slice A2 n2 c2] 43)).alloc (.cells #[.bool b2,.slice A3 n3 c3,.slice A4 n4 c4] 43)):=((blr _ _).alloc (nr _) _).alloc (by simp) _
 go_enter Tryz.func19,Tryz.ntmps19
 go_wp2_with fail
 refine(zfC _ _ _ p q L (HA.out.1.below hb0) (HA.out.2.below hb0) hL).mono ?_
 rintro e w1 ⟨u1,rfl,q1,hd1⟩
 have hb1:=bnx hb0 hd1
 go_wp2_with fail
 refine(zbj _ _ (p-q) _ q1).mono ?_
 rintro e w2 ⟨_,rfl,rfl,hd2⟩
 have HB:=hide (bnx hb1 hd2)
 clear hb1 hd2 q1 hb0 hd1
 go_wp2
 go_ret
 exact⟨_,rfl,rfl,HB.out⟩
def FracQ (most:Nat) (q:Rat):Prop:=(q.num.natAbs:Int)<10^most/\(q.den:Int)<10^most
def zcf (most:Nat) (bs:List Int) (q:Rat):Prop:=(bs=ratText q/\bs.length<=most)\/((¬∃p:Rat,bs=ratText p/\bs.length<=most)/\q=1)
theorem zhZ {p q:Rat} (h:ratText p=ratText q):p=q:=by
 have key:p.num=q.num/\p.den=q.den:=by
  by_cases hs:(47:Int)∈ratText p
  ·obtain⟨xs,cs,e,hx⟩:=zeH _ hs
   obtain⟨a1,a2,_⟩:=zeG p xs cs hx e.symm
   obtain⟨b1,b2,_⟩:=zeG q xs cs hx (e.symm.trans h)
   have e1:=zdd (a1.symm.trans b1)
   have e2:=zdd (a2.symm.trans b2)
   exact⟨e1,by omega⟩
  ·obtain⟨a1,a2⟩:=zdR p _ hs rfl
   obtain⟨b1,b2⟩:=zdR q _ hs h
   exact⟨zdd (a2.symm.trans b2),by omega⟩
 exact Rat.ext key.1 key.2
theorem zcf.one {most:Nat} {bs:List Int} {p q:Rat} (h:zcf most bs p) (g:zcf most bs q):p=q:=by
 rcases h with ⟨h1,h2⟩|⟨h1,h2⟩ <;> rcases g with ⟨g1,g2⟩|⟨g1,g2⟩
 ·exact zhZ (h1.symm.trans g1)
 ·exact absurd ⟨p,h1,h2⟩ g1
 ·exact absurd ⟨q,g1,g2⟩ h1
 ·rw[h2,g2]
theorem zdf {x:Int} {n:Nat} (h0:0<x) (h:x<10^n):(decText x).length<=n:=by
 unfold decText
 rw[if_neg (by omega),List.length_reverse,zas]
 exact zcU x.toNat n (by omega)
theorem FracQ.one (n:Nat) (hn:1<=n):FracQ n (Rat.divInt 1 1):=by
 have hp:(10:Int)^1<=10^n:=zw (by omega) hn
 have e:Rat.divInt 1 1=(1:Rat):=Rat.num_divInt_den (1:Rat)
 rw[e]
 exact⟨by show ((1:Int).natAbs:Int)<_;simp;omega,by show ((1:Nat):Int)<_;omega⟩
theorem zgK (n:Nat):(10:Int)^n<=1000000000^(n / 9+1):=by
 rw[zir]
 exact zw (by omega) (by omega)
theorem zjR (n:Nat):(1000000000:Int)^n<=4294967296^n:=by
 induction n with
 | zero=>simp
 | succ n ih=>
  rw[Int.pow_succ,Int.pow_succ]
  have h0:(0:Int)<1000000000^n:=Int.pow_pos (by omega)
  omega
theorem FracQ.fit {n:Nat} {q:Rat} (h:FracQ n q):FitQ (n / 9+1) q:=by
 have h1:=zgK n
 have h2:=zjR (n / 9+1)
 obtain⟨a,b⟩:=h
 exact⟨by omega,by omega⟩
theorem QV.fit {w:World} {v:Value} {q:Rat} {L n:Nat} (h:QV w v q L) (hq:FracQ n q):QV w v q (n / 9+1):=by
 have h1:=zgK n
 obtain⟨a,b,rfl,g1,g2⟩:=h
 exact⟨a,b,rfl,g1.fit (by have:=hq.1;omega),g2.fit (by have:=hq.2;omega)⟩
theorem zlm {q:Rat} {n:Nat} (h:FracQ n q) (hn:1<=n):(ratText q).length<=2*n+2:=by
 obtain⟨h1,h2⟩:=h
 have a:(intText q.num).length<=n+1:=by
  have b:(decText (q.num.natAbs:Int)).length<=n:=by
   by_cases h0:q.num.natAbs=0
   ·rw[h0];simp[decText];omega
   ·exact zdf (by omega) h1
  unfold intText
  rw[List.length_append]
  split <;> simp <;> omega
 have hd:=zK q
 have b:(decText (q.den:Int)).length<=n:=zdf (by omega) h2
 unfold ratText
 rw[List.length_append]
 split
 ·simp;omega
 ·rw[List.length_cons];omega
theorem zjS (n:Nat) (hn:n<=20000):(10:Int)^n<=2^mostBits:=by
 have h1:(10:Int)^n<=16^n:=by
  induction n with
  | zero=>simp
  | succ n ih=>
   have:=ih (by omega)
   rw[Int.pow_succ,Int.pow_succ]
   have h0:(0:Int)<10^n:=Int.pow_pos (by omega)
   omega
 have h2:(16:Int)^n=2^(4*n):=by rw[Int.pow_mul];rfl
 have h3:(2:Int)^(4*n)<=2^mostBits:=zw (by omega) (by unfold mostBits;omega)
 omega
theorem FracQ.small {n:Nat} {q:Rat} (h:FracQ n q) (hn:n<=20000):SmallQ q:=by
 have:=zjS n hn
 exact⟨by have:=h.1;unfold Small;omega,by have:=h.2;unfold Small;omega⟩
theorem Arr.put {w:World} {A:Option Addr} {k:IntKind} {xs:List Int} {B i:Nat} {v:Value} (h:Arr w A k xs) (ht:∀b,Typed w b (tyOf k)->b≠B):Arr (w.setCell ⟨B,i,none⟩ v) A k xs:=by
 intro hx
 obtain⟨b,o,rfl,hty,hc⟩:=h hx
 have hne:=ht b hty
 refine⟨b,o,rfl,hty.setCell _ _,fun j hj=>?_⟩
 rw[World.cell?_setCell_other _ _ _ _ (by intro e;injection e with e1;exact hne e1.symm)]
 exact hc j hj
theorem zbr {w:World} {b B i:Nat} {e:TypeId} {v:Value} (h:Typed (w.setCell ⟨B,i,none⟩ v) b e):Typed w b e:=by
 obtain⟨cs,m,h⟩:=h
 simp only[World.setCell,Array.getElem?_modify] at h
 split at h
 ·cases hh:w.heap[b]? with
  | none=>rw[hh] at h;simp at h
  | some o=>
   rw[hh] at h
   cases o <;> simp at h
   obtain⟨_,rfl,rfl⟩:=h
   exact⟨_,_,hh⟩
 ·exact⟨cs,m,h⟩
theorem NatV.putq {w:World} {v:Value} {x:Int} {L B i:Nat} {u:Value} (h:NatV w v x L) (ht:∀b,Typed w b (tyOf .u32)->b≠B):NatV (w.setCell ⟨B,i,none⟩ u) v x L:=by
 obtain⟨A,c,xs,rfl,h1,h2,h3,h4⟩:=h
 exact⟨A,c,xs,rfl,h1,h2,h3.put ht,h4⟩
theorem LimV.putq {w:World} {v:Value} {x:Int} {L B i:Nat} {u:Value} (h:LimV w v x L) (ht:∀b,Typed w b (tyOf .i64)->b≠B):LimV (w.setCell ⟨B,i,none⟩ u) v x L:=by
 obtain⟨A,c,xs,rfl,h1,h2,h3,h4⟩:=h
 exact⟨A,c,xs,rfl,h1,h2,h3.put ht,h4⟩
theorem zln {w:World} {B:Nat} {cs:Array Value} {e f:TypeId} (hB:w.heap[B]?=some (.cells cs e (0,0))) (he:e≠f):∀b,Typed w b f->b≠B:=
 fun b hb=>Typed.ne hb ⟨_,_,hB⟩ (fun e'=>he e'.symm)
theorem RatV.put4 {w:World} {v:Value} {q:Rat} {L B:Nat} {a b c d:Value} (h:RatV w v q L) {cs:Array Value} {e:TypeId} (hB:w.heap[B]?=some (.cells cs e (0,0))) (he:e≠190):
  RatV ((((w.setCell ⟨B,0,none⟩ a).setCell ⟨B,1,none⟩ b).setCell ⟨B,2,none⟩ c).setCell ⟨B,3,none⟩ d) v q L:=by
 obtain⟨n,l,rfl,h1,h2⟩:=h
 have ht:∀b,Typed w b (tyOf .u32)->b≠B:=zln hB he
 have k:∀{x:Int} {v:Value},NatV w v x L->NatV ((((w.setCell ⟨B,0,none⟩ a).setCell ⟨B,1,none⟩ b).setCell ⟨B,2,none⟩ c).setCell ⟨B,3,none⟩ d) v x L:=fun h=>
  (((h.putq ht).putq fun b hb=>ht b (zbr hb)).putq fun b hb=>ht b (zbr (zbr hb))).putq fun b hb=>ht b (zbr (zbr (zbr hb)))
 exact⟨n,l,rfl,k h1,k h2⟩
theorem zdT (n d:Int) (hd:0<d):(Rat.divInt n d).num.natAbs<=n.natAbs/\((Rat.divInt n d).den:Int)<=d:=by
 have hg:0<Int.gcd d n:=Int.gcd_pos_of_ne_zero_left n (by omega)
 constructor
 ·rw[Rat.num_divInt,Int.sign_eq_one_of_pos hd,Int.one_mul,Int.natAbs_ediv_of_dvd (Int.gcd_dvd_right d n)]
  exact Nat.div_le_self _ _
 ·rw[Rat.den_divInt,if_neg (by omega)]
  have:=Nat.div_le_self d.natAbs (Int.gcd d n)
  omega
theorem zaE {L:Nat} {n d:Int} (hd:0<d) (h1:(n.natAbs:Int)<4294967296^L) (h2:d<=4294967296^L):FitQ L (Rat.divInt n d):=by
 obtain⟨a,b⟩:=zdT n d hd
 exact⟨by omega,by omega⟩
theorem FitQ.more {L L':Nat} {q:Rat} (h:FitQ L q) (hL:L<=L'):FitQ L' q:=by
 have:=zw (B:=4294967296) (by omega) hL
 exact⟨by have:=h.1;omega,by have:=h.2;omega⟩
theorem zdg {a b B:Int} (ha:0<=a) (hb:0<=b) (h1:a<=B) (h2:b<=B):a*b<=B*B:=
 Int.mul_le_mul h1 h2 hb (by omega)
theorem zin (B:Int) (L:Nat):B^(2*L)=B^L*B^L:=by rw[<-Int.pow_add];congr 1;omega
theorem FitQ.add {L:Nat} {p q:Rat} (hp:FitQ L p) (hq:FitQ L q):FitQ (2*L+1) (p+q):=by
 have hpd:=zK p
 have hqd:=zK q
 have e:p+q=Rat.divInt (p.num*q.den+q.num*p.den) (p.den*q.den):=by
  conv=>lhs;rw[<-Rat.num_divInt_den p,<-Rat.num_divInt_den q]
  exact Rat.divInt_add_divInt _ _ (by omega) (by omega)
 rw[e]
 have hB:=zin 4294967296 L
 have hB1:(4294967296:Int)^(2*L+1)=4294967296^(2*L)*4294967296:=Int.pow_succ _ _
 have hB0:(0:Int)<4294967296^L:=Int.pow_pos (by omega)
 have h1:=zdg (a:=(p.num.natAbs:Int)) (b:=(q.den:Int)) (by omega) (by omega) (by have:=hp.1;omega) hq.2
 have h2:=zdg (a:=(q.num.natAbs:Int)) (b:=(p.den:Int)) (by omega) (by omega) (by have:=hq.1;omega) hp.2
 have h3:=zdg (a:=(p.den:Int)) (b:=(q.den:Int)) (by omega) (by omega) hp.2 hq.2
 have h0:(0:Int)<4294967296^L*4294967296^L:=Int.mul_pos hB0 hB0
 refine zaE (Int.mul_pos hpd hqd) ?_ (by omega)
 have t:=Int.natAbs_add_le (p.num*q.den) (q.num*p.den)
 rw[Int.natAbs_mul,Int.natAbs_mul,Int.natAbs_natCast,Int.natAbs_natCast] at t
 have t2:((p.num*q.den+q.num*p.den).natAbs:Int)<=(p.num.natAbs:Int)*(q.den:Int)+(q.num.natAbs:Int)*(p.den:Int):=by exact_mod_cast t
 omega
theorem FitQ.mul {L:Nat} {p q:Rat} (hp:FitQ L p) (hq:FitQ L q):FitQ (2*L+1) (p*q):=by
 have hpd:=zK p
 have hqd:=zK q
 have e:p*q=Rat.divInt (p.num*q.num) (p.den*q.den):=by
  conv=>lhs;rw[<-Rat.num_divInt_den p,<-Rat.num_divInt_den q]
  exact Rat.divInt_mul_divInt _ _
 rw[e]
 have hB:=zin 4294967296 L
 have hB1:(4294967296:Int)^(2*L+1)=4294967296^(2*L)*4294967296:=Int.pow_succ _ _
 have hB0:(0:Int)<4294967296^L:=Int.pow_pos (by omega)
 have h1:=zdg (a:=(p.num.natAbs:Int)) (b:=(q.num.natAbs:Int)) (B:=4294967296^L) (by omega) (by omega) (by have:=hp.1;omega) (by have:=hq.1;omega)
 have h3:=zdg (a:=(p.den:Int)) (b:=(q.den:Int)) (by omega) (by omega) hp.2 hq.2
 have h0:(0:Int)<4294967296^L*4294967296^L:=Int.mul_pos hB0 hB0
 refine zaE (Int.mul_pos hpd hqd) ?_ (by omega)
 rw[Int.natAbs_mul,Int.natCast_mul]
 omega
theorem FitQ.neg {L:Nat} {p:Rat} (hp:FitQ L p):FitQ L (-p):=by
 refine⟨?_,hp.2⟩
 rw[Rat.neg_num,Int.natAbs_neg]
 exact hp.1
theorem FitQ.sub {L:Nat} {p q:Rat} (hp:FitQ L p) (hq:FitQ L q):FitQ (2*L+1) (p-q):=by
 rw[Rat.sub_eq_add_neg]
 exact hp.add hq.neg
theorem FitQ.inv {L:Nat} {q:Rat} (hq:FitQ L q) (h0:q≠0):FitQ (L+1) q⁻¹:=by
 have hqd:=zK q
 have hn:q.num≠0:=fun e=>h0 (Rat.num_eq_zero.1 e)
 have hB1:(4294967296:Int)^(L+1)=4294967296^L*4294967296:=Int.pow_succ _ _
 have hB0:(0:Int)<4294967296^L:=Int.pow_pos (by omega)
 obtain⟨a,b⟩:=hq
 rw[Rat.inv_def]
 by_cases hneg:q.num<0
 ·rw[<-Rat.neg_divInt_neg]
  refine zaE (by omega) ?_ (by omega)
  rw[Int.natAbs_neg,Int.natAbs_natCast]
  omega
 ·exact zaE (by omega) (by rw[Int.natAbs_natCast];omega) (by omega)
theorem FitQ.div {L:Nat} {p q:Rat} (hp:FitQ L p) (hq:FitQ L q) (h0:q≠0):FitQ (2*L+3) (p / q):=by
 rw[Rat.div_def]
 have:=(hp.more (show L<=L+1 by omega)).mul (hq.inv h0)
 exact this.more (by omega)
theorem FitQ.smallQ {L:Nat} {q:Rat} (h:FitQ L q) (hL:L<=3000):SmallQ q:=by
 have h1:(4294967296:Int)^L=2^(32*L):=by rw[Int.pow_mul];rfl
 have h2:(2:Int)^(32*L+1)<=2^mostBits:=zw (by omega) (by unfold mostBits;omega)
 have h3:(2:Int)^(32*L+1)=2^(32*L)*2:=Int.pow_succ _ _
 have h4:(0:Int)<2^(32*L):=Int.pow_pos (by omega)
 exact⟨by have:=h.1;unfold Small;omega,by have:=h.2;unfold Small;omega⟩
theorem zbd.below {w w':World} {g:Nat} {q:Rat} {L:Nat} (h:zbd w g q L) (hb:Below w.heap.size w w'):zbd w' g q L:=by
 obtain⟨s,A,n,c,B,m,d,h1,h2⟩:=h
 exact⟨s,A,n,c,B,m,d,at_later h1 hb,h2.below hb⟩
def BoxQ (w:World) (g:Nat) (q:Rat) (L:Nat):Prop:=∃t A n c B m d,w.heap[g]?=some (.cells #[.bool t,.slice A n c,.bool false,.slice B m d] 55 (0,0))/\QV w (.agg #[.bool t,.slice A n c,.bool false,.slice B m d]) q L
theorem BoxQ.below {w w':World} {g:Nat} {q:Rat} {L:Nat} (h:BoxQ w g q L) (hb:Below w.heap.size w w'):BoxQ w' g q L:=by
 obtain⟨s,A,n,c,B,m,d,h1,h2⟩:=h
 exact⟨s,A,n,c,B,m,d,at_later h1 hb,h2.below hb⟩
theorem zjT {p q:Rat} (h:p=q):sgnQ (p-q)=0:=by
 subst h
 rw[Rat.sub_self]
 rfl
theorem zmy (q:Rat):0<q↔0<q.num:=by
 rw[Rat.lt_iff]
 show (0:Int)*q.den<q.num*((1:Nat):Int)↔_
 simp
theorem zmz (q:Rat):q<0↔q.num<0:=by
 rw[Rat.lt_iff]
 show q.num*((1:Nat):Int)<(0:Int)*q.den↔_
 simp
theorem ziZ (q:Rat):(sgnQ q=1/\0<q)\/(sgnQ q=0/\q=0)\/(sgnQ q=-1/\q<0):=by
 unfold sgnQ
 by_cases h1:q.num<0
 ·right;right
  rw[if_pos h1]
  exact⟨rfl,(zmz q).2 h1⟩
 ·rw[if_neg h1]
  by_cases h2:0<q.num
  ·left
   rw[if_pos h2]
   exact⟨rfl,(zmy q).2 h2⟩
  ·right;left
   rw[if_neg h2]
   exact⟨rfl,Rat.num_eq_zero.1 (by omega)⟩
end Go.Proofs.YtpoahodnakhmiaaGreat
