import Derived.Test.YtpoahodnakhmiaaGreatLim
import Derived.Deep.RegionHeld3
set_option maxRecDepth 100000
namespace Go.Proofs.YtpoahodnakhmiaaGreat
set_option linter.unusedVariables false
set_option linter.unusedSimpArgs false
open Go.RowKit
theorem zn2 (w:World) (v v':Value) (x y:Int) (L:Nat) (hx:LimV w v x L) (hy:LimV w v' y L) (hL:L<=17592185000000):
  Calls Tryz.prog 180 #[v,v'] w (Ret (limR w (Int.gcd x y) L)):=by
 have HX:=hide (ai hx hy)
 have hy0:=hy.nonneg
 have hx0:=hx.nonneg
 clear hx hy
 go_enter Tryz.func180,Tryz.ntmps180
 go_wp2
 go_loopg [0,1] (y.toNat) (fun g s0 s1 wr=>∃a b:Int,LimV wr s0 a L/\LimV wr s1 b L/\g=b.toNat/\Int.gcd a b=Int.gcd x y/\Below w.heap.size w wr)
 case atStart=>exact⟨x,y,HX.out.1,HX.out.2,rfl,rfl,blr _ _⟩
 case round=>
  obtain⟨a,b,ha,hb,rfl,hg,hbel⟩:=hrel
  have ha0:=ha.nonneg
  obtain⟨A,c,ys,rfl,hc,hm,hya,hd,hn,rfl,hl⟩:=hb.open_
  by_cases hy1:0<ys.length
  ·have hb0:0<val 1000000000 ys:=zaQ (by omega) hd hn (by intro e;subst e;simp at hy1)
   have hm0:0<=a%val 1000000000 ys:=Int.emod_nonneg _ (by omega)
   have hm1:a%val 1000000000 ys<val 1000000000 ys:=Int.emod_lt_of_pos _ hb0
   have HH:=hide (ai ha (ai hb hg));clear ha hb hg hya hd hn
   go_wp2_with (go_at_call 184;refine(zj6 _ _ _ a _ L L HH.out.1 HH.out.2.1 hL hL hb0).mono ?_;rintro e w1 ⟨u,rfl,q,r,rfl,hq,hr,hb1⟩;have HQ:=hide (ai hq hr);clear hq hr)
   go_roundg (a%val 1000000000 ys).toNat
   case measure=>omega
   case rel=>exact⟨val 1000000000 ys,a%val 1000000000 ys,HH.out.2.1.below hb1,HQ.out.2,rfl,by rw[zgZ];exact HH.out.2.2,bnx hbel hb1⟩
  ·obtain rfl:ys=[]:=List.eq_nil_of_length_eq_zero (by omega)
   have HH:=hide (ai ha hg);clear ha hb hg hya hd hn
   go_wp2
   go_ret
   refine⟨_,rfl,?_,hbel⟩
   have e:=HH.out.2
   simp only[val,Int.gcd_zero_right] at e
   rw[<-e,Int.natAbs_of_nonneg ha0]
   exact HH.out.1
def ZV (w:World) (v:Value) (z:Int) (L:Nat):Prop:=∃m,v=.agg #[.bool (decide (z<0)),m]/\LimV w m (z.natAbs:Int) L
theorem ZV.below {w w':World} {v:Value} {z:Int} {L:Nat} (h:ZV w v z L) (hb:Below w.heap.size w w'):ZV w' v z L:=by
 obtain⟨m,rfl,h1⟩:=h;exact⟨m,rfl,h1.below hb⟩
theorem ZV.more {w:World} {v:Value} {z:Int} {L L':Nat} (h:ZV w v z L) (hL:L<=L'):ZV w v z L':=by
 obtain⟨m,rfl,h1⟩:=h;exact⟨m,rfl,h1.more hL⟩
def zR (w:World) (z:Int) (L:Nat) (v:Value) (w':World):Prop:=ZV w' v z L/\Below w.heap.size w w'
theorem zjC (b:Bool) (x:Int) (h:0<=x):((sgd b x).natAbs:Int)=x/\decide (sgd b x<0)=(b&&decide (0<x)):=by
 unfold sgd;cases b <;> simp <;> omega
theorem zb0 (w:World) (b:Bool) (v:Value) (x:Int) (L:Nat) (hx:LimV w v x L) (hL:L<=17592186000000):
  Calls Tryz.prog 156 #[.bool b,v] w (Ret (zR w (sgd b x) L)):=by
 have hx0:=hx.nonneg
 obtain⟨A,c,xs,rfl,hc,hm,_⟩:=hx.open_
 have hz:=zcv hx
 obtain⟨s1,s2⟩:=zjC b x hx0
 have hs:decide (sgd b x<0)=(b&&decide (0<xs.length)):=by rw[s2];congr 1;rw[decide_eq_decide];omega
 have HX:=hide (ai hx (ai s1 hs));clear hx s1 s2 hs hz
 have hfin:∀bb w',bb=(b&&decide (0<xs.length))->Below w.heap.size w w'->Ret (zR w (sgd b x) L) (.returned (.agg #[.bool bb,.slice A xs.length c])) w':=by
  intro bb w' hbb hb
  refine⟨_,rfl,⟨_,by rw[HX.out.2.2,hbb],?_⟩,hb⟩
  rw[HX.out.2.1];exact HX.out.1.below hb
 have HF:=hide hfin;clear hfin
 cases b
 ·go_enter Tryz.func156,Tryz.ntmps156
  go_wp2
  refine bodyPost_ret (v:=.agg #[.bool false,.slice A xs.length c]) ?_ rfl ?_
  ·simp[results,Tryz.results156,go_sem]
  ·exact HF.out _ _ rfl ((blr _ _).alloc (nr _) _)
 ·by_cases h0:0<xs.length
  ·have hd:decide ((0:Int)<(xs.length:Int))=true:=by rw[decide_eq_true_eq];omega
   go_enter Tryz.func156,Tryz.ntmps156
   go_wp2
   refine bodyPost_ret (v:=.agg #[.bool true,.slice A xs.length c]) ?_ rfl ?_
   ·simp[results,Tryz.results156,go_sem]
   ·exact HF.out _ _ (by simp[h0]) ((blr _ _).alloc (nr _) _)
  ·obtain rfl:xs=[]:=List.eq_nil_of_length_eq_zero (by omega)
   go_enter Tryz.func156,Tryz.ntmps156
   go_wp2
   refine bodyPost_ret (v:=.agg #[.bool false,.slice A 0 c]) ?_ rfl ?_
   ·simp[results,Tryz.results156,go_sem]
   ·exact HF.out _ _ (by simp) ((blr _ _).alloc (nr _) _)
theorem zj (w:World) (o:Obj):(w.alloc o).heap[w.heap.size]?=some o:=heap_alloc_new w o
theorem zy {w:World} {b:Nat} {x:Obj} (h:w.heap[b]?=some x) (o:Obj):(w.alloc o).heap[b]?=some x:=(Below.heap_alloc _ _ _ (lt_of_block h)).trans h
theorem zu {w:World} {b:Nat} (o:Obj) (hb:w.heap.size=b):(w.alloc o).heap[b]?=some o:=by subst hb;exact heap_alloc_new w o
theorem at_later {w w':World} {b:Nat} {x:Obj} (h:w.heap[b]?=some x) (hb:Below w.heap.size w w'):w'.heap[b]?=some x:=(hb.block _ (lt_of_block h)).trans h
theorem ze {w:World} {B:Nat} {a b:Value} {e:TypeId} (hh:w.heap[B]?=some (.cells #[a,b] e (0,0))):
  w.cell? ⟨B,0,none⟩=some a/\w.cell? ⟨B,1,none⟩=some b/\w.frozen? ⟨B,0,none⟩=false/\w.frozen? ⟨B,1,none⟩=false:=by
 refine⟨?_,?_,?_,?_⟩
 ·simp[World.cell?,hh]
 ·simp[World.cell?,hh]
 ·simp[World.frozen?,hh]
 ·simp[World.frozen?,hh]
theorem zmg {w:World} {v:Value} {x:Int} {L B:Nat} {a b:Value} (h:LimV w v x L) {cs:Array Value} {e:TypeId} (hB:w.heap[B]?=some (.cells cs e (0,0))) (he:e≠3):
  LimV ((w.setCell ⟨B,0,none⟩ a).setCell ⟨B,1,none⟩ b) v x L:=by
 obtain⟨A,c,xs,rfl,h1,h2,h3,h4⟩:=h
 refine⟨A,c,xs,rfl,h1,h2,?_,h4⟩
 intro hx
 obtain⟨b',o,rfl,ht,hc⟩:=h3 hx
 have hne:b'≠B:=Typed.ne ht ⟨_,_,hB⟩ (fun e'=>he e'.symm)
 refine⟨b',o,rfl,(ht.setCell _ _).setCell _ _,fun j hj=>?_⟩
 rw[World.cell?_setCell_other _ _ _ _ (by intro e;injection e with e1;exact hne e1.symm),World.cell?_setCell_other _ _ _ _ (by intro e;injection e with e1;exact hne e1.symm)]
 exact hc j hj
theorem zac {w:World} {v:Value} {x:Int} {L B:Nat} {a b:Value} (h:ZV w v x L) {cs:Array Value} {e:TypeId} (hB:w.heap[B]?=some (.cells cs e (0,0))) (he:e≠3):
  ZV ((w.setCell ⟨B,0,none⟩ a).setCell ⟨B,1,none⟩ b) v x L:=by
 obtain⟨m,rfl,h1⟩:=h;exact⟨m,rfl,zmg h1 hB he⟩
theorem zl {B0 B:Nat} {a w:World} {u v:Value} (h:Below B0 a w) (hB:B0<=B):Below B0 a ((w.setCell ⟨B,0,none⟩ u).setCell ⟨B,1,none⟩ v):=(h.setCell (by exact hB) _).setCell (by exact hB) _
theorem ZV.parts {w:World} {v:Value} {z:Int} {L:Nat} (h:ZV w v z L):∃s A n c,v=.agg #[.bool s,.slice A n c]/\s=decide (z<0)/\LimV w (.slice A n c) (z.natAbs:Int) L:=by
 obtain⟨m,rfl,h1⟩:=h
 obtain⟨A,c,xs,rfl,_⟩:=h1.open_
 exact⟨_,A,_,c,rfl,rfl,h1⟩
theorem zfj (w:World) (v:Value) (z:Int) (L:Nat) (hz:ZV w v z L) (hL:L<=17592186000000):
  Calls Tryz.prog 155 #[v] w (Ret (zR w (-z) L)):=by
 obtain⟨s,A,n,c,rfl,hs,hm⟩:=hz.parts
 have HS:=hide hs;clear hs
 obtain⟨W,hW⟩:∃W,W=(w.alloc (.cells #[.bool s,.slice A n c] 53)).alloc (.cells #[.bool false,.slice none 0 0] 53):=⟨_,rfl⟩
 have hb0:Below w.heap.size w W:=by rw[hW];exact((blr _ _).alloc (nr _) _).alloc (by simp) _
 have h1:W.heap[w.heap.size+1]?=some (.cells #[.bool false,.slice none 0 0] 53):=by rw[hW];exact zu _ (by simp)
 have HW:=hide (ai hW (ai hb0 (ai h1 (hm.below hb0))));clear hW hb0 h1 hm hz
 go_enter Tryz.func155,Tryz.ntmps155
 go_wp2_with fail
 rw[<-HW.out.1]
 refine(zb0 _ _ _ _ L HW.out.2.2.2 hL).mono ?_
 rintro e w1 ⟨v1,rfl,hv1,hd⟩
 have h1:=at_later HW.out.2.2.1 hd
 obtain⟨s1,A1,n1,c1,rfl,hs1,hm1⟩:=hv1.parts
 obtain⟨x0,x1,f0,f1⟩:=ze h1
 have hb:=bnx HW.out.2.1 hd
 have hlt:=lt_of_block h1
 have HV:=hide (ai hv1 (ai hs1 (ai hb h1)));clear hv1 hs1 hb h1 hm1 hd
 go_wp2
 refine bodyPost_ret (v:=.agg #[.bool s1,.slice A1 n1 c1]) ?_ rfl ?_
 ·simp[results,Tryz.results155,go_sem,x0,x1,hlt]
 have e:sgd (!s) (z.natAbs:Int)=-z:=by rw[HS.out,ziu,zcp]
 obtain⟨hv1,hs1,hb,h1⟩:=HV.out
 rw[e] at hv1
 exact⟨_,rfl,zac hv1 h1 (by decide),zl hb (by omega)⟩
theorem zaF (w:World) (v v':Value) (x y:Int) (L L':Nat) (hx:ZV w v x L) (hy:ZV w v' y L') (hL:L<=17592185000000) (hL':L'<=17592185000000) (hy0:y≠0):
  Calls Tryz.prog 154 #[v,v'] w (Ret (zR w (sgd (!(decide (x<0) == decide (y<0))) ((x.natAbs:Int) / (y.natAbs:Int))) L)):=by
 obtain⟨s,A,n,c,rfl,hs,hm⟩:=hx.parts
 obtain⟨t,B,m,d,rfl,ht,hn⟩:=hy.parts
 have HS:=hide (ai hs ht);clear hs ht
 obtain⟨W,hW⟩:∃W,W=((w.alloc (.cells #[.bool s,.slice A n c] 53)).alloc (.cells #[.bool t,.slice B m d] 53)).alloc (.cells #[.bool false,.slice none 0 0] 53):=⟨_,rfl⟩
 have hb0:Below w.heap.size w W:=by rw[hW];exact(((blr _ _).alloc (nr _) _).alloc (by simp) _).alloc (by simp;omega) _
 have h0:W.heap[w.heap.size]?=some (.cells #[.bool s,.slice A n c] 53):=by rw[hW];exact zy (zy (zj _ _) _) _
 have h1:W.heap[w.heap.size+1]?=some (.cells #[.bool t,.slice B m d] 53):=by rw[hW];exact zy (zu _ (by simp)) _
 have h2:W.heap[w.heap.size+2]?=some (.cells #[.bool false,.slice none 0 0] 53):=by rw[hW];exact zu _ (by simp)
 have HW:=hide (ai hW (ai hb0 (ai h0 (ai h1 (ai h2 (ai (hm.below hb0) (hn.below hb0)))))));clear hW hb0 h0 h1 h2 hm hn hx hy
 go_enter Tryz.func154,Tryz.ntmps154
 go_wp2_with fail
 rw[<-HW.out.1]
 refine(zj6 _ _ _ _ _ L L' HW.out.2.2.2.2.2.1 HW.out.2.2.2.2.2.2 hL hL' (by omega)).mono ?_
 rintro e w1 ⟨_,rfl,q,r,rfl,hq,hr,hd1⟩
 obtain⟨k0,_,_,_⟩:=ze (at_later HW.out.2.2.1 hd1)
 obtain⟨m0,_,_,_⟩:=ze (at_later HW.out.2.2.2.1 hd1)
 obtain⟨Aq,cq,qs,rfl,_⟩:=hq.open_
 have HQ:=hide hq;clear hq hr
 go_wp2_with fail
 refine(zb0 _ _ _ _ L HQ.out (by omega)).mono ?_
 rintro e w2 ⟨v1,rfl,hv1,hd2⟩
 have h2:=at_later (at_later HW.out.2.2.2.2.1 hd1) hd2
 obtain⟨s1,A1,n1,c1,rfl,hs1,hm1⟩:=hv1.parts
 obtain⟨x0,x1,f0,f1⟩:=ze h2
 have hb:=bnx (bnx HW.out.2.1 hd1) hd2
 have hlt:=lt_of_block h2
 have HV:=hide (ai hv1 (ai hs1 (ai hb h2)));clear hv1 hs1 hb h2 hm1 hd1 hd2
 go_wp2
 refine bodyPost_ret (v:=.agg #[.bool s1,.slice A1 n1 c1]) ?_ rfl ?_
 ·simp[results,Tryz.results154,go_sem,x0,x1,hlt]
 obtain⟨hv1,hs1,hb,h2⟩:=HV.out
 rw[HS.out.1,HS.out.2] at hv1
 exact⟨_,rfl,zac hv1 h2 (by decide),zl hb (by omega)⟩
theorem zn3 (w:World) (v v':Value) (x y:Int) (L L':Nat) (hx:ZV w v x L) (hy:ZV w v' y L') (hL:L<=17592185000000) (hL':L'<=L):
  Calls Tryz.prog 148 #[v,v'] w (Ret (zR w ((Int.gcd x y:Int)) L)):=by
 obtain⟨s,A,n,c,rfl,hs,hm⟩:=hx.parts
 obtain⟨t,B,m,d,rfl,ht,hn⟩:=hy.parts
 have HS:=hide (ai hs ht);clear hs ht
 obtain⟨W,hW⟩:∃W,W=((w.alloc (.cells #[.bool s,.slice A n c] 53)).alloc (.cells #[.bool t,.slice B m d] 53)).alloc (.cells #[.bool false,.slice none 0 0] 53):=⟨_,rfl⟩
 have hb0:Below w.heap.size w W:=by rw[hW];exact(((blr _ _).alloc (nr _) _).alloc (by simp) _).alloc (by simp;omega) _
 have h0:W.heap[w.heap.size]?=some (.cells #[.bool s,.slice A n c] 53):=by rw[hW];exact zy (zy (zj _ _) _) _
 have h1:W.heap[w.heap.size+1]?=some (.cells #[.bool t,.slice B m d] 53):=by rw[hW];exact zy (zu _ (by simp)) _
 have h2:W.heap[w.heap.size+2]?=some (.cells #[.bool false,.slice none 0 0] 53):=by rw[hW];exact zu _ (by simp)
 have HW:=hide (ai hW (ai hb0 (ai h0 (ai h1 (ai h2 (ai (hm.below hb0) (hn.below hb0)))))));clear hW hb0 h0 h1 h2 hm hn hx hy
 go_enter Tryz.func148,Tryz.ntmps148
 go_wp2_with fail
 rw[<-HW.out.1]
 refine(zn2 _ _ _ _ _ L HW.out.2.2.2.2.2.1 (HW.out.2.2.2.2.2.2.more hL') hL).mono ?_
 rintro e w1 ⟨g,rfl,hg,hd1⟩
 obtain⟨Aq,cq,qs,rfl,_⟩:=hg.open_
 have HQ:=hide hg;clear hg
 go_wp2_with fail
 refine(zb0 _ _ _ _ L HQ.out (by omega)).mono ?_
 rintro e w2 ⟨v1,rfl,hv1,hd2⟩
 have h2:=at_later (at_later HW.out.2.2.2.2.1 hd1) hd2
 obtain⟨s1,A1,n1,c1,rfl,hs1,hm1⟩:=hv1.parts
 obtain⟨x0,x1,f0,f1⟩:=ze h2
 have hb:=bnx (bnx HW.out.2.1 hd1) hd2
 have hlt:=lt_of_block h2
 have HV:=hide (ai hv1 (ai hs1 (ai hb h2)));clear hv1 hs1 hb h2 hm1 hd1 hd2
 go_wp2
 refine bodyPost_ret (v:=.agg #[.bool s1,.slice A1 n1 c1]) ?_ rfl ?_
 ·simp[results,Tryz.results148,go_sem,x0,x1,hlt]
 obtain⟨hv1,hs1,hb,h2⟩:=HV.out
 have e:sgd false (Int.gcd (x.natAbs:Int) (y.natAbs:Int):Int)=(Int.gcd x y:Int):=by
  show (Int.gcd (x.natAbs:Int) (y.natAbs:Int):Int)=_
  simp[Int.gcd]
 rw[e] at hv1
 exact⟨_,rfl,zac hv1 h2 (by decide),zl hb (by omega)⟩
theorem zhS (V P u:Int) (x:Int) (h:V+P*u=x):V+P*(u%1000000000)+P*1000000000*(u / 1000000000)=x:=by
 have e:=Int.emod_add_mul_ediv u 1000000000
 rw[<-h]
 have e2:P*u=P*(u%1000000000)+P*(1000000000*(u / 1000000000)):=by rw[<-Int.mul_add,e]
 rw[e2,Int.mul_assoc];omega
theorem zno (w:World) (n:Int) (h0:-9223372036854775808<=n) (h1:n<=9223372036854775807) (hn:n<0):
  Calls Tryz.prog 110 #[.int .i64 n] w (Ret (zR w n 3)):=by
 obtain⟨W,hW⟩:∃W,W=w.alloc (.cells #[.bool false,.slice none 0 0] 53):=⟨_,rfl⟩
 have hb0:Below w.heap.size w W:=by rw[hW];exact(blr _ _).alloc (nr _) _
 have hr:W.heap[w.heap.size]?=some (.cells #[.bool false,.slice none 0 0] 53):=by rw[hW];exact zj _ _
 have HW:=hide (ai hW (ai hb0 hr));clear hW hb0 hr
 have hd:decide (n<0)=true:=by simp[hn]
 obtain⟨m,hm⟩:∃m,m=(n.natAbs:Int):=⟨_,rfl⟩
 have hm0:0<=m:=by omega
 have hm1:m<=9223372036854775808:=by omega
 have hP3:(1000000000:Int)^3=1000000000000000000000000000:=by decide
 have HM:=hide (ai hm hP3);clear hm hP3
 go_enter Tryz.func110,Tryz.ntmps110
 go_wp2
 rw[<-HW.out.1]
 go_loopw [3,4] (fun s3 s4 wr=>∃(os:List Int) (u:Int),s3=.int .u64 u/\0<=u/\u<=9223372036854775808/\OwnI wr W.heap.size 3 .i64 s4 os/\Dig 1000000000 os/\val 1000000000 os+1000000000^os.length*u=m/\(u=0->Norm os)/\os.length<=3/\Below W.heap.size W wr) (fun s3 _ _=>(intOf s3).toNat)
 case atStart=>
  refine⟨[],m,?_,hm0,hm1,OwnI.nil _ _ _ _,Dig.nil _,by simp[val],fun _=>Norm.nil,by simp,blr _ _⟩
  rw[HM.out.1]
  rw[zgS n h0 hn]
 case round=>
  obtain⟨os,u,rfl,hu0,hu1,hown,hdig,hval,hnorm,hlen,hbel⟩:=hrel
  by_cases hu:0<u
  ·have hlen2:os.length<=2:=by
    rcases Nat.lt_or_ge 2 os.length with h|h
    ·exfalso
     have h2:=zt (B:=1000000000) (by omega) (show 3<=os.length by omega)
     rw[HM.out.2] at h2
     have h3:=zC (B:=1000000000) (by omega) hdig
     have h4:=Int.mul_le_mul_of_nonneg_left (show 1<=u by omega) (show (0:Int)<=1000000000^os.length by omega)
     omega
    ·exact h
   have hud:decide (0<u)=true:=by simp[hu]
   have HV:=hide (ai hval hnorm);clear hval hnorm
   go_wp2_with (at_builtin;refine app1 Tryz.limT _ rfl _ _ rfl W.heap.size _ os (u%1000000000) rfl (hown.keep ((blr _ _).alloc (nr _) _)) ⟨wr.heap.size,0,none⟩ _ rfl (by simp[World.cell?_alloc_new]) (by omega) (by have:=hbel.size;simp;omega) ?_;intro g c1 w1 hown1 _ _ hb1)
   go_roundw
   case rel=>
    refine⟨os++[u%1000000000],u / 1000000000,rfl,by omega,by omega,hown1,hdig.snoc (by omega) (by omega),?_,?_,by simp;omega,(hbel.alloc hbel.size _).trans hb1⟩
    ·rw[zF,List.length_append,List.length_singleton,Int.pow_succ]
     exact zhS _ _ _ _ HV.out.1
    ·intro h
     refine Norm.of_last fun _=>?_
     simp[List.getD]
     omega
   case measure=>simp[intOf];omega
  ·have hu2:u=0:=by omega
   subst hu2
   have hno:=hnorm rfl
   rw[Int.mul_zero,Int.add_zero] at hval
   obtain⟨A,c,rfl,hc,hcm,harr⟩:=hown.form
   have hlim:LimV wr (.slice A os.length c) m 3:=⟨A,c,os,rfl,hc,hcm,harr,hdig,hno,hval,hlen⟩
   have hr:=at_later HW.out.2.2 hbel
   have HL:=hide (ai hlim (ai hr hbel));clear hlim hr hbel hown hdig hval hnorm hlen hno harr hc hcm
   go_wp2_with fail
   refine(zb0 _ _ _ m 3 HL.out.1 (by omega)).mono ?_
   rintro e w2 ⟨_,rfl,hz,hd2⟩
   have hr2:=at_later HL.out.2.1 hd2
   obtain⟨s1,A1,n1,c1,rfl,hs1,_⟩:=hz.parts
   obtain⟨x0,x1,f0,f1⟩:=ze hr2
   have hlt:=lt_of_block hr2
   have HZ:=hide (ai hz (ai hr2 (bnx HW.out.2.1 (HL.out.2.2.trans (hd2.mono HL.out.2.2.size)))));clear hz hr2 hs1 hd2
   go_wp2
   refine bodyPost_ret (v:=.agg #[.bool s1,.slice A1 n1 c1]) ?_ rfl ?_
   ·simp[results,Tryz.results110,go_sem,x0,x1,hlt]
   obtain⟨hz,hr2,hb⟩:=HZ.out
   have e:sgd true m=n:=by rw[HM.out.1];unfold sgd;simp;omega
   rw[e] at hz
   exact⟨_,rfl,zac hz hr2 (by decide),zl hb (nr _)⟩
theorem znp (w:World) (n:Int) (h0:-9223372036854775808<=n) (h1:n<=9223372036854775807) (hn:¬n<0):
  Calls Tryz.prog 110 #[.int .i64 n] w (Ret (zR w n 3)):=by
 obtain⟨W,hW⟩:∃W,W=w.alloc (.cells #[.bool false,.slice none 0 0] 53):=⟨_,rfl⟩
 have hb0:Below w.heap.size w W:=by rw[hW];exact(blr _ _).alloc (nr _) _
 have hr:W.heap[w.heap.size]?=some (.cells #[.bool false,.slice none 0 0] 53):=by rw[hW];exact zj _ _
 have HW:=hide (ai hW (ai hb0 hr));clear hW hb0 hr
 have hd:decide (n<0)=false:=by simp[hn]
 obtain⟨m,hm⟩:∃m,m=(n.natAbs:Int):=⟨_,rfl⟩
 have hm0:0<=m:=by omega
 have hm1:m<=9223372036854775808:=by omega
 have hP3:(1000000000:Int)^3=1000000000000000000000000000:=by decide
 have hwr:IntKind.u64.wrap n=n:=by rw[IntKind.wrap_u64];omega
 have HWR:=hide hwr;clear hwr
 have HM:=hide (ai hm hP3);clear hm hP3
 go_enter Tryz.func110,Tryz.ntmps110
 go_wp2
 rw[<-HW.out.1]
 go_loopw [3,4] (fun s3 s4 wr=>∃(os:List Int) (u:Int),s3=.int .u64 u/\0<=u/\u<=9223372036854775808/\OwnI wr W.heap.size 3 .i64 s4 os/\Dig 1000000000 os/\val 1000000000 os+1000000000^os.length*u=m/\(u=0->Norm os)/\os.length<=3/\Below W.heap.size W wr) (fun s3 _ _=>(intOf s3).toNat)
 case atStart=>
  refine⟨[],m,?_,hm0,hm1,OwnI.nil _ _ _ _,Dig.nil _,by simp[val],fun _=>Norm.nil,by simp,blr _ _⟩
  rw[HM.out.1]
  first|(rw[HWR.out];congr 1;omega)|(congr 1;omega)
 case round=>
  obtain⟨os,u,rfl,hu0,hu1,hown,hdig,hval,hnorm,hlen,hbel⟩:=hrel
  by_cases hu:0<u
  ·have hlen2:os.length<=2:=by
    rcases Nat.lt_or_ge 2 os.length with h|h
    ·exfalso
     have h2:=zt (B:=1000000000) (by omega) (show 3<=os.length by omega)
     rw[HM.out.2] at h2
     have h3:=zC (B:=1000000000) (by omega) hdig
     have h4:=Int.mul_le_mul_of_nonneg_left (show 1<=u by omega) (show (0:Int)<=1000000000^os.length by omega)
     omega
    ·exact h
   have hud:decide (0<u)=true:=by simp[hu]
   have HV:=hide (ai hval hnorm);clear hval hnorm
   go_wp2_with (at_builtin;refine app1 Tryz.limT _ rfl _ _ rfl W.heap.size _ os (u%1000000000) rfl (hown.keep ((blr _ _).alloc (nr _) _)) ⟨wr.heap.size,0,none⟩ _ rfl (by simp[World.cell?_alloc_new]) (by omega) (by have:=hbel.size;simp;omega) ?_;intro g c1 w1 hown1 _ _ hb1)
   go_roundw
   case rel=>
    refine⟨os++[u%1000000000],u / 1000000000,rfl,by omega,by omega,hown1,hdig.snoc (by omega) (by omega),?_,?_,by simp;omega,(hbel.alloc hbel.size _).trans hb1⟩
    ·rw[zF,List.length_append,List.length_singleton,Int.pow_succ]
     exact zhS _ _ _ _ HV.out.1
    ·intro h
     refine Norm.of_last fun _=>?_
     simp[List.getD]
     omega
   case measure=>simp[intOf];omega
  ·have hu2:u=0:=by omega
   subst hu2
   have hno:=hnorm rfl
   rw[Int.mul_zero,Int.add_zero] at hval
   obtain⟨A,c,rfl,hc,hcm,harr⟩:=hown.form
   have hlim:LimV wr (.slice A os.length c) m 3:=⟨A,c,os,rfl,hc,hcm,harr,hdig,hno,hval,hlen⟩
   have hr:=at_later HW.out.2.2 hbel
   have HL:=hide (ai hlim (ai hr hbel));clear hlim hr hbel hown hdig hval hnorm hlen hno harr hc hcm
   go_wp2_with fail
   refine(zb0 _ _ _ m 3 HL.out.1 (by omega)).mono ?_
   rintro e w2 ⟨_,rfl,hz,hd2⟩
   have hr2:=at_later HL.out.2.1 hd2
   obtain⟨s1,A1,n1,c1,rfl,hs1,_⟩:=hz.parts
   obtain⟨x0,x1,f0,f1⟩:=ze hr2
   have hlt:=lt_of_block hr2
   have HZ:=hide (ai hz (ai hr2 (bnx HW.out.2.1 (HL.out.2.2.trans (hd2.mono HL.out.2.2.size)))));clear hz hr2 hs1 hd2
   go_wp2
   refine bodyPost_ret (v:=.agg #[.bool s1,.slice A1 n1 c1]) ?_ rfl ?_
   ·simp[results,Tryz.results110,go_sem,x0,x1,hlt]
   obtain⟨hz,hr2,hb⟩:=HZ.out
   have e:sgd false m=n:=by rw[HM.out.1];unfold sgd;simp;omega
   rw[e] at hz
   exact⟨_,rfl,zac hz hr2 (by decide),zl hb (nr _)⟩
theorem zgA (w:World) (n:Int) (h0:-9223372036854775808<=n) (h1:n<=9223372036854775807):
  Calls Tryz.prog 110 #[.int .i64 n] w (Ret (zR w n 3)):=by
 by_cases hn:n<0
 ·exact zno w n h0 h1 hn
 ·exact znp w n h0 h1 hn
theorem zJ {w:World} {B b i:Nat} {u v:Value} (h:b≠B):((w.setCell ⟨B,0,none⟩ u).setCell ⟨B,1,none⟩ v).cell? ⟨b,i,none⟩=w.cell? ⟨b,i,none⟩:=by
 have n:∀j,(⟨B,j,none⟩:Addr)≠⟨b,i,none⟩:=by intro j e;injection e with e1;exact h e1.symm
 rw[World.cell?_setCell_other _ _ _ _ (n 1),World.cell?_setCell_other _ _ _ _ (n 0)]
theorem znq (x y:Int) (h:(decide (x<0) == decide (y<0))=false):
  (sgd (decide (x<0)) ((x.natAbs:Int)-(y.natAbs:Int))=x+y)/\(sgd (decide (y<0)) ((y.natAbs:Int)-(x.natAbs:Int))=x+y):=by
 unfold sgd
 by_cases hx:x<0 <;> by_cases hy:y<0 <;> simp[hx,hy] at h ⊢ <;> omega
theorem ziV (w:World) (v v':Value) (x y:Int) (L L':Nat) (hx:ZV w v x L) (hy:ZV w v' y L') (hL:L<=17592185000000) (hL':L'<=17592185000000) (hxy:(decide (x<0) == decide (y<0))=false):
  Calls Tryz.prog 112 #[v,v'] w (Ret (zR w (x+y) (max L L'))):=by
 obtain⟨s,A,n,c,rfl,hs,hm⟩:=hx.parts
 obtain⟨t,B,m,d,rfl,ht,hn⟩:=hy.parts
 have hst:(s == t)=false:=by rw[hs,ht];exact hxy
 obtain⟨e1,e2⟩:=znq x y hxy
 rw[<-hs] at e1
 rw[<-ht] at e2
 clear hs ht hxy
 obtain⟨W,hW⟩:∃W,W=((w.alloc (.cells #[.bool s,.slice A n c] 53)).alloc (.cells #[.bool t,.slice B m d] 53)).alloc (.cells #[.bool false,.slice none 0 0] 53):=⟨_,rfl⟩
 have hb0:Below w.heap.size w W:=by rw[hW];exact(((blr _ _).alloc (nr _) _).alloc (by simp) _).alloc (by simp;omega) _
 have h0:W.heap[w.heap.size]?=some (.cells #[.bool s,.slice A n c] 53):=by rw[hW];exact zy (zy (zj _ _) _) _
 have h1:W.heap[w.heap.size+1]?=some (.cells #[.bool t,.slice B m d] 53):=by rw[hW];exact zy (zu _ (by simp)) _
 have h2:W.heap[w.heap.size+2]?=some (.cells #[.bool false,.slice none 0 0] 53):=by rw[hW];exact zu _ (by simp)
 have HW:=hide (ai hW (ai hb0 (ai h0 (ai h1 (ai h2 (ai (hm.below hb0) (ai (hn.below hb0) (ai e1 e2))))))));clear hW hb0 h0 h1 h2 hm hn hx hy e1 e2
 by_cases hc:(x.natAbs:Int)<(y.natAbs:Int)
 ·have hsg:=hide (zbU hc)
  obtain⟨x0,x1,_,_⟩:=ze HW.out.2.2.1
  obtain⟨y0,y1,_,_⟩:=ze HW.out.2.2.2.1
  go_enter Tryz.func112,Tryz.ntmps112
  go_wp2_with fail
  rw[<-HW.out.1]
  refine(ze0 _ _ _ (x.natAbs:Int) (y.natAbs:Int) _ _ HW.out.2.2.2.2.2.1 HW.out.2.2.2.2.2.2.1).mono ?_
  rintro e w1 ⟨_,rfl,rfl,k,rfl⟩
  rw[hsg.out]
  have hwm:Below W.heap.size W (W.drewN k):=zw (blr _ _) k
  have hS:∀w',Below W.heap.size W w'->w'.cell? ⟨w.heap.size+1,0,none⟩=some (.bool t)/\w'.cell? ⟨w.heap.size+1,1,none⟩=some (.slice B m d)/\w'.cell? ⟨w.heap.size,1,none⟩=some (.slice A n c):=fun w' h=>by
   have k0:=ze (at_later HW.out.2.2.1 h)
   have k1:=ze (at_later HW.out.2.2.2.1 h)
   exact⟨k1.1,k1.2.1,k0.2.1⟩
  have hS0:=hS _ hwm.drew
  have HS:=hide hS;clear hS x0 x1 y0 y1
  go_wp2
  go_region_held3 (fun w'=>w'.cell? ⟨w.heap.size+1,0,none⟩=some (.bool t)/\w'.cell? ⟨w.heap.size+1,1,none⟩=some (.slice B m d)/\w'.cell? ⟨w.heap.size,1,none⟩=some (.slice A n c))
   (first|exact hS0|exact HS.out _ hg4|exact HS.out _ hg5|exact⟨(zJ (by omega)).trans (HS.out _ hg5).1,(zJ (by omega)).trans (HS.out _ hg5).2.1,(zJ (by omega)).trans (HS.out _ hg5).2.2⟩|(go_keep;done))
   (first
    | (go_at_call 160;refine(zdM _ _ _ (y.natAbs:Int) (x.natAbs:Int) (max L L') L (((HW.out.2.2.2.2.2.2.1.below hwm).below (blr _ _).drew).more (by omega)) ((HW.out.2.2.2.2.2.1.below hwm).below (blr _ _).drew) (by omega) (by omega)).mono ?_;rintro e w4 ⟨v4,rfl,hv4,hd4,_⟩;have hg4:Below W.heap.size W w4:=hwm.drew.trans hd4;(obtain⟨A4,c4,xs4,rfl,_⟩:=hv4.open_);have HV4:=hide hv4;clear hv4 hd4)
    | (go_at_call 156;refine(zb0 _ _ _ ((y.natAbs:Int)-(x.natAbs:Int)) (max L L') HV4.out (by omega)).mono ?_;rintro e w5 ⟨_,rfl,hz5,hd5⟩;have hg5:Below W.heap.size W w5:=hg4.trans (hd5.mono hg4.size);(obtain⟨s5,A5,n5,c5,rfl,hs5,_⟩:=hz5.parts);clear hs5;have hr5:=at_later HW.out.2.2.2.2.1 hg5;(obtain⟨z0,z1,f0,f1⟩:=ze hr5);have HZ:=hide (ai hz5 (ai hr5 hg5));clear hz5 hr5 hd5))
  have hlt:=lt_of_block HZ.out.2.1
  clear hS0 hg4 hg5
  go_wp2
  refine bodyPost_ret (v:=.agg #[.bool s5,.slice A5 n5 c5]) ?_ rfl ?_
  ·simp[results,Tryz.results112,go_sem,z0,z1,hlt]
  obtain⟨hz5,hr5,hg5⟩:=HZ.out
  rw[HW.out.2.2.2.2.2.2.2.2] at hz5
  exact⟨_,rfl,zac hz5 hr5 (by decide),zl (HW.out.2.1.trans (hg5.mono HW.out.2.1.size)) (by omega)⟩
 ·obtain⟨sg,hsg,hsg0⟩:∃sg,sgn (x.natAbs:Int) (y.natAbs:Int)=sg/\0<=sg:=by
   rcases Int.lt_or_eq_of_le (show (y.natAbs:Int)<=(x.natAbs:Int) by omega) with h|h
   ·exact⟨1,zbC h,by omega⟩
   ·exact⟨0,zcz h.symm,by omega⟩
  replace hsg:=hide hsg
  obtain⟨x0,x1,_,_⟩:=ze HW.out.2.2.1
  obtain⟨y0,y1,_,_⟩:=ze HW.out.2.2.2.1
  go_enter Tryz.func112,Tryz.ntmps112
  go_wp2_with fail
  rw[<-HW.out.1]
  refine(ze0 _ _ _ (x.natAbs:Int) (y.natAbs:Int) _ _ HW.out.2.2.2.2.2.1 HW.out.2.2.2.2.2.2.1).mono ?_
  rintro e w1 ⟨_,rfl,rfl,k,rfl⟩
  rw[hsg.out]
  have hwm:Below W.heap.size W (W.drewN k):=zw (blr _ _) k
  have hS:∀w',Below W.heap.size W w'->w'.cell? ⟨w.heap.size,0,none⟩=some (.bool s)/\w'.cell? ⟨w.heap.size,1,none⟩=some (.slice A n c)/\w'.cell? ⟨w.heap.size+1,1,none⟩=some (.slice B m d):=fun w' h=>by
   have k0:=ze (at_later HW.out.2.2.1 h)
   have k1:=ze (at_later HW.out.2.2.2.1 h)
   exact⟨k0.1,k0.2.1,k1.2.1⟩
  have hS0:=hS _ hwm.drew
  have HS:=hide hS;clear hS x0 x1 y0 y1
  go_wp2
  go_region_held3 (fun w'=>w'.cell? ⟨w.heap.size,0,none⟩=some (.bool s)/\w'.cell? ⟨w.heap.size,1,none⟩=some (.slice A n c)/\w'.cell? ⟨w.heap.size+1,1,none⟩=some (.slice B m d))
   (first|exact hS0|exact HS.out _ hg4|exact HS.out _ hg5|exact⟨(zJ (by omega)).trans (HS.out _ hg5).1,(zJ (by omega)).trans (HS.out _ hg5).2.1,(zJ (by omega)).trans (HS.out _ hg5).2.2⟩|(go_keep;done))
   (first
    | (go_at_call 160;refine(zdM _ _ _ (x.natAbs:Int) (y.natAbs:Int) (max L L') L' (((HW.out.2.2.2.2.2.1.below hwm).below (blr _ _).drew).more (by omega)) ((HW.out.2.2.2.2.2.2.1.below hwm).below (blr _ _).drew) (by omega) (by omega)).mono ?_;rintro e w4 ⟨v4,rfl,hv4,hd4,_⟩;have hg4:Below W.heap.size W w4:=hwm.drew.trans hd4;(obtain⟨A4,c4,xs4,rfl,_⟩:=hv4.open_);have HV4:=hide hv4;clear hv4 hd4)
    | (go_at_call 156;refine(zb0 _ _ _ ((x.natAbs:Int)-(y.natAbs:Int)) (max L L') HV4.out (by omega)).mono ?_;rintro e w5 ⟨_,rfl,hz5,hd5⟩;have hg5:Below W.heap.size W w5:=hg4.trans (hd5.mono hg4.size);(obtain⟨s5,A5,n5,c5,rfl,hs5,_⟩:=hz5.parts);clear hs5;have hr5:=at_later HW.out.2.2.2.2.1 hg5;(obtain⟨z0,z1,f0,f1⟩:=ze hr5);have HZ:=hide (ai hz5 (ai hr5 hg5));clear hz5 hr5 hd5))
  have hlt:=lt_of_block HZ.out.2.1
  clear hS0 hg4 hg5
  go_wp2
  refine bodyPost_ret (v:=.agg #[.bool s5,.slice A5 n5 c5]) ?_ rfl ?_
  ·simp[results,Tryz.results112,go_sem,z0,z1,hlt]
  obtain⟨hz5,hr5,hg5⟩:=HZ.out
  rw[HW.out.2.2.2.2.2.2.2.1] at hz5
  exact⟨_,rfl,zac hz5 hr5 (by decide),zl (HW.out.2.1.trans (hg5.mono HW.out.2.1.size)) (by omega)⟩
def sgnZ (z:Int):Int:=if z<0 then -1 else if 0<z then 1 else 0
theorem zhT (x y:Int):sgnZ (x-y)=sgn x y:=by
 unfold sgnZ sgn
 by_cases h1:x<y
 ·rw[if_pos (by omega),if_pos h1]
 ·rw[if_neg (by omega),if_neg h1]
  by_cases h2:y<x
  ·rw[if_pos (by omega),if_pos h2]
  ·rw[if_neg (by omega),if_neg h2]
theorem zfN (w:World) (v:Value) (z:Int) (L:Nat) (hz:ZV w v z L):
  Calls Tryz.prog 147 #[v] w (Ret (fun v w'=>v=.int .i64 (sgnZ z)/\Below w.heap.size w w')):=by
 obtain⟨m,rfl,hm⟩:=hz
 obtain⟨A,c,xs,rfl,_⟩:=hm.open_
 have h0:=zcv hm
 obtain⟨s,hs⟩:∃s,s=decide (z<0):=⟨_,rfl⟩
 rw[<-hs]
 by_cases hl:xs.length=0
 ·obtain rfl:xs=[]:=List.eq_nil_of_length_eq_zero hl
  have e:sgnZ z=0:=by
   have:=h0.1 rfl
   unfold sgnZ;rw[if_neg (by omega),if_neg (by omega)]
  rw[e]
  clear hs h0 hl e hm
  go_enter Tryz.func147,Tryz.ntmps147
  go_wp2
  go_ret
  exact⟨_,rfl,rfl,(blr _ _).alloc (nr _) _⟩
 ·have hd:((xs.length:Int) == 0)=false:=by rw[beq_eq_false_iff_ne];omega
  have hz0:z≠0:=fun e=>hl (h0.2 (by omega))
  by_cases hn:z<0
  ·obtain rfl:s=true:=by rw[hs];simp[hn]
   have e:sgnZ z=-1:=by unfold sgnZ;rw[if_pos hn]
   rw[e]
   clear hs h0 hl e hm hz0
   go_enter Tryz.func147,Tryz.ntmps147
   go_wp2
   go_ret
   exact⟨_,rfl,rfl,(blr _ _).alloc (nr _) _⟩
  ·obtain rfl:s=false:=by rw[hs];simp[hn]
   have e:sgnZ z=1:=by unfold sgnZ;rw[if_neg hn,if_pos (by omega)]
   rw[e]
   clear hs h0 hl e hm hz0
   go_enter Tryz.func147,Tryz.ntmps147
   go_wp2
   go_ret
   exact⟨_,rfl,rfl,(blr _ _).alloc (nr _) _⟩
theorem zn4 (w:World) (v v':Value) (x y:Int) (L L':Nat) (hx:ZV w v x L) (hy:ZV w v' y L') (hL:L<=17592185000000) (hL':L'<=17592185000000) (h0:0<=x) (h1:0<y):
  Calls Tryz.prog 111 #[v,v'] w (Ret (zR w (x-y) (max L L'))):=by
 obtain⟨s,A,n,c,rfl,hs,hm⟩:=hx.parts
 obtain⟨t,B,m,d,rfl,ht,hn⟩:=hy.parts
 clear hs ht hm hn
 have hne:(decide (x<0) == decide (-y<0))=false:=by simp;omega
 obtain⟨W,hW⟩:∃W,W=((w.alloc (.cells #[.bool s,.slice A n c] 53)).alloc (.cells #[.bool t,.slice B m d] 53)).alloc (.cells #[.bool false,.slice none 0 0] 53):=⟨_,rfl⟩
 have hb0:Below w.heap.size w W:=by rw[hW];exact(((blr _ _).alloc (nr _) _).alloc (by simp) _).alloc (by simp;omega) _
 have h0:W.heap[w.heap.size]?=some (.cells #[.bool s,.slice A n c] 53):=by rw[hW];exact zy (zy (zj _ _) _) _
 have h1:W.heap[w.heap.size+1]?=some (.cells #[.bool t,.slice B m d] 53):=by rw[hW];exact zy (zu _ (by simp)) _
 have h2:W.heap[w.heap.size+2]?=some (.cells #[.bool false,.slice none 0 0] 53):=by rw[hW];exact zu _ (by simp)
 have HW:=hide (ai hW (ai hb0 (ai h0 (ai h1 (ai h2 (ai (hx.below hb0) (ai (hy.below hb0) hne)))))));clear hW hb0 h0 h1 h2 hx hy hne
 have hS:∀w',Below W.heap.size W w'->w'.cell? ⟨w.heap.size,0,none⟩=some (.bool s)/\w'.cell? ⟨w.heap.size,1,none⟩=some (.slice A n c)/\w'.cell? ⟨w.heap.size+1,0,none⟩=some (.bool t)/\w'.cell? ⟨w.heap.size+1,1,none⟩=some (.slice B m d):=fun w' h=>by
  have k0:=ze (at_later HW.out.2.2.1 h)
  have k1:=ze (at_later HW.out.2.2.2.1 h)
  exact⟨k0.1,k0.2.1,k1.1,k1.2.1⟩
 have hdr:Below W.heap.size W W.drew:=(blr _ _).drew
 have hS0:=hS _ hdr
 have HS:=hide hS;clear hS
 go_enter Tryz.func111,Tryz.ntmps111
 go_wp2
 rw[<-HW.out.1]
 go_region_held3 (fun w'=>w'.cell? ⟨w.heap.size,0,none⟩=some (.bool s)/\w'.cell? ⟨w.heap.size,1,none⟩=some (.slice A n c)/\w'.cell? ⟨w.heap.size+1,0,none⟩=some (.bool t)/\w'.cell? ⟨w.heap.size+1,1,none⟩=some (.slice B m d))
  (first|exact hS0|exact HS.out _ hg4|exact HS.out _ hg5|exact⟨(zJ (by omega)).trans (HS.out _ hg5).1,(zJ (by omega)).trans (HS.out _ hg5).2.1,(zJ (by omega)).trans (HS.out _ hg5).2.2.1,(zJ (by omega)).trans (HS.out _ hg5).2.2.2⟩|(go_keep;done))
  (first
   | (go_at_call 155;refine(zfj _ _ y L' (HW.out.2.2.2.2.2.2.1.below hdr) (by omega)).mono ?_;rintro e w4 ⟨v4,rfl,hv4,hd4⟩;have hg4:Below W.heap.size W w4:=hdr.trans hd4;(obtain⟨s4,A4,n4,c4,rfl,hs4,_⟩:=hv4.parts);clear hs4;have HV4:=hide hv4;clear hv4 hd4)
   | (go_at_call 112;refine(ziV _ _ _ x (-y) L L' (HW.out.2.2.2.2.2.1.below hg4) HV4.out hL hL' HW.out.2.2.2.2.2.2.2).mono ?_;rintro e w5 ⟨_,rfl,hz5,hd5⟩;have hg5:Below W.heap.size W w5:=hg4.trans (hd5.mono hg4.size);(obtain⟨s5,A5,n5,c5,rfl,hs5,_⟩:=hz5.parts);clear hs5;have hr5:=at_later HW.out.2.2.2.2.1 hg5;(obtain⟨z0,z1,f0,f1⟩:=ze hr5);have HZ:=hide (ai hz5 (ai hr5 hg5));clear hz5 hr5 hd5))
 have hlt:=lt_of_block HZ.out.2.1
 clear hS0 hg4 hg5
 go_wp2
 refine bodyPost_ret (v:=.agg #[.bool s5,.slice A5 n5 c5]) ?_ rfl ?_
 ·simp[results,Tryz.results111,go_sem,z0,z1,hlt]
 obtain⟨hz5,hr5,hg5⟩:=HZ.out
 rw[<-Int.sub_eq_add_neg] at hz5
 exact⟨_,rfl,zac hz5 hr5 (by decide),zl (HW.out.2.1.trans (hg5.mono HW.out.2.1.size)) (by omega)⟩
theorem zle (w:World) (v v':Value) (x y:Int) (L L':Nat) (hx:ZV w v x L) (hy:ZV w v' y L') (hL:L<=17592185000000) (hL':L'<=17592185000000) (h0:0<=x) (h1:0<y):
  Calls Tryz.prog 135 #[v,v'] w (Ret (fun v w'=>v=.int .i64 (sgn x y)/\Below w.heap.size w w')):=by
 obtain⟨s,A,n,c,rfl,hs,_⟩:=hx.parts
 obtain⟨t,B,m,d,rfl,ht,_⟩:=hy.parts
 clear hs ht
 have HX:=hide (ai hx hy);clear hx hy
 have hb0:Below w.heap.size w ((w.alloc (.cells #[.bool s,.slice A n c] 53)).alloc (.cells #[.bool t,.slice B m d] 53)):=((blr _ _).alloc (nr _) _).alloc (by simp) _
 go_enter Tryz.func135,Tryz.ntmps135
 go_wp2_with fail
 refine(zn4 _ _ _ x y L L' (HX.out.1.below hb0) (HX.out.2.below hb0) hL hL' h0 h1).mono ?_
 rintro e w1 ⟨_,rfl,hz,hd1⟩
 obtain⟨s5,A5,n5,c5,rfl,hs5,_⟩:=hz.parts
 clear hs5
 have HZ:=hide hz;clear hz
 go_wp2_with fail
 refine(zfN _ _ (x-y) _ HZ.out).mono ?_
 rintro e w2 ⟨_,rfl,rfl,hd2⟩
 rw[zhT]
 have hbf:=hide (bnx (bnx hb0 hd1) hd2)
 clear hd1 hd2 hb0
 go_wp2
 go_ret
 exact⟨_,rfl,rfl,hbf.out⟩
end Go.Proofs.YtpoahodnakhmiaaGreat
