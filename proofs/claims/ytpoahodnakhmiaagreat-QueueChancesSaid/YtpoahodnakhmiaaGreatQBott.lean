import Derived.Test.YtpoahodnakhmiaaGreatQTop3
set_option maxRecDepth 100000
namespace Go.Proofs.YtpoahodnakhmiaaGreat
set_option linter.unusedVariables false
set_option linter.unusedSimpArgs false
open Go.RowKit
theorem BoxR.put {w:World} {g:Nat} {q0 q:Rat} {L0 L:Nat} {s:Bool} {A B:Option Addr} {n c m d:Nat} (h:BoxR w g q0 L0) (hq:RatV w (.agg #[.bool s,.slice A n c,.slice B m d]) q L):
  BoxR (((w.setCell ⟨g,0,none⟩ (.bool s)).setCell ⟨g,1,none⟩ (.slice A n c)).setCell ⟨g,2,none⟩ (.slice B m d)) g q L/\Keeps w (((w.setCell ⟨g,0,none⟩ (.bool s)).setCell ⟨g,1,none⟩ (.slice A n c)).setCell ⟨g,2,none⟩ (.slice B m d))/\w.grownBy (((w.setCell ⟨g,0,none⟩ (.bool s)).setCell ⟨g,1,none⟩ (.slice A n c)).setCell ⟨g,2,none⟩ (.slice B m d)) (some g):=by
 obtain⟨s0,A0,n0,c0,B0,m0,d0,hx,-⟩:=h
 have hg:w.grownBy (((w.setCell ⟨g,0,none⟩ (.bool s)).setCell ⟨g,1,none⟩ (.slice A n c)).setCell ⟨g,2,none⟩ (.slice B m d)) (some g):=zN (zN (zp w g 0 _) (zp _ g 1 _)) (zp _ g 2 _)
 have hk:=Keeps.only hg ⟨_,_,hx⟩ (by decide)
 exact⟨⟨_,_,_,_,_,_,_,by simp[World.setCell,Array.getElem?_modify,hx],hq.keeps hk⟩,hk,hg⟩
def maxR (w:World) (qs:List Rat) (v:Value) (w':World):Prop:=∃j,j<qs.length/\(∀t,t<qs.length->qs.getD t 0<=qs.getD j 0)/\RatV w' v (qs.getD j 0) 3000/\Below w.heap.size w w'
set_option maxHeartbeats 4000000 in
theorem zof (w:World) (va:Value) (qs:List Rat) (ha:RowV w va qs 3000) (h0:0<qs.length):
  Calls Tryz.prog 98 #[va,.func (.func 19) #[] #[]] w (Ret (maxR w qs)):=by
 obtain⟨A,c,rfl,hc,hm,-⟩:=id ha
 unfold maxLen at hm
 obtain⟨-,-,-,hcl⟩:=ha.at_
 obtain⟨b,o,rfl,hcl1⟩:=hcl h0
 obtain⟨s0,A0,n0,c0,B0,m0,d0,e0,e1,e2,hq0⟩:=(hcl1 0 h0).rat
 simp only[Nat.zero_mul,Nat.add_zero] at e0 e1 e2
 have hlb:=zf e0
 simp only at hlb
 obtain⟨w1,hw1⟩:∃w1,w1=w.alloc (.cells #[.bool false,.slice none 0 0,.slice none 0 0] 43):=⟨_,rfl⟩
 have hb1:Below w.heap.size w w1:=by rw[hw1];exact za (blr _ _) _
 have hx1:w1.heap[w.heap.size]?=some (.cells #[.bool false,.slice none 0 0,.slice none 0 0] 43):=by rw[hw1];exact zj _ _
 obtain⟨W,hW⟩:∃W,W=w1.alloc (.cells #[.bool s0,.slice A0 n0 c0,.slice B0 m0 d0] 43):=⟨_,rfl⟩
 have hb2:Below w1.heap.size w1 W:=by rw[hW];exact za (blr _ _) _
 have hbw:=bnx hb1 hb2
 have hs1:w1.heap.size=w.heap.size+1:=by rw[hw1];simp
 have hbox:BoxR W (w.heap.size+1) (qs.getD 0 0) 3000:=by rw[<-hs1];exact⟨_,_,_,_,_,_,_,by rw[hW];exact zj _ _,hq0.below hbw⟩
 have HA:=hide (ai ha (ai hbox (ai (at_later hx1 hb2) hbw)))
 have HL1:=hide hw1
 have HL:=hide hW
 have i0:(0:Int)<(qs.length:Int):=by omega
 have i1:(1:Int)<=(qs.length:Int):=by omega
 clear ha hcl hcl1 hq0 hb1 hx1 hb2 hbw hbox hw1 hW hs1
 go_enter Tryz.func98,Tryz.ntmps98
 go_upto_region 4 with fail
 rw[<-HL1.out,<-HL.out]
 clear e0 e1 e2
 go_wp2_with fail
 go_loopw [6] (fun s6 wr=>∃i j:Nat,i<=qs.length/\s6=.int .i64 i/\j<i/\(∀t,t<i->qs.getD t 0<=qs.getD j 0)/\BoxR wr (w.heap.size+1) (qs.getD j 0) 3000/\wr.heap[w.heap.size]?=some (.cells #[.bool false,.slice none 0 0,.slice none 0 0] 43)/\Below w.heap.size w wr) (fun s6 _=>qs.length-(intOf s6).toNat)
 case atStart=>exact⟨1,0,by omega,rfl,by omega,fun t ht=>by rw[show t=0 by omega];exact Rat.le_refl,HA.out.2.1,HA.out.2.2.1,HA.out.2.2.2⟩
 case round=>
  obtain⟨i,j,hi,rfl,hj,hle,hbx,hres,hbel⟩:=hrel
  by_cases hlt:i<qs.length
  ·have i2:(i:Int)<(qs.length:Int):=by omega
   obtain⟨-,-,-,hcl⟩:=(HA.out.1.below hbel).at_
   obtain⟨b',o',eb,hcl1⟩:=hcl h0
   injection eb with eb
   injection eb with eb eo _
   subst eb
   subst eo
   obtain⟨s2,A2,n2,c2,B2,m2,d2,e0,e1,e2,hq2⟩:=(hcl1 i hlt).rat
   obtain⟨s1,A1,n1,c1,B1,m1,d1,hx,hq1⟩:=id hbx
   have hS:∀w',Below wr.heap.size wr w'->(w'.cell? ⟨w.heap.size+1,0,none⟩=some (.bool s1)/\w'.cell? ⟨w.heap.size+1,1,none⟩=some (.slice A1 n1 c1)/\w'.cell? ⟨w.heap.size+1,2,none⟩=some (.slice B1 m1 d1))/\(w'.cell? ⟨b,o+i*3,none⟩=some (.bool s2)/\w'.cell? ⟨b,o+i*3+1,none⟩=some (.slice A2 n2 c2)/\w'.cell? ⟨b,o+i*3+2,none⟩=some (.slice B2 m2 d2)):=fun w' h=>by
    have e:∀b o v,wr.cell? ⟨b,o,none⟩=some v->w'.cell? ⟨b,o,none⟩=some v:=fun b o v hv=>(h.cell (zf hv)).trans hv
    exact⟨zk (at_later hx h),e _ _ _ e0,e _ _ _ e1,e _ _ _ e2⟩
   have hdr:Below wr.heap.size wr wr.drew:=(blr _ _).drew
   have HSS:=hide hS
   have HQ:=hide (ai hq1 hq2)
   have HI:=hide (ai hbx (ai hres hbel))
   have HJ:=hide hle
   by_cases hg:0<sgnQ (qs.getD i 0-qs.getD j 0)
   ·obtain⟨σ,hσ⟩:∃σ,σ=sgnQ (qs.getD i 0-qs.getD j 0):=⟨_,rfl⟩
    rw[<-hσ] at hg
    have HG:=hide (show qs.getD j 0<=qs.getD i 0 by rcases zbR (qs.getD i 0-qs.getD j 0) with ⟨h1,h2⟩|⟨h1,h2⟩|⟨h1,h2⟩ <;> first|grind|omega)
    have HSG:=hide hσ.symm
    clear hS hbx hres hbel hle hq1 hq2 hcl hcl1 e0 e1 e2 hx hσ
    go_upto_region 7 with fail
    refine zv (fun w'=>(w'.cell? ⟨w.heap.size+1,0,none⟩=some (.bool s1)/\w'.cell? ⟨w.heap.size+1,1,none⟩=some (.slice A1 n1 c1)/\w'.cell? ⟨w.heap.size+1,2,none⟩=some (.slice B1 m1 d1))/\(w'.cell? ⟨b,o+i*3,none⟩=some (.bool s2)/\w'.cell? ⟨b,o+i*3+1,none⟩=some (.slice A2 n2 c2)/\w'.cell? ⟨b,o+i*3+2,none⟩=some (.slice B2 m2 d2))) [0,1,2,3,4,5,6,7] (by kernel_rfl) (HSS.out _ hdr) (fun hh=>?_)
    refine tt 0 hh 20 ?_
    try simp only[Act.put,ptA,ptB,ptC]
    refine tt 1 hh 21 ?_
    try simp only[Act.put,ptA,ptB,ptC]
    refine tt 2 hh 22 ?_
    try simp only[Act.put,ptA,ptB,ptC]
    refine tt 3 hh 23 ?_
    try simp only[Act.put,ptA,ptB,ptC]
    refine tt 4 hh 24 ?_
    try simp only[Act.put,ptA,ptB,ptC]
    refine tt 5 hh 25 ?_
    try simp only[Act.put,ptA,ptB,ptC]
    refine zb (rs:=[6]) (by kernel_rfl) (by simp) ?_
    refine mem1 ?_
    refine zd rfl (fun K hK=>?_)
    go_simp
    go_at_call 19
    refine(zgw _ _ _ (qs.getD i 0) (qs.getD j 0) 3000 (HQ.out.2.below hdr) (HQ.out.1.below hdr) (by omega)).mono ?_
    rintro e w1 ⟨_,rfl,rfl,hd⟩
    rw[HSG.out]
    have hg1:Below wr.heap.size wr w1:=hdr.trans (hd.mono hdr.size)
    clear hd
    go_wp2_with fail
    refine hK.out _ _ (HSS.out _ hg1) (fun hh=>?_)
    clear hK K
    try simp only[Act.put,ptA,ptB,ptC]
    refine tt 7 hh 27 ?_
    try simp only[Act.put,ptA,ptB,ptC]
    refine zM (by kernel_rfl) ?_ _
    clear hh
    have hbx:=HI.out.1.below hg1
    obtain⟨s7,A7,n7,c7,B7,m7,d7,hx7,-⟩:=id hbx
    obtain⟨x0,x1,x2⟩:=zk hx7
    obtain⟨f0,f1,f2⟩:=zA hx7
    have hlx:=lt_of_block hx7
    obtain⟨z0,z1,z2⟩:=(HSS.out _ hg1).2
    have HR:=hide (ai (HQ.out.2.below hg1) (ai hbx (at_later HI.out.2.1 hg1)))
    clear hbx hx7
    go_wp2
    case roundEnd=>
     obtain⟨t1,t2,t3⟩:=BoxR.put HR.out.2.1 HR.out.1
     refine⟨⟨i+1,i,by omega,by go_num,by omega,fun t ht=>?_,t1,?_,?_⟩,by simp[intOf];omega⟩
     ·by_cases e:t=i
      ·subst e;exact Rat.le_refl
      ·exact Rat.le_trans (HJ.out t (by omega)) HG.out
     ·exact(t3.block _ (by have:=lt_of_block HR.out.2.2;exact this) (by intro e;injection e with e;omega)).trans HR.out.2.2
     ·exact only_below (HI.out.2.2.trans (hg1.mono HI.out.2.2.size)) t3 (by have:=HI.out.2.2.size;have:=hg1.size;omega) (by omega)
   ·obtain⟨σ,hσ⟩:∃σ,σ=sgnQ (qs.getD i 0-qs.getD j 0):=⟨_,rfl⟩
    rw[<-hσ] at hg
    have HG:=hide (show qs.getD i 0<=qs.getD j 0 by rcases zbR (qs.getD i 0-qs.getD j 0) with ⟨h1,h2⟩|⟨h1,h2⟩|⟨h1,h2⟩ <;> first|grind|omega)
    have HSG:=hide hσ.symm
    clear hS hbx hres hbel hle hq1 hq2 hcl hcl1 e0 e1 e2 hx hσ
    go_upto_region 7 with fail
    refine zv (fun w'=>(w'.cell? ⟨w.heap.size+1,0,none⟩=some (.bool s1)/\w'.cell? ⟨w.heap.size+1,1,none⟩=some (.slice A1 n1 c1)/\w'.cell? ⟨w.heap.size+1,2,none⟩=some (.slice B1 m1 d1))/\(w'.cell? ⟨b,o+i*3,none⟩=some (.bool s2)/\w'.cell? ⟨b,o+i*3+1,none⟩=some (.slice A2 n2 c2)/\w'.cell? ⟨b,o+i*3+2,none⟩=some (.slice B2 m2 d2))) [0,1,2,3,4,5,6,7] (by kernel_rfl) (HSS.out _ hdr) (fun hh=>?_)
    refine tt 0 hh 20 ?_
    try simp only[Act.put,ptA,ptB,ptC]
    refine tt 1 hh 21 ?_
    try simp only[Act.put,ptA,ptB,ptC]
    refine tt 2 hh 22 ?_
    try simp only[Act.put,ptA,ptB,ptC]
    refine tt 3 hh 23 ?_
    try simp only[Act.put,ptA,ptB,ptC]
    refine tt 4 hh 24 ?_
    try simp only[Act.put,ptA,ptB,ptC]
    refine tt 5 hh 25 ?_
    try simp only[Act.put,ptA,ptB,ptC]
    refine zb (rs:=[6]) (by kernel_rfl) (by simp) ?_
    refine mem1 ?_
    refine zd rfl (fun K hK=>?_)
    go_simp
    go_at_call 19
    refine(zgw _ _ _ (qs.getD i 0) (qs.getD j 0) 3000 (HQ.out.2.below hdr) (HQ.out.1.below hdr) (by omega)).mono ?_
    rintro e w1 ⟨_,rfl,rfl,hd⟩
    rw[HSG.out]
    have hg1:Below wr.heap.size wr w1:=hdr.trans (hd.mono hdr.size)
    clear hd
    go_wp2_with fail
    refine hK.out _ _ (HSS.out _ hg1) (fun hh=>?_)
    clear hK K
    try simp only[Act.put,ptA,ptB,ptC]
    refine tt 7 hh 27 ?_
    try simp only[Act.put,ptA,ptB,ptC]
    refine zM (by kernel_rfl) ?_ _
    clear hh
    go_wp2
    case roundEnd=>exact⟨⟨i+1,j,by omega,by go_num,by omega,fun t ht=>by
      by_cases e:t=i
      ·subst e;exact HG.out
      ·exact HJ.out t (by omega),HI.out.1.below hg1,at_later HI.out.2.1 hg1,HI.out.2.2.trans (hg1.mono HI.out.2.2.size)⟩,by simp[intOf];omega⟩
  ·obtain rfl:i=qs.length:=by omega
   have i2:¬(qs.length:Int)<(qs.length:Int):=by omega
   obtain⟨s1,A1,n1,c1,B1,m1,d1,hx,hq1⟩:=hbx
   obtain⟨y0,y1,y2⟩:=zk hx
   have hly:=lt_of_block hx
   obtain⟨x0,x1,x2⟩:=zk hres
   obtain⟨f0,f1,f2⟩:=zA hres
   have hlt2:=lt_of_block hres
   obtain⟨q,hq⟩:∃q,q=qs.getD j 0:=⟨_,rfl⟩
   rw[<-hq] at hq1
   have HU:=hide (ai hq1 hbel)
   have HM:=hide (ai hj (ai hle hq))
   clear hx hres hbel hq1 hq hle
   go_wp2
   refine bodyPost_ret (v:=.agg #[.bool s1,.slice A1 n1 c1,.slice B1 m1 d1]) ?_ rfl ?_
   ·simp[results,Tryz.results98,go_sem,x0,x1,x2,hlt2]
   have hr:=HU.out.1
   obtain⟨rn,rl,e,r1,r2⟩:=hr
   injection e with e
   simp only[Array.mk.injEq,List.cons.injEq,Value.bool.injEq,and_true] at e
   obtain⟨rfl,rfl,rfl⟩:=e
   exact⟨_,rfl,j,HM.out.1,HM.out.2.1,by rw[<-HM.out.2.2];exact⟨_,_,rfl,r1.set3 x0 x1 x2,r2.set3 x0 x1 x2⟩,zm HU.out.2 (by omega) _ _ _⟩
def botN (l:Nat->Rat) (M:Rat) (i:Nat):List Nat:=(List.range i).filter fun t=>decide (l t=M)
theorem zg0 (l:Nat->Rat) (M:Rat) (i:Nat) (h:l i=M):botN l M (i+1)=botN l M i++[i]:=by
 unfold botN
 rw[List.range_succ,List.filter_append]
 simp[h]
theorem ziB (l:Nat->Rat) (M:Rat) (i:Nat) (h:l i≠M):botN l M (i+1)=botN l M i:=by
 unfold botN
 rw[List.range_succ,List.filter_append]
 simp[h]
theorem zfo (l:Nat->Rat) (M:Rat) (i:Nat):(botN l M i).length<=i:=by
 unfold botN
 have:=List.length_filter_le (fun t=>decide (l t=M)) (List.range i)
 simpa using this
theorem zmY (a b:Rat):decide (sgnQ (a-b)=0)=decide (a=b):=by
 rcases zbR (a-b) with ⟨h1,h2⟩|⟨h1,h2⟩|⟨h1,h2⟩
 ·rw[h1,decide_eq_false (by omega),decide_eq_false (by intro e;subst e;grind)]
 ·rw[h1,decide_eq_true (by omega),decide_eq_true (by grind)]
 ·rw[h1,decide_eq_false (by omega),decide_eq_false (by intro e;subst e;grind)]
def botR (w:World) (m:Nat) (l:Nat->Rat) (v:Value) (w':World):Prop:=
 ∃(j:Nat) (A:Option Addr) (c:Nat),v=.tuple #[.slice A (botN l (l j) m).length c,.int .i64 0]/\j<m/\(∀t,t<m->l t<=l j)/\(botN l (l j) m).length<=c/\c<=maxLen/\Arr w' A .i64 (natsI (botN l (l j) m))/\Below w.heap.size w w'
set_option maxHeartbeats 4000000 in
theorem zg1 (w:World) (v:Value) (m:Nat) (R:List Rat) (Ws:List (List Rat)) (hv:ShopV w v R Ws 3000) (hs:zW m R Ws):
  Calls Tryz.prog 41 #[v] w (Ret (botR w m (ldF m R Ws))):=by
 have HV:=hide hv
 obtain⟨va,vb,rfl,hR,hW⟩:=hv
 obtain⟨A1,c1,rfl,-,-,-⟩:=id hR
 obtain⟨A2,c2,rfl,-,-,-⟩:=id hW
 have hm8:=hs.ok.shop.n8
 have hm1:=hs.ok.shop.n1
 have hlen:=hide hs.len
 obtain⟨W,hWW⟩:∃W,W=w.alloc (.cells #[.slice A1 R.length c1,.slice A2 Ws.length c2] 33):=⟨_,rfl⟩
 have hb0:Below w.heap.size w W:=by rw[hWW];exact za (blr _ _) _
 have H0:=hide hb0
 have HL:=hide hWW
 clear hR hW hb0 hWW
 go_enter Tryz.func41,Tryz.ntmps41
 go_wp2_with fail
 rw[<-HL.out]
 refine(zcD _ _ R Ws 3000 m (HV.out.below H0.out) hs.ok).mono ?_
 rintro e w1 ⟨_,rfl,gx,rfl,hg,hx,hd1⟩
 obtain⟨wa,wb,wc,wd,hbox,-,-,-,hvL⟩:=hx.box
 replace hvL:RowV w1 wd (ldV m R Ws) 3000:=hvL
 obtain⟨A3,c3,rfl,hc3,hm3,-⟩:=id hvL
 unfold maxLen at hm3
 obtain⟨y0,y1,y2,y3,-⟩:=zq hbox
 have hgl:=lt_of_block hbox
 have H1:=hide (ai hvL (ai hbox (bnx H0.out hd1)))
 clear hx hbox hvL hd1
 go_wp2_with fail
 refine(zof w1 _ (ldV m R Ws) H1.out.1 (by rw[hlen.out];omega)).mono ?_
 rintro e w2 ⟨v2,rfl,j,hj,hle,hr2,hd2⟩
 rw[hlen.out] at hj hle
 obtain⟨s2,A4,n2,c4,B2,m2,d2,rfl⟩:=hr2.shape
 obtain⟨W3,hW3⟩:∃W3,W3=w2.alloc (.cells #[.bool s2,.slice A4 n2 c4,.slice B2 m2 d2] 43):=⟨_,rfl⟩
 have hb3:Below w2.heap.size w2 W3:=by rw[hW3];exact za (blr _ _) _
 have hbx:W3.heap[w2.heap.size]?=some (.cells #[.bool s2,.slice A4 n2 c4,.slice B2 m2 d2] 43):=by rw[hW3];exact zj _ _
 have hd3:=bnx hd2 hb3
 have hbox3:=at_later H1.out.2.1 hd3
 clear y0 y1 y2 y3 hgl
 obtain⟨y0,y1,y2,y3,-⟩:=zq hbox3
 have hgl:=lt_of_block hbox3
 obtain⟨M,hM⟩:∃M,M=ldF m R Ws j:=⟨_,rfl⟩
 replace hr2:RatV w2 (.agg #[.bool s2,.slice A4 n2 c4,.slice B2 m2 d2]) M 3000:=by rw[hM];exact hr2
 have H3:=hide (ai hbx (ai (hr2.below hb3) (ai (H1.out.1.below hd3) (bnx H1.out.2.2 hd3))))
 have HM:=hide (ai hj (ai hle hM))
 have HL3:=hide hW3
 clear hr2 hd2 hb3 hbx hd3 hbox3 hj hle hM hW3
 go_upto_region 6 with fail
 rw[<-HL3.out]
 go_wp2_with fail
 go_loopw [28,7] (fun s28 s7 wr=>∃i:Nat,i<=m/\s28=.int .i64 i/\OwnI wr W3.heap.size 3 .i64 s7 (natsI (botN (ldF m R Ws) M i))/\Below W3.heap.size W3 wr) (fun s28 _ _=>m-(intOf s28).toNat)
 case atStart=>exact⟨0,Nat.zero_le _,rfl,OwnI.nil _ _ _ _,blr _ _⟩
 case round=>
  obtain⟨i,hi,rfl,hown,hbel⟩:=hrel
  obtain⟨Ao,co,rfl,hco,hmo,-⟩:=hown.form
  have hlo:=zfo (ldF m R Ws) M i
  have hsr:=hbel.size
  by_cases hin:i<m
  ·have i1:(i:Int)<((ldV m R Ws).length:Int):=by rw[hlen.out];omega
   obtain⟨-,-,-,hcl⟩:=(H3.out.2.2.1.below hbel).at_
   obtain⟨bl,ol,eb,hcl1⟩:=hcl (by rw[hlen.out];omega)
   subst eb
   obtain⟨s5,A5,n5,c5,B5,m5,d5,e0,e1,e2,hq1⟩:=(hcl1 i (by rw[hlen.out];exact hin)).rat
   replace hq1:RatV wr (.agg #[.bool s5,.slice A5 n5 c5,.slice B5 m5 d5]) (ldF m R Ws i) 3000:=hq1
   obtain⟨W4,hW4⟩:∃W4,W4=wr.alloc (.cells #[.bool s5,.slice A5 n5 c5,.slice B5 m5 d5] 43):=⟨_,rfl⟩
   have hb4:Below wr.heap.size wr W4:=by rw[hW4];exact za (blr _ _) _
   have hbx4:W4.heap[wr.heap.size]?=some (.cells #[.bool s5,.slice A5 n5 c5,.slice B5 m5 d5] 43):=by rw[hW4];exact zj _ _
   obtain⟨z0,z1,z2⟩:=zk hbx4
   have hd4:=bnx hbel hb4
   obtain⟨x0,x1,x2⟩:=zk (at_later H3.out.1 hd4)
   have hlx:=lt_of_block (at_later H3.out.1 hd4)
   have hlz:=lt_of_block hbx4
   have HI:=hide (ai (hown.keep hb4) (ai (hq1.below hb4) (ai (H3.out.2.1.below hd4) hd4)))
   have HL4:=hide hW4
   clear hown hbel hcl hcl1 hq1 hb4 hbx4 hd4 hW4 y0 y1 y2 y3
   go_upto_region 9 with fail
   rw[<-HL4.out]
   clear e0 e1 e2
   go_wp2_with fail
   refine(zgw _ _ _ (ldF m R Ws i) M 3000 HI.out.2.1 HI.out.2.2.1 (by omega)).mono ?_
   rintro e w5 ⟨_,rfl,rfl,hd⟩
   obtain⟨σ,hσ⟩:∃σ,σ=sgnQ (ldF m R Ws i-M):=⟨_,rfl⟩
   have hs0:=zmY (ldF m R Ws i) M
   rw[<-hσ] at hs0 ⊢
   have H5:=hide (ai (HI.out.1.keep hd) (bnx HI.out.2.2.2 hd))
   have hs5:=H5.out.2.size
   clear hd hσ x0 x1 x2 z0 z1 z2
   by_cases hy:ldF m R Ws i=M
   ·rw[decide_eq_true hy] at hs0
    obtain rfl:=of_decide_eq_true hs0
    have HY:=hide hy
    clear hs0 hy
    go_wp2_with (first
     | (at_builtin;refine app1x Tryz.i64T _ rfl _ _ rfl W3.heap.size _ (natsI (botN (ldF m R Ws) M i)) (i:Int) rfl (H5.out.1.keep ((blr _ _).alloc (nr _) _)) ⟨w5.heap.size,0,none⟩ _ rfl (by simp[World.cell?_alloc_new]) (by rw[zY];omega) (by simp;omega) ?_;intro g7 c7 w7 hown7 _ _ hb7 hg7 _ _;
        have H7:=hide (ai hown7 ((za H5.out.2 (.cells #[.int .i64 (i:Int)] 3)).trans hb7));
        clear hown7 hb7 hg7))
    case roundEnd=>
     have e7:natsI (botN (ldF m R Ws) M i)++[(i:Int)]=natsI (botN (ldF m R Ws) M (i+1)):=by rw[zg0 _ _ _ HY.out];simp[natsI]
     have h7:=H7.out.1
     rw[e7] at h7
     exact⟨⟨i+1,by omega,by go_num,h7,H7.out.2⟩,by simp[intOf];omega⟩
   ·rw[decide_eq_false hy] at hs0
    have hs1:¬σ=0:=of_decide_eq_false hs0
    have HY:=hide hy
    clear hs0 hy
    go_wp2
    case roundEnd=>
     exact⟨⟨i+1,by omega,by go_num,by rw[ziB _ _ _ HY.out];exact H5.out.1,H5.out.2⟩,by simp[intOf];omega⟩
  ·obtain rfl:i=m:=by omega
   have i1:¬(i:Int)<((ldV i R Ws).length:Int):=by rw[hlen.out];omega
   obtain⟨-,-,e3,-,-,harr⟩:∃(_:True) (_:True),Arr wr Ao .i64 (natsI (botN (ldF i R Ws) M i))/\True/\True/\True:=⟨trivial,trivial,(by obtain⟨A',c',e,-,-,h⟩:=hown.form;injection e with e;rw[e];exact h),trivial,trivial,trivial⟩
   have HI:=hide (ai e3 (bnx H3.out.2.2.2 hbel))
   have hnl:=zY (botN (ldF i R Ws) M i)
   have HN:=hide hnl
   clear hown hbel e3 harr hnl
   go_wp2
   refine bodyPost_ret (v:=.tuple #[.slice Ao (natsI (botN (ldF i R Ws) M i)).length co,.int .i64 0]) ?_ rfl ?_
   ·simp[results,Tryz.results41,go_sem]
   have hM:=HM.out.2.2
   refine⟨_,rfl,j,Ao,co,?_,HM.out.1,HM.out.2.1,?_,hmo,?_,HI.out.2⟩
   ·rw[<-hM,HN.out]
   ·rw[<-hM,<-HN.out];exact hco
   ·rw[<-hM];exact HI.out.1
end Go.Proofs.YtpoahodnakhmiaaGreat
