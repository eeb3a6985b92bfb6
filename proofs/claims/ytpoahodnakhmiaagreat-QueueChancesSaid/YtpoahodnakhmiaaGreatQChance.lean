import Derived.Test.YtpoahodnakhmiaaGreatQStOf
set_option maxRecDepth 100000
namespace Go.Proofs.YtpoahodnakhmiaaGreat
set_option linter.unusedVariables false
set_option linter.unusedSimpArgs false
open Go.RowKit
def wfQ (l:Nat->Rat) (xs:List Int) (i:Nat):Rat:=powN (l i) (xs.getD i 0).toNat
def wtQ (l:Nat->Rat) (xs:List Int) (s:Nat):Rat:=prodN (wfQ l xs) s
theorem zb4 (l:Nat->Rat) (xs:List Int) (s:Nat):wtQ l xs (s+1)=wtQ l xs s*wfQ l xs s:=rfl
theorem zaj.wf_fit {s:Nat} {l:Nat->Rat} (h:zaj s l) (xs:List Int) (hx:∀j,xs.getD j 0<=12) (i:Nat) (hi:i<s):FitQ 25 (wfQ l xs i):=h.p_fit i _ hi (by have:=hx i;omega)
theorem zaj.wt_fit {s:Nat} {l:Nat->Rat} (h:zaj s l) (xs:List Int) (hx:∀j,xs.getD j 0<=12):∀k,k<=s->FitQ (25*k+1) (wtQ l xs k)
 | 0,_=>zcB (by omega)
 | k+1,hk=>by
  rw[zb4]
  exact((zaj.wt_fit h xs hx k (by omega)).mulA (h.wf_fit xs hx k (by omega))).more (by rw[Nat.mul_succ];omega)
set_option maxHeartbeats 4000000 in
theorem zlF (w:World) (gx:Nat) (xs:List Int) (h8:xs.length=8) (hx0:∀j,0<=xs.getD j 0/\xs.getD j 0<=12) (R V Ld:List Rat) (Ws:List (List Rat)) (hx:zbt w gx R Ws V Ld 3000) (hld:zaj Ld.length (fun i=>Ld.getD i 0)):
  Calls Tryz.prog 138 #[.pointer (some ⟨gx,0,none⟩),stV xs] w (Ret (ratR w (wtQ (fun i=>Ld.getD i 0) xs Ld.length) 3000)):=by
 have hs8:=hld.s8
 have hs0:=hld.s0
 generalize hq:wtQ (fun i=>Ld.getD i 0) xs Ld.length=q
 obtain⟨x0,x1,x2,x3,x4,x5,x6,x7,hxs⟩:=eight h8
 obtain⟨W,hW⟩:∃W,W=(w.alloc (.cells #[.int .i64 x0,.int .i64 x1,.int .i64 x2,.int .i64 x3,.int .i64 x4,.int .i64 x5,.int .i64 x6,.int .i64 x7] 116)).alloc (.cells #[.bool false,.slice none 0 0,.slice none 0 0] 43):=⟨_,rfl⟩
 have hb0:Below w.heap.size w W:=by rw[hW];exact za (za (blr _ _) _) _
 have hbs:Blk W w.heap.size 116 .i64 xs:=by rw[hW,hxs];exact(Blk.new w 116 .i64 [x0,x1,x2,x3,x4,x5,x6,x7]).keep (za (blr _ _) _)
 have hbr:RowC W (w.heap.size+1) [0] 3000:=by
  have:=zbL (w.alloc (.cells #[.int .i64 x0,.int .i64 x1,.int .i64 x2,.int .i64 x3,.int .i64 x4,.int .i64 x5,.int .i64 x6,.int .i64 x7] 116)) 3000
  rw[show (w.alloc (.cells #[.int .i64 x0,.int .i64 x1,.int .i64 x2,.int .i64 x3,.int .i64 x4,.int .i64 x5,.int .i64 x6,.int .i64 x7] 116)).heap.size=w.heap.size+1 by simp] at this
  rw[hW];exact this
 obtain⟨va,vb,vc,vd,hbox,-,-,-,hvL⟩:=hx.box
 obtain⟨A4,c4,rfl,hc4,hm4,-⟩:=id hvL
 unfold maxLen at hm4
 have H0:=hide (ai hb0 (ai hbs (ai hbr (ai hbox (ai hvL (ai hx0 hq))))))
 have HL:=hide hW
 have HX8:=hide h8
 rw[show stV xs=.agg #[.int .i64 x0,.int .i64 x1,.int .i64 x2,.int .i64 x3,.int .i64 x4,.int .i64 x5,.int .i64 x6,.int .i64 x7] by rw[hxs];rfl]
 clear hx hb0 hbs hbr hbox hvL hW hx0 hq hxs h8
 go_enter Tryz.func138,Tryz.ntmps138
 go_wp2_with fail
 rw[<-HL.out]
 refine(zcu _ 1 (by omega) (by omega)).mono ?_
 rintro e w1 ⟨v1,rfl,hv1,hd1⟩
 replace hv1:RatV w1 v1 1 3000:=hv1.more (by omega)
 obtain⟨s0,B1,m1,d1,B2,m2,d2,rfl⟩:=hv1.shape
 obtain⟨W2,hW2⟩:∃W2,W2=w1.alloc (.cells #[.bool s0,.slice B1 m1 d1,.slice B2 m2 d2] 43):=⟨_,rfl⟩
 have hb2:Below w1.heap.size w1 W2:=by rw[hW2];exact za (blr _ _) _
 have hacc0:RowC W2 w1.heap.size [1] 3000:=by rw[hW2];exact zeE hv1
 have hd2:=bnx hd1 hb2
 obtain⟨y0,y1,y2,y3,-⟩:=zq (at_later H0.out.2.2.2.1 (bnx H0.out.1 hd2))
 have hgl:=lt_of_block (at_later H0.out.2.2.2.1 (bnx H0.out.1 hd2))
 have H2:=hide (ai hacc0 (ai (H0.out.2.2.1.below hd2) (ai (H0.out.2.1.keep hd2) (bnx H0.out.1 hd2))))
 have HL2:=hide hW2
 have hsz:w.heap.size+2<=w1.heap.size:=by have h1:=H0.out.2.2.1.lt;have h2:=hd1.size;omega
 clear hv1 hd1 hb2 hacc0 hd2 hW2
 go_upto_region 2 with fail
 rw[<-HL2.out]
 go_wp2_with fail
 go_loopw [14] (fun s14 wr=>∃i:Nat,i<=Ld.length/\s14=.int .i64 i/\RowC wr w1.heap.size [wtQ (fun i=>Ld.getD i 0) xs i] 3000/\RowC wr (w.heap.size+1) [0] 3000/\Blk wr w.heap.size 116 .i64 xs/\Below w.heap.size w wr) (fun s14 _=>Ld.length-(intOf s14).toNat)
 case atStart=>exact⟨0,Nat.zero_le _,rfl,H2.out.1,H2.out.2.1,H2.out.2.2.1,H2.out.2.2.2⟩
 case round=>
  obtain⟨i,hi,rfl,hacc,hres,hst,hbel⟩:=hrel
  have hlw:=hacc.lt
  by_cases hlt:i<Ld.length
  ·obtain⟨-,-,-,hcl⟩:=(H0.out.2.2.2.2.1.below hbel).at_
   obtain⟨bl,ol,rfl,hcl1⟩:=hcl (by omega)
   obtain⟨s2,A2,n2,c2,B2,m2,d2,e0,e1,e2,hq1⟩:=(hcl1 i hlt).rat
   obtain⟨s1,A1,n1,c1,B1,m1,d1,e3,e4,e5,hq0⟩:=(hacc.2 0 (by simp)).rat
   simp only[Nat.zero_mul,Nat.zero_add] at e3 e4 e5
   simp only[List.getD_cons_zero] at hq0
   have hh8:=HX8.out
   have z1:=hst.cell (j:=i) (by omega)
   have hx12:=fun j=>(H0.out.2.2.2.2.2.1 j).2
   obtain⟨xn,hxn⟩:∃xn:Nat,xs.getD i 0=(xn:Int):=⟨(xs.getD i 0).toNat,by have:=(H0.out.2.2.2.2.2.1 i).1;omega⟩
   have hxb:xn<=12:=by have:=hx12 i;omega
   rw[hxn] at z1
   have hfp:∀t,t<=1000->FitQ 3000 (powN (Ld.getD i 0) t)/\SmallQ (powN (Ld.getD i 0) t):=fun t ht=>by
    have:=zeh (hld.fitl i hlt) t
    exact⟨this.more (by omega),this.smallQ (by omega)⟩
   have hf2:FitQ 3000 (wtQ (fun i=>Ld.getD i 0) xs i*powN (Ld.getD i 0) xn):=by
    have h1:=hld.wt_fit xs hx12 (i+1) (by omega)
    rw[zb4,wfQ,hxn,Int.toNat_natCast] at h1
    exact h1.more (by omega)
   have HF:=hide (ai hfp (ai ((hld.wt_fit xs hx12 i (by omega)).more (show 25*i+1<=3000 by omega)) hf2))
   have HXI:=hide hxn
   obtain⟨W3,hW3⟩:∃W3,W3=wr.alloc (.cells #[.bool s2,.slice A2 n2 c2,.slice B2 m2 d2] 43):=⟨_,rfl⟩
   have hb3:Below wr.heap.size wr W3:=by rw[hW3];exact za (blr _ _) _
   have hbx:W3.heap[wr.heap.size]?=some (.cells #[.bool s2,.slice A2 n2 c2,.slice B2 m2 d2] 43):=by rw[hW3];exact zj _ _
   have hS:∀w',Below W3.heap.size W3 w'->(w'.cell? ⟨w1.heap.size,0,none⟩=some (.bool s1)/\w'.cell? ⟨w1.heap.size,1,none⟩=some (.slice A1 n1 c1)/\w'.cell? ⟨w1.heap.size,2,none⟩=some (.slice B1 m1 d1))/\(w'.cell? ⟨wr.heap.size,0,none⟩=some (.bool s2)/\w'.cell? ⟨wr.heap.size,1,none⟩=some (.slice A2 n2 c2)/\w'.cell? ⟨wr.heap.size,2,none⟩=some (.slice B2 m2 d2))/\w'.cell? ⟨w.heap.size,i,none⟩=some (.int .i64 (xn:Int)):=fun w' h=>by
    have e:∀b o v,wr.cell? ⟨b,o,none⟩=some v->w'.cell? ⟨b,o,none⟩=some v:=fun b o v hv=>((bnx hb3 h).cell (zf hv)).trans hv
    obtain⟨x0,x1,x2⟩:=zk (at_later hbx h)
    exact⟨⟨e _ _ _ e3,e _ _ _ e4,e _ _ _ e5⟩,⟨x0,x1,x2⟩,e _ _ _ z1⟩
   have hdr:Below W3.heap.size W3 W3.drew:=(blr _ _).drew
   have HSS:=hide hS
   have HQ:=hide (ai (hq0.below hb3) (hq1.below hb3))
   have HI:=hide (ai (hacc.below hb3) (ai (hres.below hb3) (ai (hst.keep hb3) (hbel.trans (hb3.mono hbel.size)))))
   have HLr:=hide hW3
   have i1:(i:Int)<(Ld.length:Int):=by omega
   have i2:(i:Int)<8:=by omega
   clear hS hacc hres hst hbel hq0 hq1 hcl hcl1 e3 e4 e5 z1 hb3 hbx hW3 hfp hf2 hxn hx12 hh8
   go_upto_region 5 with fail
   rw[<-HLr.out]
   clear e0 e1 e2
   refine zv (fun w'=>(w'.cell? ⟨w1.heap.size,0,none⟩=some (.bool s1)/\w'.cell? ⟨w1.heap.size,1,none⟩=some (.slice A1 n1 c1)/\w'.cell? ⟨w1.heap.size,2,none⟩=some (.slice B1 m1 d1))/\(w'.cell? ⟨wr.heap.size,0,none⟩=some (.bool s2)/\w'.cell? ⟨wr.heap.size,1,none⟩=some (.slice A2 n2 c2)/\w'.cell? ⟨wr.heap.size,2,none⟩=some (.slice B2 m2 d2))/\w'.cell? ⟨w.heap.size,i,none⟩=some (.int .i64 (xn:Int))) [0,1,2,3,4,5,6,7,8,9,10] (by kernel_rfl) (HSS.out _ hdr) (fun hh=>?_)
   refine tt 2 hh 21 ?_
   try simp only[Act.put,ptA,ptB,ptC]
   refine tt 3 hh 22 ?_
   try simp only[Act.put,ptA,ptB,ptC]
   refine tt 0 hh 19 ?_
   try simp only[Act.put,ptA,ptB,ptC]
   refine tt 1 hh 20 ?_
   try simp only[Act.put,ptA,ptB,ptC]
   refine tt 4 hh 23 ?_
   try simp only[Act.put,ptA,ptB,ptC]
   refine zb (rs:=[5]) (by kernel_rfl) (by simp) ?_
   refine mem1 ?_
   refine zd rfl (fun K hK=>?_)
   go_simp
   go_at_call 24
   refine(zkh _ _ (Ld.getD i 0) xn 3000 (HQ.out.2.below hdr) (by omega) (by omega) (by omega) HF.out.1).mono ?_
   rintro e w1 ⟨v4,rfl,hdn⟩
   obtain⟨r4,rfl,hr4,hd⟩:=hdn.ok (HF.out.1 xn (by omega)).2
   obtain⟨s4,A4,n4,c4,B4,m4,d4,rfl⟩:=hr4.shape
   have H4:=hide hr4
   clear hr4 hdn
   have hg1:Below W3.heap.size W3 w1:=hdr.trans (hd.mono hdr.size)
   clear hd
   go_wp2_with fail
   refine hK.out _ _ (HSS.out _ hg1) (fun hh=>?_)
   clear hK K
   try simp only[Act.put,ptA,ptB,ptC]
   refine tt 6 hh 25 ?_
   try simp only[Act.put,ptA,ptB,ptC]
   refine tt 7 hh 26 ?_
   try simp only[Act.put,ptA,ptB,ptC]
   refine zb (rs:=[8]) (by kernel_rfl) (by simp) ?_
   refine mem1 ?_
   refine zd rfl (fun K hK=>?_)
   go_simp
   go_at_call 119
   refine(zc8 _ _ _ _ _ _ _ _).mono ?_
   rintro e w2 ⟨_,rfl,rfl,hd⟩
   replace H4:=hide (H4.out.below hd)
   have hg2:Below W3.heap.size W3 w2:=hg1.trans (hd.mono hg1.size)
   clear hd
   go_wp2_with fail
   refine hK.out _ _ (HSS.out _ hg2) (fun hh=>?_)
   clear hK K
   try simp only[Act.put,ptA,ptB,ptC]
   refine zb (rs:=[9]) (by kernel_rfl) (by simp) ?_
   refine mem1 ?_
   refine zd rfl (fun K hK=>?_)
   go_simp
   have HP3:=zbj (HQ.out.1.below hg2) (H4.out)
   have hg3:=za hg2 (.cells #[.bool s1,.slice A1 n1 c1,.slice B1 m1 d1,.bool s4,.slice A4 n4 c4,.slice B4 m4 d4] 43)
   have HP:=hide HP3
   clear HP3
   refine hK.out _ _ (HSS.out _ hg3) (fun hh=>?_)
   clear hK K
   try simp only[Act.put,ptA,ptB,ptC]
   refine zb (rs:=[10]) (by kernel_rfl) (by simp) ?_
   refine mem1 ?_
   refine zd rfl (fun K hK=>?_)
   go_simp
   go_at_call 84
   refine(zcS _ _ [wtQ (fun i=>Ld.getD i 0) xs i,powN (Ld.getD i 0) xn] 3000 HP.out (by omega) (by omega) (zcR (by omega) HF.out.2.1 HF.out.2.2)).mono ?_
   rintro e w4 ⟨v5,rfl,hr5,hd⟩
   replace hr5:RatV w4 v5 (wtQ (fun i=>Ld.getD i 0) xs (i+1)) 3000:=by rw[zb4,wfQ,HXI.out,Int.toNat_natCast,<-prod2];exact hr5
   obtain⟨s5,A5,n5,c5,B5,m5,d5,rfl⟩:=hr5.shape
   have H5:=hide hr5
   clear hr5
   have hg4:Below W3.heap.size W3 w4:=hg3.trans (hd.mono hg3.size)
   clear hd
   go_wp2_with fail
   refine hK.out _ _ (HSS.out _ hg4) (fun hh=>?_)
   clear hK K
   try simp only[Act.put,ptA,ptB,ptC]
   refine zQ (k:=11) (by rfl) (by rfl) (by kernel_rfl) ?_
   simp only[List.drop_succ_cons,List.drop_zero]
   clear hh
   have hoE:=HI.out.1.below hg4
   obtain⟨s',B1',m1',d1',B2',m2',d2',e0',e1',e2',-⟩:=(hoE.2 0 (by simp)).rat
   simp only[Nat.zero_mul,Nat.zero_add] at e0' e1' e2'
   have f0:=hoE.frozen 0
   have f1:=hoE.frozen 1
   have f2:=hoE.frozen 2
   have HG:=hide (ai hoE hg4)
   clear hoE
   go_wp2
   case roundEnd=>
    obtain⟨t1,t2,t3⟩:=HG.out.1.set3 (i:=0) (by simp) H5.out
    simp only[Nat.zero_mul,Nat.zero_add] at t1 t2 t3
    have hs3:=HI.out.2.2.2.size
    have hsG:=HG.out.2.size
    have hbl:=only_below (HI.out.2.2.2.trans (HG.out.2.mono hs3)) t3 (by omega) (by omega)
    refine⟨⟨i+1,by omega,by go_num,t1,?_,?_,hbl⟩,by simp[intOf];omega⟩
    ·exact(HI.out.2.1.below HG.out.2).same t2 (t3.block _ (by have:=HI.out.2.1.lt;omega) (by intro e;injection e with e;omega))
    ·exact(HI.out.2.2.1.keep HG.out.2).only t3 (by omega)
  ·obtain rfl:i=Ld.length:=by omega
   obtain⟨s5,A5,n5,c5,B5,m5,d5,e6,e7,e8,hr3⟩:=(hacc.2 0 (by simp)).rat
   obtain⟨_,_,_,_,_,_,_,x0,x1,x2,_⟩:=(hres.2 0 (by simp)).rat
   simp only[Nat.zero_mul,Nat.zero_add] at e6 e7 e8 x0 x1 x2
   simp only[List.getD_cons_zero] at hr3
   have f0:=hres.frozen 0
   have f1:=hres.frozen 1
   have f2:=hres.frozen 2
   have hlt2:=hres.lt
   have HH:=hide (ai (show RatV wr _ q 3000 by rw[<-H0.out.2.2.2.2.2.2];exact hr3) hbel)
   clear hacc hres hst hbel hr3
   go_wp2
   refine bodyPost_ret (v:=.agg #[.bool s5,.slice A5 n5 c5,.slice B5 m5 d5]) ?_ rfl ?_
   ·simp[results,Tryz.results138,go_sem,x0,x1,x2,hlt2]
   have hr:=HH.out.1
   obtain⟨rn,rl,e,r1,r2⟩:=hr
   injection e with e
   simp only[Array.mk.injEq,List.cons.injEq,Value.bool.injEq,and_true] at e
   obtain⟨rfl,rfl,rfl⟩:=e
   exact⟨_,rfl,⟨_,_,rfl,r1.set3 x0 x1 x2,r2.set3 x0 x1 x2⟩,zm HH.out.2 (by omega) _ _ _⟩
def chQ (l:Nat->Rat) (s:Nat) (xs:List Int):Rat:=wtQ l xs s / gN l s xs.sum.toNat
theorem ze6 {xs:List Int} (h:∀x∈xs,0<=x/\x<=12) (j:Nat):0<=xs.getD j 0/\xs.getD j 0<=12:=by
 by_cases hj:j<xs.length
 ·refine h _ ?_
  rw[show xs.getD j 0=xs[j] by simp[List.getD,hj]]
  exact List.getElem_mem hj
 ·rw[show xs.getD j 0=0 by simp[List.getD,show xs[j]?=none from List.getElem?_eq_none (by omega)]]
  omega
theorem zmZ {xs:List Int} (h:∀x∈xs,0<=x/\x<=12):0<=xs.sum:=zdW (fun x hx=>(h x hx).1)
theorem zjd {ks:List Int} (h:∀x∈ks,0<=x) (hs:ks.sum<=12):∀x∈stOf ks,0<=x/\x<=12:=by
 intro x hx
 unfold stOf at hx
 obtain⟨j,-,rfl⟩:=List.mem_map.1 hx
 by_cases hj:j<ks.length
 ·have h1:=zah ks j hj
  have h2:=zal h j
  have h3:=zal h (j+1)
  have h4:0<=ks.getD j 0:=h _ (by rw[show ks.getD j 0=ks[j] by simp[List.getD,hj]];exact List.getElem_mem hj)
  omega
 ·rw[show ks.getD j 0=0 by simp[List.getD,show ks[j]?=none from List.getElem?_eq_none (by omega)]]
  omega
theorem zdT (ks:List Int):∀n,((List.range n).map fun j=>ks.getD j 0).sum=(ks.take n).sum
 | 0=>by simp
 | n+1=>by
  rw[List.range_succ,List.map_append,List.sum_append,zdT ks n]
  by_cases hj:n<ks.length
  ·rw[zah ks n hj];simp
  ·rw[List.take_of_length_le (show ks.length<=n by omega),List.take_of_length_le (show ks.length<=n+1 by omega)]
   simp[List.getD,show ks[n]?=none from List.getElem?_eq_none (by omega)]
theorem zg2 (ks:List Int) (h:ks.length<=8):(stOf ks).sum=ks.sum:=by
 unfold stOf
 rw[zdT,List.take_of_length_le h]
theorem zaj.ch_fit {s:Nat} {l:Nat->Rat} (h:zaj s l) (xs:List Int) (hx:∀x∈xs,0<=x/\x<=12) (hs:xs.sum<=12):FitQ 260 (chQ l s xs):=by
 have h8:=h.s8
 have h1:=(h.wt_fit xs (fun j=>(ze6 hx j).2) s (nr _)).divA (h.fitg s xs.sum.toNat (nr _) (by omega)) (h.g_ne _)
 exact h1.more (by omega)
set_option maxHeartbeats 4000000 in
theorem zlG (w:World) (gx:Nat) (xs:List Int) (h8:xs.length=8) (hx0:∀x∈xs,0<=x/\x<=12) (hsum:xs.sum<=12) (R V Ld:List Rat) (Ws:List (List Rat)) (hx:zbt w gx R Ws V Ld 3000) (hld:zaj Ld.length (fun i=>Ld.getD i 0)):
  Calls Tryz.prog 85 #[.pointer (some ⟨gx,0,none⟩),stV xs] w (Ret (ratR w (chQ (fun i=>Ld.getD i 0) Ld.length xs) 3000)):=by
 generalize hq:chQ (fun i=>Ld.getD i 0) Ld.length xs=q
 have hsn:=zmZ hx0
 have HF:=hide (hld.ch_fit xs hx0 hsum)
 obtain⟨n,hn⟩:∃n:Nat,xs.sum=(n:Int):=⟨xs.sum.toNat,by omega⟩
 have hn12:n<=12:=by omega
 have HQ:=hide (show wtQ (fun i=>Ld.getD i 0) xs Ld.length / gN (fun i=>Ld.getD i 0) Ld.length n=q by rw[<-hq,chQ,hn,Int.toNat_natCast])
 have HXN:=hide hn
 clear hq hn hsn
 obtain⟨x0,x1,x2,x3,x4,x5,x6,x7,rfl⟩:=eight h8
 obtain⟨W,hW⟩:∃W,W=(w.alloc (.cells #[.int .i64 x0,.int .i64 x1,.int .i64 x2,.int .i64 x3,.int .i64 x4,.int .i64 x5,.int .i64 x6,.int .i64 x7] 116)).alloc (.cells #[.bool false,.slice none 0 0,.slice none 0 0] 43):=⟨_,rfl⟩
 have hb0:Below w.heap.size w W:=by rw[hW];exact za (za (blr _ _) _) _
 have hbs:Blk W w.heap.size 116 .i64 [x0,x1,x2,x3,x4,x5,x6,x7]:=by rw[hW];exact(Blk.new w 116 .i64 [x0,x1,x2,x3,x4,x5,x6,x7]).keep (za (blr _ _) _)
 have hbr:W.heap[w.heap.size+1]?=some (.cells #[.bool false,.slice none 0 0,.slice none 0 0] 43):=by rw[hW];exact zu _ (by simp)
 have y0:W.cell? ⟨w.heap.size,0,none⟩=some (.int .i64 x0):=hbs.cell (j:=0) (by simp)
 have y1:W.cell? ⟨w.heap.size,1,none⟩=some (.int .i64 x1):=hbs.cell (j:=1) (by simp)
 have y2:W.cell? ⟨w.heap.size,2,none⟩=some (.int .i64 x2):=hbs.cell (j:=2) (by simp)
 have y3:W.cell? ⟨w.heap.size,3,none⟩=some (.int .i64 x3):=hbs.cell (j:=3) (by simp)
 have y4:W.cell? ⟨w.heap.size,4,none⟩=some (.int .i64 x4):=hbs.cell (j:=4) (by simp)
 have y5:W.cell? ⟨w.heap.size,5,none⟩=some (.int .i64 x5):=hbs.cell (j:=5) (by simp)
 have y6:W.cell? ⟨w.heap.size,6,none⟩=some (.int .i64 x6):=hbs.cell (j:=6) (by simp)
 have y7:W.cell? ⟨w.heap.size,7,none⟩=some (.int .i64 x7):=hbs.cell (j:=7) (by simp)
 have hz:=hbs.lt
 have H0:=hide (ai hb0 (ai hbs (ai hbr (ai (hx.below hb0) hx0))))
 have HL:=hide hW
 rw[show stV [x0,x1,x2,x3,x4,x5,x6,x7]=.agg #[.int .i64 x0,.int .i64 x1,.int .i64 x2,.int .i64 x3,.int .i64 x4,.int .i64 x5,.int .i64 x6,.int .i64 x7] from rfl]
 clear hx hb0 hbs hbr hW hx0
 go_enter Tryz.func85,Tryz.ntmps85
 go_upto_region 1 with fail
 rw[<-HL.out]
 go_wp2_with fail
 refine(znO _ [x0,x1,x2,x3,x4,x5,x6,x7] h8 (fun x hx=>⟨(H0.out.2.2.2.2 x hx).1,by have:=(H0.out.2.2.2.2 x hx).2;omega⟩)).mono ?_
 rintro e w1 ⟨_,rfl,rfl,hd1⟩
 rw[HXN.out]
 have hbs1:=H0.out.2.1.keep hd1
 clear y0 y1 y2 y3 y4 y5 y6 y7
 have y0:w1.cell? ⟨w.heap.size,0,none⟩=some (.int .i64 x0):=hbs1.cell (j:=0) (by simp)
 have y1:w1.cell? ⟨w.heap.size,1,none⟩=some (.int .i64 x1):=hbs1.cell (j:=1) (by simp)
 have y2:w1.cell? ⟨w.heap.size,2,none⟩=some (.int .i64 x2):=hbs1.cell (j:=2) (by simp)
 have y3:w1.cell? ⟨w.heap.size,3,none⟩=some (.int .i64 x3):=hbs1.cell (j:=3) (by simp)
 have y4:w1.cell? ⟨w.heap.size,4,none⟩=some (.int .i64 x4):=hbs1.cell (j:=4) (by simp)
 have y5:w1.cell? ⟨w.heap.size,5,none⟩=some (.int .i64 x5):=hbs1.cell (j:=5) (by simp)
 have y6:w1.cell? ⟨w.heap.size,6,none⟩=some (.int .i64 x6):=hbs1.cell (j:=6) (by simp)
 have y7:w1.cell? ⟨w.heap.size,7,none⟩=some (.int .i64 x7):=hbs1.cell (j:=7) (by simp)
 have H1:=hide (ai hd1 True.intro)
 clear hd1 hbs1
 go_wp2_with fail
 refine(zlF _ gx [x0,x1,x2,x3,x4,x5,x6,x7] h8 (ze6 H0.out.2.2.2.2) R V Ld Ws (H0.out.2.2.2.1.below H1.out.1) hld).mono ?_
 rintro e w2 ⟨v2,rfl,hr2,hd2⟩
 obtain⟨s2,A2,n2,c2,B2,m2,d2,rfl⟩:=hr2.shape
 have H2:=hide (ai hr2 (bnx H1.out.1 hd2))
 clear hr2 hd2 y0 y1 y2 y3 y4 y5 y6 y7
 go_wp2_with fail
 refine(zcW _ gx n 3000 R V Ld Ws (H0.out.2.2.2.1.below H2.out.2) hld hn12 (by omega) (by omega)).mono ?_
 rintro e w3 ⟨vg,rfl,hvg,hd3⟩
 obtain⟨Ag,cg,rfl,hcg,hmg,-⟩:=id hvg
 obtain⟨-,-,-,hcg1⟩:=hvg.at_
 rw[zaK] at hcg hcg1 ⊢
 obtain⟨bg,og,rfl,hcg2⟩:=hcg1 (by omega)
 obtain⟨s3,A3,n3,c3,B3,m3,d3,e6,e7,e8,hq3⟩:=(hcg2 n (by omega)).rat
 rw[zcC _ _ _ _ (by omega)] at hq3
 unfold maxLen at hmg
 have i2:(n:Int)<(n:Int)+1:=by omega
 have H3:=hide (ai (H2.out.1.below hd3) (ai hq3 (bnx H2.out.2 hd3)))
 clear hvg hd3 hq3 hcg1 hcg2
 go_wp2_with fail
 refine(zft _ _ _ (wtQ (fun i=>Ld.getD i 0) [x0,x1,x2,x3,x4,x5,x6,x7] Ld.length) (gN (fun i=>Ld.getD i 0) Ld.length n) 3000 3000 H3.out.1 H3.out.2.1 (by omega) (hld.g_ne n) (by rw[HQ.out];have h1:=HF.out;rw[chQ,HXN.out,Int.toNat_natCast,HQ.out] at h1;exact h1.more (by omega)) (by omega)).mono ?_
 rintro e w4 ⟨v6,rfl,hr6,hd4⟩
 replace hr6:RatV w4 v6 q 3000:=by rw[<-HQ.out];exact hr6
 obtain⟨s6,A6,n6,c6,B6,m6,d6,rfl⟩:=hr6.shape
 have hd5:=bnx H3.out.2.2 hd4
 have hrb:=at_later H0.out.2.2.1 hd5
 clear e6 e7 e8
 obtain⟨w0x,w1x,w2x⟩:=zk hrb
 obtain⟨f0,f1,f2⟩:=zA hrb
 have hlt:=lt_of_block hrb
 have HU:=hide (ai hr6 (bnx H0.out.1 hd5))
 clear hrb hr6 hd4 hd5
 go_wp2
 refine bodyPost_ret (v:=.agg #[.bool s6,.slice A6 n6 c6,.slice B6 m6 d6]) ?_ rfl ?_
 ·simp[results,Tryz.results85,go_sem,w0x,w1x,w2x,hlt]
 have hr:=HU.out.1
 obtain⟨rn,rl,e,r1,r2⟩:=hr
 injection e with e
 simp only[Array.mk.injEq,List.cons.injEq,Value.bool.injEq,and_true] at e
 obtain⟨rfl,rfl,rfl⟩:=e
 exact⟨_,rfl,⟨_,_,rfl,r1.set3 w0x w1x w2x,r2.set3 w0x w1x w2x⟩,zm HU.out.2 (by omega) _ _ _⟩
theorem zkj (w:World) (bx bs gx m:Nat) (xs:List Int) (h8:xs.length=8) (hx0:∀x∈xs,0<=x/\x<=12) (hsum:xs.sum<=12) (R:List Rat) (Ws:List (List Rat)) (hs:zW m R Ws) (hx:zaU w gx m R Ws) (hb1:w.heap[bx]?=some (.cells #[.pointer (some ⟨gx,0,none⟩)] 95 (0,0))) (hb2:Blk w bs 116 .i64 xs):
  Calls Tryz.prog 92 #[.pointer (some ⟨bx,0,none⟩),.pointer (some ⟨bs,0,none⟩)] w (Ret (ratR w (chQ (ldF m R Ws) m xs) 3000)):=by
 generalize hq:chQ (ldF m R Ws) m xs=q
 obtain⟨x0,x1,x2,x3,x4,x5,x6,x7,rfl⟩:=eight h8
 obtain⟨W,hW⟩:∃W,W=w.alloc (.cells #[.bool false,.slice none 0 0,.slice none 0 0] 43):=⟨_,rfl⟩
 have hb0:Below w.heap.size w W:=by rw[hW];exact za (blr _ _) _
 have hbr:W.heap[w.heap.size]?=some (.cells #[.bool false,.slice none 0 0,.slice none 0 0] 43):=by rw[hW];exact zj _ _
 have hb2':=hb2.keep hb0
 obtain⟨z0,-⟩:=zE (at_later hb1 hb0)
 have y0:W.cell? ⟨bs,0,none⟩=some (.int .i64 x0):=hb2'.cell (j:=0) (by simp)
 have y1:W.cell? ⟨bs,1,none⟩=some (.int .i64 x1):=hb2'.cell (j:=1) (by simp)
 have y2:W.cell? ⟨bs,2,none⟩=some (.int .i64 x2):=hb2'.cell (j:=2) (by simp)
 have y3:W.cell? ⟨bs,3,none⟩=some (.int .i64 x3):=hb2'.cell (j:=3) (by simp)
 have y4:W.cell? ⟨bs,4,none⟩=some (.int .i64 x4):=hb2'.cell (j:=4) (by simp)
 have y5:W.cell? ⟨bs,5,none⟩=some (.int .i64 x5):=hb2'.cell (j:=5) (by simp)
 have y6:W.cell? ⟨bs,6,none⟩=some (.int .i64 x6):=hb2'.cell (j:=6) (by simp)
 have y7:W.cell? ⟨bs,7,none⟩=some (.int .i64 x7):=hb2'.cell (j:=7) (by simp)
 have H0:=hide (ai hb0 (ai hbr (ai (zaU.below hx hb0) (ai hq hx0))))
 have HL:=hide hW
 have hlen:=hide hs.len
 clear hx hb0 hbr hW hq hb1 hb2 hb2' hx0
 go_enter Tryz.func92,Tryz.ntmps92
 go_upto_region 1 with fail
 rw[<-HL.out]
 go_wp2_with fail
 refine(zlG _ gx [x0,x1,x2,x3,x4,x5,x6,x7] h8 H0.out.2.2.2.2 hsum R _ (ldV m R Ws) Ws H0.out.2.2.1 hs.ld').mono ?_
 rintro e w1 ⟨v6,rfl,hr6,hd⟩
 replace hr6:RatV w1 v6 q 3000:=by rw[<-H0.out.2.2.2.1];rw[hs.len] at hr6;exact hr6
 obtain⟨s6,A6,n6,c6,B6,m6,d6,rfl⟩:=hr6.shape
 have hrb:=at_later H0.out.2.1 hd
 clear z0 y0 y1 y2 y3 y4 y5 y6 y7
 obtain⟨w0x,w1x,w2x⟩:=zk hrb
 obtain⟨f0,f1,f2⟩:=zA hrb
 have hlt:=lt_of_block hrb
 have HU:=hide (ai hr6 (bnx H0.out.1 hd))
 clear hrb hr6 hd
 go_wp2
 refine bodyPost_ret (v:=.agg #[.bool s6,.slice A6 n6 c6,.slice B6 m6 d6]) ?_ rfl ?_
 ·simp[results,Tryz.results92,go_sem,w0x,w1x,w2x,hlt]
 have hr:=HU.out.1
 obtain⟨rn,rl,e,r1,r2⟩:=hr
 injection e with e
 simp only[Array.mk.injEq,List.cons.injEq,Value.bool.injEq,and_true] at e
 obtain⟨rfl,rfl,rfl⟩:=e
 exact⟨_,rfl,⟨_,_,rfl,r1.set3 w0x w1x w2x,r2.set3 w0x w1x w2x⟩,zm HU.out.2 (by omega) _ _ _⟩
set_option maxHeartbeats 4000000 in
theorem zg3 (w:World) (v:Value) (m c:Nat) (A:Option Addr) (ks:List Int) (R:List Rat) (Ws:List (List Rat)) (hv:ShopV w v R Ws 3000) (hs:zW m R Ws) (hk:Arr w A .i64 ks) (hc:ks.length<=c) (hm:c<=maxLen) (hl:ks.length=m) (h0:∀x∈ks,0<=x) (hsum:ks.sum<=12):
  Calls Tryz.prog 33 #[v,.slice A ks.length c] w (Ret (okR w (chQ (ldF m R Ws) m (stOf ks)) 3000)):=by
 have hmf:=hmf0 Tryz.prog
 have HV:=hide hv
 obtain⟨va,vb,rfl,hR,hWs⟩:=hv
 obtain⟨A1,c1,rfl,-,-,-⟩:=id hR
 obtain⟨A2,c2,rfl,-,-,-⟩:=id hWs
 have hrl:=hide hs.ok.shop.rl
 have hm8:=hs.ok.shop.n8
 have hlh:=hide hl
 obtain⟨W,hWW⟩:∃W,W=(w.alloc (.cells #[.slice A1 R.length c1,.slice A2 Ws.length c2] 33)).alloc (.cells #[.bool false,.slice none 0 0,.slice none 0 0] 43):=⟨_,rfl⟩
 have hb0:Below w.heap.size w W:=by rw[hWW];exact za (za (blr _ _) _) _
 have hbr:W.heap[w.heap.size+1]?=some (.cells #[.bool false,.slice none 0 0,.slice none 0 0] 43):=by rw[hWW];exact zu _ (by simp)
 have H0:=hide (ai hb0 (ai hbr (ai (hk.below hb0) h0)))
 have HL:=hide hWW
 clear hR hWs hb0 hbr hWW hk h0 hl
 go_enter Tryz.func33,Tryz.ntmps33
 go_wp2_with fail
 rw[<-HL.out]
 refine(zcD _ _ R Ws 3000 m (HV.out.below H0.out.1) hs.ok).mono ?_
 rintro e w1 ⟨_,rfl,gx,rfl,hg,hx,hd1⟩
 obtain⟨W2,hW2⟩:∃W2,W2=w1.alloc (.cells #[.pointer (some ⟨gx,0,none⟩)] 95):=⟨_,rfl⟩
 have hb2:Below w1.heap.size w1 W2:=by rw[hW2];exact za (blr _ _) _
 have hbx:W2.heap[w1.heap.size]?=some (.cells #[.pointer (some ⟨gx,0,none⟩)] 95 (0,0)):=by rw[hW2];exact zj _ _
 have hd2:=bnx hd1 hb2
 obtain⟨y0,-⟩:=zE hbx
 have H2:=hide (ai hbx (ai (zaU.below hx hb2) (ai hd2 (bnx H0.out.1 hd2))))
 have HL2:=hide hW2
 clear hd1 hx hbx hb2 hd2 hW2
 go_upto_region 4 with fail
 rw[<-HL2.out]
 go_wp2_with fail
 refine(zky W2 gx 3000 c A 12 ks R _ _ Ws H2.out.2.1 (H0.out.2.2.1.below H2.out.2.2.1) hc hm (by rw[hlh.out,hrl.out]) (by rw[hrl.out];exact hm8) H0.out.2.2.2 hsum (by omega)).mono ?_
 rintro e w3 ⟨_,rfl,rfl,hd3⟩
 have h8:=zcX ks
 have hxb:∀x∈stOf ks,0<=x/\x<=12:=zjd H0.out.2.2.2 hsum
 have hxs:(stOf ks).sum<=12:=by rw[zg2 ks (by rw[hlh.out];exact hm8)];exact hsum
 generalize hq:chQ (ldF m R Ws) m (stOf ks)=q
 have hqr:∀w,ratR w q 3000=ratR w (chQ (ldF m R Ws) m (stOf ks)) 3000:=fun w=>by rw[hq]
 have HQR:=hide hqr
 have HQE:=hide hq
 clear hq hqr
 generalize stOf ks=xs at *
 obtain⟨x0,x1,x2,x3,x4,x5,x6,x7,rfl⟩:=eight h8
 rw[show stV [x0,x1,x2,x3,x4,x5,x6,x7]=.agg #[.int .i64 x0,.int .i64 x1,.int .i64 x2,.int .i64 x3,.int .i64 x4,.int .i64 x5,.int .i64 x6,.int .i64 x7] from rfl]
 obtain⟨W4,hW4⟩:∃W4,W4=w3.alloc (.cells #[.int .i64 x0,.int .i64 x1,.int .i64 x2,.int .i64 x3,.int .i64 x4,.int .i64 x5,.int .i64 x6,.int .i64 x7] 116):=⟨_,rfl⟩
 have hb4:Below w3.heap.size w3 W4:=by rw[hW4];exact za (blr _ _) _
 have hbs:Blk W4 w3.heap.size 116 .i64 [x0,x1,x2,x3,x4,x5,x6,x7]:=by rw[hW4];exact Blk.new w3 116 .i64 [x0,x1,x2,x3,x4,x5,x6,x7]
 have hd4:=bnx hd3 hb4
 have H4:=hide (ai (at_later H2.out.1 hd4) (ai (zaU.below H2.out.2.1 hd4) (ai hbs (ai (bnx H2.out.2.2.2 hd4) (ai (at_later H0.out.2.1 (bnx H2.out.2.2.1 hd4)) hxb)))))
 have HL4:=hide hW4
 clear hd3 hb4 hbs hd4 hW4 y0 hxb
 go_upto_region 7 with fail
 rw[<-HL4.out]
 go_wp2_with fail
 refine(zkz _ 92 #[.pointer (some ⟨w1.heap.size,0,none⟩),.pointer (some ⟨w3.heap.size,0,none⟩)] q 3000 (fun _ _=>by simp[go_sem]) (fun w' hb=>by rw[HQR.out];exact zkj w' _ _ gx m [x0,x1,x2,x3,x4,x5,x6,x7] h8 H4.out.2.2.2.2.2 hxs R Ws hs (zaU.below H4.out.2.1 hb) (at_later H4.out.1 hb) (H4.out.2.2.1.keep hb))).mono ?_
 rintro e w5 ⟨_,rfl,r,rfl,hr6,hd⟩
 obtain⟨s6,A6,n6,c6,B6,m6,d6,rfl⟩:=hr6.shape
 have hrb:=at_later H4.out.2.2.2.2.1 hd
 obtain⟨w0x,w1x,w2x⟩:=zk hrb
 obtain⟨f0,f1,f2⟩:=zA hrb
 have hlt:=lt_of_block hrb
 have HU:=hide (ai hr6 (bnx H4.out.2.2.2.1 hd))
 clear hrb hr6 hd
 go_wp2
 refine bodyPost_ret (v:=.tuple #[.agg #[.bool s6,.slice A6 n6 c6,.slice B6 m6 d6],.int .i64 0]) ?_ rfl ?_
 ·simp[results,Tryz.results33,go_sem,w0x,w1x,w2x,hlt]
 have hr:=HU.out.1
 obtain⟨rn,rl,e,r1,r2⟩:=hr
 injection e with e
 simp only[Array.mk.injEq,List.cons.injEq,Value.bool.injEq,and_true] at e
 obtain⟨rfl,rfl,rfl⟩:=e
 exact⟨_,rfl,_,rfl,by rw[HQE.out];exact⟨_,_,rfl,r1.set3 w0x w1x w2x,r2.set3 w0x w1x w2x⟩,zm HU.out.2 (by omega) _ _ _⟩
end Go.Proofs.YtpoahodnakhmiaaGreat
