import Derived.Test.YtpoahodnakhmiaaGreatQConst
set_option maxRecDepth 100000
namespace Go.Proofs.YtpoahodnakhmiaaGreat
set_option linter.unusedVariables false
set_option linter.unusedSimpArgs false
open Go.RowKit
set_option maxHeartbeats 4000000 in
theorem zcW (w:World) (gx n L:Nat) (R V Ld:List Rat) (Ws:List (List Rat)) (hx:zbt w gx R Ws V Ld L) (hld:zaj Ld.length (fun i=>Ld.getD i 0)) (hn:n<=12) (hL1:100<=L) (hL2:L<=3000):
  Calls Tryz.prog 64 #[.pointer (some ⟨gx,0,none⟩),.int .i64 (n:Int)] w (Ret (fun v w'=>RowV w' v (gL (fun i=>Ld.getD i 0) Ld.length n) L/\Below w.heap.size w w')):=by
 obtain⟨va,vb,vc,vd,hbox,-,-,-,hvL⟩:=hx.box
 obtain⟨A4,c4,rfl,hc4,hm4,-⟩:=id hvL
 have h8:=hld.s8
 have h0:=hld.s0
 unfold maxLen at hm4
 have hgl:=lt_of_block hbox
 have hmk:=zcy (n+1) (by omega)
 rw[show ((n+1:Nat):Int)=(n:Int)+1 from rfl] at hmk
 have gZero:(List.replicate (n+1) (0:Rat)).set 0 1=gL (fun i=>Ld.getD i 0) 0 n:=zm5 _ n
 obtain⟨W1,hW1⟩:∃W1,W1=((w.alloc (.cells #[.int .i64 (n:Int)] 3)).alloc (.cells (madeCells #[Value.bool false,.slice none 0 0,.slice none 0 0] ((n+1)*3)) 43)).alloc (.cells #[.slice (some ⟨w.heap.size+1,0,none⟩) (n+1) (n+1)] 30):=⟨_,rfl⟩
 have hb1:Below w.heap.size w W1:=by rw[hW1];exact za (za (za (blr _ _) _) _) _
 have hz1:RowC W1 (w.heap.size+1) (List.replicate (n+1) 0) L:=by
  have:=(zcx (w.alloc (.cells #[.int .i64 (n:Int)] 3)) (n+1) L).below (za (blr _ _) (.cells #[.slice (some ⟨w.heap.size+1,0,none⟩) (n+1) (n+1)] 30))
  rw[hW1];simpa using this
 have hbn1:W1.heap[w.heap.size]?=some (.cells #[.int .i64 (n:Int)] 3 (0,0)):=by
  have h1:=at_later (zj w (.cells #[.int .i64 (n:Int)] 3)) (za (za (blr _ _) (.cells (madeCells #[Value.bool false,.slice none 0 0,.slice none 0 0] ((n+1)*3)) 43)) (.cells #[.slice (some ⟨w.heap.size+1,0,none⟩) (n+1) (n+1)] 30))
  rw[hW1];exact h1
 have hbg1:W1.heap[w.heap.size+2]?=some (.cells #[.slice (some ⟨w.heap.size+1,0,none⟩) (n+1) (n+1)] 30 (0,0)):=by
  have h1:=zj ((w.alloc (.cells #[.int .i64 (n:Int)] 3)).alloc (.cells (madeCells #[Value.bool false,.slice none 0 0,.slice none 0 0] ((n+1)*3)) 43)) (.cells #[.slice (some ⟨w.heap.size+1,0,none⟩) (n+1) (n+1)] 30)
  rw[hW1];simpa using h1
 have hs1:W1.heap.size=w.heap.size+3:=by rw[hW1];simp
 have hS:∀w',Below W1.heap.size W1 w'->w'.cell? ⟨w.heap.size+2,0,none⟩=some (.slice (some ⟨w.heap.size+1,0,none⟩) (n+1) (n+1)):=fun w' h=>(zE (at_later hbg1 h)).1
 have hdr:Below W1.heap.size W1 W1.drew:=(blr _ _).drew
 have HSS:=hide hS
 have HX:=hide (ai hbox hvL)
 have H1:=hide (ai hb1 (ai hz1 (ai hbn1 hbg1)))
 have HL:=hide hW1
 have i1:(0:Int)<(n:Int)+1:=by omega
 clear hx hbox hvL hb1 hz1 hbn1 hbg1 hS hW1
 go_enter Tryz.func64,Tryz.ntmps64
 go_upto_region 2 with fail
 rw[<-HL.out]
 refine zv (fun w'=>w'.cell? ⟨w.heap.size+2,0,none⟩=some (.slice (some ⟨w.heap.size+1,0,none⟩) (n+1) (n+1))) [0,1,2] (by kernel_rfl) (HSS.out _ hdr) (fun hh=>?_)
 refine tt 0 hh 12 ?_
 try simp only[Act.put,ptA,ptB,ptC]
 refine zb (rs:=[1]) (by kernel_rfl) (by simp) ?_
 refine mem1 ?_
 refine zd rfl (fun K hK=>?_)
 go_simp
 go_at_call 20
 refine(zcu _ 1 (by omega) (by omega)).mono ?_
 rintro e w1 ⟨v3,rfl,hr3,hd⟩
 replace hr3:RatV w1 v3 1 L:=hr3.more (by omega)
 obtain⟨s3,B5,m5,d5,B6,m6,d6,rfl⟩:=hr3.shape
 have H3:=hide hr3
 clear hr3
 have hg1:Below W1.heap.size W1 w1:=hdr.trans (hd.mono hdr.size)
 clear hd
 go_wp2_with fail
 refine hK.out _ _ (HSS.out _ hg1) (fun hh=>?_)
 clear hK K
 try simp only[Act.put,ptA,ptB,ptC]
 refine tt 2 hh 14 ?_
 try simp only[Act.put,ptA,ptB,ptC]
 refine zQ (k:=3) (by rfl) (by rfl) (by kernel_rfl) ?_
 simp only[List.drop_succ_cons,List.drop_zero]
 clear hh
 have hzE:=H1.out.2.1.below hg1
 have hj3:0<(List.replicate (n+1) (0:Rat)).length:=by rw[List.length_replicate];omega
 obtain⟨s',B1',m1',d1',B2',m2',d2',e0',e1',e2',-⟩:=(hzE.2 0 hj3).rat
 simp only[Nat.zero_mul,Nat.zero_add] at e0' e1' e2'
 have f0:=hzE.frozen 0
 have f1:=hzE.frozen 1
 have f2:=hzE.frozen 2
 have HG:=hide (ai hzE hg1)
 clear hzE
 go_upto_region 3 with fail
 obtain⟨t1,t2,t3⟩:=HG.out.1.set3 (i:=0) hj3 H3.out
 simp only[Nat.zero_mul,Nat.zero_add] at t1 t2 t3
 rw[gZero] at t1
 have hW2s:W1.heap.size<=w1.heap.size:=HG.out.2.size
 have hbn2:=(t3.block w.heap.size (by omega) (by intro e;injection e with e;omega)).trans (at_later H1.out.2.2.1 HG.out.2)
 have hbg2:=(t3.block (w.heap.size+2) (by omega) (by intro e;injection e with e;omega)).trans (at_later H1.out.2.2.2 HG.out.2)
 have hb2:=only_below (H1.out.1.trans (HG.out.2.mono (by omega))) t3 (by omega) (by omega)
 obtain⟨W2,hW2⟩:∃W2,W2=((w1.setCell ⟨w.heap.size+1,0,none⟩ (.bool s3)).setCell ⟨w.heap.size+1,1,none⟩ (.slice B5 m5 d5)).setCell ⟨w.heap.size+1,2,none⟩ (.slice B6 m6 d6):=⟨_,rfl⟩
 rw[<-hW2] at t1 t2 t3 hbn2 hbg2 hb2 ⊢
 have H2:=hide (ai t1 (ai hbn2 (ai hbg2 hb2)))
 obtain⟨y0,y1,y2,y3,-⟩:=zq (at_later HX.out.1 hb2)
 clear t1 t2 t3 hbn2 hbg2 hb2 hW2 e0' e1' e2' f0 f1 f2 hj3
 go_wp2_with fail
 go_loopw [21] (fun s21 wr=>∃i:Nat,i<=Ld.length/\s21=.int .i64 i/\RowC wr (w.heap.size+1) (gL (fun i=>Ld.getD i 0) i n) L/\(wr.heap[w.heap.size]?=some (.cells #[.int .i64 (n:Int)] 3 (0,0))/\wr.heap[w.heap.size+2]?=some (.cells #[.slice (some ⟨w.heap.size+1,0,none⟩) (n+1) (n+1)] 30 (0,0)))/\Below w.heap.size w wr) (fun s21 _=>Ld.length-(intOf s21).toNat)
 case atStart=>exact⟨0,Nat.zero_le _,rfl,H2.out.1,⟨H2.out.2.1,H2.out.2.2.1⟩,H2.out.2.2.2⟩
 case round=>
  obtain⟨i,hi,rfl,hrow,⟨hbn,hbg⟩,hbel⟩:=hrel
  by_cases hlt:i<Ld.length
  ·obtain⟨-,-,-,hcl⟩:=(HX.out.2.below hbel).at_
   obtain⟨bl,ol,rfl,hcl1⟩:=hcl (by omega)
   obtain⟨s1,B1,m1,d1,B2,m2,d2,e0,e1,e2,hq1⟩:=(hcl1 i hlt).rat
   have i2:(i:Int)<(Ld.length:Int):=by omega
   obtain⟨W3,hW3⟩:∃W3,W3=wr.alloc (.cells #[.bool s1,.slice B1 m1 d1,.slice B2 m2 d2] 43):=⟨_,rfl⟩
   have hb3:Below wr.heap.size wr W3:=by rw[hW3];exact za (blr _ _) _
   have hbx:W3.heap[wr.heap.size]?=some (.cells #[.bool s1,.slice B1 m1 d1,.slice B2 m2 d2] 43):=by rw[hW3];exact zj _ _
   obtain⟨x0,x1,x2⟩:=zk hbx
   have HI:=hide (ai (hrow.below hb3) (ai (at_later hbn hb3) (ai (at_later hbg hb3) (ai (hbel.trans (hb3.mono hbel.size)) (hq1.below hb3)))))
   have HLr:=hide hW3
   clear hrow hbn hbg hbel hq1 hcl hcl1 hb3 hbx hW3
   go_wp2_with fail
   rw[<-HLr.out]
   refine(znL _ _ (fun i=>Ld.getD i 0) i n L (w.heap.size+1) w.heap.size (w.heap.size+2) (n+1) HI.out.2.2.2.2 HI.out.1 HI.out.2.1 HI.out.2.2.1 (by omega) (nr _) (by unfold maxLen;omega) (by omega) hL2 ((hld.fitl i hlt).more (by omega)) (fun t ht=>⟨(hld.fitg i t (by omega) (by omega)).more (by omega),(hld.fitg (i+1) t (by omega) (by omega)).more (by omega),(hld.lg_fit i (i+1) t hlt (by omega) (by omega)).more (by omega)⟩)).mono ?_
   rintro e w4 ⟨_,rfl,rfl,hr4,hk4,hg4⟩
   have hs3:w.heap.size+2<W3.heap.size:=lt_of_block HI.out.2.2.1
   have HH:=hide (ai hr4 (ai ((hg4.block w.heap.size (by omega) (by intro e;injection e with e;omega)).trans HI.out.2.1) (ai ((hg4.block (w.heap.size+2) (by omega) (by intro e;injection e with e;omega)).trans HI.out.2.2.1) (only_below HI.out.2.2.2.1 hg4 (by omega) (by omega)))))
   clear hr4 hk4 hg4 x0 x1 x2 e0 e1 e2
   go_wp2
   case roundEnd=>
    exact⟨⟨i+1,by omega,by go_num,HH.out.1,⟨HH.out.2.1,HH.out.2.2.1⟩,HH.out.2.2.2⟩,by simp[intOf];omega⟩
  ·obtain rfl:i=Ld.length:=by omega
   have hcg:=(zE hbg).1
   have HO:=hide (ai hrow hbel)
   clear hrow hbn hbg hbel
   go_wp2
   go_ret
   refine⟨_,rfl,?_,HO.out.2⟩
   have:=HO.out.1.row (c:=n+1) (by rw[zaK];exact nr _) (by unfold maxLen;omega)
   rwa[zaK] at this
set_option maxHeartbeats 4000000 in
theorem zki (w:World) (gx i L:Nat) (k n:Int) (R V Ld:List Rat) (Ws:List (List Rat)) (hx:zbt w gx R Ws V Ld L) (hld:zaj Ld.length (fun i=>Ld.getD i 0)) (hi:i<Ld.length) (hn0:0<=n) (hn:n<=12) (hk:-9223372036854775808<=k) (hk2:k<9223372036854775808) (hL1:2100<=L) (hL2:L<=3000):
  Calls Tryz.prog 69 #[.pointer (some ⟨gx,0,none⟩),.int .i64 (i:Int),.int .i64 k,.int .i64 n] w (Ret (ratR w (atQ (fun i=>Ld.getD i 0) Ld.length i k n) L)):=by
 have h8:=hld.s8
 generalize hq:atQ (fun i=>Ld.getD i 0) Ld.length i k n=q
 obtain⟨W,hW⟩:∃W,W=w.alloc (.cells #[.bool false,.slice none 0 0,.slice none 0 0] 43):=⟨_,rfl⟩
 have hb0:Below w.heap.size w W:=by rw[hW];exact za (blr _ _) _
 have hbr:W.heap[w.heap.size]?=some (.cells #[.bool false,.slice none 0 0,.slice none 0 0] 43):=by rw[hW];exact zj _ _
 by_cases hk1:k<1
 ·obtain rfl:q=1:=by rw[<-hq];exact if_pos hk1
  clear hq
  have HL:=hide hW
  have HB:=hide (ai hb0 hbr)
  clear hW hb0 hbr
  go_enter Tryz.func69,Tryz.ntmps69
  go_wp2_with fail
  rw[<-HL.out]
  refine(zcu _ 1 (by omega) (by omega)).mono ?_
  rintro e w1 ⟨v6,rfl,hr6,hd⟩
  replace hr6:RatV w1 v6 1 L:=hr6.more (by omega)
  obtain⟨s6,A6,n6,c6,B6,m6,d6,rfl⟩:=hr6.shape
  have hrb:=at_later HB.out.2 hd
  obtain⟨x0,x1,x2⟩:=zk hrb
  obtain⟨f0,f1,f2⟩:=zA hrb
  have hlt:=lt_of_block hrb
  have HU:=hide (ai hr6 (bnx HB.out.1 hd))
  clear hrb hr6 hd
  go_wp2
  refine bodyPost_ret (v:=.agg #[.bool s6,.slice A6 n6 c6,.slice B6 m6 d6]) ?_ rfl ?_
  ·simp[results,Tryz.results69,go_sem,x0,x1,x2,hlt]
  have hr:=HU.out.1
  obtain⟨rn,rl,e,r1,r2⟩:=hr
  injection e with e
  simp only[Array.mk.injEq,List.cons.injEq,Value.bool.injEq,and_true] at e
  obtain⟨rfl,rfl,rfl⟩:=e
  exact⟨_,rfl,⟨_,_,rfl,r1.set3 x0 x1 x2,r2.set3 x0 x1 x2⟩,zm HU.out.2 (by omega) _ _ _⟩
 by_cases hkn:n<k
 ·obtain rfl:q=0:=by rw[<-hq];unfold atQ;rw[if_neg hk1,if_pos hkn]
  clear hq
  have HL:=hide hW
  have HB:=hide (ai hb0 hbr)
  obtain⟨x0,x1,x2⟩:=zk hbr
  obtain⟨f0,f1,f2⟩:=zA hbr
  have hlt:=lt_of_block hbr
  clear hW hb0 hbr
  go_enter Tryz.func69,Tryz.ntmps69
  go_wp2_with fail
  rw[<-HL.out]
  go_wp2
  refine bodyPost_ret (v:=.agg #[.bool false,.slice none 0 0,.slice none 0 0]) ?_ rfl ?_
  ·simp[results,Tryz.results69,go_sem,x0,x1,x2,hlt]
  exact⟨_,rfl,⟨_,_,rfl,NatV.nil _ _,NatV.nil _ _⟩,HB.out.1⟩
 ·obtain⟨nn,rfl⟩:∃nn:Nat,n=(nn:Int):=⟨n.toNat,by omega⟩
  obtain⟨kk,rfl⟩:∃kk:Nat,k=(kk:Int):=⟨k.toNat,by omega⟩
  have hat:q=powN (Ld.getD i 0) kk*gN (fun i=>Ld.getD i 0) Ld.length (nn-kk) / gN (fun i=>Ld.getD i 0) Ld.length nn:=by
   rw[<-hq]
   unfold atQ
   rw[if_neg (by omega),if_neg (by omega),show ((nn:Int)-(kk:Int)).toNat=nn-kk by omega,Int.toNat_natCast,Int.toNat_natCast]
  have HAT:=hide hat
  clear hat hq
  have hxW:=hx.below hb0
  have HL:=hide hW
  have HB0:=hide (ai hb0 (ai hbr hxW))
  clear hW hb0 hbr hxW hx
  go_enter Tryz.func69,Tryz.ntmps69
  go_wp2_with fail
  rw[<-HL.out]
  refine(zcW _ gx nn L R V Ld Ws HB0.out.2.2 hld (by omega) (by omega) hL2).mono ?_
  rintro e wg ⟨vg,rfl,hvg,hd⟩
  obtain⟨va,vb,vc,vd,hbox,-,-,-,hvL⟩:=(HB0.out.2.2.below hd).box
  obtain⟨A4,c4,rfl,hc4,hm4,-⟩:=id hvL
  obtain⟨-,-,-,hcl⟩:=hvL.at_
  obtain⟨bl,ol,rfl,hcl1⟩:=hcl (by omega)
  obtain⟨Ag,cg,rfl,hcg,hmg,-⟩:=id hvg
  obtain⟨-,-,-,hcg1⟩:=hvg.at_
  rw[zaK] at hcg hcg1 ⊢
  obtain⟨bg,og,rfl,hcg2⟩:=hcg1 (by omega)
  obtain⟨s1,A1,n1,c1,B1,m1,d1,e0,e1,e2,hq1⟩:=(hcl1 i hi).rat
  obtain⟨s2,A2,n2,c2,B2,m2,d2,e3,e4,e5,hq2⟩:=(hcg2 (nn-kk) (by omega)).rat
  obtain⟨s3,A3,n3,c3,B3,m3,d3,e6,e7,e8,hq3⟩:=(hcg2 nn (by omega)).rat
  rw[zcC _ _ _ _ (by omega)] at hq2 hq3
  unfold maxLen at hm4 hmg
  obtain⟨-,-,-,y3,-⟩:=zq hbox
  have hS:∀w',Below wg.heap.size wg w'->w'.cell? ⟨gx,3,none⟩=some (.slice (some ⟨bl,ol,none⟩) Ld.length c4)/\(w'.cell? ⟨bl,ol+i*3,none⟩=some (.bool s1)/\w'.cell? ⟨bl,ol+i*3+1,none⟩=some (.slice A1 n1 c1)/\w'.cell? ⟨bl,ol+i*3+2,none⟩=some (.slice B1 m1 d1))/\(w'.cell? ⟨bg,og+(nn-kk)*3,none⟩=some (.bool s2)/\w'.cell? ⟨bg,og+(nn-kk)*3+1,none⟩=some (.slice A2 n2 c2)/\w'.cell? ⟨bg,og+(nn-kk)*3+2,none⟩=some (.slice B2 m2 d2))/\(w'.cell? ⟨bg,og+nn*3,none⟩=some (.bool s3)/\w'.cell? ⟨bg,og+nn*3+1,none⟩=some (.slice A3 n3 c3)/\w'.cell? ⟨bg,og+nn*3+2,none⟩=some (.slice B3 m3 d3)):=fun w' h=>by
   have e:∀b o v,wg.cell? ⟨b,o,none⟩=some v->w'.cell? ⟨b,o,none⟩=some v:=fun b o v hv=>(h.cell (zf hv)).trans hv
   exact⟨e _ _ _ y3,⟨e _ _ _ e0,e _ _ _ e1,e _ _ _ e2⟩,⟨e _ _ _ e3,e _ _ _ e4,e _ _ _ e5⟩,e _ _ _ e6,e _ _ _ e7,e _ _ _ e8⟩
  have hdr:Below wg.heap.size wg wg.drew:=(blr _ _).drew
  have HSS:=hide hS
  have HQ:=hide (ai hq1 (ai hq2 hq3))
  have HB:=hide (ai (at_later HB0.out.2.1 hd) (bnx HB0.out.1 hd))
  have hfp:∀t,t<=1000->FitQ L (powN (Ld.getD i 0) t)/\SmallQ (powN (Ld.getD i 0) t):=fun t ht=>by
   have:=zeh (hld.fitl i hi) t
   exact⟨this.more (by omega),this.smallQ (by omega)⟩
  have HF:=hide (ai hfp (ai ((hld.p_fit i kk hi (by omega)).more (show 25<=L by omega)) (ai ((hld.pg_fit i kk (nn-kk) hi (by omega) (by omega)).more (show 49<=L by omega)) (((hld.pg_fit i kk (nn-kk) hi (by omega) (by omega)).divA (hld.fitg Ld.length nn (nr _) (by omega)) (hld.g_ne nn)).more (show 49+24+1<=L by omega)))))
  have i6:IntKind.i64.wrap ((nn:Int)-(kk:Int))=(nn:Int)-(kk:Int):=IntWalk.i64_in _ (by omega)
  have i1:(i:Int)<(Ld.length:Int):=by omega
  have i2:(nn:Int)<(nn:Int)+1:=by omega
  have i3:(nn:Int)-(kk:Int)<(nn:Int)+1:=by omega
  have i4:(0:Int)<=(nn:Int)-(kk:Int):=by omega
  have i5:((nn:Int)-(kk:Int)).toNat=nn-kk:=by omega
  clear hS hq1 hq2 hq3 hd hvL hvg hbox hcl hcl1 hcg1 hcg2 e0 e1 e2 e3 e4 e5 e6 e7 e8 y3 hfp
  go_upto_region 6 with fail
  refine zv (fun w'=>w'.cell? ⟨gx,3,none⟩=some (.slice (some ⟨bl,ol,none⟩) Ld.length c4)/\(w'.cell? ⟨bl,ol+i*3,none⟩=some (.bool s1)/\w'.cell? ⟨bl,ol+i*3+1,none⟩=some (.slice A1 n1 c1)/\w'.cell? ⟨bl,ol+i*3+2,none⟩=some (.slice B1 m1 d1))/\(w'.cell? ⟨bg,og+(nn-kk)*3,none⟩=some (.bool s2)/\w'.cell? ⟨bg,og+(nn-kk)*3+1,none⟩=some (.slice A2 n2 c2)/\w'.cell? ⟨bg,og+(nn-kk)*3+2,none⟩=some (.slice B2 m2 d2))/\(w'.cell? ⟨bg,og+nn*3,none⟩=some (.bool s3)/\w'.cell? ⟨bg,og+nn*3+1,none⟩=some (.slice A3 n3 c3)/\w'.cell? ⟨bg,og+nn*3+2,none⟩=some (.slice B3 m3 d3))) [0,1,2,3,4,5,6,7,8,9,10,11,12,13,14,15,16,17,18,19,20,21,22,23,24] (by kernel_rfl) (HSS.out _ hdr) (fun hh=>?_)
  refine tt 0 hh 22 ?_
  try simp only[Act.put,ptA,ptB,ptC]
  refine tt 1 hh 23 ?_
  try simp only[Act.put,ptA,ptB,ptC]
  refine tt 2 hh 24 ?_
  try simp only[Act.put,ptA,ptB,ptC]
  refine tt 4 hh 26 ?_
  try simp only[Act.put,ptA,ptB,ptC]
  refine tt 7 hh 29 ?_
  try simp only[Act.put,ptA,ptB,ptC]
  refine tt 12 hh 34 ?_
  try simp only[Act.put,ptA,ptB,ptC]
  refine tt 13 hh 35 ?_
  try simp only[Act.put,ptA,ptB,ptC]
  refine tt 14 hh 36 ?_
  try simp only[Act.put,ptA,ptB,ptC]
  refine tt 15 hh 37 ?_
  try simp only[Act.put,ptA,ptB,ptC]
  refine tt 16 hh 38 ?_
  try simp only[Act.put,ptA,ptB,ptC]
  refine tt 20 hh 42 ?_
  try simp only[Act.put,ptA,ptB,ptC]
  refine tt 21 hh 43 ?_
  try simp only[Act.put,ptA,ptB,ptC]
  refine tt 22 hh 44 ?_
  try simp only[Act.put,ptA,ptB,ptC]
  refine tt 3 hh 25 ?_
  try simp only[Act.put,ptA,ptB,ptC]
  refine tt 5 hh 27 ?_
  try simp only[Act.put,ptA,ptB,ptC]
  refine tt 6 hh 28 ?_
  try simp only[Act.put,ptA,ptB,ptC]
  refine tt 17 hh 39 ?_
  try simp only[Act.put,ptA,ptB,ptC]
  refine tt 23 hh 45 ?_
  try simp only[Act.put,ptA,ptB,ptC]
  refine zb (rs:=[8]) (by kernel_rfl) (by simp) ?_
  refine mem1 ?_
  refine zd rfl (fun K hK=>?_)
  go_simp
  go_at_call 24
  refine(zkh _ _ (Ld.getD i 0) kk L (HQ.out.1.below hdr) (by omega) (by omega) (by omega) HF.out.1).mono ?_
  rintro e w1 ⟨v4,rfl,hdn⟩
  obtain⟨r4,rfl,hr4,hd⟩:=hdn.ok (HF.out.1 kk (by omega)).2
  obtain⟨s4,A4,n4,c4,B4,m4,d4,rfl⟩:=hr4.shape
  have H4:=hide hr4
  clear hr4 hdn
  have hg1:Below wg.heap.size wg w1:=hdr.trans (hd.mono hdr.size)
  clear hd
  go_wp2_with fail
  refine hK.out _ _ (HSS.out _ hg1) (fun hh=>?_)
  clear hK K
  try simp only[Act.put,ptA,ptB,ptC]
  refine tt 9 hh 31 ?_
  try simp only[Act.put,ptA,ptB,ptC]
  refine tt 10 hh 32 ?_
  try simp only[Act.put,ptA,ptB,ptC]
  refine zb (rs:=[11]) (by kernel_rfl) (by simp) ?_
  refine mem1 ?_
  refine zd rfl (fun K hK=>?_)
  go_simp
  go_at_call 119
  refine(zc8 _ _ _ _ _ _ _ _).mono ?_
  rintro e w2 ⟨_,rfl,rfl,hd⟩
  replace H4:=hide (H4.out.below hd)
  have hg2:Below wg.heap.size wg w2:=hg1.trans (hd.mono hg1.size)
  clear hd
  go_wp2_with fail
  refine hK.out _ _ (HSS.out _ hg2) (fun hh=>?_)
  clear hK K
  try simp only[Act.put,ptA,ptB,ptC]
  refine zb (rs:=[18]) (by kernel_rfl) (by simp) ?_
  refine mem1 ?_
  refine zd rfl (fun K hK=>?_)
  go_simp
  have HP3:=zbj (H4.out) (HQ.out.2.1.below hg2)
  have hg3:=za hg2 (.cells #[.bool s4,.slice A4 n4 c4,.slice B4 m4 d4,.bool s2,.slice A2 n2 c2,.slice B2 m2 d2] 43)
  have HP:=hide HP3
  clear HP3
  refine hK.out _ _ (HSS.out _ hg3) (fun hh=>?_)
  clear hK K
  try simp only[Act.put,ptA,ptB,ptC]
  refine zb (rs:=[19]) (by kernel_rfl) (by simp) ?_
  refine mem1 ?_
  refine zd rfl (fun K hK=>?_)
  go_simp
  go_at_call 84
  refine(zcS _ _ [powN (Ld.getD i 0) kk,gN (fun i=>Ld.getD i 0) Ld.length (nn-kk)] L HP.out hL2 (by omega) (zcR (by omega) HF.out.2.1 HF.out.2.2.1)).mono ?_
  rintro e w4 ⟨v5,rfl,hr5,hd⟩
  replace hr5:RatV w4 v5 (powN (Ld.getD i 0) kk*gN (fun i=>Ld.getD i 0) Ld.length (nn-kk)) L:=by rw[<-prod2];exact hr5
  obtain⟨s5,A5,n5,c5,B5,m5,d5,rfl⟩:=hr5.shape
  have H5:=hide hr5
  clear hr5
  have hg4:Below wg.heap.size wg w4:=hg3.trans (hd.mono hg3.size)
  clear hd
  go_wp2_with fail
  refine hK.out _ _ (HSS.out _ hg4) (fun hh=>?_)
  clear hK K
  try simp only[Act.put,ptA,ptB,ptC]
  refine zb (rs:=[24]) (by kernel_rfl) (by simp) ?_
  refine mem1 ?_
  refine zd rfl (fun K hK=>?_)
  go_simp
  go_at_call 86
  refine(zft _ _ _ _ _ L L H5.out (HQ.out.2.2.below hg4) (by omega) (hld.g_ne nn) HF.out.2.2.2 hL2).mono ?_
  rintro e w5 ⟨v6,rfl,hr6,hd⟩
  obtain⟨s6,A6,n6,c6,B6,m6,d6,rfl⟩:=hr6.shape
  have H6:=hide hr6
  clear hr6
  have hg5:Below wg.heap.size wg w5:=hg4.trans (hd.mono hg4.size)
  clear hd
  go_wp2_with fail
  refine hK.out _ _ (HSS.out _ hg5) (fun hh=>?_)
  clear hK K
  try simp only[Act.put,ptA,ptB,ptC]
  refine zQ (k:=25) (by rfl) (by rfl) (by kernel_rfl) ?_
  simp only[List.drop_succ_cons,List.drop_zero]
  clear hh
  have hrb:=at_later HB.out.1 hg5
  obtain⟨x0,x1,x2⟩:=zk hrb
  obtain⟨f0,f1,f2⟩:=zA hrb
  have hlt:=lt_of_block hrb
  have HU:=hide (ai (show RatV _ _ q L by rw[HAT.out];exact H6.out) (HB.out.2.trans (hg5.mono HB.out.2.size)))
  clear hrb
  go_wp2
  refine bodyPost_ret (v:=.agg #[.bool s6,.slice A6 n6 c6,.slice B6 m6 d6]) ?_ rfl ?_
  ·simp[results,Tryz.results69,go_sem,x0,x1,x2,hlt]
  have hr:=HU.out.1
  obtain⟨rn,rl,e,r1,r2⟩:=hr
  injection e with e
  simp only[Array.mk.injEq,List.cons.injEq,Value.bool.injEq,and_true] at e
  obtain⟨rfl,rfl,rfl⟩:=e
  exact⟨_,rfl,⟨_,_,rfl,r1.set3 x0 x1 x2,r2.set3 x0 x1 x2⟩,zm HU.out.2 (by omega) _ _ _⟩
end Go.Proofs.YtpoahodnakhmiaaGreat
