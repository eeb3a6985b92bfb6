import Derived.Test.YtpoahodnakhmiaaGreatMeanR
set_option maxRecDepth 100000
namespace Go.Proofs.YtpoahodnakhmiaaGreat
set_option linter.unusedVariables false
set_option linter.unusedSimpArgs false
open Go.RowKit
set_option maxHeartbeats 8000000 in
theorem zk4 (w:World) (vs:Value) (R:List Rat) (Ws:List (List Rat)) (s n st:Nat) (k:Int) (hs:zaG w vs R Ws 3) (hS:zcq (s+1) R Ws) (hst:st<=s) (hn:n<=12):
  Calls Tryz.prog 36 #[vs,.int .i64 (st:Int),.int .i64 k,.int .i64 (n:Int)] w (Ret (qR w (atQ (ldF (s+1) R Ws) (s+1) st k n) 1000001)):=by
 have HV:=hide hs
 obtain⟨va,vb,rfl,hra,hwb⟩:=hs
 obtain⟨Ar,cr,rfl,hcr,hmr,-⟩:=id hra
 obtain⟨Aw,cw,rfl,hcw,hmw,-⟩:=id hwb
 unfold maxLen at hmr hmw
 obtain⟨W,hW⟩:∃W,W=(w.alloc (.cells #[.slice Ar R.length cr,.slice Aw Ws.length cw] 28)).alloc (.cells #[.bool false,.slice none 0 0,.bool false,.slice none 0 0] 55):=⟨_,rfl⟩
 have hb0:Below w.heap.size w W:=by rw[hW];exact za (za (blr _ _) _) _
 have hsb:W.heap[w.heap.size]?=some (.cells #[.slice Ar R.length cr,.slice Aw Ws.length cw] 28 (0,0)):=by rw[hW];exact zy (zg _ _) _
 have hrb:W.heap[w.heap.size+1]?=some (.cells #[.bool false,.slice none 0 0,.bool false,.slice none 0 0] 55 (0,0)):=by rw[hW];exact zv _ (by simp)
 have HL:=hide hW
 have hs3:=hS.m4
 have H0:=hide (ai hb0 (ai hsb (ai hrb (ai (HV.out.below hb0) (QRowE.below hra hb0)))))
 have hR:=hS.ok.ok.shop.rl
 have HS:=hide hS
 have hsW:=hb0.size
 obtain⟨y0,y1,-,-⟩:=ze hsb
 have hly:=lt_of_block hsb
 rw[hR] at hcr HL H0 y0 ⊢
 have HR:=hide hR
 clear hb0 hsb hrb hW hra hwb hR hS HV
 go_enter Tryz.func36,Tryz.ntmps36
 by_cases hk:k<1
 ·have e1:atQ (ldF (s+1) R Ws) (s+1) st k n=1:=if_pos hk
  rw[e1]
  clear e1
  go_upto_region 2 with fail
  rw[<-HL.out]
  clear HL
  go_wp2_with fail
  refine(zap _ 1 1 (by omega) (by omega) (by omega) (by omega) (by omega)).mono ?_
  rintro e w5 ⟨v5,rfl,hv5,hd5⟩
  rw[show Rat.divInt 1 1=(1:Rat) from Rat.num_divInt_den 1] at hv5
  replace hv5:QV w5 v5 1 1000001:=hv5.more (by omega)
  obtain⟨s5,A5,n5,c5,B5,m5,d5,rfl,-⟩:=hv5.parts
  have hr:=at_later H0.out.2.2.1 hd5
  have HN:=hide hv5
  have HB:=hide (bnx H0.out.1 hd5)
  clear y0 y1 hly hv5 hd5 H0
  obtain⟨r0,r1,r2,r3,rf0,rf1,rf2,rf3⟩:=zq hr
  have lr:=lt_of_block hr
  have HFIN:=hide (ai HN.out (ai hr HB.out))
  clear hr
  go_wp2
  refine bodyPost_ret (v:=.agg #[.bool s5,.slice A5 n5 c5,.bool false,.slice B5 m5 d5]) ?_ rfl ?_
  ·simp[results,Tryz.results36,go_sem,r0,r1,r2,r3,lr]
  exact⟨_,rfl,HFIN.out.1.put4 HFIN.out.2.1 (by decide),zJ HFIN.out.2.2 (by omega)⟩
 ·have hk2:¬(k<1):=hk
  go_upto_region 3 with fail
  rw[<-HL.out]
  clear HL
  go_wp2_with fail
  refine(zg7 _ _ R Ws s n st k H0.out.2.2.2.1 HS.out hst hn).mono ?_
  rintro e w5 ⟨v5,rfl,hv5,hd5⟩
  replace hv5:QV w5 v5 (atQ (ldF (s+1) R Ws) (s+1) st k n) 1000001:=(show mnQ (ldF (s+1) R Ws) (s+1) st k n=atQ (ldF (s+1) R Ws) (s+1) st k n from if_pos (by omega))▸hv5
  obtain⟨s5,A5,n5,c5,B5,m5,d5,rfl,-⟩:=hv5.parts
  have hr:=at_later H0.out.2.2.1 hd5
  have HN:=hide hv5
  have HB:=hide (bnx H0.out.1 hd5)
  clear y0 y1 hly hv5 hd5 H0
  obtain⟨r0,r1,r2,r3,rf0,rf1,rf2,rf3⟩:=zq hr
  have lr:=lt_of_block hr
  have HFIN:=hide (ai HN.out (ai hr HB.out))
  clear hr
  go_wp2
  refine bodyPost_ret (v:=.agg #[.bool s5,.slice A5 n5 c5,.bool false,.slice B5 m5 d5]) ?_ rfl ?_
  ·simp[results,Tryz.results36,go_sem,r0,r1,r2,r3,lr]
  exact⟨_,rfl,HFIN.out.1.put4 HFIN.out.2.1 (by decide),zJ HFIN.out.2.2 (by omega)⟩
set_option maxHeartbeats 8000000 in
theorem zhK (w:World) (vs:Value) (R:List Rat) (Ws:List (List Rat)) (s n st:Nat) (hs:zaG w vs R Ws 3) (hS:zcq (s+1) R Ws) (hst:st<=s) (hn:n<=12):
  Calls Tryz.prog 38 #[vs,.int .i64 (st:Int),.int .i64 (n:Int)] w (Ret (qR w (lnQ (ldF (s+1) R Ws) (s+1) st n) 1000001)):=by
 have HV:=hide hs
 obtain⟨va,vb,rfl,hra,hwb⟩:=hs
 obtain⟨Ar,cr,rfl,hcr,hmr,-⟩:=id hra
 obtain⟨Aw,cw,rfl,hcw,hmw,-⟩:=id hwb
 unfold maxLen at hmr hmw
 obtain⟨W,hW⟩:∃W,W=(w.alloc (.cells #[.slice Ar R.length cr,.slice Aw Ws.length cw] 28)).alloc (.cells #[.bool false,.slice none 0 0,.bool false,.slice none 0 0] 55):=⟨_,rfl⟩
 have hb0:Below w.heap.size w W:=by rw[hW];exact za (za (blr _ _) _) _
 have hsb:W.heap[w.heap.size]?=some (.cells #[.slice Ar R.length cr,.slice Aw Ws.length cw] 28 (0,0)):=by rw[hW];exact zy (zg _ _) _
 have hrb:W.heap[w.heap.size+1]?=some (.cells #[.bool false,.slice none 0 0,.bool false,.slice none 0 0] 55 (0,0)):=by rw[hW];exact zv _ (by simp)
 have HL:=hide hW
 have hs3:=hS.m4
 have H0:=hide (ai hb0 (ai hsb (ai hrb (ai (HV.out.below hb0) (QRowE.below hra hb0)))))
 have hR:=hS.ok.ok.shop.rl
 have HS:=hide hS
 have hsW:=hb0.size
 obtain⟨y0,y1,-,-⟩:=ze hsb
 have hly:=lt_of_block hsb
 rw[hR] at hcr HL H0 y0 ⊢
 have HR:=hide hR
 clear hb0 hsb hrb hW hra hwb hR hS HV
 go_enter Tryz.func38,Tryz.ntmps38
 go_upto_region 1 with fail
 rw[<-HL.out]
 clear HL
 go_wp2_with fail
 refine(zg7 _ _ R Ws s n st 0 H0.out.2.2.2.1 HS.out hst hn).mono ?_
 rintro e w5 ⟨v5,rfl,hv5,hd5⟩
 replace hv5:QV w5 v5 (lnQ (ldF (s+1) R Ws) (s+1) st n) 1000001:=(show mnQ (ldF (s+1) R Ws) (s+1) st 0 n=lnQ (ldF (s+1) R Ws) (s+1) st n from if_neg (by omega))▸hv5
 obtain⟨s5,A5,n5,c5,B5,m5,d5,rfl,-⟩:=hv5.parts
 have hr:=at_later H0.out.2.2.1 hd5
 have HN:=hide hv5
 have HB:=hide (bnx H0.out.1 hd5)
 clear y0 y1 hly hv5 hd5 H0
 obtain⟨r0,r1,r2,r3,rf0,rf1,rf2,rf3⟩:=zq hr
 have lr:=lt_of_block hr
 have HFIN:=hide (ai HN.out (ai hr HB.out))
 clear hr
 go_wp2
 refine bodyPost_ret (v:=.agg #[.bool s5,.slice A5 n5 c5,.bool false,.slice B5 m5 d5]) ?_ rfl ?_
 ·simp[results,Tryz.results38,go_sem,r0,r1,r2,r3,lr]
 exact⟨_,rfl,HFIN.out.1.put4 HFIN.out.2.1 (by decide),zJ HFIN.out.2.2 (by omega)⟩
set_option maxHeartbeats 8000000 in
theorem ziQ (w:World) (vs:Value) (R:List Rat) (Ws:List (List Rat)) (s n st:Nat) (hs:zaG w vs R Ws 3) (hS:zcq (s+1) R Ws) (hst:st<=s) (hn:n<=12):
  Calls Tryz.prog 37 #[vs,.int .i64 (st:Int),.int .i64 (n:Int)] w (Ret (qR w (spQ (s+1) R Ws st n) 1000001)):=by
 have HV:=hide hs
 obtain⟨va,vb,rfl,hra,hwb⟩:=hs
 obtain⟨Ar,cr,rfl,hcr,hmr,-⟩:=id hra
 obtain⟨Aw,cw,rfl,hcw,hmw,-⟩:=id hwb
 unfold maxLen at hmr hmw
 obtain⟨W,hW⟩:∃W,W=(w.alloc (.cells #[.slice Ar R.length cr,.slice Aw Ws.length cw] 28)).alloc (.cells #[.bool false,.slice none 0 0,.bool false,.slice none 0 0] 55):=⟨_,rfl⟩
 have hb0:Below w.heap.size w W:=by rw[hW];exact za (za (blr _ _) _) _
 have hsb:W.heap[w.heap.size]?=some (.cells #[.slice Ar R.length cr,.slice Aw Ws.length cw] 28 (0,0)):=by rw[hW];exact zy (zg _ _) _
 have hrb:W.heap[w.heap.size+1]?=some (.cells #[.bool false,.slice none 0 0,.bool false,.slice none 0 0] 55 (0,0)):=by rw[hW];exact zv _ (by simp)
 have HL:=hide hW
 have hs3:=hS.m4
 have H0:=hide (ai hb0 (ai hsb (ai hrb (ai (HV.out.below hb0) (QRowE.below hra hb0)))))
 have hR:=hS.ok.ok.shop.rl
 have HS:=hide hS
 have hsW:=hb0.size
 obtain⟨y0,y1,-,-⟩:=ze hsb
 have hly:=lt_of_block hsb
 rw[hR] at hcr HL H0 y0 ⊢
 have HR:=hide hR
 clear hb0 hsb hrb hW hra hwb hR hS HV
 go_enter Tryz.func37,Tryz.ntmps37
 obtain⟨b1,o1,e1,hR1⟩:=QRowE.x H0.out.2.2.2.2 (by rw[HR.out];omega)
 obtain rfl:=e1
 have HR1:=hide hR1
 have i2:(st:Int)<(s:Int)+1:=by omega
 have i3:st<s+1:=by omega
 clear hR1
 go_upto_region 1 with fail
 rw[<-HL.out]
 clear HL y0 y1 hly
 have e21a:=(ze H0.out.2.1).1
 have e22a:=(ze H0.out.2.1).2.1
 obtain⟨s23,A23,n23,c23,B23,m23,d23,e23a,e23b,e23c,e23d,hq23⟩:=HR1.out (st) (by rw[HR.out];omega)
 have hS:∀w',Below W.heap.size W w'->w'.cell? ⟨w.heap.size,0,none⟩=some (.slice (some ⟨b1,o1,none⟩) (s+1) cr)/\w'.cell? ⟨w.heap.size,1,none⟩=some (.slice Aw Ws.length cw)/\(w'.cell? ⟨b1,o1+(st)*4,none⟩=some (.bool s23)/\w'.cell? ⟨b1,o1+(st)*4+1,none⟩=some (.slice A23 n23 c23)/\w'.cell? ⟨b1,o1+(st)*4+2,none⟩=some (.bool false)/\w'.cell? ⟨b1,o1+(st)*4+3,none⟩=some (.slice B23 m23 d23)):=fun w' h=>by
  have eC:∀b o v,W.cell? ⟨b,o,none⟩=some v->w'.cell? ⟨b,o,none⟩=some v:=fun b o v hv=>(h.cell (zf hv)).trans hv
  exact⟨eC _ _ _ e21a,eC _ _ _ e22a,⟨eC _ _ _ e23a,eC _ _ _ e23b,eC _ _ _ e23c,eC _ _ _ e23d⟩⟩
 have hdr:Below W.heap.size W W.drew:=(blr _ _).drew
 have HSS:=hide hS
 have HQS:=hide (ai hq23 trivial)
 clear hS e21a e22a e23a e23b e23c e23d hq23
 refine zA (fun w'=>w'.cell? ⟨w.heap.size,0,none⟩=some (.slice (some ⟨b1,o1,none⟩) (s+1) cr)/\w'.cell? ⟨w.heap.size,1,none⟩=some (.slice Aw Ws.length cw)/\(w'.cell? ⟨b1,o1+(st)*4,none⟩=some (.bool s23)/\w'.cell? ⟨b1,o1+(st)*4+1,none⟩=some (.slice A23 n23 c23)/\w'.cell? ⟨b1,o1+(st)*4+2,none⟩=some (.bool false)/\w'.cell? ⟨b1,o1+(st)*4+3,none⟩=some (.slice B23 m23 d23))) [0,1,2,3,4,5,6,7,8,9] (by kernel_rfl) (HSS.out _ hdr) (fun hh=>?_)
 refine tt 0 hh 7 ?_
 try simp only[Act.put,ptA,ptB,ptC]
 refine tt 2 hh 9 ?_
 try simp only[Act.put,ptA,ptB,ptC]
 refine tt 6 hh 13 ?_
 try simp only[Act.put,ptA,ptB,ptC]
 refine tt 7 hh 14 ?_
 try simp only[Act.put,ptA,ptB,ptC]
 refine tt 1 hh 8 ?_
 try simp only[Act.put,ptA,ptB,ptC]
 refine tt 3 hh 10 ?_
 try simp only[Act.put,ptA,ptB,ptC]
 refine tt 4 hh 11 ?_
 try simp only[Act.put,ptA,ptB,ptC]
 refine tt 5 hh 12 ?_
 try simp only[Act.put,ptA,ptB,ptC]
 refine zb (rs:=[8]) (by kernel_rfl) (by simp) ?_
 refine mem1 ?_
 refine zd rfl (fun K hK=>?_)
 go_simp
 go_at_call 96
 refine(zg7 _ _ R Ws s n st 1 (H0.out.2.2.2.1.below hdr) HS.out hst hn).mono ?_
 rintro e w1 ⟨u1,rfl,hu1,hd⟩
 replace hu1:QV w1 u1 (atQ (ldF (s+1) R Ws) (s+1) st 1 n) 1000001:=(show mnQ (ldF (s+1) R Ws) (s+1) st 1 n=_ from if_pos (by omega))▸hu1
 obtain⟨s1,A1,n1,c1,B1,m1,d1,rfl,-⟩:=hu1.parts
 have HM:=hide hu1
 clear hu1
 have hg1:Below W.heap.size W w1:=hdr.trans (hd.mono hdr.size)
 clear hd
 go_wp2_with fail
 refine hK.out _ _ (HSS.out _ hg1) (fun hh=>?_)
 clear hK K
 try simp only[Act.put,ptA,ptB,ptC]
 refine zb (rs:=[9]) (by kernel_rfl) (by simp) ?_
 refine mem1 ?_
 refine zd rfl (fun K hK=>?_)
 go_simp
 go_at_call 88
 refine(zcM _ _ _ (R.getD st 0) (atQ (ldF (s+1) R Ws) (s+1) st 1 n) 1000001 ((HQS.out.1.below hg1).more (by omega)) HM.out (by omega)).mono ?_
 rintro e w2 ⟨u2,rfl,hu2,hd⟩
 replace hu2:=((show QV w2 u2 (spQ (s+1) R Ws st n) _ from hu2).fitQ (((HS.out.ok.rf st (by omega)).mulA (HS.out.ok.ld.at_fit st 1 n (by omega) (by omega))).more (show 10+74<=100 by omega))).more (show 2*100+1<=1000001 by omega)
 obtain⟨s2,A2,n2,c2,B2,m2,d2,rfl,-⟩:=hu2.parts
 have HN:=hide hu2
 clear hu2 HM
 have hg2:Below W.heap.size W w2:=hg1.trans (hd.mono hg1.size)
 clear hd
 go_wp2_with fail
 refine hK.out _ _ (HSS.out _ hg2) (fun hh=>?_)
 clear hK K
 try simp only[Act.put,ptA,ptB,ptC]
 refine zG (k:=10) (by rfl) (by rfl) (by kernel_rfl) ?_
 simp only[List.drop_succ_cons,List.drop_zero]
 clear hh
 have hr:=at_later H0.out.2.2.1 hg2
 have HB:=hide (bnx H0.out.1 hg2)
 obtain⟨r0,r1,r2,r3,rf0,rf1,rf2,rf3⟩:=zq hr
 have lr:=lt_of_block hr
 have HFIN:=hide (ai HN.out (ai hr HB.out))
 clear hr
 go_wp2
 refine bodyPost_ret (v:=.agg #[.bool s2,.slice A2 n2 c2,.bool false,.slice B2 m2 d2]) ?_ rfl ?_
 ·simp[results,Tryz.results37,go_sem,r0,r1,r2,r3,lr]
 exact⟨_,rfl,HFIN.out.1.put4 HFIN.out.2.1 (by decide),zJ HFIN.out.2.2 (by omega)⟩
set_option maxHeartbeats 8000000 in
theorem znV (w:World) (vs:Value) (R:List Rat) (Ws:List (List Rat)) (s n st:Nat) (hs:zaG w vs R Ws 3) (hS:zcq (s+1) R Ws) (hst:st<=s) (hn:n<=12):
  Calls Tryz.prog 39 #[vs,.int .i64 (st:Int),.int .i64 (n:Int)] w (Ret (qR w (tmQ (s+1) R Ws st n) 1000001)):=by
 have HV:=hide hs
 obtain⟨va,vb,rfl,hra,hwb⟩:=hs
 obtain⟨Ar,cr,rfl,hcr,hmr,-⟩:=id hra
 obtain⟨Aw,cw,rfl,hcw,hmw,-⟩:=id hwb
 unfold maxLen at hmr hmw
 obtain⟨W,hW⟩:∃W,W=(w.alloc (.cells #[.slice Ar R.length cr,.slice Aw Ws.length cw] 28)).alloc (.cells #[.bool false,.slice none 0 0,.bool false,.slice none 0 0] 55):=⟨_,rfl⟩
 have hb0:Below w.heap.size w W:=by rw[hW];exact za (za (blr _ _) _) _
 have hsb:W.heap[w.heap.size]?=some (.cells #[.slice Ar R.length cr,.slice Aw Ws.length cw] 28 (0,0)):=by rw[hW];exact zy (zg _ _) _
 have hrb:W.heap[w.heap.size+1]?=some (.cells #[.bool false,.slice none 0 0,.bool false,.slice none 0 0] 55 (0,0)):=by rw[hW];exact zv _ (by simp)
 have HL:=hide hW
 have hs3:=hS.m4
 have H0:=hide (ai hb0 (ai hsb (ai hrb (ai (HV.out.below hb0) (QRowE.below hra hb0)))))
 have hR:=hS.ok.ok.shop.rl
 have HS:=hide hS
 have hsW:=hb0.size
 obtain⟨y0,y1,-,-⟩:=ze hsb
 have hly:=lt_of_block hsb
 rw[hR] at hcr HL H0 y0 ⊢
 have HR:=hide hR
 clear hb0 hsb hrb hW hra hwb hR hS HV
 go_enter Tryz.func39,Tryz.ntmps39
 by_cases hk:n=0
 ·have e1:tmQ (s+1) R Ws st n=0:=if_pos (by omega)
  rw[e1]
  have hk2:((n:Int) == 0)=true:=by rw[hk];rfl
  clear e1 hk
  go_upto_region 2 with fail
  rw[<-HL.out]
  clear HL
  go_wp2_with fail
  refine(zap _ 0 1 (by omega) (by omega) (by omega) (by omega) (by omega)).mono ?_
  rintro e w5 ⟨v5,rfl,hv5,hd5⟩
  rw[show Rat.divInt 0 1=(0:Rat) from rfl] at hv5
  replace hv5:QV w5 v5 0 1000001:=hv5.more (by omega)
  obtain⟨s5,A5,n5,c5,B5,m5,d5,rfl,-⟩:=hv5.parts
  have hr:=at_later H0.out.2.2.1 hd5
  have HN:=hide hv5
  have HB:=hide (bnx H0.out.1 hd5)
  clear y0 y1 hly hv5 hd5 H0
  obtain⟨r0,r1,r2,r3,rf0,rf1,rf2,rf3⟩:=zq hr
  have lr:=lt_of_block hr
  have HFIN:=hide (ai HN.out (ai hr HB.out))
  clear hr
  go_wp2
  refine bodyPost_ret (v:=.agg #[.bool s5,.slice A5 n5 c5,.bool false,.slice B5 m5 d5]) ?_ rfl ?_
  ·simp[results,Tryz.results39,go_sem,r0,r1,r2,r3,lr]
  exact⟨_,rfl,HFIN.out.1.put4 HFIN.out.2.1 (by decide),zJ HFIN.out.2.2 (by omega)⟩
 ·have hk2:((n:Int) == 0)=false:=by rw[beq_eq_false_iff_ne];omega
  have HK:=hide hk
  clear hk
  go_upto_region 3 with fail
  rw[<-HL.out]
  clear HL y0 y1 hly
  have e21a:=(ze H0.out.2.1).1
  have e22a:=(ze H0.out.2.1).2.1
  have hS:∀w',Below W.heap.size W w'->w'.cell? ⟨w.heap.size,0,none⟩=some (.slice Ar (s+1) cr)/\w'.cell? ⟨w.heap.size,1,none⟩=some (.slice Aw Ws.length cw):=fun w' h=>by
   have eC:∀b o v,W.cell? ⟨b,o,none⟩=some v->w'.cell? ⟨b,o,none⟩=some v:=fun b o v hv=>(h.cell (zf hv)).trans hv
   exact⟨eC _ _ _ e21a,eC _ _ _ e22a⟩
  have hdr:Below W.heap.size W W.drew:=(blr _ _).drew
  have HSS:=hide hS
  have HQS:=hide (trivial)
  clear hS e21a e22a
  refine zA (fun w'=>w'.cell? ⟨w.heap.size,0,none⟩=some (.slice Ar (s+1) cr)/\w'.cell? ⟨w.heap.size,1,none⟩=some (.slice Aw Ws.length cw)) [0,1,2,3,4,5,6,7,8] (by kernel_rfl) (HSS.out _ hdr) (fun hh=>?_)
  refine tt 1 hh 11 ?_
  try simp only[Act.put,ptA,ptB,ptC]
  refine tt 2 hh 12 ?_
  try simp only[Act.put,ptA,ptB,ptC]
  refine tt 5 hh 15 ?_
  try simp only[Act.put,ptA,ptB,ptC]
  refine tt 6 hh 16 ?_
  try simp only[Act.put,ptA,ptB,ptC]
  refine tt 0 hh 10 ?_
  try simp only[Act.put,ptA,ptB,ptC]
  refine tt 4 hh 14 ?_
  try simp only[Act.put,ptA,ptB,ptC]
  refine zb (rs:=[3]) (by kernel_rfl) (by simp) ?_
  refine mem1 ?_
  refine zd rfl (fun K hK=>?_)
  go_simp
  go_at_call 38
  refine(zhK _ _ R Ws s n st (H0.out.2.2.2.1.below hdr) HS.out hst hn).mono ?_
  rintro e w1 ⟨u1,rfl,hu1,hd⟩
  obtain⟨s1,A1,n1,c1,B1,m1,d1,rfl,-⟩:=hu1.parts
  have HLN:=hide hu1
  clear hu1
  try (replace HSP:=hide (HSP.out.below hd))
  have hg1:Below W.heap.size W w1:=hdr.trans (hd.mono hdr.size)
  clear hd
  go_wp2_with fail
  refine hK.out _ _ (HSS.out _ hg1) (fun hh=>?_)
  clear hK K
  try simp only[Act.put,ptA,ptB,ptC]
  refine zb (rs:=[7]) (by kernel_rfl) (by simp) ?_
  refine mem1 ?_
  refine zd rfl (fun K hK=>?_)
  go_simp
  go_at_call 37
  refine(ziQ _ _ R Ws s n st (H0.out.2.2.2.1.below hg1) HS.out hst hn).mono ?_
  rintro e w2 ⟨u2,rfl,hu2,hd⟩
  obtain⟨s2,A2,n2,c2,B2,m2,d2,rfl,-⟩:=hu2.parts
  have HSP:=hide hu2
  clear hu2
  try (replace HLN:=hide (HLN.out.below hd))
  have hg2:Below W.heap.size W w2:=hg1.trans (hd.mono hg1.size)
  clear hd
  go_wp2_with fail
  refine hK.out _ _ (HSS.out _ hg2) (fun hh=>?_)
  clear hK K
  try simp only[Act.put,ptA,ptB,ptC]
  refine zb (rs:=[8]) (by kernel_rfl) (by simp) ?_
  refine mem1 ?_
  refine zd rfl (fun K hK=>?_)
  go_simp
  go_at_call 89
  refine(zew _ _ _ (lnQ (ldF (s+1) R Ws) (s+1) st n) (spQ (s+1) R Ws st n) 1000001 HLN.out HSP.out (by omega) (HS.out.ok.sp_ne2 st (by omega) n (by have:=HK.out;omega) (by omega))).mono ?_
  rintro e w3 ⟨u3,rfl,hu3,hd⟩
  replace hu3:=((show QV w3 u3 (lnQ (ldF (s+1) R Ws) (s+1) st n / spQ (s+1) R Ws st n) _ from hu3).fitQ (((HS.out.ok.ld.ln_fit2 st n (by omega) hn).divA ((HS.out.ok.rf st (by omega)).mulA (HS.out.ok.ld.at_fit st 1 n (by omega) (by omega))) (HS.out.ok.sp_ne2 st (by omega) n (by have:=HK.out;omega) (by omega))).more (show 350+(10+74)+1<=500 by omega))).more (show 2*500+1<=1000001 by omega)
  replace hu3:QV w3 u3 (tmQ (s+1) R Ws st n) 1000001:=(show tmQ (s+1) R Ws st n=lnQ (ldF (s+1) R Ws) (s+1) st n / spQ (s+1) R Ws st n from if_neg (by have:=HK.out;omega))▸hu3
  obtain⟨s3,A3,n3,c3,B3,m3,d3,rfl,-⟩:=hu3.parts
  have HN:=hide hu3
  clear hu3 HLN HSP
  have hg3:Below W.heap.size W w3:=hg2.trans (hd.mono hg2.size)
  clear hd
  go_wp2_with fail
  refine hK.out _ _ (HSS.out _ hg3) (fun hh=>?_)
  clear hK K
  try simp only[Act.put,ptA,ptB,ptC]
  refine zG (k:=9) (by rfl) (by rfl) (by kernel_rfl) ?_
  simp only[List.drop_succ_cons,List.drop_zero]
  clear hh
  have hr:=at_later H0.out.2.2.1 hg3
  have HB:=hide (bnx H0.out.1 hg3)
  obtain⟨r0,r1,r2,r3,rf0,rf1,rf2,rf3⟩:=zq hr
  have lr:=lt_of_block hr
  have HFIN:=hide (ai HN.out (ai hr HB.out))
  clear hr
  go_wp2
  refine bodyPost_ret (v:=.agg #[.bool s3,.slice A3 n3 c3,.bool false,.slice B3 m3 d3]) ?_ rfl ?_
  ·simp[results,Tryz.results39,go_sem,r0,r1,r2,r3,lr]
  exact⟨_,rfl,HFIN.out.1.put4 HFIN.out.2.1 (by decide),zJ HFIN.out.2.2 (by omega)⟩
theorem zk5 (w:World) (vs:Value) (R:List Rat) (Ws:List (List Rat)) (m n st:Nat) (k:Int) (hs:zaG w vs R Ws 3) (hS:zcq m R Ws) (hst:st<m) (hn:n<=12):
  Calls Tryz.prog 36 #[vs,.int .i64 (st:Int),.int .i64 k,.int .i64 (n:Int)] w (Ret (qR w (atQ (ldF m R Ws) m st k n) 1000001)):=by
 cases m with
 | zero=>omega
 | succ s=>exact zk4 w vs R Ws s n st k hs hS (by omega) hn
theorem zni (w:World) (vs:Value) (R:List Rat) (Ws:List (List Rat)) (m n st:Nat) (hs:zaG w vs R Ws 3) (hS:zcq m R Ws) (hst:st<m) (hn:n<=12):
  Calls Tryz.prog 37 #[vs,.int .i64 (st:Int),.int .i64 (n:Int)] w (Ret (qR w (spQ m R Ws st n) 1000001)):=by
 cases m with
 | zero=>omega
 | succ s=>exact ziQ w vs R Ws s n st hs hS (by omega) hn
theorem zme (w:World) (vs:Value) (R:List Rat) (Ws:List (List Rat)) (m n st:Nat) (hs:zaG w vs R Ws 3) (hS:zcq m R Ws) (hst:st<m) (hn:n<=12):
  Calls Tryz.prog 38 #[vs,.int .i64 (st:Int),.int .i64 (n:Int)] w (Ret (qR w (lnQ (ldF m R Ws) m st n) 1000001)):=by
 cases m with
 | zero=>omega
 | succ s=>exact zhK w vs R Ws s n st hs hS (by omega) hn
theorem znW (w:World) (vs:Value) (R:List Rat) (Ws:List (List Rat)) (m n st:Nat) (hs:zaG w vs R Ws 3) (hS:zcq m R Ws) (hst:st<m) (hn:n<=12):
  Calls Tryz.prog 39 #[vs,.int .i64 (st:Int),.int .i64 (n:Int)] w (Ret (qR w (tmQ m R Ws st n) 1000001)):=by
 cases m with
 | zero=>omega
 | succ s=>exact znV w vs R Ws s n st hs hS (by omega) hn
end Go.Proofs.YtpoahodnakhmiaaGreat
