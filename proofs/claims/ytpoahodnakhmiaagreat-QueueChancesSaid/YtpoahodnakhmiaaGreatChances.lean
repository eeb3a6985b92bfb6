import Derived.Test.YtpoahodnakhmiaaGreatChanG
set_option maxRecDepth 100000
namespace Go.Proofs.YtpoahodnakhmiaaGreat
set_option linter.unusedVariables false
set_option linter.unusedSimpArgs false
open Go.RowKit
set_option maxHeartbeats 8000000 in
theorem zh1 (w:World) (va vb vc:Value) (rs:List Int) (ws:List (List Int)) (T:TypeId) (ls:List Int) (ha:zao w va rs) (hb:zx T 1 zao w vb ws) (hc:zao w vc ls):
  Calls Tryz.prog 8 #[va,vb,vc] w (Ret (fun v w'=>v=.bool true/\Below w.heap.size w w')):=by
 obtain⟨A1,c1,rfl,hl1,hm1,-⟩:=ha.at_
 obtain⟨A2,c2,rfl,hl2,hm2,-⟩:=id hb
 obtain⟨A3,c3,rfl,hl3,hm3,-⟩:=hc.at_
 obtain⟨N,hN⟩:∃N,N=max 1 (min rs.length 4):=⟨_,rfl⟩
 have hN1:1<=N:=by omega
 have hN4:N<=4:=by omega
 have hN6:N<=6:=by omega
 unfold maxLen at hm3
 have hTS:=tameT N rs ws (by omega) hN6
 have hSG:=hTS.shopG
 have hRS:=hTS.refS hN4
 have hinv:=(hTS.ringE.sol (by rw[hTS.rowsE];exact hTS.sys)).1
 have hvp:=hTS.ringE.vis_pos (by rw[hTS.rowsE];exact hTS.sys)
 have hwf:∀i j,i<N->j<N->FitQ 10 (ent (tW N (cT N ws)) i j):=fun i j hi hj=>by
  rw[zbD N _ i j hi hj];exact(hTS.way_small i j hi hj).fit.more (by omega)
 obtain⟨R,hR⟩:∃R,R=tR N (aT rs) (bT rs):=⟨_,rfl⟩
 obtain⟨Ws,hWs⟩:∃Ws,Ws=tW N (cT N ws):=⟨_,rfl⟩
 have hgv:=hTS.give
 rw[<-hWs] at hinv hvp hwf
 rw[<-hR,<-hWs] at hSG hgv hRS
 have hRl:R.length=N:=by rw[hR];exact zcQ _ _ _
 have HRl:=hide hRl
 have H0:=hide (ai ha (ai hb hc))
 have HG:=hide hgv
 have HS:=hide hSG
 have HRS:=hide hRS
 have HM:=hide (ai hinv (ai hvp hwf))
 have HT:=hide (ai hN (ai hR hWs))
 clear ha hb hc hgv hSG hRS hTS hRl hN hR hWs hinv hvp hwf
 go_enter Tryz.func8,Tryz.ntmps8
 go_wp2_with fail
 refine(zn1 _ _ _ rs ws T 4 N H0.out.1 H0.out.2.1 (by omega) HT.out.1).mono ?_
 rintro e w1 ⟨v1,rfl,hv1,hd1⟩
 rw[<-HT.out.2.1,<-HT.out.2.2] at hv1
 have HV1:=hide hv1
 obtain⟨ra,wa,rfl,hra,hwa⟩:=hv1
 obtain⟨Ar,cr,rfl,hcr,hmr,-⟩:=id hra
 obtain⟨Aw,cw,rfl,-,-,-⟩:=id hwa
 obtain⟨W1,hW1⟩:∃W1,W1=w1.alloc (.cells #[.slice Ar R.length cr,.slice Aw Ws.length cw] 28):=⟨_,rfl⟩
 have hb1:Below w1.heap.size w1 W1:=by rw[hW1];exact za (blr _ _) _
 have hx1:W1.heap[w1.heap.size]?=some (.cells #[.slice Ar R.length cr,.slice Aw Ws.length cw] 28 (0,0)):=by rw[hW1];exact zj _ _
 have hd2:=bnx hd1 hb1
 have H1:=hide (ai (H0.out.2.2.below hd2) (ai hx1 (ai (HV1.out.below hb1) hd2)))
 have HL1:=hide hW1
 obtain⟨x0,x1,-,-⟩:=ze hx1
 have hl1x:=lt_of_block hx1
 clear hra hwa hd1 hb1 hx1 hd2 hW1 HV1
 go_upto_region 2 with fail
 rw[<-HL1.out]
 go_wp2_with fail
 refine(znM _ _ R Ws 3 H1.out.2.2.1 (by omega) HG.out.1 HG.out.2.1 HG.out.2.2.1 HG.out.2.2.2.1 HG.out.2.2.2.2).mono ?_
 rintro e w2 ⟨v2,rfl,hv2,hd3⟩
 replace hv2:=hv2.upS (show 1<=3000 by omega)
 have HV2:=hide hv2
 obtain⟨rb,wb,rfl,hrb,hwb⟩:=hv2
 obtain⟨Ab,cb,rfl,-,-,-⟩:=id hrb
 obtain⟨Ac,cc,rfl,-,-,-⟩:=id hwb
 obtain⟨W2,hW2⟩:∃W2,W2=w2.alloc (.cells #[.slice Ab R.length cb,.slice Ac Ws.length cc] 33):=⟨_,rfl⟩
 have hb2:Below w2.heap.size w2 W2:=by rw[hW2];exact za (blr _ _) _
 have hx2:W2.heap[w2.heap.size]?=some (.cells #[.slice Ab R.length cb,.slice Ac Ws.length cc] 33 (0,0)):=by rw[hW2];exact zj _ _
 have hd4:=bnx hd3 hb2
 have hxo:=at_later H1.out.2.1 hd4
 have H2:=hide (ai (H1.out.1.below hd4) (ai hxo (ai hx2 (ai (HV2.out.below hb2) (bnx H1.out.2.2.2 hd4)))))
 have HL2:=hide hW2
 clear x0 x1 hl1x
 obtain⟨x0,x1,-,-⟩:=ze hxo
 have hl1x:=lt_of_block hxo
 have HGV0:=hide (H1.out.2.2.1.below hd4)
 clear hrb hwb hd3 hb2 hx2 hd4 hxo hW2 HV2
 go_upto_region 3 with fail
 rw[<-HL2.out]
 rw[HRl.out] at x0 H1 H2 HL2 hcr HGV0 ⊢
 have HX:=hide H2.out.2.2.1
 have HO:=hide H2.out.2.1
 have HSV:=hide H2.out.2.2.2.1
 have HW:=hide H2.out.2.2.2.2
 have HC:=hide H2.out.1
 have HGV:=HGV0
 clear H2 H1 H0 HL1 HL2 HT x0 x1 hl1x HG HGV0 W1
 obtain⟨E,hE⟩:∃E,E=visV N (ent Ws):=⟨_,rfl⟩
 have hel:E.length=N:=by rw[hE];exact HS.out.vlen
 have hG:RefG N R E:=by rw[hE];exact HRS.out.refG
 have hle:ldR E R=ldF N R Ws:=by rw[hE];exact HS.out.ldR
 have HE:=hide hE
 have HG:=hide hG
 have HLE:=hide hle
 have HEL:=hide hel
 clear hE hG hle hel
 obtain⟨y0,y1,-,-⟩:=ze HX.out
 have hly:=lt_of_block HX.out
 go_wp2_with fail
 refine(zlO _ _ N R Ws HSV.out HS.out).mono ?_
 rintro e w101 ⟨_,rfl,r101,rfl,hr101,hd⟩
 rw[<-HE.out] at hr101
 obtain⟨Av,cv,rfl,hcv,hmv,-⟩:=id hr101
 unfold maxLen at hmv
 have HVR:=hide hr101
 clear hr101
 clear y0 y1 hly
 replace HX:=hide (at_later HX.out hd)
 replace HO:=hide (at_later HO.out hd)
 replace HSV:=hide (HSV.out.below hd)
 replace HGV:=hide (HGV.out.below hd)
 replace HC:=hide (HC.out.below hd)
 replace HW:=hide (bnx HW.out hd)
 clear hd
 obtain⟨y0,y1,-,-⟩:=ze HX.out
 have hly:=lt_of_block HX.out
 go_wp2_with fail
 refine(zg1 _ _ N R Ws HSV.out HS.out).mono ?_
 rintro e w102 ⟨_,rfl,jj,Ab1,cb1,rfl,hj,hmx,hbc,hbm,hba,hd⟩
 obtain⟨M,hM⟩:∃M,M=ldF N R Ws jj:=⟨_,rfl⟩
 rw[<-hM] at hmx hbc hba ⊢
 have HM:=hide (ai hmx (show ∃j,j<N/\ldF N R Ws j=M from ⟨jj,hj,hM.symm⟩))
 obtain⟨bl,hbl⟩:∃bl,bl=botN (ldF N R Ws) M N:=⟨_,rfl⟩
 have hbn:=zfo (ldF N R Ws) M N
 rw[<-hbl] at hbc hba hbn ⊢
 unfold maxLen at hbm
 have HBL:=hide hbl
 have HB1:=hide hba
 clear hM hmx hbl hba hj
 clear y0 y1 hly
 replace HX:=hide (at_later HX.out hd)
 replace HO:=hide (at_later HO.out hd)
 replace HSV:=hide (HSV.out.below hd)
 replace HGV:=hide (HGV.out.below hd)
 replace HC:=hide (HC.out.below hd)
 replace HVR:=hide (HVR.out.below hd)
 replace HW:=hide (bnx HW.out hd)
 clear hd
 obtain⟨y0,y1,-,-⟩:=ze HO.out
 have hly:=lt_of_block HO.out
 go_wp2_with fail
 refine(HRS.out.visits _ _ HGV.out).mono ?_
 rintro e w103 ⟨v103,rfl,hv103,hd⟩
 rw[<-HE.out] at hv103
 obtain⟨Aq,cq,rfl,hcq,hmq,-⟩:=id hv103
 unfold maxLen at hmq
 have HVQ:=hide hv103
 clear hv103
 clear y0 y1 hly
 replace HX:=hide (at_later HX.out hd)
 replace HO:=hide (at_later HO.out hd)
 replace HSV:=hide (HSV.out.below hd)
 replace HGV:=hide (HGV.out.below hd)
 replace HC:=hide (HC.out.below hd)
 replace HVR:=hide (HVR.out.below hd)
 replace HB1:=hide (HB1.out.below hd)
 replace HW:=hide (bnx HW.out hd)
 clear hd
 obtain⟨y0,y1,-,-⟩:=ze HO.out
 have hly:=lt_of_block HO.out
 go_wp2_with fail
 refine(zgD _ _ R Ws N M HGV.out HRS.out HM.out.1 HM.out.2).mono ?_
 rintro e w104 ⟨_,rfl,Ab2,cb2,rfl,hbc2,hbm2,hba2,hd⟩
 rw[<-HBL.out] at hbc2 hba2 ⊢
 unfold maxLen at hbm2
 have HB2:=hide hba2
 clear hba2
 clear y0 y1 hly
 replace HX:=hide (at_later HX.out hd)
 replace HO:=hide (at_later HO.out hd)
 replace HSV:=hide (HSV.out.below hd)
 replace HGV:=hide (HGV.out.below hd)
 replace HC:=hide (HC.out.below hd)
 replace HVR:=hide (HVR.out.below hd)
 replace HB1:=hide (HB1.out.below hd)
 replace HVQ:=hide (HVQ.out.below hd)
 replace HW:=hide (bnx HW.out hd)
 clear hd
 go_wp2_with fail
 refine(znw _ _ _ E 1000001 (HVR.out.upS (by omega)) HVQ.out (by omega)).mono ?_
 rintro e w105 ⟨_,rfl,rfl,hd⟩
 replace HX:=hide (at_later HX.out hd)
 replace HO:=hide (at_later HO.out hd)
 replace HSV:=hide (HSV.out.below hd)
 replace HGV:=hide (HGV.out.below hd)
 replace HC:=hide (HC.out.below hd)
 replace HVR:=hide (HVR.out.below hd)
 replace HB1:=hide (HB1.out.below hd)
 replace HVQ:=hide (HVQ.out.below hd)
 replace HB2:=hide (HB2.out.below hd)
 replace HW:=hide (bnx HW.out hd)
 clear hd
 clear HVR
 go_wp2_with fail
 go_loopw [15] (fun s15 wr=>∃i:Nat,i<=bl.length/\s15=.int .i64 i/\Below w105.heap.size w105 wr) (fun s15 _=>bl.length-(intOf s15).toNat)
 case atStart=>exact⟨0,Nat.zero_le _,rfl,blr _ _⟩
 case round=>
  obtain⟨i,hi,rfl,hbel⟩:=hrel
  by_cases hin:i<bl.length
  ·have i1:(i:Int)<(bl.length:Int):=by omega
   obtain⟨b1,o1,rfl,-,hc1⟩:=(HB1.out.below hbel).at_ (by rw[zY];omega)
   obtain⟨b2,o2,rfl,-,hc2⟩:=(HB2.out.below hbel).at_ (by rw[zY];omega)
   have y1:=hc1 i (by rw[zY];exact hin)
   have y2:=hc2 i (by rw[zY];exact hin)
   obtain⟨x,hx⟩:∃x,x=(natsI bl).getD i 0:=⟨_,rfl⟩
   rw[<-hx] at y1 y2
   have HB:=hide hbel
   clear hc1 hc2 hx hbel
   go_upto_region 12 with fail
   go_quiet (fail)
   go_wp2
   case roundEnd=>exact⟨⟨i+1,by omega,by go_num,zw HB.out _⟩,by simp[intOf];omega⟩
  ·obtain rfl:i=bl.length:=by omega
   have i1:¬(bl.length:Int)<(bl.length:Int):=by omega
   replace HX:=hide (at_later HX.out hbel)
   replace HO:=hide (at_later HO.out hbel)
   replace HSV:=hide (HSV.out.below hbel)
   replace HGV:=hide (HGV.out.below hbel)
   replace HC:=hide (HC.out.below hbel)
   replace HVQ:=hide (HVQ.out.below hbel)
   replace HW:=hide (bnx HW.out hbel)
   clear hbel HB1 HB2
   obtain⟨mm,hmm⟩:∃mm,mm=min ls.length 6:=⟨_,rfl⟩
   have hnv:min (ls.length:Int) 6=(mm:Int):=by omega
   have hm6:mm<=6:=by omega
   have hml:mm<=ls.length:=by omega
   have hmc:mm<=c3:=by omega
   obtain⟨T3,hT3⟩:=HC.out
   obtain⟨xs,hxs⟩:∃xs,xs=ls.take mm:=⟨_,rfl⟩
   have hxl:xs.length=mm:=by rw[hxs,List.length_take];omega
   have htk:=hT3.takeI mm hml
   rw[<-hxs] at htk
   have HTK:=hide htk
   have HXL:=hide hxl
   clear hT3 hmm hxl htk hxs
   go_upto_if 88 with (at_builtin;refine znx Tryz.intE _ rfl _ _ rfl xs rfl T3 _ rfl HTK.out (by rw[HXL.out];omega) ?_;intro A9 c9 w9 hx9 hc9 hm9 hb9;have H9:=hide (ai hx9 (ai hc9 (ai hm9 hb9)));clear hx9 hc9 hm9 hb9)
   replace HX:=hide (at_later HX.out H9.out.2.2.2)
   replace HO:=hide (at_later HO.out H9.out.2.2.2)
   replace HSV:=hide (HSV.out.below H9.out.2.2.2)
   replace HGV:=hide (HGV.out.below H9.out.2.2.2)
   replace HC:=hide (HC.out.below H9.out.2.2.2)
   replace HVQ:=hide (HVQ.out.below H9.out.2.2.2)
   replace HW:=hide (bnx HW.out H9.out.2.2.2)
   go_cut [17] (fun s17 wx=>(∃n:Int,s17=.int .i64 n/\I64 n)/\Below w9.heap.size w9 wx)
   case first=>
    by_cases h0:0<ls.length
    ·have h0b:(0:Int)<(ls.length:Int):=by omega
     obtain⟨A',c',e,-,-,hcl⟩:=HC.out.at_
     injection e with e1 e2 e3
     subst e1 e3
     obtain⟨b,o,rfl,hc⟩:=hcl h0
     have y0:=hc 0 h0
     rw[Nat.add_zero] at y0
     have hrg:=HC.out.rng 0 h0
     obtain⟨x,hx⟩:∃x,x=ls.getD 0 0:=⟨_,rfl⟩
     rw[<-hx] at y0 hrg
     clear hcl hc hx
     go_wp2_with fail
     go_meet
     exact⟨⟨_,rfl,hrg⟩,blr _ _⟩
    ·have h0b:¬(0:Int)<(ls.length:Int):=by omega
     go_wp2_with fail
     go_meet
     exact⟨⟨_,rfl,by unfold I64;omega⟩,blr _ _⟩
   case rest=>
   obtain⟨⟨n0,rfl,hn0⟩,hd⟩:=hcut
   rename World=>w10
   replace HX:=hide (at_later HX.out hd)
   replace HO:=hide (at_later HO.out hd)
   replace HSV:=hide (HSV.out.below hd)
   replace HGV:=hide (HGV.out.below hd)
   replace HC:=hide (HC.out.below hd)
   replace HVQ:=hide (HVQ.out.below hd)
   replace HW:=hide (bnx HW.out hd)
   have HK0:=hide (ai (IntsT.below H9.out.1 hd) hn0)
   have hx6:xs.length<=6:=by rw[HXL.out];exact hm6
   clear hd hn0 H9 HTK
   go_wp2_with fail
   go_loopw [16,17,18,19,20,21,22,23,24] (fun s16 s17 s18 _ _ _ _ _ _ wr=>∃(r:Nat) (n:Int) (xs:List Int) (As:Option Addr) (cs:Nat),r<=2/\s18=.int .i64 r/\s17=.int .i64 n/\I64 n/\s16=.slice As xs.length cs/\IntsT wr (.slice As xs.length cs) xs/\xs.length<=6/\Below w10.heap.size w10 wr) (fun _ _ s18 _ _ _ _ _ _ _=>2-(intOf s18).toNat)
   case atStart=>exact⟨0,n0,xs,A9,c9,by omega,rfl,rfl,HK0.out.2,rfl,HK0.out.1,hx6,blr _ _⟩
   case round=>
    clear HK0 hx6 HXL hnv hm6 hml hmc xs
    obtain⟨r,n,xs,As,cs,hr,rfl,rfl,gn,rfl,hxs,hx6,hbel⟩:=hrel
    by_cases hr2:r<2
    ·have i1:(r:Int)<2:=by omega
     have hX1:=hide (at_later HX.out hbel)
     have hO1:=hide (at_later HO.out hbel)
     have hSV1:=hide (HSV.out.below hbel)
     have hGV1:=hide (HGV.out.below hbel)
     have hC1:=hide (HC.out.below hbel)
     have hVQ1:=hide (HVQ.out.below hbel)
     have hXS:=hide hxs
     have HW1:=hide hbel
     clear hbel hxs
     obtain⟨y0,y1,-,-⟩:=ze hX1.out
     have hly:=lt_of_block hX1.out
     go_wp2_with fail
     refine(zln _ _ N cs As xs R Ws hSV1.out HS.out hXS.out).mono ?_
     rintro e w501 ⟨_,rfl,r501,rfl,hr501,hd⟩
     obtain⟨e0,he0⟩:∃e0,e0=stE N 12 xs:=⟨_,rfl⟩
     rw[<-he0] at hr501 ⊢
     obtain⟨q0,hq0⟩:∃q0:Rat,q0=if e0=0 then chQ (ldF N R Ws) N xs else 0:=⟨_,rfl⟩
     rw[<-hq0] at hr501
     have HE0:=hide he0
     have HQ0:=hide hq0
     clear he0 hq0
     clear y0 y1 hly
     obtain⟨s501,A501,n501,c501,B501,m501,d501,rfl⟩:=hr501.shape
     obtain⟨W501,hW501⟩:∃W501,W501=w501.alloc (.cells #[.bool s501,.slice A501 n501 c501,.slice B501 m501 d501] 43):=⟨_,rfl⟩
     have hda:Below w501.heap.size w501 W501:=by rw[hW501];exact za (blr _ _) _
     have hdn:=bnx hd hda
     have HBc:=hide (show BoxR W501 w501.heap.size (q0) 3000 from ⟨_,_,_,_,_,_,_,by rw[hW501];exact zj _ _,hr501.below hda⟩)
     have HL:=hide hW501
     replace hX1:=hide (at_later hX1.out hdn)
     replace hO1:=hide (at_later hO1.out hdn)
     replace hSV1:=hide (hSV1.out.below hdn)
     replace hGV1:=hide (hGV1.out.below hdn)
     replace hC1:=hide (hC1.out.below hdn)
     replace hVQ1:=hide (hVQ1.out.below hdn)
     replace hXS:=hide (hXS.out.below hdn)
     replace HW1:=hide (HW1.out.trans (hdn.mono HW1.out.size))
     clear hd hda hdn hr501 hW501
     go_upto_region 23 with fail
     rw[<-HL.out]
     clear HL
     obtain⟨y0,y1,-,-⟩:=ze hO1.out
     have hly:=lt_of_block hO1.out
     go_wp2_with fail
     refine(zmG _ _ _ R Ws 3 N 12 xs hGV1.out hXS.out HRl.out (by omega) (by omega) (by omega)).mono ?_
     rintro e w502 ⟨_,rfl,rfl,hd⟩
     rw[<-HE0.out]
     clear y0 y1 hly
     replace hX1:=hide (at_later hX1.out hd)
     replace hO1:=hide (at_later hO1.out hd)
     replace hSV1:=hide (hSV1.out.below hd)
     replace hGV1:=hide (hGV1.out.below hd)
     replace hC1:=hide (hC1.out.below hd)
     replace hVQ1:=hide (hVQ1.out.below hd)
     replace hXS:=hide (hXS.out.below hd)
     replace HBc:=hide (HBc.out.below hd)
     replace HW1:=hide (HW1.out.trans (hd.mono HW1.out.size))
     clear hd
     go_upto_if 106 with fail
     go_cut [6] (fun s6 wx=>Below w502.heap.size w502 wx)
     case first=>
      as_aux_lemma=>
       by_cases hz:e0=0
       ·subst hz
        obtain⟨hlen,hok⟩:=zjP HE0.out.symm
        have hqq:q0=chQ (ldF N R Ws) N xs:=by rw[HQ0.out,if_pos rfl]
        have HQQ:=hide hqq
        have HLEN:=hide hlen
        have HOK:=hide hok
        clear hqq hlen hok
        by_cases hs6:xs.sum<=6
        ·have HS6:=hide hs6
         clear hs6
         go_upto_region 27 with fail
         obtain⟨s503,A503,n503,c503,B503,m503,d503,hx503,hq503⟩:=HBc.out
         have e504a:=(ze hO1.out).1
         have e505a:=(ze hO1.out).2.1
         have hS:∀w',Below w502.heap.size w502 w'->(w'.cell? ⟨w501.heap.size,0,none⟩=some (.bool s503)/\w'.cell? ⟨w501.heap.size,1,none⟩=some (.slice A503 n503 c503)/\w'.cell? ⟨w501.heap.size,2,none⟩=some (.slice B503 m503 d503))/\w'.cell? ⟨w1.heap.size,0,none⟩=some (.slice Ar N cr)/\w'.cell? ⟨w1.heap.size,1,none⟩=some (.slice Aw Ws.length cw):=fun w' h=>by
          have eC:∀b o v,w502.cell? ⟨b,o,none⟩=some v->w'.cell? ⟨b,o,none⟩=some v:=fun b o v hv=>(h.cell (zf hv)).trans hv
          exact⟨zk (at_later hx503 h),eC _ _ _ e504a,eC _ _ _ e505a⟩
         have hdr:Below w502.heap.size w502 w502.drew:=(blr _ _).drew
         have HSS:=hide hS
         have HQS:=hide (ai hq503 trivial)
         clear hS hx503 hq503 e504a e505a
         refine zv (fun w'=>(w'.cell? ⟨w501.heap.size,0,none⟩=some (.bool s503)/\w'.cell? ⟨w501.heap.size,1,none⟩=some (.slice A503 n503 c503)/\w'.cell? ⟨w501.heap.size,2,none⟩=some (.slice B503 m503 d503))/\w'.cell? ⟨w1.heap.size,0,none⟩=some (.slice Ar N cr)/\w'.cell? ⟨w1.heap.size,1,none⟩=some (.slice Aw Ws.length cw)) [0,1,2,3,4,5,6,7,8,9,10,11,12,13,14] (by kernel_rfl) (HSS.out _ hdr) (fun hh=>?_)
         refine tt 1 hh 116 ?_
         try simp only[Act.put,ptA,ptB,ptC]
         refine tt 0 hh 115 ?_
         try simp only[Act.put,ptA,ptB,ptC]
         refine zb (rs:=[2]) (by kernel_rfl) (by simp) ?_
         refine mem1 ?_
         refine zd rfl (fun K hK=>?_)
         go_simp
         go_at_call 29
         refine(zin _ _ _ R Ws 3 xs (hGV1.out.below hdr) (hXS.out.below hdr) HOK.out.1 (by have:=HOK.out.2;omega)).mono ?_
         rintro e w1 ⟨_,rfl,rfl,hd⟩
         rw[decide_eq_true HS6.out]
         have hg1:Below w502.heap.size w502 w1:=hdr.trans (hd.mono hdr.size)
         clear hd
         go_wp2_with fail
         refine hK.out _ _ (HSS.out _ hg1) (fun hh=>?_)
         clear hK K
         try simp only[Act.put,ptA,ptB,ptC]
         refine tt 3 hh 118 ?_
         try simp only[Act.put,ptA,ptB,ptC]
         refine tt 6 hh 121 ?_
         try simp only[Act.put,ptA,ptB,ptC]
         refine tt 4 hh 119 ?_
         try simp only[Act.put,ptA,ptB,ptC]
         refine tt 5 hh 120 ?_
         try simp only[Act.put,ptA,ptB,ptC]
         refine zb (rs:=[7]) (by kernel_rfl) (by simp) ?_
         refine mem1 ?_
         refine zd rfl (fun K hK=>?_)
         go_simp
         go_at_call 45
         refine(zlq _ _ _ R Ws N xs (hGV1.out.below hg1) HRS.out (hXS.out.below hg1) HLEN.out HOK.out).mono ?_
         rintro e w2 ⟨u2,rfl,hu2,hd⟩
         obtain⟨s2,A2,n2,c2,B2,m2,d2,rfl,-⟩:=hu2.parts
         have HU:=hide hu2
         clear hu2
         have hg2:Below w502.heap.size w502 w2:=hg1.trans (hd.mono hg1.size)
         clear hd
         go_wp2_with fail
         refine hK.out _ _ (HSS.out _ hg2) (fun hh=>?_)
         clear hK K
         try simp only[Act.put,ptA,ptB,ptC]
         refine zb (rs:=[8]) (by kernel_rfl) (by simp) ?_
         refine mem1 ?_
         refine zd rfl (fun K hK=>?_)
         go_simp
         go_at_call 30
         refine(ziY _ _ _ (chQ (ldF N R Ws) N xs) 1000001 (by rw[<-HQQ.out];exact(HQS.out.1.below hg2).more (by omega)) HU.out (by omega)).mono ?_
         rintro e w3 ⟨_,rfl,rfl,hd⟩
         clear HU
         have hg3:Below w502.heap.size w502 w3:=hg2.trans (hd.mono hg2.size)
         clear hd
         go_wp2_with fail
         refine hK.out _ _ (HSS.out _ hg3) (fun hh=>?_)
         clear hK K
         try simp only[Act.put,ptA,ptB,ptC]
         refine tt 9 hh 124 ?_
         try simp only[Act.put,ptA,ptB,ptC]
         refine tt 10 hh 125 ?_
         try simp only[Act.put,ptA,ptB,ptC]
         refine tt 11 hh 126 ?_
         try simp only[Act.put,ptA,ptB,ptC]
         refine tt 12 hh 127 ?_
         try simp only[Act.put,ptA,ptB,ptC]
         refine tt 13 hh 128 ?_
         try simp only[Act.put,ptA,ptB,ptC]
         refine tt 14 hh 129 ?_
         try simp only[Act.put,ptA,ptB,ptC]
         refine zM (by kernel_rfl) ?_ _
         clear hh
         go_wp2_with fail
         go_meet
         exact hg3
        ·have HS6:=hide hs6
         clear hs6
         go_upto_region 27 with fail
         obtain⟨s506,A506,n506,c506,B506,m506,d506,hx506,hq506⟩:=HBc.out
         have e507a:=(ze hO1.out).1
         have e508a:=(ze hO1.out).2.1
         have hS:∀w',Below w502.heap.size w502 w'->(w'.cell? ⟨w501.heap.size,0,none⟩=some (.bool s506)/\w'.cell? ⟨w501.heap.size,1,none⟩=some (.slice A506 n506 c506)/\w'.cell? ⟨w501.heap.size,2,none⟩=some (.slice B506 m506 d506))/\w'.cell? ⟨w1.heap.size,0,none⟩=some (.slice Ar N cr)/\w'.cell? ⟨w1.heap.size,1,none⟩=some (.slice Aw Ws.length cw):=fun w' h=>by
          have eC:∀b o v,w502.cell? ⟨b,o,none⟩=some v->w'.cell? ⟨b,o,none⟩=some v:=fun b o v hv=>(h.cell (zf hv)).trans hv
          exact⟨zk (at_later hx506 h),eC _ _ _ e507a,eC _ _ _ e508a⟩
         have hdr:Below w502.heap.size w502 w502.drew:=(blr _ _).drew
         have HSS:=hide hS
         have HQS:=hide (ai hq506 trivial)
         clear hS hx506 hq506 e507a e508a
         refine zv (fun w'=>(w'.cell? ⟨w501.heap.size,0,none⟩=some (.bool s506)/\w'.cell? ⟨w501.heap.size,1,none⟩=some (.slice A506 n506 c506)/\w'.cell? ⟨w501.heap.size,2,none⟩=some (.slice B506 m506 d506))/\w'.cell? ⟨w1.heap.size,0,none⟩=some (.slice Ar N cr)/\w'.cell? ⟨w1.heap.size,1,none⟩=some (.slice Aw Ws.length cw)) [0,1,2,3,4,5,6,7,8,9,10,11,12,13,14] (by kernel_rfl) (HSS.out _ hdr) (fun hh=>?_)
         refine tt 1 hh 116 ?_
         try simp only[Act.put,ptA,ptB,ptC]
         refine tt 0 hh 115 ?_
         try simp only[Act.put,ptA,ptB,ptC]
         refine zb (rs:=[2]) (by kernel_rfl) (by simp) ?_
         refine mem1 ?_
         refine zd rfl (fun K hK=>?_)
         go_simp
         go_at_call 29
         refine(zin _ _ _ R Ws 3 xs (hGV1.out.below hdr) (hXS.out.below hdr) HOK.out.1 (by have:=HOK.out.2;omega)).mono ?_
         rintro e w1 ⟨_,rfl,rfl,hd⟩
         rw[decide_eq_false HS6.out]
         have hg1:Below w502.heap.size w502 w1:=hdr.trans (hd.mono hdr.size)
         clear hd
         go_wp2_with fail
         refine hK.out _ _ (HSS.out _ hg1) (fun hh=>?_)
         clear hK K
         try simp only[Act.put,ptA,ptB,ptC]
         refine tt 3 hh 118 ?_
         try simp only[Act.put,ptA,ptB,ptC]
         refine zz (i:=4) rfl (by kernel_rfl) (by kernel_rfl) (by kernel_rfl) (by kernel_rfl) (fun _ _ _ h=>h) (by rfl) hh (some 119) rfl ?_
         try simp only[Act.put,ptA,ptB,ptC]
         refine zz (i:=5) rfl (by kernel_rfl) (by kernel_rfl) (by kernel_rfl) (by kernel_rfl) (fun _ _ _ h=>h) (by rfl) hh (some 120) rfl ?_
         try simp only[Act.put,ptA,ptB,ptC]
         refine zz (i:=6) rfl (by kernel_rfl) (by kernel_rfl) (by kernel_rfl) (by kernel_rfl) (fun _ _ _ h=>h) (by rfl) hh (some 121) rfl ?_
         try simp only[Act.put,ptA,ptB,ptC]
         refine zz (i:=7) rfl (by kernel_rfl) (by kernel_rfl) (by kernel_rfl) (by kernel_rfl) (fun _ _ _ h=>h) (by rfl) hh (some 122) rfl ?_
         try simp only[Act.put,ptA,ptB,ptC]
         refine zz (i:=8) rfl (by kernel_rfl) (by kernel_rfl) (by kernel_rfl) (by kernel_rfl) (fun _ _ _ h=>h) (by rfl) hh (some 123) rfl ?_
         try simp only[Act.put,ptA,ptB,ptC]
         refine zz (i:=9) rfl (by kernel_rfl) (by kernel_rfl) (by kernel_rfl) (by kernel_rfl) (fun _ _ _ h=>h) (by rfl) hh (some 124) rfl ?_
         try simp only[Act.put,ptA,ptB,ptC]
         refine tt 10 hh 125 ?_
         try simp only[Act.put,ptA,ptB,ptC]
         refine tt 11 hh 126 ?_
         try simp only[Act.put,ptA,ptB,ptC]
         refine tt 12 hh 127 ?_
         try simp only[Act.put,ptA,ptB,ptC]
         refine tt 13 hh 128 ?_
         try simp only[Act.put,ptA,ptB,ptC]
         refine tt 14 hh 129 ?_
         try simp only[Act.put,ptA,ptB,ptC]
         refine zM (by kernel_rfl) ?_ _
         clear hh
         go_wp2_with fail
         go_meet
         exact hg1
       ·have hz2:(e0 == 0)=false:=by rw[beq_eq_false_iff_ne];exact hz
        have hqq:q0=0:=by rw[HQ0.out,if_neg hz]
        obtain⟨s509,A509,n509,c509,B509,m509,d509,hx509,hq509⟩:=HBc.out
        obtain⟨x0,x1,x2⟩:=zk hx509
        have hlx:=lt_of_block hx509
        rw[hqq] at hq509
        have HQa:=hide hq509
        clear hx509 hq509 hqq
        go_wp2_with fail
        refine(zce _ _ 0 3000 HQa.out).mono ?_
        rintro e w510 ⟨_,rfl,rfl,hd⟩
        rw[show sgnQ 0=0 from rfl]
        clear x0 x1 x2 hlx HQa
        have HD:=hide hd
        clear hd
        go_wp2_with fail
        go_meet
        exact HD.out
     case rest=>
     have hd:=hcut
     clear hcut
     rename World=>w511
     replace hX1:=hide (at_later hX1.out hd)
     replace hO1:=hide (at_later hO1.out hd)
     replace hSV1:=hide (hSV1.out.below hd)
     replace hGV1:=hide (hGV1.out.below hd)
     replace hC1:=hide (hC1.out.below hd)
     replace hVQ1:=hide (hVQ1.out.below hd)
     replace hXS:=hide (hXS.out.below hd)
     replace HBc:=hide (HBc.out.below hd)
     replace HW1:=hide (HW1.out.trans (hd.mono HW1.out.size))
     clear hd HBc HE0 HQ0
     obtain⟨y0,y1,-,-⟩:=ze hX1.out
     have hly:=lt_of_block hX1.out
     go_wp2_with fail
     refine(zhY _ _ n N R Ws hSV1.out HS.out).mono ?_
     rintro e w512 ⟨_,rfl,Ah,ch,rfl,hrh,hd⟩
     obtain⟨hs,hhs⟩:∃hs,hs=cnL (ldF N R Ws) N n:=⟨_,rfl⟩
     rw[<-hhs] at hrh ⊢
     obtain⟨-,-,-,hhc,hhm,-⟩:∃(_:True) (_:True),True/\hs.length<=ch/\ch<=maxLen/\True:=⟨trivial,trivial,trivial,by obtain⟨A',c',e,h1,h2,-⟩:=id hrh;injection e with _ _ e3;rw[e3];exact h1,by obtain⟨A',c',e,h1,h2,-⟩:=id hrh;injection e with _ _ e3;rw[e3];exact h2,trivial⟩
     unfold maxLen at hhm
     obtain⟨hl,hhl⟩:∃hl,hl=hs.length:=⟨_,rfl⟩
     rw[<-hhl]
     rw[<-hhl] at hhc
     have HHL:=hide hhl
     clear hhl
     obtain⟨e1,he1⟩:∃e1:Int,e1=if n<0\/12<n then 1 else 0:=⟨_,rfl⟩
     rw[<-he1]
     have HH:=hide hrh
     have HHS:=hide hhs
     have HE1:=hide he1
     clear hrh hhs he1
     clear y0 y1 hly
     replace hX1:=hide (at_later hX1.out hd)
     replace hO1:=hide (at_later hO1.out hd)
     replace hSV1:=hide (hSV1.out.below hd)
     replace hGV1:=hide (hGV1.out.below hd)
     replace hC1:=hide (hC1.out.below hd)
     replace hVQ1:=hide (hVQ1.out.below hd)
     replace hXS:=hide (hXS.out.below hd)
     replace HW1:=hide (HW1.out.trans (hd.mono HW1.out.size))
     clear hd
     go_upto_region 30 with fail
     go_cut [141] (fun s141 wx=>s141=.bool (decide (n<0\/12<n))/\Below w512.heap.size w512 wx)
     case first=>
      by_cases q1:n<0
      ·go_wp2_with fail
       go_meet
       exact⟨congrArg Value.bool (decide_eq_true (p:=n<0\/12<n) (by omega)).symm,blr _ _⟩
      ·by_cases q2:12<n
       ·go_wp2_with fail
        go_meet
        exact⟨congrArg Value.bool (decide_eq_true (p:=n<0\/12<n) (by omega)).symm,blr _ _⟩
       ·go_wp2_with fail
        go_meet
        exact⟨congrArg Value.bool (decide_eq_false (p:=n<0\/12<n) (by omega)).symm,blr _ _⟩
     case rest=>
     obtain⟨rfl,hd⟩:=hcut
     rename World=>w513
     replace hX1:=hide (at_later hX1.out hd)
     replace hO1:=hide (at_later hO1.out hd)
     replace hSV1:=hide (hSV1.out.below hd)
     replace hGV1:=hide (hGV1.out.below hd)
     replace hC1:=hide (hC1.out.below hd)
     replace hVQ1:=hide (hVQ1.out.below hd)
     replace hXS:=hide (hXS.out.below hd)
     replace HH:=hide (HH.out.below hd)
     replace HW1:=hide (HW1.out.trans (hd.mono HW1.out.size))
     clear hd
     go_upto_if 141 with fail
     go_cut [6] (fun s6 wx=>Below w513.heap.size w513 wx)
     case first=>
      by_cases hbn:n<0\/12<n
      ·rw[decide_eq_true hbn]
       obtain rfl:e1=1:=by rw[HE1.out,if_pos hbn]
       obtain rfl:hl=0:=by rw[HHL.out,HHS.out];unfold cnL;rw[if_pos hbn];rfl
       clear hbn
       go_wp2_with fail
       go_meet
       exact blr _ _
      ·rw[decide_eq_false hbn]
       obtain rfl:e1=0:=by rw[HE1.out,if_neg hbn]
       obtain⟨k,rfl⟩:∃k:Nat,n=(k:Int):=⟨n.toNat,by omega⟩
       have hk12:k<=12:=by omega
       obtain rfl:hl=k+1:=by rw[HHL.out,HHS.out];unfold cnL;rw[if_neg hbn,zaK,Int.toNat_natCast]
       have i5:IntKind.i64.wrap ((k:Int)+1)=(k:Int)+1:=IntWalk.i64_in _ (by omega)
       clear hbn HHS HH HHL
       go_wp2_with fail
       go_meet
       exact blr _ _
     case rest=>
     have hd:=hcut
     clear hcut
     rename World=>w514
     replace hX1:=hide (at_later hX1.out hd)
     replace hO1:=hide (at_later hO1.out hd)
     replace hSV1:=hide (hSV1.out.below hd)
     replace hGV1:=hide (hGV1.out.below hd)
     replace hC1:=hide (hC1.out.below hd)
     replace hVQ1:=hide (hVQ1.out.below hd)
     replace hXS:=hide (hXS.out.below hd)
     replace HH:=hide (HH.out.below hd)
     replace HW1:=hide (HW1.out.trans (hd.mono HW1.out.size))
     clear hd
     go_wp2_with fail
     go_loopw [24] (fun s24 wr=>∃j:Nat,j<=hl/\s24=.int .i64 j/\Below w514.heap.size w514 wr) (fun s24 _=>hl-(intOf s24).toNat)
     case atStart=>exact⟨0,Nat.zero_le _,rfl,blr _ _⟩
     case round=>
      obtain⟨j,hj,rfl,hbel⟩:=hrel
      by_cases hjl:j<hl
      ·by_cases hj5:(j:Int)<=5
       ·have j1:(j:Int)<(hl:Int):=by omega
        have j5:j<=5:=by omega
        have hgj:=(zmF (ldF N R Ws) N n j (by rw[<-HHS.out,<-HHL.out];exact hjl)).2
        rw[<-HHS.out] at hgj
        obtain⟨bh,oh,eh,hH1⟩:=RowV.x (HH.out.below hbel) (by rw[<-HHL.out];omega) (fun t=>hs.getD t 0) (fun t ht=>rfl)
        obtain rfl:=eh
        have HH1:=hide hH1
        have HGJ:=hide hgj
        have hO2:=hide (at_later hO1.out hbel)
        have hGV2:=hide (hGV1.out.below hbel)
        have hVQ2:=hide (hVQ1.out.below hbel)
        have HB:=hide hbel
        clear hH1 hgj hbel
        go_upto_region 38 with fail
        obtain⟨s515,A515,n515,c515,B515,m515,d515,e515a,e515b,e515c,hq515⟩:=(HH1.out (j) (by rw[<-HHL.out];exact hjl)).rat
        have e516a:=(ze hO2.out).1
        have e517a:=(ze hO2.out).2.1
        have hS:∀w',Below wr.heap.size wr w'->(w'.cell? ⟨bh,oh+(j)*3,none⟩=some (.bool s515)/\w'.cell? ⟨bh,oh+(j)*3+1,none⟩=some (.slice A515 n515 c515)/\w'.cell? ⟨bh,oh+(j)*3+2,none⟩=some (.slice B515 m515 d515))/\w'.cell? ⟨w1.heap.size,0,none⟩=some (.slice Ar N cr)/\w'.cell? ⟨w1.heap.size,1,none⟩=some (.slice Aw Ws.length cw):=fun w' h=>by
         have eC:∀b o v,wr.cell? ⟨b,o,none⟩=some v->w'.cell? ⟨b,o,none⟩=some v:=fun b o v hv=>(h.cell (zf hv)).trans hv
         exact⟨⟨eC _ _ _ e515a,eC _ _ _ e515b,eC _ _ _ e515c⟩,eC _ _ _ e516a,eC _ _ _ e517a⟩
        have hdr:Below wr.heap.size wr wr.drew:=(blr _ _).drew
        have HSS:=hide hS
        have HQS:=hide (ai hq515 trivial)
        clear hS e515a e515b e515c hq515 e516a e517a
        refine zv (fun w'=>(w'.cell? ⟨bh,oh+(j)*3,none⟩=some (.bool s515)/\w'.cell? ⟨bh,oh+(j)*3+1,none⟩=some (.slice A515 n515 c515)/\w'.cell? ⟨bh,oh+(j)*3+2,none⟩=some (.slice B515 m515 d515))/\w'.cell? ⟨w1.heap.size,0,none⟩=some (.slice Ar N cr)/\w'.cell? ⟨w1.heap.size,1,none⟩=some (.slice Aw Ws.length cw)) [0,1,2,3,4,5,6,7,8,9] (by kernel_rfl) (HSS.out _ hdr) (fun hh=>?_)
        refine tt 0 hh 168 ?_
        try simp only[Act.put,ptA,ptB,ptC]
        refine tt 1 hh 169 ?_
        try simp only[Act.put,ptA,ptB,ptC]
        refine tt 2 hh 170 ?_
        try simp only[Act.put,ptA,ptB,ptC]
        refine tt 5 hh 173 ?_
        try simp only[Act.put,ptA,ptB,ptC]
        refine tt 6 hh 174 ?_
        try simp only[Act.put,ptA,ptB,ptC]
        refine tt 3 hh 171 ?_
        try simp only[Act.put,ptA,ptB,ptC]
        refine tt 4 hh 172 ?_
        try simp only[Act.put,ptA,ptB,ptC]
        refine zb (rs:=[7]) (by kernel_rfl) (by simp) ?_
        refine mem1 ?_
        refine zd rfl (fun K hK=>?_)
        go_simp
        go_at_call 46
        refine(ziZ _ _ _ R E Ws N j (hGV2.out.below hdr) (hVQ2.out.below hdr) HG.out (by omega)).mono ?_
        rintro e w1 ⟨u1,rfl,hu1,hd⟩
        rw[HLE.out,<-HGJ.out] at hu1
        obtain⟨s1,A1,n1,c1,B1,m1,d1,rfl,-⟩:=hu1.parts
        have HU:=hide hu1
        clear hu1
        have hg1:Below wr.heap.size wr w1:=hdr.trans (hd.mono hdr.size)
        clear hd
        go_wp2_with fail
        refine hK.out _ _ (HSS.out _ hg1) (fun hh=>?_)
        clear hK K
        try simp only[Act.put,ptA,ptB,ptC]
        refine zb (rs:=[8]) (by kernel_rfl) (by simp) ?_
        refine mem1 ?_
        refine zd rfl (fun K hK=>?_)
        go_simp
        go_at_call 30
        refine(ziY _ _ _ (hs.getD j 0) 1000001 ((HQS.out.1.below hg1).more (by omega)) HU.out (by omega)).mono ?_
        rintro e w2 ⟨_,rfl,rfl,hd⟩
        clear HU
        have hg2:Below wr.heap.size wr w2:=hg1.trans (hd.mono hg1.size)
        clear hd
        go_wp2_with fail
        refine hK.out _ _ (HSS.out _ hg2) (fun hh=>?_)
        clear hK K
        try simp only[Act.put,ptA,ptB,ptC]
        refine tt 9 hh 177 ?_
        try simp only[Act.put,ptA,ptB,ptC]
        refine zM (by kernel_rfl) ?_ _
        clear hh
        have HE9:=hide (bnx HB.out hg2)
        go_wp2
        case roundEnd=>exact⟨⟨j+1,by omega,by go_num,HE9.out⟩,by simp[intOf];omega⟩
       ·have j1:(j:Int)<(hl:Int):=by omega
        replace hX1:=hide (at_later hX1.out hbel)
        replace hO1:=hide (at_later hO1.out hbel)
        replace hSV1:=hide (hSV1.out.below hbel)
        replace hGV1:=hide (hGV1.out.below hbel)
        replace hC1:=hide (hC1.out.below hbel)
        replace hVQ1:=hide (hVQ1.out.below hbel)
        replace hXS:=hide (hXS.out.below hbel)
        replace HH:=hide (HH.out.below hbel)
        replace HW1:=hide (HW1.out.trans (hbel.mono HW1.out.size))
        clear hbel HH HHS HE1 HHL
        obtain⟨y0,y1,-,-⟩:=ze hO1.out
        have hly:=lt_of_block hO1.out
        go_wp2_with fail
        refine(ziF _ _ ls N 5 hC1.out (by omega) (by omega) (by omega)).mono ?_
        rintro e w518 ⟨_,rfl,ks,Ak,ck,rfl,hkl,hkc,hkm,hka,hk0,hks,hd⟩
        have hki:IntsT w518 (.slice Ak ks.length ck) ks:=hka.intsT hkc hkm (fun x hx=>by
         obtain⟨q,hq,rfl⟩:=List.getElem_of_mem hx
         have:=(OkS.le (most:=5) ⟨hk0,hks⟩ q hq)
         simp[List.getD,hq] at this
         omega)
        have HKI:=hide (ai hki (ai hkl (HW1.out.trans (hd.mono HW1.out.size))))
        clear hki hka hk0 hks hkl hd y0 y1 hly
        go_wp2
        case roundEnd=>exact⟨⟨r+1,_,ks,Ak,ck,by omega,by go_num,rfl,by first|exact zgG _|exact zmj _|(unfold I64;omega),rfl,HKI.out.1,by rw[HKI.out.2.1];omega,HKI.out.2.2⟩,by simp[intOf];omega⟩
      ·have j1:¬(j:Int)<(hl:Int):=by omega
       replace hX1:=hide (at_later hX1.out hbel)
       replace hO1:=hide (at_later hO1.out hbel)
       replace hSV1:=hide (hSV1.out.below hbel)
       replace hGV1:=hide (hGV1.out.below hbel)
       replace hC1:=hide (hC1.out.below hbel)
       replace hVQ1:=hide (hVQ1.out.below hbel)
       replace hXS:=hide (hXS.out.below hbel)
       replace HH:=hide (HH.out.below hbel)
       replace HW1:=hide (HW1.out.trans (hbel.mono HW1.out.size))
       clear hbel HH HHS HE1 HHL
       obtain⟨y0,y1,-,-⟩:=ze hO1.out
       have hly:=lt_of_block hO1.out
       go_wp2_with fail
       refine(ziF _ _ ls N 5 hC1.out (by omega) (by omega) (by omega)).mono ?_
       rintro e w519 ⟨_,rfl,ks,Ak,ck,rfl,hkl,hkc,hkm,hka,hk0,hks,hd⟩
       have hki:IntsT w519 (.slice Ak ks.length ck) ks:=hka.intsT hkc hkm (fun x hx=>by
        obtain⟨q,hq,rfl⟩:=List.getElem_of_mem hx
        have:=(OkS.le (most:=5) ⟨hk0,hks⟩ q hq)
        simp[List.getD,hq] at this
        omega)
       have HKI:=hide (ai hki (ai hkl (HW1.out.trans (hd.mono HW1.out.size))))
       clear hki hka hk0 hks hkl hd y0 y1 hly
       go_wp2
       case roundEnd=>exact⟨⟨r+1,_,ks,Ak,ck,by omega,by go_num,rfl,by first|exact zgG _|exact zmj _|(unfold I64;omega),rfl,HKI.out.1,by rw[HKI.out.2.1];omega,HKI.out.2.2⟩,by simp[intOf];omega⟩
    ·obtain rfl:r=2:=by omega
     have i1:¬((2:Nat):Int)<2:=by omega
     have HB:=hide (bnx HW.out hbel)
     clear hbel
     go_wp2_with fail
     refine(zmM _).mono ?_
     rintro e w7 ⟨_,rfl,rfl,hd⟩
     have HE:=hide (bnx HB.out hd)
     clear hd
     go_wp2
     refine bodyPost_ret (v:=.bool true) ?_ rfl ⟨_,rfl,rfl,HE.out⟩
     simp[results,Tryz.results8,go_sem]
end Go.Proofs.YtpoahodnakhmiaaGreat
