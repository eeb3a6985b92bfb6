import Derived.Test.YtpoahodnakhmiaaGreatSpeedR
set_option maxRecDepth 100000
namespace Go.Proofs.YtpoahodnakhmiaaGreat
set_option linter.unusedVariables false
set_option linter.unusedSimpArgs false
open Go.RowKit
theorem zE.refS {n:Nat} {a b:Nat->Nat} {c:Nat->Nat->Nat} (h:zE n a b c) (h4:n<=4):zcq n (tR n a b) (tW n c):=by
 refine⟨h.shopG,h4,fun i j hi hj=>?_⟩
 rw[zbS n c i j hi hj]
 have h1:=h.sum_ge i hi
 have h2:=h.sum_le i hi
 have h3:=h.cw i j hi hj
 have h4:=castZ (z:=(sumC n c i:Int)) (by omega)
 refine⟨(h.way_small i j hi hj).lift (by omega),?_⟩
 have e:wayT n c i j-1=(((c i j:Int)-(sumC n c i:Int):Int):Rat) / ((sumC n c i:Int):Rat):=by
  unfold wayT;rw[Rat.intCast_sub];grind
 rw[e]
 exact zcQ (by omega) (by omega) (by omega)
theorem zca (x:Int):I64 (wrap64 x):=by unfold I64 wrap64;constructor <;> omega
set_option maxHeartbeats 8000000 in
theorem zjC (w:World) (va vb:Value) (rs:List Int) (ws:List (List Int)) (T:TypeId) (a0 a1 a2:Int) (ha:zaH w va rs) (hb:zB T 1 zaH w vb ws) (g0:I64 a0) (g1:I64 a1) (g2:I64 a2):
  Calls Tryz.prog 6 #[va,vb,.agg #[.int .i64 a0,.int .i64 a1,.int .i64 a2]] w (Ret (fun v w'=>v=.bool true/\Below w.heap.size w w')):=by
 obtain⟨A1,c1,rfl,hl1,hm1,-⟩:=ha.at_
 obtain⟨A2,c2,rfl,hl2,hm2,-⟩:=id hb
 obtain⟨N,hN⟩:∃N,N=max 1 (min rs.length 4):=⟨_,rfl⟩
 have hN1:1<=N:=by omega
 have hN4:N<=4:=by omega
 have hN6:N<=6:=by omega
 have hTS:=tameT N rs ws (by omega) hN6
 have hSG:=hTS.shopG
 have hRS:=hTS.refS hN4
 obtain⟨R,hR⟩:∃R,R=tR N (aT rs) (bT rs):=⟨_,rfl⟩
 obtain⟨Ws,hWs⟩:∃Ws,Ws=tW N (cT N ws):=⟨_,rfl⟩
 obtain⟨W,hW⟩:∃W,W=w.alloc (.cells #[.int .i64 a0,.int .i64 a1,.int .i64 a2] 24):=⟨_,rfl⟩
 have hb0:Below w.heap.size w W:=by rw[hW];exact za (blr _ _) _
 have hof:W.heap[w.heap.size]?=some (.cells #[.int .i64 a0,.int .i64 a1,.int .i64 a2] 24 (0,0)):=by rw[hW];exact zg _ _
 have hgv:=hTS.give
 rw[<-hR,<-hWs] at hSG hgv hRS
 have hRl:R.length=N:=by rw[hR];exact zc2 _ _ _
 have hWl:Ws.length=N:=by rw[hWs];exact zd4 _ _
 have HRl:=hide (ai hRl hWl)
 have H0:=hide (ai hb0 (ai hof (ai (ha.below hb0) (hb.below zeQ hb0))))
 have HG:=hide hgv
 have HS:=hide hSG
 have HRS:=hide hRS
 have HGR:=hide (ai g0 (ai g1 g2))
 have HL:=hide hW
 have HT:=hide (ai hN (ai hR hWs))
 clear hb0 hof hW ha hb hgv hSG hRS hTS g0 g1 g2 hRl hWl hN hR hWs
 go_enter Tryz.func6,Tryz.ntmps6
 go_upto_region 1 with fail
 rw[<-HL.out]
 go_wp2_with fail
 refine(znY _ _ _ rs ws T 4 N H0.out.2.2.1 H0.out.2.2.2 (by omega) HT.out.1).mono ?_
 rintro e w1 ⟨v1,rfl,hv1,hd1⟩
 rw[<-HT.out.2.1,<-HT.out.2.2] at hv1
 have HV1:=hide hv1
 obtain⟨ra,wa,rfl,hra,hwa⟩:=hv1
 obtain⟨Ar,cr,rfl,hcr,hmr,-⟩:=id hra
 obtain⟨Aw,cw,rfl,-,-,-⟩:=id hwa
 obtain⟨W1,hW1⟩:∃W1,W1=w1.alloc (.cells #[.slice Ar R.length cr,.slice Aw Ws.length cw] 28):=⟨_,rfl⟩
 have hb1:Below w1.heap.size w1 W1:=by rw[hW1];exact za (blr _ _) _
 have hx1:W1.heap[w1.heap.size]?=some (.cells #[.slice Ar R.length cr,.slice Aw Ws.length cw] 28 (0,0)):=by rw[hW1];exact zg _ _
 have hd2:=bnx hd1 hb1
 have H1:=hide (ai (at_later H0.out.2.1 hd2) (ai hx1 (ai (HV1.out.below hb1) (bnx H0.out.1 hd2))))
 have HL1:=hide hW1
 obtain⟨x0,x1,-,-⟩:=ze hx1
 have hl1x:=lt_of_block hx1
 clear hra hwa hd1 hb1 hx1 hd2 hW1 HV1
 go_upto_region 2 with fail
 rw[<-HL1.out]
 go_wp2_with fail
 refine(zny _ _ R Ws 3 H1.out.2.2.1 (by omega) HG.out.1 HG.out.2.1 HG.out.2.2.1 HG.out.2.2.2.1 HG.out.2.2.2.2).mono ?_
 rintro e w2 ⟨v2,rfl,hv2,hd3⟩
 replace hv2:=hv2.upS (show 1<=3000 by omega)
 have HV2:=hide hv2
 obtain⟨rb,wb,rfl,hrb,hwb⟩:=hv2
 obtain⟨Ab,cb,rfl,-,-,-⟩:=id hrb
 obtain⟨Ac,cc,rfl,-,-,-⟩:=id hwb
 obtain⟨W2,hW2⟩:∃W2,W2=w2.alloc (.cells #[.slice Ab R.length cb,.slice Ac Ws.length cc] 33):=⟨_,rfl⟩
 have hb2:Below w2.heap.size w2 W2:=by rw[hW2];exact za (blr _ _) _
 have hx2:W2.heap[w2.heap.size]?=some (.cells #[.slice Ab R.length cb,.slice Ac Ws.length cc] 33 (0,0)):=by rw[hW2];exact zg _ _
 have hd4:=bnx hd3 hb2
 have hxo:=at_later H1.out.2.1 hd4
 have hof:=at_later H1.out.1 hd4
 have H2:=hide (ai hof (ai hxo (ai hx2 (ai (H1.out.2.2.1.below hd4) (ai (HV2.out.below hb2) (bnx H1.out.2.2.2 hd4))))))
 have HL2:=hide hW2
 clear x0 x1 hl1x
 obtain⟨x0,x1,-,-⟩:=ze hxo
 obtain⟨z0,z1,z2⟩:=zj hof
 obtain⟨y0,y1,-,-⟩:=ze hx2
 have hl1x:=lt_of_block hxo
 have hlof:=lt_of_block hof
 have hl2x:=lt_of_block hx2
 clear hrb hwb hd3 hb2 hx2 hd4 hxo hof hW2 HV2
 go_upto_region 3 with fail
 rw[<-HL2.out]
 rw[HRl.out.1] at x0 y0 H1 H2 HL2 hcr ⊢
 have HX:=hide H2.out.2.2.1
 have HO:=hide H2.out.2.1
 have HGV:=hide H2.out.2.2.2.1
 have HSV:=hide H2.out.2.2.2.2.1
 have HW:=hide H2.out.2.2.2.2.2
 clear H2 H1 H0 HL HL1 HL2 HT x0 x1 y0 y1 hl1x hl2x HG
 go_quiet (fail)
 clear z0 z1 z2 hlof
 go_wp2_with fail
 go_loopw [9,10,11,12,13,14,15,16,17,18,19,20] (fun s9 s10 s11 s12 _ _ _ _ _ _ _ _ wr=>∃(r:Nat) (a k n:Int),r<=2/\s12=.int .i64 r/\s9=.int .i64 a/\s10=.int .i64 k/\s11=.int .i64 n/\I64 a/\I64 k/\I64 n/\Below W2.heap.size W2 wr) (fun _ _ _ s12 _ _ _ _ _ _ _ _ _=>2-(intOf s12).toNat)
 case atStart=>exact⟨0,a0,a1,a2,by omega,rfl,rfl,rfl,rfl,HGR.out.1,HGR.out.2.1,HGR.out.2.2,zz (blr _ _) _⟩
 case round=>
  obtain⟨r,a,k,n,hr,rfl,rfl,rfl,rfl,ga,gk,gn,hbel⟩:=hrel
  by_cases hr2:r<2
  ·have i1:(r:Int)<2:=by omega
   have hX1:=hide (at_later HX.out hbel)
   have hO1:=hide (at_later HO.out hbel)
   have hSV1:=hide (HSV.out.below hbel)
   have hGV1:=hide (HGV.out.below hbel)
   have HWs:=HW
   replace HW:=hide hbel
   have hsW:=hbel.size
   clear hbel
   by_cases hbad:BadA N a n
   ·have HBAD:=hide hbad
    clear hbad
    obtain⟨y0,y1,-,-⟩:=ze hX1.out
    have hly:=lt_of_block hX1.out
    go_wp2_with fail
    refine(zks _ _ N a n k R Ws hSV1.out HS.out HBAD.out).mono ?_
    rintro e w101 ⟨_,rfl,r101,rfl,hr101,hd⟩
    clear y0 y1 hly
    obtain⟨s101,A101,n101,c101,B101,m101,d101,rfl⟩:=hr101.shape
    obtain⟨W101,hW101⟩:∃W101,W101=w101.alloc (.cells #[.bool s101,.slice A101 n101 c101,.slice B101 m101 d101] 43):=⟨_,rfl⟩
    have hda:Below w101.heap.size w101 W101:=by rw[hW101];exact za (blr _ _) _
    have hdn:=bnx hd hda
    have HBa:=hide (show zbd W101 w101.heap.size (0) 3000 from ⟨_,_,_,_,_,_,_,by rw[hW101];exact zg _ _,hr101.below hda⟩)
    have HL:=hide hW101
    replace hX1:=hide (at_later hX1.out hdn)
    replace hO1:=hide (at_later hO1.out hdn)
    replace hSV1:=hide (hSV1.out.below hdn)
    replace hGV1:=hide (hGV1.out.below hdn)
    replace HW:=hide (HW.out.trans (hdn.mono HW.out.size))
    clear hd hda hdn hr101 hW101
    go_upto_region 8 with fail
    rw[<-HL.out]
    clear HL
    obtain⟨y0,y1,-,-⟩:=ze hX1.out
    have hly:=lt_of_block hX1.out
    go_wp2_with fail
    refine(zm0 _ _ N a n R Ws hSV1.out HS.out HBAD.out).mono ?_
    rintro e w102 ⟨_,rfl,r102,rfl,hr102,hd⟩
    clear y0 y1 hly
    obtain⟨s102,A102,n102,c102,B102,m102,d102,rfl⟩:=hr102.shape
    obtain⟨W102,hW102⟩:∃W102,W102=w102.alloc (.cells #[.bool s102,.slice A102 n102 c102,.slice B102 m102 d102] 43):=⟨_,rfl⟩
    have hda:Below w102.heap.size w102 W102:=by rw[hW102];exact za (blr _ _) _
    have hdn:=bnx hd hda
    have HBb:=hide (show zbd W102 w102.heap.size (0) 3000 from ⟨_,_,_,_,_,_,_,by rw[hW102];exact zg _ _,hr102.below hda⟩)
    have HL:=hide hW102
    replace hX1:=hide (at_later hX1.out hdn)
    replace hO1:=hide (at_later hO1.out hdn)
    replace hSV1:=hide (hSV1.out.below hdn)
    replace hGV1:=hide (hGV1.out.below hdn)
    replace HBa:=hide (HBa.out.below hdn)
    replace HW:=hide (HW.out.trans (hdn.mono HW.out.size))
    clear hd hda hdn hr102 hW102
    go_upto_region 9 with fail
    rw[<-HL.out]
    clear HL
    obtain⟨y0,y1,-,-⟩:=ze hX1.out
    have hly:=lt_of_block hX1.out
    go_wp2_with fail
    refine(zlG _ _ N a n R Ws hSV1.out HS.out HBAD.out).mono ?_
    rintro e w103 ⟨_,rfl,r103,rfl,hr103,hd⟩
    clear y0 y1 hly
    obtain⟨s103,A103,n103,c103,B103,m103,d103,rfl⟩:=hr103.shape
    obtain⟨W103,hW103⟩:∃W103,W103=w103.alloc (.cells #[.bool s103,.slice A103 n103 c103,.slice B103 m103 d103] 43):=⟨_,rfl⟩
    have hda:Below w103.heap.size w103 W103:=by rw[hW103];exact za (blr _ _) _
    have hdn:=bnx hd hda
    have HBc:=hide (show zbd W103 w103.heap.size (0) 3000 from ⟨_,_,_,_,_,_,_,by rw[hW103];exact zg _ _,hr103.below hda⟩)
    have HL:=hide hW103
    replace hX1:=hide (at_later hX1.out hdn)
    replace hO1:=hide (at_later hO1.out hdn)
    replace hSV1:=hide (hSV1.out.below hdn)
    replace hGV1:=hide (hGV1.out.below hdn)
    replace HBa:=hide (HBa.out.below hdn)
    replace HBb:=hide (HBb.out.below hdn)
    replace HW:=hide (HW.out.trans (hdn.mono HW.out.size))
    clear hd hda hdn hr103 hW103
    go_upto_region 10 with fail
    rw[<-HL.out]
    clear HL
    obtain⟨y0,y1,-,-⟩:=ze hX1.out
    have hly:=lt_of_block hX1.out
    go_wp2_with fail
    refine(znF _ _ N a n R Ws hSV1.out HS.out HBAD.out).mono ?_
    rintro e w104 ⟨_,rfl,r104,rfl,hr104,hd⟩
    clear y0 y1 hly
    obtain⟨s104,A104,n104,c104,B104,m104,d104,rfl⟩:=hr104.shape
    obtain⟨W104,hW104⟩:∃W104,W104=w104.alloc (.cells #[.bool s104,.slice A104 n104 c104,.slice B104 m104 d104] 43):=⟨_,rfl⟩
    have hda:Below w104.heap.size w104 W104:=by rw[hW104];exact za (blr _ _) _
    have hdn:=bnx hd hda
    have HBd:=hide (show zbd W104 w104.heap.size (0) 3000 from ⟨_,_,_,_,_,_,_,by rw[hW104];exact zg _ _,hr104.below hda⟩)
    have HL:=hide hW104
    replace hX1:=hide (at_later hX1.out hdn)
    replace hO1:=hide (at_later hO1.out hdn)
    replace hSV1:=hide (hSV1.out.below hdn)
    replace hGV1:=hide (hGV1.out.below hdn)
    replace HBa:=hide (HBa.out.below hdn)
    replace HBb:=hide (HBb.out.below hdn)
    replace HBc:=hide (HBc.out.below hdn)
    replace HW:=hide (HW.out.trans (hdn.mono HW.out.size))
    clear hd hda hdn hr104 hW104
    go_upto_region 11 with fail
    rw[<-HL.out]
    clear HL
    go_cut [81] (fun s81 wx=>s81=.bool true/\Below W104.heap.size W104 wx)
    case first=>
     obtain⟨z0,z1,-,-⟩:=ze hO1.out
     have hlz:=lt_of_block hO1.out
     by_cases q1:a<0
     ·go_wp2_with fail
      go_meet
      exact⟨rfl,blr _ _⟩
     ·by_cases q2:(N:Int)<=a
      ·go_wp2_with fail
       go_meet
       exact⟨rfl,blr _ _⟩
      ·by_cases q3:n<0
       ·go_wp2_with fail
        go_meet
        exact⟨rfl,blr _ _⟩
       ·have q4:12<n:=by have:=HBAD.out;unfold BadA at this;omega
        go_wp2_with fail
        go_meet
        exact⟨rfl,blr _ _⟩
    case rest=>
    obtain⟨rfl,hd⟩:=hcut
    rename World=>w105
    replace hX1:=hide (at_later hX1.out hd)
    replace hO1:=hide (at_later hO1.out hd)
    replace hSV1:=hide (hSV1.out.below hd)
    replace hGV1:=hide (hGV1.out.below hd)
    replace HBa:=hide (HBa.out.below hd)
    replace HBb:=hide (HBb.out.below hd)
    replace HBc:=hide (HBc.out.below hd)
    replace HBd:=hide (HBd.out.below hd)
    replace HW:=hide (HW.out.trans (hd.mono HW.out.size))
    clear hd
    obtain⟨s106,A106,n106,c106,B106,m106,d106,hx106,hq106⟩:=HBa.out
    obtain⟨x0,x1,x2⟩:=zj hx106
    have hlx:=lt_of_block hx106
    have HQa:=hide hq106
    clear hx106 hq106
    go_wp2_with fail
    refine(zbj _ _ 0 3000 HQa.out).mono ?_
    rintro e w107 ⟨_,rfl,rfl,hd⟩
    rw[show sgnQ 0=0 from rfl]
    clear x0 x1 x2 hlx HQa
    replace hX1:=hide (at_later hX1.out hd)
    replace hO1:=hide (at_later hO1.out hd)
    replace hSV1:=hide (hSV1.out.below hd)
    replace hGV1:=hide (hGV1.out.below hd)
    replace HBa:=hide (HBa.out.below hd)
    replace HBb:=hide (HBb.out.below hd)
    replace HBc:=hide (HBc.out.below hd)
    replace HBd:=hide (HBd.out.below hd)
    replace HW:=hide (HW.out.trans (hd.mono HW.out.size))
    clear hd
    clear HBa
    obtain⟨s108,A108,n108,c108,B108,m108,d108,hx108,hq108⟩:=HBb.out
    obtain⟨x0,x1,x2⟩:=zj hx108
    have hlx:=lt_of_block hx108
    have HQa:=hide hq108
    clear hx108 hq108
    go_wp2_with fail
    refine(zbj _ _ 0 3000 HQa.out).mono ?_
    rintro e w109 ⟨_,rfl,rfl,hd⟩
    rw[show sgnQ 0=0 from rfl]
    clear x0 x1 x2 hlx HQa
    replace hX1:=hide (at_later hX1.out hd)
    replace hO1:=hide (at_later hO1.out hd)
    replace hSV1:=hide (hSV1.out.below hd)
    replace hGV1:=hide (hGV1.out.below hd)
    replace HBb:=hide (HBb.out.below hd)
    replace HBc:=hide (HBc.out.below hd)
    replace HBd:=hide (HBd.out.below hd)
    replace HW:=hide (HW.out.trans (hd.mono HW.out.size))
    clear hd
    clear HBb
    obtain⟨s110,A110,n110,c110,B110,m110,d110,hx110,hq110⟩:=HBc.out
    obtain⟨x0,x1,x2⟩:=zj hx110
    have hlx:=lt_of_block hx110
    have HQa:=hide hq110
    clear hx110 hq110
    go_wp2_with fail
    refine(zbj _ _ 0 3000 HQa.out).mono ?_
    rintro e w111 ⟨_,rfl,rfl,hd⟩
    rw[show sgnQ 0=0 from rfl]
    clear x0 x1 x2 hlx HQa
    replace hX1:=hide (at_later hX1.out hd)
    replace hO1:=hide (at_later hO1.out hd)
    replace hSV1:=hide (hSV1.out.below hd)
    replace hGV1:=hide (hGV1.out.below hd)
    replace HBc:=hide (HBc.out.below hd)
    replace HBd:=hide (HBd.out.below hd)
    replace HW:=hide (HW.out.trans (hd.mono HW.out.size))
    clear hd
    clear HBc
    obtain⟨s112,A112,n112,c112,B112,m112,d112,hx112,hq112⟩:=HBd.out
    obtain⟨x0,x1,x2⟩:=zj hx112
    have hlx:=lt_of_block hx112
    have HQa:=hide hq112
    clear hx112 hq112
    go_wp2_with fail
    refine(zbj _ _ 0 3000 HQa.out).mono ?_
    rintro e w113 ⟨_,rfl,rfl,hd⟩
    rw[show sgnQ 0=0 from rfl]
    clear x0 x1 x2 hlx HQa
    replace hX1:=hide (at_later hX1.out hd)
    replace hO1:=hide (at_later hO1.out hd)
    replace hSV1:=hide (hSV1.out.below hd)
    replace hGV1:=hide (hGV1.out.below hd)
    replace HBd:=hide (HBd.out.below hd)
    replace HW:=hide (HW.out.trans (hd.mono HW.out.size))
    clear hd
    clear HBd
    obtain⟨z0,z1,-,-⟩:=ze hO1.out
    have hlz:=lt_of_block hO1.out
    have t1:(N:Int)≠0:=by omega
    have t2:IntKind.u64.wrap (N:Int)=(N:Int):=IntWalk.u64_in _ (by omega)
    clear hX1 hSV1 hGV1
    go_wp2
    case roundEnd=>exact⟨⟨r+1,_,_,_,by omega,by go_num,rfl,rfl,rfl,by first|exact zca _|exact zeu _|(unfold I64;omega),by first|exact zca _|exact zeu _|(unfold I64;omega),by first|exact zca _|exact zeu _|(unfold I64;omega),HW.out⟩,by simp[intOf];omega⟩
   ·obtain⟨st,rfl⟩:∃st:Nat,a=(st:Int):=⟨a.toNat,by unfold BadA at hbad;omega⟩
    obtain⟨j,rfl⟩:∃j:Nat,n=(j:Int):=⟨n.toNat,by unfold BadA at hbad;omega⟩
    have hst:st<N:=by unfold BadA at hbad;omega
    have hj12:j<=12:=by unfold BadA at hbad;omega
    clear hbad
    obtain⟨y0,y1,-,-⟩:=ze hX1.out
    have hly:=lt_of_block hX1.out
    go_wp2_with fail
    refine(zkA _ _ N st (j:Int) k R Ws hSV1.out HS.out hst (by omega) (by omega) gk.1 (by have:=gk.2;omega)).mono ?_
    rintro e w301 ⟨_,rfl,r301,rfl,hr301,hd⟩
    clear y0 y1 hly
    obtain⟨s301,A301,n301,c301,B301,m301,d301,rfl⟩:=hr301.shape
    obtain⟨W301,hW301⟩:∃W301,W301=w301.alloc (.cells #[.bool s301,.slice A301 n301 c301,.slice B301 m301 d301] 43):=⟨_,rfl⟩
    have hda:Below w301.heap.size w301 W301:=by rw[hW301];exact za (blr _ _) _
    have hdn:=bnx hd hda
    have HBa:=hide (show zbd W301 w301.heap.size (atQ (ldF N R Ws) N st k j) 3000 from ⟨_,_,_,_,_,_,_,by rw[hW301];exact zg _ _,hr301.below hda⟩)
    have HL:=hide hW301
    replace hX1:=hide (at_later hX1.out hdn)
    replace hO1:=hide (at_later hO1.out hdn)
    replace hSV1:=hide (hSV1.out.below hdn)
    replace hGV1:=hide (hGV1.out.below hdn)
    replace HW:=hide (HW.out.trans (hdn.mono HW.out.size))
    clear hd hda hdn hr301 hW301
    go_upto_region 8 with fail
    rw[<-HL.out]
    clear HL
    obtain⟨y0,y1,-,-⟩:=ze hX1.out
    have hly:=lt_of_block hX1.out
    go_wp2_with fail
    refine(ziC _ _ N st (j:Int) R Ws hSV1.out HS.out hst (by omega) (by omega)).mono ?_
    rintro e w302 ⟨_,rfl,r302,rfl,hr302,hd⟩
    clear y0 y1 hly
    obtain⟨s302,A302,n302,c302,B302,m302,d302,rfl⟩:=hr302.shape
    obtain⟨W302,hW302⟩:∃W302,W302=w302.alloc (.cells #[.bool s302,.slice A302 n302 c302,.slice B302 m302 d302] 43):=⟨_,rfl⟩
    have hda:Below w302.heap.size w302 W302:=by rw[hW302];exact za (blr _ _) _
    have hdn:=bnx hd hda
    have HBb:=hide (show zbd W302 w302.heap.size (spQ N R Ws st j) 3000 from ⟨_,_,_,_,_,_,_,by rw[hW302];exact zg _ _,hr302.below hda⟩)
    have HL:=hide hW302
    replace hX1:=hide (at_later hX1.out hdn)
    replace hO1:=hide (at_later hO1.out hdn)
    replace hSV1:=hide (hSV1.out.below hdn)
    replace hGV1:=hide (hGV1.out.below hdn)
    replace HBa:=hide (HBa.out.below hdn)
    replace HW:=hide (HW.out.trans (hdn.mono HW.out.size))
    clear hd hda hdn hr302 hW302
    go_upto_region 9 with fail
    rw[<-HL.out]
    clear HL
    obtain⟨y0,y1,-,-⟩:=ze hX1.out
    have hly:=lt_of_block hX1.out
    go_wp2_with fail
    refine(zlE _ _ N st (j:Int) R Ws hSV1.out HS.out hst (by omega) (by omega)).mono ?_
    rintro e w303 ⟨_,rfl,r303,rfl,hr303,hd⟩
    rw[Int.toNat_natCast] at hr303
    clear y0 y1 hly
    obtain⟨s303,A303,n303,c303,B303,m303,d303,rfl⟩:=hr303.shape
    obtain⟨W303,hW303⟩:∃W303,W303=w303.alloc (.cells #[.bool s303,.slice A303 n303 c303,.slice B303 m303 d303] 43):=⟨_,rfl⟩
    have hda:Below w303.heap.size w303 W303:=by rw[hW303];exact za (blr _ _) _
    have hdn:=bnx hd hda
    have HBc:=hide (show zbd W303 w303.heap.size (lnQ (ldF N R Ws) N st j) 3000 from ⟨_,_,_,_,_,_,_,by rw[hW303];exact zg _ _,hr303.below hda⟩)
    have HL:=hide hW303
    replace hX1:=hide (at_later hX1.out hdn)
    replace hO1:=hide (at_later hO1.out hdn)
    replace hSV1:=hide (hSV1.out.below hdn)
    replace hGV1:=hide (hGV1.out.below hdn)
    replace HBa:=hide (HBa.out.below hdn)
    replace HBb:=hide (HBb.out.below hdn)
    replace HW:=hide (HW.out.trans (hdn.mono HW.out.size))
    clear hd hda hdn hr303 hW303
    go_upto_region 10 with fail
    rw[<-HL.out]
    clear HL
    obtain⟨y0,y1,-,-⟩:=ze hX1.out
    have hly:=lt_of_block hX1.out
    go_wp2_with fail
    refine(znE _ _ N st (j:Int) R Ws hSV1.out HS.out hst (by omega) (by omega)).mono ?_
    rintro e w304 ⟨_,rfl,r304,rfl,hr304,hd⟩
    clear y0 y1 hly
    obtain⟨s304,A304,n304,c304,B304,m304,d304,rfl⟩:=hr304.shape
    obtain⟨W304,hW304⟩:∃W304,W304=w304.alloc (.cells #[.bool s304,.slice A304 n304 c304,.slice B304 m304 d304] 43):=⟨_,rfl⟩
    have hda:Below w304.heap.size w304 W304:=by rw[hW304];exact za (blr _ _) _
    have hdn:=bnx hd hda
    have HBd:=hide (show zbd W304 w304.heap.size (tmQ N R Ws st j) 3000 from ⟨_,_,_,_,_,_,_,by rw[hW304];exact zg _ _,hr304.below hda⟩)
    have HL:=hide hW304
    replace hX1:=hide (at_later hX1.out hdn)
    replace hO1:=hide (at_later hO1.out hdn)
    replace hSV1:=hide (hSV1.out.below hdn)
    replace hGV1:=hide (hGV1.out.below hdn)
    replace HBa:=hide (HBa.out.below hdn)
    replace HBb:=hide (HBb.out.below hdn)
    replace HBc:=hide (HBc.out.below hdn)
    replace HW:=hide (HW.out.trans (hdn.mono HW.out.size))
    clear hd hda hdn hr304 hW304
    go_upto_region 11 with fail
    rw[<-HL.out]
    clear HL
    have q1:¬((st:Int)<0):=by omega
    have q2:¬((N:Int)<=(st:Int)):=by omega
    have q2b:((st:Int)<(N:Int)):=by omega
    have q3:¬((j:Int)<0):=by omega
    have q4:¬((12:Int)<(j:Int)):=by omega
    have q4b:((j:Int)<=12):=by omega
    obtain⟨z0,z1,-,-⟩:=ze hO1.out
    have hlz:=lt_of_block hO1.out
    go_upto_region 14 with fail
    clear z0 z1 hlz
    go_cut [170] (fun s170 wx=>s170=.bool false/\Below W304.heap.size W304 wx)
    case first=>
     as_aux_lemma=>
      obtain⟨s305,A305,n305,c305,B305,m305,d305,hx305,hq305⟩:=HBa.out
      obtain⟨s306,A306,n306,c306,B306,m306,d306,hx306,hq306⟩:=HBb.out
      obtain⟨s307,A307,n307,c307,B307,m307,d307,hx307,hq307⟩:=HBc.out
      obtain⟨s308,A308,n308,c308,B308,m308,d308,hx308,hq308⟩:=HBd.out
      have e309a:=(ze hO1.out).1
      have e310a:=(ze hO1.out).2.1
      have hS:∀w',Below W304.heap.size W304 w'->(w'.cell? ⟨w301.heap.size,0,none⟩=some (.bool s305)/\w'.cell? ⟨w301.heap.size,1,none⟩=some (.slice A305 n305 c305)/\w'.cell? ⟨w301.heap.size,2,none⟩=some (.slice B305 m305 d305))/\(w'.cell? ⟨w302.heap.size,0,none⟩=some (.bool s306)/\w'.cell? ⟨w302.heap.size,1,none⟩=some (.slice A306 n306 c306)/\w'.cell? ⟨w302.heap.size,2,none⟩=some (.slice B306 m306 d306))/\(w'.cell? ⟨w303.heap.size,0,none⟩=some (.bool s307)/\w'.cell? ⟨w303.heap.size,1,none⟩=some (.slice A307 n307 c307)/\w'.cell? ⟨w303.heap.size,2,none⟩=some (.slice B307 m307 d307))/\(w'.cell? ⟨w304.heap.size,0,none⟩=some (.bool s308)/\w'.cell? ⟨w304.heap.size,1,none⟩=some (.slice A308 n308 c308)/\w'.cell? ⟨w304.heap.size,2,none⟩=some (.slice B308 m308 d308))/\w'.cell? ⟨w1.heap.size,0,none⟩=some (.slice Ar N cr)/\w'.cell? ⟨w1.heap.size,1,none⟩=some (.slice Aw Ws.length cw):=fun w' h=>by
       have eC:∀b o v,W304.cell? ⟨b,o,none⟩=some v->w'.cell? ⟨b,o,none⟩=some v:=fun b o v hv=>(h.cell (zf hv)).trans hv
       exact⟨zj (at_later hx305 h),zj (at_later hx306 h),zj (at_later hx307 h),zj (at_later hx308 h),eC _ _ _ e309a,eC _ _ _ e310a⟩
      have hdr:Below W304.heap.size W304 W304.drew:=(blr _ _).drew
      have HSS:=hide hS
      have HQS:=hide (ai hq305 (ai hq306 (ai hq307 (ai hq308 trivial))))
      clear hS hx305 hq305 hx306 hq306 hx307 hq307 hx308 hq308 e309a e310a
      by_cases i5:(j:Int)<=5
      ·have j5:j<=5:=by omega
       refine zA (fun w'=>(w'.cell? ⟨w301.heap.size,0,none⟩=some (.bool s305)/\w'.cell? ⟨w301.heap.size,1,none⟩=some (.slice A305 n305 c305)/\w'.cell? ⟨w301.heap.size,2,none⟩=some (.slice B305 m305 d305))/\(w'.cell? ⟨w302.heap.size,0,none⟩=some (.bool s306)/\w'.cell? ⟨w302.heap.size,1,none⟩=some (.slice A306 n306 c306)/\w'.cell? ⟨w302.heap.size,2,none⟩=some (.slice B306 m306 d306))/\(w'.cell? ⟨w303.heap.size,0,none⟩=some (.bool s307)/\w'.cell? ⟨w303.heap.size,1,none⟩=some (.slice A307 n307 c307)/\w'.cell? ⟨w303.heap.size,2,none⟩=some (.slice B307 m307 d307))/\(w'.cell? ⟨w304.heap.size,0,none⟩=some (.bool s308)/\w'.cell? ⟨w304.heap.size,1,none⟩=some (.slice A308 n308 c308)/\w'.cell? ⟨w304.heap.size,2,none⟩=some (.slice B308 m308 d308))/\w'.cell? ⟨w1.heap.size,0,none⟩=some (.slice Ar N cr)/\w'.cell? ⟨w1.heap.size,1,none⟩=some (.slice Aw Ws.length cw)) [0,1,2,3,4,5,6,7,8,9,10,11,12,13,14,15,16,17,18,19,20,21,22,23,24,25,26,27,28,29,30,31,32,33,34,35,36,37,38,39,40,41,42,43,44,45,46,47,48,49,50,51,52,53,54] (by kernel_rfl) (HSS.out _ hdr) (fun hh=>?_)
       refine tt 0 hh 116 ?_
       try simp only[Act.put,ptA,ptB,ptC]
       refine tt 1 hh 117 ?_
       try simp only[Act.put,ptA,ptB,ptC]
       refine tt 2 hh 118 ?_
       try simp only[Act.put,ptA,ptB,ptC]
       refine tt 3 hh 119 ?_
       try simp only[Act.put,ptA,ptB,ptC]
       refine tt 4 hh 120 ?_
       try simp only[Act.put,ptA,ptB,ptC]
       refine tt 5 hh 121 ?_
       try simp only[Act.put,ptA,ptB,ptC]
       refine tt 6 hh 122 ?_
       try simp only[Act.put,ptA,ptB,ptC]
       refine tt 7 hh 123 ?_
       try simp only[Act.put,ptA,ptB,ptC]
       refine tt 8 hh 124 ?_
       try simp only[Act.put,ptA,ptB,ptC]
       refine tt 9 hh 125 ?_
       try simp only[Act.put,ptA,ptB,ptC]
       refine tt 10 hh 126 ?_
       try simp only[Act.put,ptA,ptB,ptC]
       refine tt 11 hh 127 ?_
       try simp only[Act.put,ptA,ptB,ptC]
       refine tt 12 hh 128 ?_
       try simp only[Act.put,ptA,ptB,ptC]
       refine tt 13 hh 129 ?_
       try simp only[Act.put,ptA,ptB,ptC]
       refine tt 14 hh 130 ?_
       try simp only[Act.put,ptA,ptB,ptC]
       refine tt 15 hh 131 ?_
       try simp only[Act.put,ptA,ptB,ptC]
       refine tt 16 hh 132 ?_
       try simp only[Act.put,ptA,ptB,ptC]
       refine tt 17 hh 133 ?_
       try simp only[Act.put,ptA,ptB,ptC]
       refine tt 20 hh 136 ?_
       try simp only[Act.put,ptA,ptB,ptC]
       refine tt 21 hh 137 ?_
       try simp only[Act.put,ptA,ptB,ptC]
       refine tt 22 hh 138 ?_
       try simp only[Act.put,ptA,ptB,ptC]
       refine tt 18 hh 134 ?_
       try simp only[Act.put,ptA,ptB,ptC]
       refine tt 19 hh 135 ?_
       try simp only[Act.put,ptA,ptB,ptC]
       refine zb (rs:=[23]) (by kernel_rfl) (by simp) ?_
       refine mem1 ?_
       refine zd rfl (fun K hK=>?_)
       go_simp
       go_at_call 36
       refine(zk5 _ _ R Ws N j st k (hGV1.out.below hdr) HRS.out hst (by omega)).mono ?_
       rintro e w1 ⟨u1,rfl,hu1,hd⟩
       obtain⟨s1,A1,n1,c1,B1,m1,d1,rfl,-⟩:=hu1.parts
       have HU:=hide hu1
       clear hu1
       have hg1:Below W304.heap.size W304 w1:=hdr.trans (hd.mono hdr.size)
       clear hd
       go_wp2_with fail
       refine hK.out _ _ (HSS.out _ hg1) (fun hh=>?_)
       clear hK K
       try simp only[Act.put,ptA,ptB,ptC]
       refine zb (rs:=[24]) (by kernel_rfl) (by simp) ?_
       refine mem1 ?_
       refine zd rfl (fun K hK=>?_)
       go_simp
       go_at_call 30
       refine(zgF _ _ _ (atQ (ldF N R Ws) N st k j) 1000001 ((HQS.out.1.below hg1).more (by omega)) HU.out (by omega)).mono ?_
       rintro e w2 ⟨_,rfl,rfl,hd⟩
       clear HU
       have hg2:Below W304.heap.size W304 w2:=hg1.trans (hd.mono hg1.size)
       clear hd
       go_wp2_with fail
       refine hK.out _ _ (HSS.out _ hg2) (fun hh=>?_)
       clear hK K
       try simp only[Act.put,ptA,ptB,ptC]
       refine tt 25 hh 141 ?_
       try simp only[Act.put,ptA,ptB,ptC]
       refine tt 26 hh 142 ?_
       try simp only[Act.put,ptA,ptB,ptC]
       refine tt 29 hh 145 ?_
       try simp only[Act.put,ptA,ptB,ptC]
       refine tt 30 hh 146 ?_
       try simp only[Act.put,ptA,ptB,ptC]
       refine tt 27 hh 143 ?_
       try simp only[Act.put,ptA,ptB,ptC]
       refine tt 28 hh 144 ?_
       try simp only[Act.put,ptA,ptB,ptC]
       refine zb (rs:=[31]) (by kernel_rfl) (by simp) ?_
       refine mem1 ?_
       refine zd rfl (fun K hK=>?_)
       go_simp
       go_at_call 37
       refine(zni _ _ R Ws N j st (hGV1.out.below hg2) HRS.out hst (by omega)).mono ?_
       rintro e w3 ⟨u3,rfl,hu3,hd⟩
       obtain⟨s3,A3,n3,c3,B3,m3,d3,rfl,-⟩:=hu3.parts
       have HU:=hide hu3
       clear hu3
       have hg3:Below W304.heap.size W304 w3:=hg2.trans (hd.mono hg2.size)
       clear hd
       go_wp2_with fail
       refine hK.out _ _ (HSS.out _ hg3) (fun hh=>?_)
       clear hK K
       try simp only[Act.put,ptA,ptB,ptC]
       refine zb (rs:=[32]) (by kernel_rfl) (by simp) ?_
       refine mem1 ?_
       refine zd rfl (fun K hK=>?_)
       go_simp
       go_at_call 30
       refine(zgF _ _ _ (spQ N R Ws st j) 1000001 ((HQS.out.2.1.below hg3).more (by omega)) HU.out (by omega)).mono ?_
       rintro e w4 ⟨_,rfl,rfl,hd⟩
       clear HU
       have hg4:Below W304.heap.size W304 w4:=hg3.trans (hd.mono hg3.size)
       clear hd
       go_wp2_with fail
       refine hK.out _ _ (HSS.out _ hg4) (fun hh=>?_)
       clear hK K
       try simp only[Act.put,ptA,ptB,ptC]
       refine tt 33 hh 149 ?_
       try simp only[Act.put,ptA,ptB,ptC]
       refine tt 34 hh 150 ?_
       try simp only[Act.put,ptA,ptB,ptC]
       refine tt 35 hh 151 ?_
       try simp only[Act.put,ptA,ptB,ptC]
       refine tt 38 hh 154 ?_
       try simp only[Act.put,ptA,ptB,ptC]
       refine tt 39 hh 155 ?_
       try simp only[Act.put,ptA,ptB,ptC]
       refine tt 36 hh 152 ?_
       try simp only[Act.put,ptA,ptB,ptC]
       refine tt 37 hh 153 ?_
       try simp only[Act.put,ptA,ptB,ptC]
       refine zb (rs:=[40]) (by kernel_rfl) (by simp) ?_
       refine mem1 ?_
       refine zd rfl (fun K hK=>?_)
       go_simp
       go_at_call 38
       refine(zme _ _ R Ws N j st (hGV1.out.below hg4) HRS.out hst (by omega)).mono ?_
       rintro e w5 ⟨u5,rfl,hu5,hd⟩
       obtain⟨s5,A5,n5,c5,B5,m5,d5,rfl,-⟩:=hu5.parts
       have HU:=hide hu5
       clear hu5
       have hg5:Below W304.heap.size W304 w5:=hg4.trans (hd.mono hg4.size)
       clear hd
       go_wp2_with fail
       refine hK.out _ _ (HSS.out _ hg5) (fun hh=>?_)
       clear hK K
       try simp only[Act.put,ptA,ptB,ptC]
       refine zb (rs:=[41]) (by kernel_rfl) (by simp) ?_
       refine mem1 ?_
       refine zd rfl (fun K hK=>?_)
       go_simp
       go_at_call 30
       refine(zgF _ _ _ (lnQ (ldF N R Ws) N st j) 1000001 ((HQS.out.2.2.1.below hg5).more (by omega)) HU.out (by omega)).mono ?_
       rintro e w6 ⟨_,rfl,rfl,hd⟩
       clear HU
       have hg6:Below W304.heap.size W304 w6:=hg5.trans (hd.mono hg5.size)
       clear hd
       go_wp2_with fail
       refine hK.out _ _ (HSS.out _ hg6) (fun hh=>?_)
       clear hK K
       try simp only[Act.put,ptA,ptB,ptC]
       refine tt 42 hh 158 ?_
       try simp only[Act.put,ptA,ptB,ptC]
       refine tt 43 hh 159 ?_
       try simp only[Act.put,ptA,ptB,ptC]
       refine tt 44 hh 160 ?_
       try simp only[Act.put,ptA,ptB,ptC]
       refine tt 47 hh 163 ?_
       try simp only[Act.put,ptA,ptB,ptC]
       refine tt 48 hh 164 ?_
       try simp only[Act.put,ptA,ptB,ptC]
       refine tt 45 hh 161 ?_
       try simp only[Act.put,ptA,ptB,ptC]
       refine tt 46 hh 162 ?_
       try simp only[Act.put,ptA,ptB,ptC]
       refine zb (rs:=[49]) (by kernel_rfl) (by simp) ?_
       refine mem1 ?_
       refine zd rfl (fun K hK=>?_)
       go_simp
       go_at_call 39
       refine(znW _ _ R Ws N j st (hGV1.out.below hg6) HRS.out hst (by omega)).mono ?_
       rintro e w7 ⟨u7,rfl,hu7,hd⟩
       obtain⟨s7,A7,n7,c7,B7,m7,d7,rfl,-⟩:=hu7.parts
       have HU:=hide hu7
       clear hu7
       have hg7:Below W304.heap.size W304 w7:=hg6.trans (hd.mono hg6.size)
       clear hd
       go_wp2_with fail
       refine hK.out _ _ (HSS.out _ hg7) (fun hh=>?_)
       clear hK K
       try simp only[Act.put,ptA,ptB,ptC]
       refine zb (rs:=[50]) (by kernel_rfl) (by simp) ?_
       refine mem1 ?_
       refine zd rfl (fun K hK=>?_)
       go_simp
       go_at_call 30
       refine(zgF _ _ _ (tmQ N R Ws st j) 1000001 ((HQS.out.2.2.2.1.below hg7).more (by omega)) HU.out (by omega)).mono ?_
       rintro e w8 ⟨_,rfl,rfl,hd⟩
       clear HU
       have hg8:Below W304.heap.size W304 w8:=hg7.trans (hd.mono hg7.size)
       clear hd
       go_wp2_with fail
       refine hK.out _ _ (HSS.out _ hg8) (fun hh=>?_)
       clear hK K
       try simp only[Act.put,ptA,ptB,ptC]
       refine tt 51 hh 167 ?_
       try simp only[Act.put,ptA,ptB,ptC]
       refine tt 52 hh 168 ?_
       try simp only[Act.put,ptA,ptB,ptC]
       refine tt 53 hh 169 ?_
       try simp only[Act.put,ptA,ptB,ptC]
       refine tt 54 hh 170 ?_
       try simp only[Act.put,ptA,ptB,ptC]
       refine zae (by kernel_rfl) ?_ _
       clear hh
       go_wp2_with fail
       go_meet
       exact⟨rfl,hg8⟩
      ·
       refine zA (fun w'=>(w'.cell? ⟨w301.heap.size,0,none⟩=some (.bool s305)/\w'.cell? ⟨w301.heap.size,1,none⟩=some (.slice A305 n305 c305)/\w'.cell? ⟨w301.heap.size,2,none⟩=some (.slice B305 m305 d305))/\(w'.cell? ⟨w302.heap.size,0,none⟩=some (.bool s306)/\w'.cell? ⟨w302.heap.size,1,none⟩=some (.slice A306 n306 c306)/\w'.cell? ⟨w302.heap.size,2,none⟩=some (.slice B306 m306 d306))/\(w'.cell? ⟨w303.heap.size,0,none⟩=some (.bool s307)/\w'.cell? ⟨w303.heap.size,1,none⟩=some (.slice A307 n307 c307)/\w'.cell? ⟨w303.heap.size,2,none⟩=some (.slice B307 m307 d307))/\(w'.cell? ⟨w304.heap.size,0,none⟩=some (.bool s308)/\w'.cell? ⟨w304.heap.size,1,none⟩=some (.slice A308 n308 c308)/\w'.cell? ⟨w304.heap.size,2,none⟩=some (.slice B308 m308 d308))/\w'.cell? ⟨w1.heap.size,0,none⟩=some (.slice Ar N cr)/\w'.cell? ⟨w1.heap.size,1,none⟩=some (.slice Aw Ws.length cw)) [0,1,2,3,4,5,6,7,8,9,10,11,12,13,14,15,16,17,18,19,20,21,22,23,24,25,26,27,28,29,30,31,32,33,34,35,36,37,38,39,40,41,42,43,44,45,46,47,48,49,50,51,52,53,54] (by kernel_rfl) (HSS.out _ hdr) (fun hh=>?_)
       refine tt 0 hh 116 ?_
       try simp only[Act.put,ptA,ptB,ptC]
       refine tt 1 hh 117 ?_
       try simp only[Act.put,ptA,ptB,ptC]
       refine tt 2 hh 118 ?_
       try simp only[Act.put,ptA,ptB,ptC]
       refine tt 3 hh 119 ?_
       try simp only[Act.put,ptA,ptB,ptC]
       refine tt 4 hh 120 ?_
       try simp only[Act.put,ptA,ptB,ptC]
       refine tt 5 hh 121 ?_
       try simp only[Act.put,ptA,ptB,ptC]
       refine tt 6 hh 122 ?_
       try simp only[Act.put,ptA,ptB,ptC]
       refine tt 7 hh 123 ?_
       try simp only[Act.put,ptA,ptB,ptC]
       refine tt 8 hh 124 ?_
       try simp only[Act.put,ptA,ptB,ptC]
       refine tt 9 hh 125 ?_
       try simp only[Act.put,ptA,ptB,ptC]
       refine tt 10 hh 126 ?_
       try simp only[Act.put,ptA,ptB,ptC]
       refine tt 11 hh 127 ?_
       try simp only[Act.put,ptA,ptB,ptC]
       refine tt 12 hh 128 ?_
       try simp only[Act.put,ptA,ptB,ptC]
       refine tt 13 hh 129 ?_
       try simp only[Act.put,ptA,ptB,ptC]
       refine tt 14 hh 130 ?_
       try simp only[Act.put,ptA,ptB,ptC]
       refine tt 15 hh 131 ?_
       try simp only[Act.put,ptA,ptB,ptC]
       refine tt 16 hh 132 ?_
       try simp only[Act.put,ptA,ptB,ptC]
       refine tt 17 hh 133 ?_
       try simp only[Act.put,ptA,ptB,ptC]
       refine zx (i:=18) rfl (by kernel_rfl) (by kernel_rfl) (by kernel_rfl) (by kernel_rfl) (fun _ _ _ h=>h) (by rfl) hh (some 134) rfl ?_
       try simp only[Act.put,ptA,ptB,ptC]
       refine zx (i:=19) rfl (by kernel_rfl) (by kernel_rfl) (by kernel_rfl) (by kernel_rfl) (fun _ _ _ h=>h) (by rfl) hh (some 135) rfl ?_
       try simp only[Act.put,ptA,ptB,ptC]
       refine zx (i:=20) rfl (by kernel_rfl) (by kernel_rfl) (by kernel_rfl) (by kernel_rfl) (fun _ _ _ h=>h) (by rfl) hh (some 136) rfl ?_
       try simp only[Act.put,ptA,ptB,ptC]
       refine zx (i:=21) rfl (by kernel_rfl) (by kernel_rfl) (by kernel_rfl) (by kernel_rfl) (fun _ _ _ h=>h) (by rfl) hh (some 137) rfl ?_
       try simp only[Act.put,ptA,ptB,ptC]
       refine zx (i:=22) rfl (by kernel_rfl) (by kernel_rfl) (by kernel_rfl) (by kernel_rfl) (fun _ _ _ h=>h) (by rfl) hh (some 138) rfl ?_
       try simp only[Act.put,ptA,ptB,ptC]
       refine zx (i:=23) rfl (by kernel_rfl) (by kernel_rfl) (by kernel_rfl) (by kernel_rfl) (fun _ _ _ h=>h) (by rfl) hh (some 139) rfl ?_
       try simp only[Act.put,ptA,ptB,ptC]
       refine zx (i:=24) rfl (by kernel_rfl) (by kernel_rfl) (by kernel_rfl) (by kernel_rfl) (fun _ _ _ h=>h) (by rfl) hh (some 140) rfl ?_
       try simp only[Act.put,ptA,ptB,ptC]
       refine zx (i:=25) rfl (by kernel_rfl) (by kernel_rfl) (by kernel_rfl) (by kernel_rfl) (fun _ _ _ h=>h) (by rfl) hh (some 141) rfl ?_
       try simp only[Act.put,ptA,ptB,ptC]
       refine zx (i:=26) rfl (by kernel_rfl) (by kernel_rfl) (by kernel_rfl) (by kernel_rfl) (fun _ _ _ h=>h) (by rfl) hh (some 142) rfl ?_
       try simp only[Act.put,ptA,ptB,ptC]
       refine zx (i:=27) rfl (by kernel_rfl) (by kernel_rfl) (by kernel_rfl) (by kernel_rfl) (fun _ _ _ h=>h) (by rfl) hh (some 143) rfl ?_
       try simp only[Act.put,ptA,ptB,ptC]
       refine zx (i:=28) rfl (by kernel_rfl) (by kernel_rfl) (by kernel_rfl) (by kernel_rfl) (fun _ _ _ h=>h) (by rfl) hh (some 144) rfl ?_
       try simp only[Act.put,ptA,ptB,ptC]
       refine zx (i:=29) rfl (by kernel_rfl) (by kernel_rfl) (by kernel_rfl) (by kernel_rfl) (fun _ _ _ h=>h) (by rfl) hh (some 145) rfl ?_
       try simp only[Act.put,ptA,ptB,ptC]
       refine zx (i:=30) rfl (by kernel_rfl) (by kernel_rfl) (by kernel_rfl) (by kernel_rfl) (fun _ _ _ h=>h) (by rfl) hh (some 146) rfl ?_
       try simp only[Act.put,ptA,ptB,ptC]
       refine zx (i:=31) rfl (by kernel_rfl) (by kernel_rfl) (by kernel_rfl) (by kernel_rfl) (fun _ _ _ h=>h) (by rfl) hh (some 147) rfl ?_
       try simp only[Act.put,ptA,ptB,ptC]
       refine zx (i:=32) rfl (by kernel_rfl) (by kernel_rfl) (by kernel_rfl) (by kernel_rfl) (fun _ _ _ h=>h) (by rfl) hh (some 148) rfl ?_
       try simp only[Act.put,ptA,ptB,ptC]
       refine zx (i:=33) rfl (by kernel_rfl) (by kernel_rfl) (by kernel_rfl) (by kernel_rfl) (fun _ _ _ h=>h) (by rfl) hh (some 149) rfl ?_
       try simp only[Act.put,ptA,ptB,ptC]
       refine zx (i:=34) rfl (by kernel_rfl) (by kernel_rfl) (by kernel_rfl) (by kernel_rfl) (fun _ _ _ h=>h) (by rfl) hh (some 150) rfl ?_
       try simp only[Act.put,ptA,ptB,ptC]
       refine zx (i:=35) rfl (by kernel_rfl) (by kernel_rfl) (by kernel_rfl) (by kernel_rfl) (fun _ _ _ h=>h) (by rfl) hh (some 151) rfl ?_
       try simp only[Act.put,ptA,ptB,ptC]
       refine zx (i:=36) rfl (by kernel_rfl) (by kernel_rfl) (by kernel_rfl) (by kernel_rfl) (fun _ _ _ h=>h) (by rfl) hh (some 152) rfl ?_
       try simp only[Act.put,ptA,ptB,ptC]
       refine zx (i:=37) rfl (by kernel_rfl) (by kernel_rfl) (by kernel_rfl) (by kernel_rfl) (fun _ _ _ h=>h) (by rfl) hh (some 153) rfl ?_
       try simp only[Act.put,ptA,ptB,ptC]
       refine zx (i:=38) rfl (by kernel_rfl) (by kernel_rfl) (by kernel_rfl) (by kernel_rfl) (fun _ _ _ h=>h) (by rfl) hh (some 154) rfl ?_
       try simp only[Act.put,ptA,ptB,ptC]
       refine zx (i:=39) rfl (by kernel_rfl) (by kernel_rfl) (by kernel_rfl) (by kernel_rfl) (fun _ _ _ h=>h) (by rfl) hh (some 155) rfl ?_
       try simp only[Act.put,ptA,ptB,ptC]
       refine zx (i:=40) rfl (by kernel_rfl) (by kernel_rfl) (by kernel_rfl) (by kernel_rfl) (fun _ _ _ h=>h) (by rfl) hh (some 156) rfl ?_
       try simp only[Act.put,ptA,ptB,ptC]
       refine zx (i:=41) rfl (by kernel_rfl) (by kernel_rfl) (by kernel_rfl) (by kernel_rfl) (fun _ _ _ h=>h) (by rfl) hh (some 157) rfl ?_
       try simp only[Act.put,ptA,ptB,ptC]
       refine zx (i:=42) rfl (by kernel_rfl) (by kernel_rfl) (by kernel_rfl) (by kernel_rfl) (fun _ _ _ h=>h) (by rfl) hh (some 158) rfl ?_
       try simp only[Act.put,ptA,ptB,ptC]
       refine zx (i:=43) rfl (by kernel_rfl) (by kernel_rfl) (by kernel_rfl) (by kernel_rfl) (fun _ _ _ h=>h) (by rfl) hh (some 159) rfl ?_
       try simp only[Act.put,ptA,ptB,ptC]
       refine zx (i:=44) rfl (by kernel_rfl) (by kernel_rfl) (by kernel_rfl) (by kernel_rfl) (fun _ _ _ h=>h) (by rfl) hh (some 160) rfl ?_
       try simp only[Act.put,ptA,ptB,ptC]
       refine zx (i:=45) rfl (by kernel_rfl) (by kernel_rfl) (by kernel_rfl) (by kernel_rfl) (fun _ _ _ h=>h) (by rfl) hh (some 161) rfl ?_
       try simp only[Act.put,ptA,ptB,ptC]
       refine zx (i:=46) rfl (by kernel_rfl) (by kernel_rfl) (by kernel_rfl) (by kernel_rfl) (fun _ _ _ h=>h) (by rfl) hh (some 162) rfl ?_
       try simp only[Act.put,ptA,ptB,ptC]
       refine zx (i:=47) rfl (by kernel_rfl) (by kernel_rfl) (by kernel_rfl) (by kernel_rfl) (fun _ _ _ h=>h) (by rfl) hh (some 163) rfl ?_
       try simp only[Act.put,ptA,ptB,ptC]
       refine zx (i:=48) rfl (by kernel_rfl) (by kernel_rfl) (by kernel_rfl) (by kernel_rfl) (fun _ _ _ h=>h) (by rfl) hh (some 164) rfl ?_
       try simp only[Act.put,ptA,ptB,ptC]
       refine zx (i:=49) rfl (by kernel_rfl) (by kernel_rfl) (by kernel_rfl) (by kernel_rfl) (fun _ _ _ h=>h) (by rfl) hh (some 165) rfl ?_
       try simp only[Act.put,ptA,ptB,ptC]
       refine zx (i:=50) rfl (by kernel_rfl) (by kernel_rfl) (by kernel_rfl) (by kernel_rfl) (fun _ _ _ h=>h) (by rfl) hh (some 166) rfl ?_
       try simp only[Act.put,ptA,ptB,ptC]
       refine zx (i:=51) rfl (by kernel_rfl) (by kernel_rfl) (by kernel_rfl) (by kernel_rfl) (fun _ _ _ h=>h) (by rfl) hh (some 167) rfl ?_
       try simp only[Act.put,ptA,ptB,ptC]
       refine zx (i:=52) rfl (by kernel_rfl) (by kernel_rfl) (by kernel_rfl) (by kernel_rfl) (fun _ _ _ h=>h) (by rfl) hh (some 168) rfl ?_
       try simp only[Act.put,ptA,ptB,ptC]
       refine tt 53 hh 169 ?_
       try simp only[Act.put,ptA,ptB,ptC]
       refine tt 54 hh 170 ?_
       try simp only[Act.put,ptA,ptB,ptC]
       refine zae (by kernel_rfl) ?_ _
       clear hh
       go_wp2_with fail
       go_meet
       exact⟨rfl,hdr⟩
    case rest=>
    obtain⟨rfl,hd⟩:=hcut
    rename World=>w311
    replace hX1:=hide (at_later hX1.out hd)
    replace hO1:=hide (at_later hO1.out hd)
    replace hSV1:=hide (hSV1.out.below hd)
    replace hGV1:=hide (hGV1.out.below hd)
    replace HBa:=hide (HBa.out.below hd)
    replace HBb:=hide (HBb.out.below hd)
    replace HBc:=hide (HBc.out.below hd)
    replace HBd:=hide (HBd.out.below hd)
    replace HW:=hide (HW.out.trans (hd.mono HW.out.size))
    clear hd
    clear HBa
    clear HBb
    clear HBc
    clear HBd
    obtain⟨z0,z1,-,-⟩:=ze hO1.out
    have hlz:=lt_of_block hO1.out
    have t1:(N:Int)≠0:=by omega
    have t2:IntKind.u64.wrap (N:Int)=(N:Int):=IntWalk.u64_in _ (by omega)
    clear hX1 hSV1 hGV1
    go_wp2
    case roundEnd=>exact⟨⟨r+1,_,_,_,by omega,by go_num,rfl,rfl,rfl,by first|exact zca _|exact zeu _|(unfold I64;omega),by first|exact zca _|exact zeu _|(unfold I64;omega),by first|exact zca _|exact zeu _|(unfold I64;omega),HW.out⟩,by simp[intOf];omega⟩
  ·obtain rfl:r=2:=by omega
   have i1:¬((2:Nat):Int)<2:=by omega
   have HB:=hide (bnx HW.out hbel)
   clear hbel
   go_wp2_with fail
   refine(zmD _).mono ?_
   rintro e w7 ⟨_,rfl,rfl,hd⟩
   have HE:=hide (bnx HB.out hd)
   clear hd
   go_wp2
   refine bodyPost_ret (v:=.bool true) ?_ rfl ⟨_,rfl,rfl,HE.out⟩
   simp[results,Tryz.results6,go_sem]
end Go.Proofs.YtpoahodnakhmiaaGreat
