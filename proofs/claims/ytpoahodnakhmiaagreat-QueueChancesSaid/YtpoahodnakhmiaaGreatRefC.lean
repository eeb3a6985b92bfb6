import Derived.Test.YtpoahodnakhmiaaGreatRefO
namespace Go.Proofs.YtpoahodnakhmiaaGreat
open Go.RowKit
set_option linter.unusedVariables false
set_option linter.unusedSimpArgs false
set_option maxRecDepth 1000000 in
set_option maxHeartbeats 4000000 in
theorem zjt (w:World) (base R cR:Nat) (vs rR:List Value) (gs:List Nat) (rows:List (List Rat)) (n wd a i N B:Nat) (q:Rat) (s:Bool) (A2:Option Addr) (n2 c2':Nat) (B2:Option Addr) (m2 d2:Nat)
  (h:MatQ w base R cR vs rR gs rows (n / 9+1)) (hN:rows.length=N) (haN:a<N) (hiN:i<N) (hia:i≠a) (hwd:(rows.getD i []).length=wd) (hwa:(rows.getD a []).length=wd) (hwb:wd<=1073741824) (hn:n<=100000000) (hgB:gs.getD i 0≠B)
  (hB0:w.cell? ⟨B,0,none⟩=some (.bool s)) (hB1:w.cell? ⟨B,1,none⟩=some (.slice A2 n2 c2')) (hB2:w.cell? ⟨B,2,none⟩=some (.bool false)) (hB3:w.cell? ⟨B,3,none⟩=some (.slice B2 m2 d2))
  (hqB:QV w (.agg #[.bool s,.slice A2 n2 c2',.bool false,.slice B2 m2 d2]) q (n / 9+1)) (hfit:∀j,j<wd->FracQ n ((rows.getD i []).getD j 0-q*(rows.getD a []).getD j 0))
  (c0 c2 c3 c4 c6 c7 c9 c10 c11 c12 c13 c17 c18 c19 c20 c21 c22 c23 c24 c25 c26 c27 c28 c29 c30 c31 c32 c33 c34 c35 c36 c37 c38 c39 c40 c41 c42 c43 c44 c45 c46 c47 c48 c49 c50 c51 c52 c53 c54 c55 c56 c57 c58 c59 c60 c61 c62 c63 c64 c65 c66 c67 c68 c69 c70 c71 c72 c73 c74 c75 c76 c77 c78 c79 c80 c81 c82 c83 c84 c85 c86 c87 c88 c89 c90 c91 c92 c93 c94 c95 c96 c97 c98 c99 c100 c101 c102 c103 c104 c105 c106 c107 c108 c109 c110 c111 c112 c113 c114 c115 c116 c117 c118 c119 c120 c121 c122 c123 c124 c125 c126 c127 c128 c129 c130 c131 c132 c133 c134 c135 c136 c137 c138 c139 c140 c141 c142 c143 c144 c145 c146 c147 c148 c149 c150 c151 c152 c153 c154 c155 c156 c157 c158 c159 c160 c161 c162 c163 c164 c165 c166 c167:Value) (Q:Exit->Act->World->Prop)
  (hexit:∀(u16 u135 u136 u137 u138 u139 u140 u141 u142 u143 u144 u145 u146 u147 u148 u149 u150 u151 u152 u153 u154 u155 u156 u157 u158 u159 u160 u161 u162:Value) (w':World),RowI w base R cR vs rR gs rows (takeL (rows.getD i []) q (rows.getD a [])) (n / 9+1) i B wd w'->Q (.exit 10) ⟨(c0::(.int .i64 wd:Value)::c2::c3::c4::(.slice (some ⟨R,0,none⟩) N cR:Value)::c6::c7::(.int .i64 a:Value)::c9::c10::c11::c12::c13::(.int .i64 i:Value)::(.pointer (some ⟨B,0,none⟩):Value)::u16::c17::c18::c19::c20::c21::c22::c23::c24::c25::c26::c27::c28::c29::c30::c31::c32::c33::c34::c35::c36::c37::c38::c39::c40::c41::c42::c43::c44::c45::c46::c47::c48::c49::c50::c51::c52::c53::c54::c55::c56::c57::c58::c59::c60::c61::c62::c63::c64::c65::c66::c67::c68::c69::c70::c71::c72::c73::c74::c75::c76::c77::c78::c79::c80::c81::c82::c83::c84::c85::c86::c87::c88::c89::c90::c91::c92::c93::c94::c95::c96::c97::c98::c99::c100::c101::c102::c103::c104::c105::c106::c107::c108::c109::c110::c111::c112::c113::c114::c115::c116::c117::c118::c119::c120::c121::c122::c123::c124::c125::c126::c127::c128::c129::c130::c131::c132::c133::c134::u135::u136::u137::u138::u139::u140::u141::u142::u143::u144::u145::u146::u147::u148::u149::u150::u151::u152::u153::u154::u155::u156::u157::u158::u159::u160::u161::u162::c163::c164::c165::c166::c167::[]).toArray,[]⟩ w'):
  Code.wp Tryz.prog (Code.loop (refBody 10)) Q ⟨(c0::(.int .i64 wd:Value)::c2::c3::c4::(.slice (some ⟨R,0,none⟩) N cR:Value)::c6::c7::(.int .i64 a:Value)::c9::c10::c11::c12::c13::(.int .i64 i:Value)::(.pointer (some ⟨B,0,none⟩):Value)::(.int .i64 0:Value)::c17::c18::c19::c20::c21::c22::c23::c24::c25::c26::c27::c28::c29::c30::c31::c32::c33::c34::c35::c36::c37::c38::c39::c40::c41::c42::c43::c44::c45::c46::c47::c48::c49::c50::c51::c52::c53::c54::c55::c56::c57::c58::c59::c60::c61::c62::c63::c64::c65::c66::c67::c68::c69::c70::c71::c72::c73::c74::c75::c76::c77::c78::c79::c80::c81::c82::c83::c84::c85::c86::c87::c88::c89::c90::c91::c92::c93::c94::c95::c96::c97::c98::c99::c100::c101::c102::c103::c104::c105::c106::c107::c108::c109::c110::c111::c112::c113::c114::c115::c116::c117::c118::c119::c120::c121::c122::c123::c124::c125::c126::c127::c128::c129::c130::c131::c132::c133::c134::c135::c136::c137::c138::c139::c140::c141::c142::c143::c144::c145::c146::c147::c148::c149::c150::c151::c152::c153::c154::c155::c156::c157::c158::c159::c160::c161::c162::c163::c164::c165::c166::c167::[]).toArray,[]⟩ w:=by
 conv=>arg 2;arg 1;whnf
 have HA:=hide (ai h (ai hN (ai hwd (ai hqB (ai hfit (ai hgB hwa))))))
 have HB:=hide (ai hB0 (ai hB1 (ai hB2 hB3)))
 have HE:=hide hexit
 have hlB:=zf hB0
 clear h hN hwd hqB hfit hgB hwa hexit hB0 hB1 hB2 hB3
 obtain⟨new,hnew⟩:∃new,new=takeL (rows.getD i []) q (rows.getD a []):=⟨_,rfl⟩
 have hdl:new.length=(rows.getD i []).length:=by rw[hnew];exact zaR _ _ _
 have hng:∀j,new.getD j 0=(rows.getD i []).getD j 0-q*(rows.getD a []).getD j 0:=fun j=>by rw[hnew];exact zbW _ _ _ _ (by rw[HA.out.2.2.1,HA.out.2.2.2.2.2.2];exact nr _)
 rw[<-hnew] at HE
 have HN:=hide (ai hdl hng)
 clear hdl hng hnew
 go_loopw [16] (fun s16 wr=>∃j:Nat,j<=wd/\s16=.int .i64 j/\RowI w base R cR vs rR gs rows new (n / 9+1) i B j wr) (fun s16 _=>wd-(intOf s16).toNat)
 case atStart=>
  refine⟨0,Nat.zero_le _,rfl,?_,fun _ _=>rfl,rfl,blr _ _,nr _⟩
  rw[zfU,zhv]
  exact HA.out.1
 case round=>
  obtain⟨j,hj,rfl,hI⟩:=hrel
  by_cases hjl:j<wd
  ·have d1:decide (j<wd)=true:=decide_eq_true hjl
   obtain⟨hm,hk,hbk,hbel,hsz⟩:=hI
   have hlr:(rows.set i (mixL new (rows.getD i []) j)).length=N:=(by rw[List.length_set];exact HA.out.2.1)
   have hra:(rows.set i (mixL new (rows.getD i []) j)).getD i []=mixL new (rows.getD i []) j:=(by simp[List.getD,HA.out.2.1,hiN])
   have hro:(rows.set i (mixL new (rows.getD i []) j)).getD a []=rows.getD a []:=(by simp[List.getD,List.getElem?_set_ne hia])
   obtain⟨g,cg,hg,r0,hc1,hc2,hrow,hbg⟩:=hm.rowAt (i:=i) (by rw[hlr];exact hiN)
   obtain⟨ga,ca,hga,ra0,hca1,hca2,hrowa,hbga⟩:=hm.rowAt (i:=a) (by rw[hlr];exact haN)
   rw[hra,zS HN.out.1,HA.out.2.2.1] at r0 hc1
   rw[hra] at hrow
   rw[hro,HA.out.2.2.2.2.2.2] at ra0 hca1
   rw[hro] at hrowa
   obtain⟨s1,A1,n1,c1',B1,m1,d1',e0,e1,e2,e3,hqv⟩:=hrow.2 j (by rw[zS HN.out.1,HA.out.2.2.1];exact hjl)
   rw[zdr HN.out.1,if_neg (by omega)] at hqv
   obtain⟨s3,A3,n3,c3',B3,m3,d3',x0,x1,x2,x3,hqa⟩:=hrowa.2 j (by rw[HA.out.2.2.2.2.2.2];exact hjl)
   have b0:=(World.cell?_of_block (w:=w) hbk).trans HB.out.1
   have b1:=(World.cell?_of_block (w:=w) hbk).trans HB.out.2.1
   have b2:=(World.cell?_of_block (w:=w) hbk).trans HB.out.2.2.1
   have b3:=(World.cell?_of_block (w:=w) hbk).trans HB.out.2.2.2
   have hqB:=HA.out.2.2.2.1.kpI hk
   have hti:=zeG wr.drew _ _ _ _ _ (hqB.below (blr _ _).drew) (hqa.below (blr _ _).drew) (by omega)
   have HO:=hide hti
   have HQ:=hide (QV.more (hqv.below (blr wr.heap.size wr).drew) (L':=2*(n / 9+1)+1) (by omega))
   have HV:=hide (ai hm (ai hk (ai hbk (ai hbel (ai hsz (ai hg (ai hrow (ai hbg (ai hlr hra)))))))))
   have hSk:∀w':World,Below wr.drew.heap.size wr.drew w'->w'.cell? ⟨R,i,none⟩=some (.slice (some ⟨g,0,none⟩) wd cg)/\w'.cell? ⟨R,a,none⟩=some (.slice (some ⟨ga,0,none⟩) wd ca)/\w'.cell? ⟨g,j*4,none⟩=some (.bool s1)/\w'.cell? ⟨g,j*4+1,none⟩=some (.slice A1 n1 c1')/\w'.cell? ⟨g,j*4+2,none⟩=some (.bool false)/\w'.cell? ⟨g,j*4+3,none⟩=some (.slice B1 m1 d1')/\w'.cell? ⟨ga,j*4,none⟩=some (.bool s3)/\w'.cell? ⟨ga,j*4+1,none⟩=some (.slice A3 n3 c3')/\w'.cell? ⟨ga,j*4+2,none⟩=some (.bool false)/\w'.cell? ⟨ga,j*4+3,none⟩=some (.slice B3 m3 d3')/\w'.cell? ⟨B,0,none⟩=some (.bool s)/\w'.cell? ⟨B,1,none⟩=some (.slice A2 n2 c2')/\w'.cell? ⟨B,2,none⟩=some (.bool false)/\w'.cell? ⟨B,3,none⟩=some (.slice B2 m2 d2)/\w'.frozen? ⟨g,j*4,none⟩=false/\w'.frozen? ⟨g,j*4+1,none⟩=false/\w'.frozen? ⟨g,j*4+2,none⟩=false/\w'.frozen? ⟨g,j*4+3,none⟩=false:=(by
    intro w' hb
    have e:∀b j v,wr.cell? ⟨b,j,none⟩=some v->w'.cell? ⟨b,j,none⟩=some v:=fun b j v hv=>(hb.cell (p:=⟨b,j,none⟩) (zf hv)).trans hv
    have ef:∀j,w'.frozen? ⟨g,j,none⟩=false:=fun j=>z9.frozen ((hrow.below (blr _ _).drew).below hb) j
    exact⟨e _ _ _ r0,e _ _ _ ra0,e _ _ _ e0,e _ _ _ e1,e _ _ _ e2,e _ _ _ e3,e _ _ _ x0,e _ _ _ x1,e _ _ _ x2,e _ _ _ x3,e _ _ _ b0,e _ _ _ b1,e _ _ _ b2,e _ _ _ b3,ef _,ef _,ef _,ef _⟩)
   have HSk:=hide hSk
   clear hSk hti hm hk hbk hbel hsz hg hrow hbg hlr hra hro hga hrowa hbga hca1 hca2 hqv hqa hqB hc1 hc2 r0 ra0 e0 e1 e2 e3 x0 x1 x2 x3 b0 b1 b2 b3
   go_wp2
   have hdr:Below wr.drew.heap.size wr.drew wr.drew:=blr _ _
   refine wp_region_noPanic ?_
   refine zv (fun w'=>w'.cell? ⟨R,i,none⟩=some (.slice (some ⟨g,0,none⟩) wd cg)/\w'.cell? ⟨R,a,none⟩=some (.slice (some ⟨ga,0,none⟩) wd ca)/\w'.cell? ⟨g,j*4,none⟩=some (.bool s1)/\w'.cell? ⟨g,j*4+1,none⟩=some (.slice A1 n1 c1')/\w'.cell? ⟨g,j*4+2,none⟩=some (.bool false)/\w'.cell? ⟨g,j*4+3,none⟩=some (.slice B1 m1 d1')/\w'.cell? ⟨ga,j*4,none⟩=some (.bool s3)/\w'.cell? ⟨ga,j*4+1,none⟩=some (.slice A3 n3 c3')/\w'.cell? ⟨ga,j*4+2,none⟩=some (.bool false)/\w'.cell? ⟨ga,j*4+3,none⟩=some (.slice B3 m3 d3')/\w'.cell? ⟨B,0,none⟩=some (.bool s)/\w'.cell? ⟨B,1,none⟩=some (.slice A2 n2 c2')/\w'.cell? ⟨B,2,none⟩=some (.bool false)/\w'.cell? ⟨B,3,none⟩=some (.slice B2 m2 d2)/\w'.frozen? ⟨g,j*4,none⟩=false/\w'.frozen? ⟨g,j*4+1,none⟩=false/\w'.frozen? ⟨g,j*4+2,none⟩=false/\w'.frozen? ⟨g,j*4+3,none⟩=false) [0,1,2,3,4,5,6,7,8,9,10,11,12,13,14,15,16,17,18,19,20,21,22] (by kernel_rfl) (HSk.out _ hdr) (fun hh=>?_)
   refine tt 0 hh 140 ?_
   try simp only[Act.put,ptA,ptB,ptC]
   refine tt 1 hh 141 ?_
   try simp only[Act.put,ptA,ptB,ptC]
   refine tt 2 hh 142 ?_
   try simp only[Act.put,ptA,ptB,ptC]
   refine tt 4 hh 144 ?_
   try simp only[Act.put,ptA,ptB,ptC]
   refine tt 5 hh 145 ?_
   try simp only[Act.put,ptA,ptB,ptC]
   refine tt 6 hh 146 ?_
   try simp only[Act.put,ptA,ptB,ptC]
   refine tt 7 hh 147 ?_
   try simp only[Act.put,ptA,ptB,ptC]
   refine tt 9 hh 149 ?_
   try simp only[Act.put,ptA,ptB,ptC]
   refine tt 13 hh 153 ?_
   try simp only[Act.put,ptA,ptB,ptC]
   refine tt 14 hh 154 ?_
   try simp only[Act.put,ptA,ptB,ptC]
   refine tt 15 hh 155 ?_
   try simp only[Act.put,ptA,ptB,ptC]
   refine tt 17 hh 157 ?_
   try simp only[Act.put,ptA,ptB,ptC]
   refine tt 3 hh 143 ?_
   try simp only[Act.put,ptA,ptB,ptC]
   refine tt 8 hh 148 ?_
   try simp only[Act.put,ptA,ptB,ptC]
   refine tt 10 hh 150 ?_
   try simp only[Act.put,ptA,ptB,ptC]
   refine tt 11 hh 151 ?_
   try simp only[Act.put,ptA,ptB,ptC]
   refine tt 12 hh 152 ?_
   try simp only[Act.put,ptA,ptB,ptC]
   refine tt 16 hh 156 ?_
   try simp only[Act.put,ptA,ptB,ptC]
   refine tt 18 hh 158 ?_
   try simp only[Act.put,ptA,ptB,ptC]
   refine tt 19 hh 159 ?_
   try simp only[Act.put,ptA,ptB,ptC]
   refine zb (rs:=[20]) (by kernel_rfl) (by simp) ?_
   refine mem1 ?_
   refine zd rfl (fun K hK=>?_)
   go_simp
   go_at_call 88
   refine HO.out.mono ?_
   rintro e u1 ⟨_,rfl,hqv4,hd4⟩
   obtain⟨s5,A5,n5,c5',B5,m5,d5',rfl,-⟩:=QV.parts hqv4
   have H3:=hide (ai hqv4 hd4)
   clear hqv4 hd4
   go_wp2_with fail
   refine hK.out _ _ (HSk.out _ H3.out.2) (fun hh=>?_)
   clear hK K
   try simp only[Act.put,ptA,ptB,ptC]
   refine zb (rs:=[21]) (by kernel_rfl) (by simp) ?_
   refine mem1 ?_
   refine zd rfl (fun K hK=>?_)
   go_simp
   go_at_call 53
   refine(zhm _ _ _ _ _ _ (HQ.out.below H3.out.2) H3.out.1 (by omega)).mono ?_
   rintro e u2 ⟨_,rfl,hqv4,hd4⟩
   obtain⟨s4,A4,n4,c4',B4,m4,d4',rfl,-⟩:=QV.parts hqv4
   have H4:=hide (ai hqv4 (bnx H3.out.2 hd4))
   clear hqv4 hd4
   go_wp2_with fail
   refine hK.out _ _ (HSk.out _ H4.out.2) (fun hh=>?_)
   clear hK K
   try simp only[Act.put,ptA,ptB,ptC]
   refine tt 22 hh 162 ?_
   try simp only[Act.put,ptA,ptB,ptC]
   refine zQ (k:=23) (by rfl) (by rfl) (by kernel_rfl) ?_
   simp only[List.drop_succ_cons,List.drop_zero]
   obtain⟨r0,ra0,e0,e1,e2,e3,x0,x1,x2,x3,b0,b1,b2,b3,f0,f1,f2,f3⟩:=HSk.out _ H4.out.2
   clear hh
   go_wp2_with fail
   refine NoPanic.normal ?_
   go_wp2
   case roundEnd=>
    obtain⟨hm,hk,hbk,hbel,hsz,hg,hrow,hbg,hlr,hra⟩:=HV.out
    have hb4:Below wr.heap.size wr u2:=(blr wr.heap.size wr).drew.trans H4.out.2
    have hq4:=H4.out.1.fit (HA.out.2.2.2.2.1 j hjl)
    obtain⟨t1,t2,t3⟩:=(hrow.below hb4).set4 (i:=j) (by rw[zS HN.out.1,HA.out.2.2.1];exact hjl) hq4 rfl
    rw[<-HN.out.2,zgX HN.out.1 (by rw[HA.out.2.2.1];exact hjl)] at t1
    have hm5:=(hm.below hb4).row (i:=i) (qs:=mixL new (rows.getD i []) (j+1)) (by rw[hlr];exact hiN) (by rw[hra,zS HN.out.1,zS HN.out.1]) (by rw[<-hg];exact t1) t2 (by rw[<-hg];exact t3)
    rw[List.set_set] at hm5
    have h1:=hb4.size
    have h2:=t3.size
    refine⟨⟨j+1,by omega,by go_num,hm5,(hk.trans (Below.kpI hb4)).trans t2,?_,only_below (hbel.trans (hb4.mono hm.le)) t3 (by have:=hm.le;omega) hbg,by omega⟩,by simp[intOf];omega⟩
    refine(t3.block B (by omega) ?_).trans ((hb4.block B (by omega)).trans hbk)
    intro e
    injection e with e
    exact HA.out.2.2.2.2.2.1 (by rw[<-hg,<-e])
  ·have d1:decide (j<wd)=false:=decide_eq_false hjl
   obtain rfl:j=wd:=by omega
   have HI:=hide hI;clear hI
   go_wp2
   exact HE.out _ _ _ _ _ _ _ _ _ _ _ _ _ _ _ _ _ _ _ _ _ _ _ _ _ _ _ _ _ _ HI.out
theorem zes (rows:List (List Rat)) (k:Nat) (qs:List Rat) (j:Nat) (hk:k<rows.length):ent (rows.set k qs) k j=qs.getD j 0:=by
 unfold ent
 rw[show (rows.set k qs).getD k []=qs by simp[List.getD,hk]]
def zdd (w:World) (base R cR:Nat) (vs rR:List Value) (gs:List Nat) (S:St) (L a col k:Nat) (w':World):Prop:=
 MatQ w' base R cR vs rR gs (clearN a col k S).1 L/\KpI w w'/\Below base w w'/\w.heap.size<=w'.heap.size
set_option maxRecDepth 1000000 in
set_option maxHeartbeats 4000000 in
theorem zkO (w:World) (base R cR:Nat) (vs rR:List Value) (gs:List Nat) (S:St) (m wd a n N:Nat)
  (h:MatQ w base R cR vs rR gs S.1 (m / 9+1)) (hrect:Rect wd S) (hN:S.1.length=N) (haN:a<N) (hnw:n<wd) (hwb:wd<=1073741824) (hNb:N<=1073741824) (hm:m<=100000000)
  (hfit:∀k,k<=N->∀i j,FracQ m (ent (clearN a n k S).1 i j))
  (c0 c2 c3 c4 c6 c7 c10 c11 c12 c13 c15 c16 c17 c18 c19 c20 c21 c22 c23 c24 c25 c26 c27 c28 c29 c30 c31 c32 c33 c34 c35 c36 c37 c38 c39 c40 c41 c42 c43 c44 c45 c46 c47 c48 c49 c50 c51 c52 c53 c54 c55 c56 c57 c58 c59 c60 c61 c62 c63 c64 c65 c66 c67 c68 c69 c70 c71 c72 c73 c74 c75 c76 c77 c78 c79 c80 c81 c82 c83 c84 c85 c86 c87 c88 c89 c90 c91 c92 c93 c94 c95 c96 c97 c98 c99 c100 c101 c102 c103 c104 c105 c106 c107 c108 c109 c110 c111 c112 c113 c114 c115 c116 c117 c118 c119 c120 c121 c122 c123 c124 c125 c126 c127 c128 c129 c130 c131 c132 c133 c134 c135 c136 c137 c138 c139 c140 c141 c142 c143 c144 c145 c146 c147 c148 c149 c150 c151 c152 c153 c154 c155 c156 c157 c158 c159 c160 c161 c162 c163 c164 c165 c166 c167:Value) (Q:Exit->Act->World->Prop)
  (hexit:∀(u14 u15 u16 u108 u109 u110 u111 u112 u113 u114 u115 u116 u117 u118 u119 u120 u121 u122 u123 u124 u125 u126 u127 u128 u129 u130 u131 u132 u133 u134 u135 u136 u137 u138 u139 u140 u141 u142 u143 u144 u145 u146 u147 u148 u149 u150 u151 u152 u153 u154 u155 u156 u157 u158 u159 u160 u161 u162:Value) (w':World),zdd w base R cR vs rR gs S (m / 9+1) a n N w'->Q (.exit 8) ⟨(c0::(.int .i64 wd:Value)::c2::c3::c4::(.slice (some ⟨R,0,none⟩) N cR:Value)::c6::c7::(.int .i64 a:Value)::(.int .i64 n:Value)::c10::c11::c12::c13::u14::u15::u16::c17::c18::c19::c20::c21::c22::c23::c24::c25::c26::c27::c28::c29::c30::c31::c32::c33::c34::c35::c36::c37::c38::c39::c40::c41::c42::c43::c44::c45::c46::c47::c48::c49::c50::c51::c52::c53::c54::c55::c56::c57::c58::c59::c60::c61::c62::c63::c64::c65::c66::c67::c68::c69::c70::c71::c72::c73::c74::c75::c76::c77::c78::c79::c80::c81::c82::c83::c84::c85::c86::c87::c88::c89::c90::c91::c92::c93::c94::c95::c96::c97::c98::c99::c100::c101::c102::c103::c104::c105::c106::c107::u108::u109::u110::u111::u112::u113::u114::u115::u116::u117::u118::u119::u120::u121::u122::u123::u124::u125::u126::u127::u128::u129::u130::u131::u132::u133::u134::u135::u136::u137::u138::u139::u140::u141::u142::u143::u144::u145::u146::u147::u148::u149::u150::u151::u152::u153::u154::u155::u156::u157::u158::u159::u160::u161::u162::c163::c164::c165::c166::c167::[]).toArray,[]⟩ w'):
  Code.wp Tryz.prog (Code.loop (refBody 8)) Q ⟨(c0::(.int .i64 wd:Value)::c2::c3::c4::(.slice (some ⟨R,0,none⟩) N cR:Value)::c6::c7::(.int .i64 a:Value)::(.int .i64 n:Value)::c10::c11::c12::c13::(.int .i64 0:Value)::c15::c16::c17::c18::c19::c20::c21::c22::c23::c24::c25::c26::c27::c28::c29::c30::c31::c32::c33::c34::c35::c36::c37::c38::c39::c40::c41::c42::c43::c44::c45::c46::c47::c48::c49::c50::c51::c52::c53::c54::c55::c56::c57::c58::c59::c60::c61::c62::c63::c64::c65::c66::c67::c68::c69::c70::c71::c72::c73::c74::c75::c76::c77::c78::c79::c80::c81::c82::c83::c84::c85::c86::c87::c88::c89::c90::c91::c92::c93::c94::c95::c96::c97::c98::c99::c100::c101::c102::c103::c104::c105::c106::c107::c108::c109::c110::c111::c112::c113::c114::c115::c116::c117::c118::c119::c120::c121::c122::c123::c124::c125::c126::c127::c128::c129::c130::c131::c132::c133::c134::c135::c136::c137::c138::c139::c140::c141::c142::c143::c144::c145::c146::c147::c148::c149::c150::c151::c152::c153::c154::c155::c156::c157::c158::c159::c160::c161::c162::c163::c164::c165::c166::c167::[]).toArray,[]⟩ w:=by
 conv=>arg 2;arg 1;whnf
 have HA:=hide (ai h (ai hrect (ai hfit hN)));clear h hrect hfit hN
 have HE:=hide hexit;clear hexit
 go_loopw [14] (fun s14 wr=>∃k:Nat,k<=N/\s14=.int .i64 k/\zdd w base R cR vs rR gs S (m / 9+1) a n k wr) (fun s14 _=>N-(intOf s14).toNat)
 case atStart=>exact⟨0,Nat.zero_le _,rfl,HA.out.1,fun _ _=>rfl,blr _ _,nr _⟩
 case round=>
  obtain⟨k,hk,rfl,hI⟩:=hrel
  by_cases hkl:k<N
  ·have d1:decide (k<N)=true:=decide_eq_true hkl
   obtain⟨T,hT⟩:∃T,T=clearN a n k S:=⟨_,rfl⟩
   have hrk:Rect wd T:=by rw[hT];exact zbc k HA.out.2.1 (by rw[HA.out.2.2.2];omega)
   have hlk:T.1.length=N:=by rw[hT,clearN_length];exact HA.out.2.2.2
   have hnx:clearN a n (k+1) S=clearS a n k T:=by rw[hT];rfl
   have hfk:∀i j,FracQ m (ent (clearS a n k T).1 i j):=by rw[<-hnx];exact HA.out.2.2.1 (k+1) (by omega)
   unfold zdd at hI
   rw[<-hT] at hI
   obtain⟨hmat,hty,hbel,hsz⟩:=hI
   obtain⟨gk,ck,hgk,r0,hc1,hc2,hrow,hbg⟩:=hmat.rowAt (i:=k) (by rw[hlk];exact hkl)
   have qk:=hrk.row k (by rw[hlk];exact hkl)
   have qa:=hrk.row a (by rw[hlk];exact haN)
   rw[qk] at r0 hc1
   obtain⟨s2,B3,m3,d3,B4,m4,d4,e0,e1,e2,e3,hq⟩:=hrow.2 n (by rw[qk];omega)
   have HX:=hide (ai hT (ai hrk (ai hlk (ai hfk (ai hnx (ai hmat (ai hty (ai hbel (ai hsz (ai hgk (ai hrow (ai hbg (ai qk (ai qa hq))))))))))))))
   clear hT hrk hlk hfk hnx hmat hty hbel hsz hgk hrow hbg qk qa hq hc1 hc2
   by_cases hka:k=a
   ·have hne:((k:Int) == (a:Int))=true:=by rw[hka];simp
    have HKA:=hide hka;clear hka
    go_wp2
    case roundEnd=>
     obtain⟨hT,hrk,hlk,hfk,hnx,hmat,hty,hbel,hsz,hgk,hrow,hbg,qk,qa,hq⟩:=HX.out
     have e:clearS a n k T=T:=by unfold clearS;rw[if_pos (.inl HKA.out)]
     refine⟨⟨k+1,by omega,by go_num,?_⟩,by simp[intOf];omega⟩
     unfold zdd
     rw[hnx,e]
     exact⟨hmat,hty,hbel,hsz⟩
   ·have hne:((k:Int) == (a:Int))=false:=by rw[beq_eq_false_iff_ne];omega
    have HKA:=hide hka;clear hka
    have HS:=hide (fun w1 (hb:Below wr.heap.size wr w1)=>zdX w1 _ _ _ (HX.out.2.2.2.2.2.2.2.2.2.2.2.2.2.2.below hb))
    by_cases hz:ent T.1 k n=0
    ·go_wp2_with fail
     refine(HS.out _ (blr _ _)).mono ?_
     rintro e w1 ⟨_,rfl,rfl,hd1⟩
     rw[show sgnQ ((T.1.getD k []).getD n 0)=0 by rw[show (T.1.getD k []).getD n 0=0 from hz];rfl]
     have HD:=hide hd1;clear hd1
     go_wp2
     case roundEnd=>
      obtain⟨hT,hrk,hlk,hfk,hnx,hmat,hty,hbel,hsz,hgk,hrow,hbg,qk,qa,hq⟩:=HX.out
      have hd1:=HD.out
      have e:clearS a n k T=T:=by unfold clearS;rw[if_pos (.inr hz)]
      refine⟨⟨k+1,by omega,by go_num,?_⟩,by simp[intOf];omega⟩
      unfold zdd
      rw[hnx,e]
      exact⟨hmat.below hd1,hty.trans (Below.kpI hd1),hbel.trans (hd1.mono hmat.le),by have:=hd1.size;omega⟩
    ·go_wp2_with fail
     refine(HS.out _ (blr _ _)).mono ?_
     rintro e w1 ⟨_,rfl,rfl,hd1⟩
     obtain⟨z,hzz⟩:∃z,z=sgnQ ((T.1.getD k []).getD n 0):=⟨_,rfl⟩
     have hs:(z == 0)=false:=by rw[beq_eq_false_iff_ne,hzz];exact ziS hz
     rw[<-hzz]
     have HZ:=hide (ai hz hzz);clear hz hzz
     have HD:=hide hd1
     have r1:=(hd1.cell (zf r0)).trans r0
     have y0:=(hd1.cell (zf e0)).trans e0
     have y1:=(hd1.cell (zf e1)).trans e1
     have y2:=(hd1.cell (zf e2)).trans e2
     have y3:=(hd1.cell (zf e3)).trans e3
     clear hd1 r0 e0 e1 e2 e3
     have hcl:clearS a n k T=(T.1.set k (takeL (T.1.getD k []) (ent T.1 k n) (T.1.getD a [])),T.2.set k (takeL (T.2.getD k []) (ent T.1 k n) (T.2.getD a []))):=(by unfold clearS;rw[if_neg (fun h=>h.elim HKA.out HZ.out.1)])
     have HCL:=hide hcl;clear hcl
     obtain⟨z0,z1,z2,z3,_⟩:=zq (heap_alloc_new w1 (.cells #[.bool s2,.slice B3 m3 d3,.bool false,.slice B4 m4 d4] 55))
     have hbW:=za HD.out (.cells #[.bool s2,.slice B3 m3 d3,.bool false,.slice B4 m4 d4] 55)
     have HM:=hide (ai (HX.out.2.2.2.2.2.1.below hbW) (ai (HX.out.2.2.2.2.2.2.2.2.2.2.2.2.2.2.below hbW) (ai hbW (ai z0 (ai z1 (ai z2 z3))))))
     clear hbW z0 z1 z2 z3
     go_wp2
     refine zjt _ base R cR vs rR gs T.1 m wd a k N w1.heap.size (ent T.1 k n) s2 B3 m3 d3 B4 m4 d4 HM.out.1 HX.out.2.2.1 haN hkl HKA.out HX.out.2.2.2.2.2.2.2.2.2.2.2.2.1 HX.out.2.2.2.2.2.2.2.2.2.2.2.2.2.1 hwb hm (by have h1:=HX.out.2.2.2.2.2.2.2.2.2.2.1.lt;have h2:=HD.out.size;have h3:=HX.out.2.2.2.2.2.2.2.2.2.1;omega) HM.out.2.2.2.1 HM.out.2.2.2.2.1 HM.out.2.2.2.2.2.1 HM.out.2.2.2.2.2.2 HM.out.2.1 ?fit _ _ _ _ _ _ _ _ _ _ _ _ _ _ _ _ _ _ _ _ _ _ _ _ _ _ _ _ _ _ _ _ _ _ _ _ _ _ _ _ _ _ _ _ _ _ _ _ _ _ _ _ _ _ _ _ _ _ _ _ _ _ _ _ _ _ _ _ _ _ _ _ _ _ _ _ _ _ _ _ _ _ _ _ _ _ _ _ _ _ _ _ _ _ _ _ _ _ _ _ _ _ _ _ _ _ _ _ _ _ _ _ _ _ _ _ _ _ _ _ _ _ _ _ _ _ _ _ _ _ _ _ _ _ _ _ _ _ _ _ _ _ _ _ _ _ _ _ _ _ _ _ _ _ _ _ _ _ _ _ _ _ _ ?_
     case fit=>
      intro j hj
      have h1:=HX.out.2.2.2.1 k j
      rw[HCL.out] at h1
      have e:ent (T.1.set k (takeL (T.1.getD k []) (ent T.1 k n) (T.1.getD a []))) k j=(T.1.getD k []).getD j 0-ent T.1 k n*(T.1.getD a []).getD j 0:=by
       rw[zes _ _ _ _ (by rw[HX.out.2.2.1];exact hkl),zbW _ _ _ _ (by rw[HX.out.2.2.2.2.2.2.2.2.2.2.2.2.1,HX.out.2.2.2.2.2.2.2.2.2.2.2.2.2.1];exact nr _)]
      rw[e] at h1
      exact h1
     intro v16 v135 v136 v137 v138 v139 v140 v141 v142 v143 v144 v145 v146 v147 v148 v149 v150 v151 v152 v153 v154 v155 v156 v157 v158 v159 v160 v161 v162 w6 hR
     have HR:=hide hR;clear hR
     go_wp2
     case roundEnd=>
      obtain⟨hT,hrk,hlk,hfk,hnx,hmat,hty,hbel,hsz,hgk,hrow,hbg,qk,qa,hq⟩:=HX.out
      obtain⟨h1,h2,h3,h4,h5⟩:=HR.out
      have hbW:=HM.out.2.2.1
      refine⟨⟨k+1,by omega,by go_num,?_⟩,by simp[intOf];omega⟩
      unfold zdd
      have el:mixL (takeL (T.1.getD k []) (ent T.1 k n) (T.1.getD a [])) (T.1.getD k []) wd=takeL (T.1.getD k []) (ent T.1 k n) (T.1.getD a []):=by rw[<-qk];exact zgW (zaR _ _ _)
      rw[el] at h1
      rw[hnx,HCL.out]
      exact⟨h1,(hty.trans (Below.kpI hbW)).trans h2,(hbel.trans (hbW.mono hmat.le)).trans h4,by have:=hbW.size;omega⟩
  ·have d1:decide (k<N)=false:=decide_eq_false hkl
   obtain rfl:k=N:=by omega
   have HI:=hide hI;clear hI
   go_wp2
   exact HE.out _ _ _ _ _ _ _ _ _ _ _ _ _ _ _ _ _ _ _ _ _ _ _ _ _ _ _ _ _ _ _ _ _ _ _ _ _ _ _ _ _ _ _ _ _ _ _ _ _ _ _ _ _ _ _ _ _ _ _ HI.out
end Go.Proofs.YtpoahodnakhmiaaGreat
