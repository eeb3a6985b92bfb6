import Derived.Test.YtpoahodnakhmiaaGreatEnum
set_option maxRecDepth 100000
namespace Go.Proofs.YtpoahodnakhmiaaGreat
set_option linter.unusedVariables false
set_option linter.unusedSimpArgs false
open Go.RowKit
theorem ziq {x y A B:Int} (hx:0<=x) (hy:0<=y) (h1:x<A) (h2:y<B):x*y<A*B:=by
 have h:x*y<=(A-1)*(B-1):=Int.mul_le_mul (by omega) (by omega) hy (by omega)
 rw[Int.sub_mul,Int.mul_sub] at h
 omega
theorem FracQ.of_divInt {a:Nat} {n d:Int} (hd:0<d) (h1:(n.natAbs:Int)<10^a) (h2:d<10^a):FracQ a (Rat.divInt n d):=by
 obtain⟨x,y⟩:=zdI n d hd
 exact⟨by omega,by omega⟩
theorem FracQ.mul {a b:Nat} {p q:Rat} (hp:FracQ a p) (hq:FracQ b q):FracQ (a+b) (p*q):=by
 have hpd:=zG p
 have hqd:=zG q
 have e:p*q=Rat.divInt (p.num*q.num) (p.den*q.den):=by
  conv=>lhs;rw[<-Rat.num_divInt_den p,<-Rat.num_divInt_den q]
  exact Rat.divInt_mul_divInt _ _
 rw[e]
 refine FracQ.of_divInt (Int.mul_pos hpd hqd) ?_ ?_
 ·rw[Int.natAbs_mul,Int.natCast_mul,Int.pow_add]
  exact ziq (by omega) (by omega) hp.1 hq.1
 ·rw[Int.pow_add]
  exact ziq (by omega) (by omega) hp.2 hq.2
theorem FracQ.inv {a:Nat} {q:Rat} (hq:FracQ a q) (h0:q≠0):FracQ a (1 / q):=by
 have hqd:=zG q
 have hn:q.num≠0:=fun e=>h0 (Rat.num_eq_zero.1 e)
 obtain⟨x,y⟩:=hq
 rw[Rat.div_def,Rat.one_mul,Rat.inv_def]
 by_cases hneg:q.num<0
 ·rw[<-Rat.neg_divInt_neg]
  refine FracQ.of_divInt (by omega) ?_ (by omega)
  rw[Int.natAbs_neg,Int.natAbs_natCast]
  omega
 ·exact FracQ.of_divInt (by omega) (by rw[Int.natAbs_natCast];omega) (by omega)
theorem zfO (a b:Int) (h0:0<=a) (h:a<=b*b):∀F:Nat,a^F<=b^(2*F)
 | 0=>by simp
 | F+1=>by
  have ih:=zfO a b h0 h F
  have h2:(0:Int)<=a^F:=Int.pow_nonneg h0
  rw[show 2*(F+1)=2*F+1+1 by omega,Int.pow_succ,Int.pow_succ,Int.pow_succ,Int.mul_assoc]
  exact Int.mul_le_mul ih h h0 (Int.le_trans h2 ih)
theorem QV.fitQ {w:World} {v:Value} {q:Rat} {L F:Nat} (h:QV w v q L) (hq:FitQ F q):QV w v q (2*F+1):=by
 obtain⟨a,b,rfl,g1,g2⟩:=h
 have h1:(4294967296:Int)^F<=1000000000^(2*F):=zfO 4294967296 1000000000 (by decide) (by decide) F
 have h2:(0:Int)<1000000000^(2*F):=Int.pow_pos (by decide)
 have h3:(1000000000:Int)^(2*F+1)=1000000000^(2*F)*1000000000:=Int.pow_succ ..
 exact⟨a,b,rfl,g1.fit (by have:=hq.1;omega),g2.fit (by have:=hq.2;omega)⟩
set_option maxHeartbeats 8000000 in
theorem zmI (w:World) (v:Value) (q:Rat) (n L F:Nat) (hq:QV w v q L) (hn:n<=100) (hL:L<=2*F+1) (hF1:1<=F) (hF:F<=100000000) (hf:∀k,k<=n->FitQ F (powN q k)):
  Calls Tryz.prog 145 #[v,.int .i64 (n:Int)] w (Ret (qR w (powN q n) (2*F+1))):=by
 obtain⟨s0,A0,n0,c0,B0,m0,d0,rfl,-⟩:=hq.parts
 obtain⟨W,hW⟩:∃W,W=(w.alloc (.cells #[.bool s0,.slice A0 n0 c0,.bool false,.slice B0 m0 d0] 55)).alloc (.cells #[.bool false,.slice none 0 0,.bool false,.slice none 0 0] 55):=⟨_,rfl⟩
 have hb0:Below w.heap.size w W:=by rw[hW];exact za (za (blr _ _) _) _
 have hqb:BoxQ W w.heap.size q (2*F+1):=⟨_,_,_,_,_,_,_,by rw[hW];exact zy (zj _ _) _,(hq.more hL).below hb0⟩
 have hrb:W.heap[w.heap.size+1]?=some (.cells #[.bool false,.slice none 0 0,.bool false,.slice none 0 0] 55 (0,0)):=by rw[hW];exact zu _ (by simp)
 have H0:=hide (ai hb0 (ai hqb hrb))
 have HL:=hide hW
 have HF:=hide hf
 clear hb0 hqb hrb hW hf hq hL
 go_enter Tryz.func145,Tryz.ntmps145
 go_upto_region 1 with fail
 rw[<-HL.out]
 go_wp2_with fail
 refine(za4 _ 1 1 (by omega) (by omega) (by omega) (by omega) (by omega)).mono ?_
 rintro e w1 ⟨_,rfl,hy,hd1⟩
 rw[show Rat.divInt 1 1=(1:Rat) from Rat.num_divInt_den 1] at hy
 obtain⟨s1,A1,n1,c1,B1,m1,d1,rfl,-⟩:=hy.parts
 obtain⟨W1,hW1⟩:∃W1,W1=w1.alloc (.cells #[.bool s1,.slice A1 n1 c1,.bool false,.slice B1 m1 d1] 55):=⟨_,rfl⟩
 have hda1:Below w1.heap.size w1 W1:=by rw[hW1];exact za (blr _ _) _
 have hbox1:BoxQ W1 w1.heap.size ((1:Rat)) (2*F+1):=⟨_,_,_,_,_,_,_,by rw[hW1];exact zj _ _,(hy.below hda1).more (by omega)⟩
 have HL1:=hide hW1
 clear hy hW1
 have H1:=hide (ai (show BoxQ W1 w1.heap.size (powN q 0) (2*F+1) from hbox1) (ai hda1 (ai (H0.out.2.1.below hd1) (ai (at_later H0.out.2.2 hd1) (bnx H0.out.1 hd1)))))
 have hs1:=hd1.size
 have hsW:=H0.out.1.size
 clear hbox1 hda1 hd1 H0 HL
 go_upto_region 2 with fail
 rw[<-HL1.out]
 clear HL1
 go_wp2_with fail
 go_loopw [6] (fun s6 wr=>∃k:Nat,k<=n/\s6=.int .i64 k/\BoxQ wr w1.heap.size (powN q k) (2*F+1)/\Below w1.heap.size w1 wr) (fun s6 _=>n-(intOf s6).toNat)
 case atStart=>exact⟨0,Nat.zero_le _,rfl,H1.out.1,H1.out.2.1⟩
 case round=>
  obtain⟨k,hk,rfl,hbx,hbel⟩:=hrel
  by_cases hkn:k<n
  ·have i1:(k:Int)<(n:Int):=by omega
   have hqb:=H1.out.2.2.1.below hbel
   obtain⟨s3,A3,n3,c3,B3,m3,d3,hx3,hq3⟩:=id hqb
   obtain⟨y0,y1,y2,y3,yf0,yf1,yf2,yf3⟩:=zq hx3
   have ly:=lt_of_block hx3
   obtain⟨s2,A2,n2,c2,B2,m2,d2,hx2,hq2⟩:=id hbx
   obtain⟨x0,x1,x2,x3,xf0,xf1,xf2,xf3⟩:=zq hx2
   have lx:=lt_of_block hx2
   have HH:=hide (ai hq2 (ai hq3 (ai hbx hbel)))
   clear hx2 hx3 hq2 hq3 hbx hbel hqb
   go_wp2_with fail
   refine(zeG _ _ _ (powN q k) q (2*F+1) HH.out.1 HH.out.2.1 (by omega)).mono ?_
   rintro e w5 ⟨u5,rfl,hu5,hd5⟩
   replace hu5:QV w5 u5 (powN q (k+1)) _:=hu5
   replace hu5:=hu5.fitQ (HF.out (k+1) (by omega))
   obtain⟨s6,A6,n6,c6,B6,m6,d6,rfl,-⟩:=hu5.parts
   have hb5:=HH.out.2.2.1.below hd5
   have HU:=hide (ai (hb5.put4 hu5) (zaa (B:=w1.heap.size) (x:=.bool s6) (y:=.slice A6 n6 c6) (z:=.bool false) (u:=.slice B6 m6 d6) (bnx HH.out.2.2.2 hd5) (nr _)))
   clear x0 x1 x2 x3 xf0 xf1 xf2 xf3 lx y0 y1 y2 y3 yf0 yf1 yf2 yf3 ly
   obtain⟨s7,A7,n7,c7,B7,m7,d7,hx7,hq7⟩:=id hb5
   obtain⟨x0,x1,x2,x3,xf0,xf1,xf2,xf3⟩:=zq hx7
   have lx:=lt_of_block hx7
   clear hx7 hq7 hb5 hu5 hd5
   go_wp2
   case roundEnd=>exact⟨⟨k+1,by omega,by go_num,HU.out.1,HU.out.2⟩,by simp[intOf];omega⟩
  ·obtain rfl:k=n:=by omega
   have i1:¬(k:Int)<(k:Int):=by omega
   obtain⟨s2,A2,n2,c2,B2,m2,d2,hx2,hq2⟩:=id hbx
   obtain⟨x0,x1,x2,x3,xf0,xf1,xf2,xf3⟩:=zq hx2
   have lx:=lt_of_block hx2
   have hr:=at_later H1.out.2.2.2.1 hbel
   obtain⟨r0,r1,r2,r3,rf0,rf1,rf2,rf3⟩:=zq hr
   have lr:=lt_of_block hr
   have HFIN:=hide (ai hq2 (ai hr (H1.out.2.2.2.2.trans (hbel.mono H1.out.2.2.2.2.size))))
   clear hx2 hq2 hbx hbel hr
   go_wp2
   refine bodyPost_ret (v:=.agg #[.bool s2,.slice A2 n2 c2,.bool false,.slice B2 m2 d2]) ?_ rfl ?_
   ·simp[results,Tryz.results145,go_sem,r0,r1,r2,r3,lr]
   exact⟨_,rfl,HFIN.out.1.put4 HFIN.out.2.1 (by decide),zaa HFIN.out.2.2 (by omega)⟩
def ldR (E R:List Rat) (i:Nat):Rat:=E.getD i 0 / R.getD i 0
set_option maxHeartbeats 8000000 in
theorem zlr (w:World) (vs ve vx:Value) (R E:List Rat) (Ws:List (List Rat)) (xs:List Int) (m F L:Nat) (hs:za2 w vs R Ws L) (he:QRowE (2*F+1) w ve E) (hx:zao w vx xs) (hR:R.length=m) (hE:E.length=m) (hX:xs.length=m) (hm0:0<m) (hm:m<=100) (hL:L<=2*F+1) (hF1:1<=F) (hF:F<=100000000)
  (h0:∀i,i<m->R.getD i 0≠0) (hxs:∀i,i<m->0<=xs.getD i 0/\xs.getD i 0<=12) (hl:∀i,i<m->FitQ F (ldR E R i)) (hp:∀i k,i<m->k<=12->FitQ F (powN (ldR E R i) k)) (hw:∀k,k<=m->FitQ F (wtQ (ldR E R) xs k)):
  Calls Tryz.prog 101 #[vs,ve,vx] w (Ret (qR w (wtQ (ldR E R) xs m) (2*F+1))):=by
 obtain⟨va,vb,rfl,hra,hwb⟩:=hs
 obtain⟨Ar,cr,rfl,hc1,hm1,-⟩:=id hra
 obtain⟨Aw,cw,rfl,-,-,-⟩:=id hwb
 obtain⟨Ae,ce,rfl,hc3,hm3,-⟩:=id he
 obtain⟨Ax,cx,rfl,hc4,hm4,hx4⟩:=hx.at_
 unfold maxLen at hm1 hm3 hm4
 obtain⟨W,hW⟩:∃W,W=(w.alloc (.cells #[.slice Ar R.length cr,.slice Aw Ws.length cw] 28)).alloc (.cells #[.bool false,.slice none 0 0,.bool false,.slice none 0 0] 55):=⟨_,rfl⟩
 have hb0:Below w.heap.size w W:=by rw[hW];exact za (za (blr _ _) _) _
 have hsb:W.heap[w.heap.size]?=some (.cells #[.slice Ar R.length cr,.slice Aw Ws.length cw] 28 (0,0)):=by rw[hW];exact zy (zj _ _) _
 have hrb:W.heap[w.heap.size+1]?=some (.cells #[.bool false,.slice none 0 0,.bool false,.slice none 0 0] 55 (0,0)):=by rw[hW];exact zu _ (by simp)
 have HL:=hide hW
 have H0:=hide (ai hb0 (ai hsb (ai hrb (ai (QRowE.below hra hb0) (ai (QRowE.below he hb0) (hx.below hb0))))))
 have HC:=hide (ai h0 (ai hl (ai hp hw)))
 have HXS:=hide hxs
 have HLN:=hide (ai hR (ai hE hX))
 have hsW:=hb0.size
 rw[hR] at hc1 HL H0 ⊢
 rw[hE] at hc3 H0 ⊢
 rw[hX] at hc4 H0 ⊢
 clear hb0 hsb hrb hW hra hwb he hx hx4 h0 hl hp hw hxs hR hE hX
 go_enter Tryz.func101,Tryz.ntmps101
 go_upto_region 1 with fail
 rw[<-HL.out]
 go_wp2_with fail
 refine(za4 _ 1 1 (by omega) (by omega) (by omega) (by omega) (by omega)).mono ?_
 rintro e w99 ⟨_,rfl,hy,hd99⟩
 rw[show Rat.divInt 1 1=(1:Rat) from Rat.num_divInt_den 1] at hy
 obtain⟨s99,A99,n99,c99,B99,m99,d99,rfl,-⟩:=hy.parts
 obtain⟨W99,hW99⟩:∃W99,W99=w99.alloc (.cells #[.bool s99,.slice A99 n99 c99,.bool false,.slice B99 m99 d99] 55):=⟨_,rfl⟩
 have hda99:Below w99.heap.size w99 W99:=by rw[hW99];exact za (blr _ _) _
 have hbox99:BoxQ W99 w99.heap.size ((1:Rat)) (2*F+1):=⟨_,_,_,_,_,_,_,by rw[hW99];exact zj _ _,(hy.below hda99).more (by omega)⟩
 have HL99:=hide hW99
 clear hy hW99
 have H1:=hide (ai (show BoxQ W99 w99.heap.size (wtQ (ldR E R) xs 0) (2*F+1) from hbox99) (ai hda99 (ai (at_later H0.out.2.1 hd99) (ai (at_later H0.out.2.2.1 hd99) (bnx H0.out.1 hd99)))))
 obtain⟨b1,o1,e1,hR1⟩:=QRowE.x (H0.out.2.2.2.1.below hd99) (by rw[HLN.out.1];exact hm0)
 obtain rfl:=e1
 obtain⟨b3,o3,e3,hE1⟩:=QRowE.x (H0.out.2.2.2.2.1.below hd99) (by rw[HLN.out.2.1];exact hm0)
 obtain rfl:=e3
 obtain⟨A5,c5,e5,-,-,hx5⟩:=(H0.out.2.2.2.2.2.below hd99).at_
 injection e5 with e51 e52 e53
 subst e51 e53
 obtain⟨b4,o4,e4,hx6⟩:=hx5 (by rw[HLN.out.2.2];exact hm0)
 obtain rfl:=e4
 have HR0:=hide hR1
 have HE0:=hide hE1
 have HX0:=hide hx6
 have hs1:=hd99.size
 clear hbox99 hda99 hd99 H0 HL hR1 hE1 hx5 hx6 e52
 go_upto_region 2 with fail
 rw[<-HL99.out]
 clear HL99
 go_wp2_with fail
 go_loopw [8] (fun s8 wr=>∃i:Nat,i<=m/\s8=.int .i64 i/\BoxQ wr w99.heap.size (wtQ (ldR E R) xs i) (2*F+1)/\Below w99.heap.size w99 wr) (fun s8 _=>m-(intOf s8).toNat)
 case atStart=>exact⟨0,Nat.zero_le _,rfl,H1.out.1,H1.out.2.1⟩
 case round=>
  obtain⟨i,hi,rfl,hbx,hbel⟩:=hrel
  by_cases hkn:i<m
  ·have i1:(i:Int)<(m:Int):=by omega
   have HBX:=hide hbx
   have HBL:=hide hbel
   have hlR:=HLN.out.1
   have hlE:=HLN.out.2.1
   have HR1:=hide (HR0.out.below hbel)
   have HE1:=hide (HE0.out.below hbel)
   have HSB:=hide (at_later H1.out.2.2.1 hbel)
   obtain⟨kk,hkk⟩:∃kk:Nat,(kk:Int)=xs.getD i 0:=⟨(xs.getD i 0).toNat,by have:=HXS.out i hkn;omega⟩
   have hk12:kk<=12:=by have:=HXS.out i hkn;omega
   have hcl:=(hbel.cell (zf (HX0.out i (by rw[HLN.out.2.2];exact hkn)))).trans (HX0.out i (by rw[HLN.out.2.2];exact hkn))
   rw[<-hkk] at hcl
   have HPK:=hide hkk.symm
   clear hbx hbel hkk
   go_upto_region 5 with fail
   obtain⟨s21,A21,n21,c21,B21,m21,d21,hx21,hq21⟩:=HBX.out
   have e22a:=(ze HSB.out).1
   obtain⟨s23,A23,n23,c23,B23,m23,d23,e23a,e23b,e23c,e23d,hq23⟩:=HR1.out (i) (by omega)
   obtain⟨s24,A24,n24,c24,B24,m24,d24,e24a,e24b,e24c,e24d,hq24⟩:=HE1.out (i) (by omega)
   have e25a:=hcl
   have hS:∀w',Below wr.heap.size wr w'->(w'.cell? ⟨w99.heap.size,0,none⟩=some (.bool s21)/\w'.cell? ⟨w99.heap.size,1,none⟩=some (.slice A21 n21 c21)/\w'.cell? ⟨w99.heap.size,2,none⟩=some (.bool false)/\w'.cell? ⟨w99.heap.size,3,none⟩=some (.slice B21 m21 d21))/\w'.cell? ⟨w.heap.size,0,none⟩=some (.slice (some ⟨b1,o1,none⟩) m cr)/\(w'.cell? ⟨b1,o1+(i)*4,none⟩=some (.bool s23)/\w'.cell? ⟨b1,o1+(i)*4+1,none⟩=some (.slice A23 n23 c23)/\w'.cell? ⟨b1,o1+(i)*4+2,none⟩=some (.bool false)/\w'.cell? ⟨b1,o1+(i)*4+3,none⟩=some (.slice B23 m23 d23))/\(w'.cell? ⟨b3,o3+(i)*4,none⟩=some (.bool s24)/\w'.cell? ⟨b3,o3+(i)*4+1,none⟩=some (.slice A24 n24 c24)/\w'.cell? ⟨b3,o3+(i)*4+2,none⟩=some (.bool false)/\w'.cell? ⟨b3,o3+(i)*4+3,none⟩=some (.slice B24 m24 d24))/\w'.cell? ⟨b4,o4+i,none⟩=some (.int .i64 (kk:Int)):=fun w' h=>by
    have eC:∀b o v,wr.cell? ⟨b,o,none⟩=some v->w'.cell? ⟨b,o,none⟩=some v:=fun b o v hv=>(h.cell (zf hv)).trans hv
    exact⟨zas (at_later hx21 h),eC _ _ _ e22a,⟨eC _ _ _ e23a,eC _ _ _ e23b,eC _ _ _ e23c,eC _ _ _ e23d⟩,⟨eC _ _ _ e24a,eC _ _ _ e24b,eC _ _ _ e24c,eC _ _ _ e24d⟩,eC _ _ _ e25a⟩
   have hdr:Below wr.heap.size wr wr.drew:=(blr _ _).drew
   have HSS:=hide hS
   have HQS:=hide (ai hq21 (ai hq23 (ai hq24 trivial)))
   clear hS hx21 hq21 e22a e23a e23b e23c e23d hq23 e24a e24b e24c e24d hq24 e25a
   refine zv (fun w'=>(w'.cell? ⟨w99.heap.size,0,none⟩=some (.bool s21)/\w'.cell? ⟨w99.heap.size,1,none⟩=some (.slice A21 n21 c21)/\w'.cell? ⟨w99.heap.size,2,none⟩=some (.bool false)/\w'.cell? ⟨w99.heap.size,3,none⟩=some (.slice B21 m21 d21))/\w'.cell? ⟨w.heap.size,0,none⟩=some (.slice (some ⟨b1,o1,none⟩) m cr)/\(w'.cell? ⟨b1,o1+(i)*4,none⟩=some (.bool s23)/\w'.cell? ⟨b1,o1+(i)*4+1,none⟩=some (.slice A23 n23 c23)/\w'.cell? ⟨b1,o1+(i)*4+2,none⟩=some (.bool false)/\w'.cell? ⟨b1,o1+(i)*4+3,none⟩=some (.slice B23 m23 d23))/\(w'.cell? ⟨b3,o3+(i)*4,none⟩=some (.bool s24)/\w'.cell? ⟨b3,o3+(i)*4+1,none⟩=some (.slice A24 n24 c24)/\w'.cell? ⟨b3,o3+(i)*4+2,none⟩=some (.bool false)/\w'.cell? ⟨b3,o3+(i)*4+3,none⟩=some (.slice B24 m24 d24))/\w'.cell? ⟨b4,o4+i,none⟩=some (.int .i64 (kk:Int))) [0,1,2,3,4,5,6,7,8,9,10,11,12,13,14,15,16] (by kernel_rfl) (HSS.out _ hdr) (fun hh=>?_)
   refine tt 1 hh 17 ?_
   try simp only[Act.put,ptA,ptB,ptC]
   refine tt 2 hh 18 ?_
   try simp only[Act.put,ptA,ptB,ptC]
   refine tt 3 hh 19 ?_
   try simp only[Act.put,ptA,ptB,ptC]
   refine tt 5 hh 21 ?_
   try simp only[Act.put,ptA,ptB,ptC]
   refine tt 7 hh 23 ?_
   try simp only[Act.put,ptA,ptB,ptC]
   refine tt 11 hh 27 ?_
   try simp only[Act.put,ptA,ptB,ptC]
   refine tt 12 hh 28 ?_
   try simp only[Act.put,ptA,ptB,ptC]
   refine tt 13 hh 29 ?_
   try simp only[Act.put,ptA,ptB,ptC]
   refine tt 0 hh 16 ?_
   try simp only[Act.put,ptA,ptB,ptC]
   refine tt 4 hh 20 ?_
   try simp only[Act.put,ptA,ptB,ptC]
   refine tt 6 hh 22 ?_
   try simp only[Act.put,ptA,ptB,ptC]
   refine tt 8 hh 24 ?_
   try simp only[Act.put,ptA,ptB,ptC]
   refine tt 9 hh 25 ?_
   try simp only[Act.put,ptA,ptB,ptC]
   refine tt 14 hh 30 ?_
   try simp only[Act.put,ptA,ptB,ptC]
   refine zb (rs:=[10]) (by kernel_rfl) (by simp) ?_
   refine mem1 ?_
   refine zd rfl (fun K hK=>?_)
   go_simp
   go_at_call 89
   refine(zc9 _ _ _ (E.getD i 0) (R.getD i 0) (2*F+1) (HQS.out.2.2.1.below hdr) ((HQS.out.2.1.more (by omega)).below hdr) (by omega) (HC.out.1 i hkn)).mono ?_
   rintro e w1 ⟨u1,rfl,hu1,hd⟩
   replace hu1:=(show QV w1 u1 (ldR E R i) _ from hu1).fitQ (HC.out.2.1 i hkn)
   obtain⟨s1,A1,n1,c1,B1,m1,d1,rfl,-⟩:=hu1.parts
   have H1:=hide hu1
   clear hu1
   have hg1:Below wr.heap.size wr w1:=hdr.trans (hd.mono hdr.size)
   clear hd
   go_wp2_with fail
   refine hK.out _ _ (HSS.out _ hg1) (fun hh=>?_)
   clear hK K
   try simp only[Act.put,ptA,ptB,ptC]
   refine zb (rs:=[15]) (by kernel_rfl) (by simp) ?_
   refine mem1 ?_
   refine zd rfl (fun K hK=>?_)
   go_simp
   go_at_call 145
   refine(zmI _ _ (ldR E R i) kk (2*F+1) F H1.out (by omega) (by omega) (by omega) (by omega) (fun k hk=>HC.out.2.2.1 i k hkn (by omega))).mono ?_
   rintro e w2 ⟨u2,rfl,hu2,hd⟩
   obtain⟨s2,A2,n2,c2,B2,m2,d2,rfl,-⟩:=hu2.parts
   have H2:=hide hu2
   clear hu2 H1
   have hg2:Below wr.heap.size wr w2:=hg1.trans (hd.mono hg1.size)
   clear hd
   go_wp2_with fail
   refine hK.out _ _ (HSS.out _ hg2) (fun hh=>?_)
   clear hK K
   try simp only[Act.put,ptA,ptB,ptC]
   refine zb (rs:=[16]) (by kernel_rfl) (by simp) ?_
   refine mem1 ?_
   refine zd rfl (fun K hK=>?_)
   go_simp
   go_at_call 88
   refine(zeG _ _ _ (wtQ (ldR E R) xs i) (powN (ldR E R i) kk) (2*F+1) (HQS.out.1.below hg2) H2.out (by omega)).mono ?_
   rintro e w3 ⟨u3,rfl,hu3,hd⟩
   rw[show powN (ldR E R i) kk=wfQ (ldR E R) xs i by unfold wfQ;rw[HPK.out];rfl,<-zb4] at hu3
   replace hu3:=(show QV w3 u3 (wtQ (ldR E R) xs (i+1)) _ from hu3).fitQ (HC.out.2.2.2 (i+1) (by omega))
   obtain⟨s3,A3,n3,c3,B3,m3,d3,rfl,-⟩:=hu3.parts
   have HN:=hide hu3
   clear hu3
   clear H2
   have hg3:Below wr.heap.size wr w3:=hg2.trans (hd.mono hg2.size)
   clear hd
   go_wp2_with fail
   refine hK.out _ _ (HSS.out _ hg3) (fun hh=>?_)
   clear hK K
   try simp only[Act.put,ptA,ptB,ptC]
   refine zQ (k:=17) (by rfl) (by rfl) (by kernel_rfl) ?_
   simp only[List.drop_succ_cons,List.drop_zero]
   clear hh
   have hb5:=HBX.out.below hg3
   have HU:=hide (ai (hb5.put4 HN.out) (zaa (B:=w99.heap.size) (x:=.bool s3) (y:=.slice A3 n3 c3) (z:=.bool false) (u:=.slice B3 m3 d3) (bnx HBL.out hg3) (nr _)))
   obtain⟨sz,Az,nz,cz,Bz,mz,dz,hxz,hqz⟩:=id hb5
   obtain⟨x0,x1,x2,x3,xf0,xf1,xf2,xf3⟩:=zq hxz
   have lx:=lt_of_block hxz
   clear hxz hqz hb5 HN
   go_wp2
   case roundEnd=>exact⟨⟨i+1,by omega,by go_num,HU.out.1,HU.out.2⟩,by simp[intOf];omega⟩
  ·obtain rfl:i=m:=by omega
   have i1:¬(i:Int)<(i:Int):=by omega
   obtain⟨s2,A2,n2,c2,B2,m2,d2,hx2,hq2⟩:=id hbx
   obtain⟨x0,x1,x2,x3,xf0,xf1,xf2,xf3⟩:=zq hx2
   have lx:=lt_of_block hx2
   have hr:=at_later H1.out.2.2.2.1 hbel
   obtain⟨r0,r1,r2,r3,rf0,rf1,rf2,rf3⟩:=zq hr
   have lr:=lt_of_block hr
   have HFIN:=hide (ai hq2 (ai hr (H1.out.2.2.2.2.trans (hbel.mono H1.out.2.2.2.2.size))))
   clear hx2 hq2 hbx hbel hr
   go_wp2
   refine bodyPost_ret (v:=.agg #[.bool s2,.slice A2 n2 c2,.bool false,.slice B2 m2 d2]) ?_ rfl ?_
   ·simp[results,Tryz.results101,go_sem,r0,r1,r2,r3,lr]
   exact⟨_,rfl,HFIN.out.1.put4 HFIN.out.2.1 (by decide),zaa HFIN.out.2.2 (by omega)⟩
structure RefG (m:Nat) (R E:List Rat):Prop where
 hR:R.length=m
 hE:E.length=m
 m4:m<=4
 h0:∀i,i<m->R.getD i 0≠0
 ld:zaj m (ldR E R)
def wtJ (l:Nat->Rat) (s n j:Nat):Rat:=wtQ l ((stL s n).getD j []) (s+1)
theorem zey (s n j:Nat) (h:j<(stL s n).length):(stL s n).getD j []∈stL s n:=by
 simp[List.getD,h]
theorem zfP (s n:Nat) (hs:s<=3) (hn:n<=12):(stL s n).length<=2197:=by
 have h1:=zfz s n hn
 have h2:13^s<=13^3:=Nat.pow_le_pow_right (by omega) hs
 have h3:(13:Nat)^3=2197:=by decide
 omega
theorem RefG.wt {s n:Nat} {R E:List Rat} (h:RefG (s+1) R E) (hn:n<=12) (j:Nat) (hj:j<(stL s n).length) (k:Nat) (hk:k<=s+1):FitQ 101 (wtQ (ldR E R) ((stL s n).getD j []) k):=
 (h.ld.wt_fit _ (fun i=>by have:=(zfk s n _ (zey s n j hj) i).2;omega) k hk).more (by have:=h.m4;omega)
theorem RefG.sums {s n:Nat} {R E:List Rat} (h:RefG (s+1) R E) (hn:n<=12) (k:Nat) (hk:k<=(stL s n).length):FitQ 500000 (sumN (wtJ (ldR E R) s n) k):=
 (zfs (L:=101) k (fun j hj=>h.wt hn j (by omega) (s+1) (nr _))).more (by have:=zfP s n (by have:=h.m4;omega) hn;omega)
theorem RefG.all {s n:Nat} {R E:List Rat}:sumN (wtJ (ldR E R) s n) (stL s n).length=gN (ldR E R) (s+1) n:=by
 rw[<-zmk];exact zjZ (fun x=>wtQ (ldR E R) x (s+1)) [] (stL s n)
theorem zmJ {w:World} {B:Nat} {cs:Array Value} (hB:w.heap[B]?=some (.cells cs 55 (0,0))) (a b c d:Value):Kp 55 w ((((w.setCell ⟨B,0,none⟩ a).setCell ⟨B,1,none⟩ b).setCell ⟨B,2,none⟩ c).setCell ⟨B,3,none⟩ d):=
 fun b' hb hn=>(zN (zN (zN (zp w B 0 _) (zp _ B 1 _)) (zp _ B 2 _)) (zp _ B 3 _)).block b' hb (by intro e;injection e with e;exact hn (by rw[e];exact⟨_,_,hB⟩))
theorem QRowE.upL {w:World} {v:Value} {qs:List Rat} {L L':Nat} (h:QRowE L w v qs) (hL:L<=L'):QRowE L' w v qs:=zx.imp h fun u x _ hr=>QV.more (show QV w u x L from hr) hL
theorem zgJ (w:World) (vs ve vx:Value) (R E:List Rat) (Ws:List (List Rat)) (xs:List Int) (s:Nat) (hs:za2 w vs R Ws 3) (he:QRowE 1000001 w ve E) (hx:zao w vx xs) (hG:RefG (s+1) R E) (hX:xs.length=s+1) (h12:∀i,0<=xs.getD i 0/\xs.getD i 0<=12):
  Calls Tryz.prog 101 #[vs,ve,vx] w (Ret (qR w (wtQ (ldR E R) xs (s+1)) 1000001)):=by
 obtain⟨F,hF⟩:∃F,F=500000:=⟨_,rfl⟩
 have hL:1000001=2*F+1:=by omega
 have h4:=hG.m4
 rw[hL] at he ⊢
 exact zlr w vs ve vx R E Ws xs (s+1) F 3 hs he hx hG.hR hG.hE hX (by omega) (by omega) (by omega) (by omega) (by omega) hG.h0 (fun j hj=>h12 j) (fun j hj=>(hG.ld.fitl j hj).more (by omega)) (fun j k hj hk=>(hG.ld.p_fit j k hj hk).more (by omega)) (fun k hk=>(hG.ld.wt_fit xs (fun i=>(h12 i).2) k hk).more (by omega))
theorem zny (s n j:Nat) (hn:n<=12) (h:j<(stL s n).length) (i:Nat):0<=((stL s n).getD j []).getD i 0/\((stL s n).getD j []).getD i 0<=12:=by
 have:=zfk s n _ (zey s n j h) i;omega
set_option maxHeartbeats 8000000 in
theorem zeV (w:World) (vs ve:Value) (R E:List Rat) (Ws:List (List Rat)) (s n:Nat) (hs:za2 w vs R Ws 3) (he:QRowE 1000001 w ve E) (hG:RefG (s+1) R E) (hn:n<=12):
  Calls Tryz.prog 46 #[vs,ve,.int .i64 (n:Int)] w (Ret (qR w (gN (ldR E R) (s+1) n) 1000001)):=by
 have HV:=hide hs
 obtain⟨va,vb,rfl,hra,hwb⟩:=hs
 obtain⟨Ar,cr,rfl,hcr,hmr,-⟩:=id hra
 obtain⟨Aw,cw,rfl,hcw,hmw,-⟩:=id hwb
 unfold maxLen at hmr hmw
 obtain⟨Ae,ce,rfl,hce,hme,-⟩:=id he
 obtain⟨W,hW⟩:∃W,W=(w.alloc (.cells #[.slice Ar R.length cr,.slice Aw Ws.length cw] 28)).alloc (.cells #[.bool false,.slice none 0 0,.bool false,.slice none 0 0] 55):=⟨_,rfl⟩
 have hb0:Below w.heap.size w W:=by rw[hW];exact za (za (blr _ _) _) _
 have hsb:W.heap[w.heap.size]?=some (.cells #[.slice Ar R.length cr,.slice Aw Ws.length cw] 28 (0,0)):=by rw[hW];exact zy (zj _ _) _
 have hrb:W.heap[w.heap.size+1]?=some (.cells #[.bool false,.slice none 0 0,.bool false,.slice none 0 0] 55 (0,0)):=by rw[hW];exact zu _ (by simp)
 have HL:=hide hW
 have hs3:=hG.m4
 have H0:=hide (ai hb0 (ai hsb (ai hrb (ai (HV.out.below hb0) (QRowE.below he hb0)))))
 have hR:=hG.hR
 have HG:=hide hG
 have hsW:=hb0.size
 rw[hR] at hcr HL H0 ⊢
 clear hb0 hsb hrb hW hra hwb he hR hG HV
 go_enter Tryz.func46,Tryz.ntmps46
 go_upto_region 1 with fail
 rw[<-HL.out]
 clear HL
 go_wp2_with fail
 refine(za4 _ 0 1 (by omega) (by omega) (by omega) (by omega) (by omega)).mono ?_
 rintro e w99 ⟨_,rfl,hy,hd99⟩
 rw[show Rat.divInt 0 1=(0:Rat) from rfl] at hy
 obtain⟨s99,A99,n99,c99,B99,m99,d99,rfl,-⟩:=hy.parts
 obtain⟨W99,hW99⟩:∃W99,W99=w99.alloc (.cells #[.bool s99,.slice A99 n99 c99,.bool false,.slice B99 m99 d99] 55):=⟨_,rfl⟩
 have hda99:Below w99.heap.size w99 W99:=by rw[hW99];exact za (blr _ _) _
 have hbox99:BoxQ W99 w99.heap.size ((0:Rat)) (1000001):=⟨_,_,_,_,_,_,_,by rw[hW99];exact zj _ _,(hy.below hda99).more (by omega)⟩
 have HL99:=hide hW99
 clear hy hW99
 have H1:=hide (ai (show BoxQ W99 w99.heap.size (sumN (wtJ (ldR E R) s n) 0) 1000001 from hbox99) (ai hda99 (ai (at_later H0.out.2.1 hd99) (ai (at_later H0.out.2.2.1 hd99) (ai (bnx H0.out.1 hd99) (ai (H0.out.2.2.2.1.below hd99) (QRowE.below H0.out.2.2.2.2 hd99)))))))
 have hs1:=hd99.size
 obtain⟨y0,y1,-,-⟩:=ze (at_later H1.out.2.2.1 H1.out.2.1)
 have hly:=lt_of_block (at_later H1.out.2.2.1 H1.out.2.1)
 clear hbox99 hda99 hd99 H0
 go_upto_region 2 with fail
 rw[<-HL99.out]
 clear HL99
 go_wp2_with fail
 refine(zhu s W99 n (by omega) hn).mono ?_
 rintro e wl ⟨vl,rfl,hll,hdl⟩
 obtain⟨Al,cl,rfl,hcl,hml⟩:=hll.len
 unfold maxLen at hml
 have hmost:=zfP s n (by omega) hn
 have hbl:=H1.out.2.1.trans (hdl.mono H1.out.2.1.size)
 have H2:=hide (ai (H1.out.1.below hdl) hbl)
 have HLL0:=hide hll
 have hs99:w.heap.size<=w99.heap.size:=H1.out.2.2.2.2.1.size
 clear y0 y1 hly hll hbl hdl
 go_wp2_with fail
 go_loopw [9] (fun s9 wr=>∃i:Nat,i<=(stL s n).length/\s9=.int .i64 i/\BoxQ wr w99.heap.size (sumN (wtJ (ldR E R) s n) i) 1000001/\OwnG 22 1 IntsT wr W99.heap.size (.slice Al (stL s n).length cl) (stL s n)/\Below w99.heap.size w99 wr) (fun s9 _=>(stL s n).length-(intOf s9).toNat)
 case atStart=>exact⟨0,Nat.zero_le _,rfl,H2.out.1,HLL0.out,H2.out.2⟩
 case round=>
  obtain⟨i,hi,rfl,hbx,hll,hbel⟩:=hrel
  by_cases hkn:i<(stL s n).length
  ·have i1:(i:Int)<((stL s n).length:Int):=by omega
   have HLL:=hide hll
   obtain⟨-,-,-,hat⟩:=HLL.out.lst.row_at
   obtain⟨bl,ol,el,hat2⟩:=hat (by omega)
   obtain rfl:=el
   obtain⟨A5,c5,hcell,hst⟩:=hat2 i hkn
   obtain⟨row,hrow⟩:∃row,row=(stL s n).getD i []:=⟨_,rfl⟩
   rw[<-hrow] at hcell hst
   have HROW:=hide hrow
   have hrowl:row.length=s+1:=by rw[hrow];exact zfx s n _ (zey s n i hkn)
   have HRL:=hide hrowl
   have HST:=hide hst
   have HGV:=hide (H1.out.2.2.2.2.2.1.below hbel)
   have HE1:=hide (QRowE.below H1.out.2.2.2.2.2.2 hbel)
   have HSB:=hide (at_later H1.out.2.2.1 hbel)
   have HBX:=hide hbx
   have HBL:=hide hbel
   clear hat hat2 hst hbx hbel hrow hrowl
   clear hll
   go_upto_region 6 with fail
   obtain⟨s21,A21,n21,c21,B21,m21,d21,hx21,hq21⟩:=HBX.out
   have e22a:=(ze HSB.out).1
   have e23a:=(ze HSB.out).2.1
   have e24a:=hcell
   have hS:∀w',Below wr.heap.size wr w'->(w'.cell? ⟨w99.heap.size,0,none⟩=some (.bool s21)/\w'.cell? ⟨w99.heap.size,1,none⟩=some (.slice A21 n21 c21)/\w'.cell? ⟨w99.heap.size,2,none⟩=some (.bool false)/\w'.cell? ⟨w99.heap.size,3,none⟩=some (.slice B21 m21 d21))/\w'.cell? ⟨w.heap.size,0,none⟩=some (.slice Ar (s+1) cr)/\w'.cell? ⟨w.heap.size,1,none⟩=some (.slice Aw Ws.length cw)/\w'.cell? ⟨bl,ol+i,none⟩=some (.slice A5 row.length c5):=fun w' h=>by
    have eC:∀b o v,wr.cell? ⟨b,o,none⟩=some v->w'.cell? ⟨b,o,none⟩=some v:=fun b o v hv=>(h.cell (zf hv)).trans hv
    exact⟨zas (at_later hx21 h),eC _ _ _ e22a,eC _ _ _ e23a,eC _ _ _ e24a⟩
   have hdr:Below wr.heap.size wr wr.drew:=(blr _ _).drew
   have HSS:=hide hS
   have HQS:=hide (ai hq21 trivial)
   clear hS hx21 hq21 e22a e23a e24a
   refine zv (fun w'=>(w'.cell? ⟨w99.heap.size,0,none⟩=some (.bool s21)/\w'.cell? ⟨w99.heap.size,1,none⟩=some (.slice A21 n21 c21)/\w'.cell? ⟨w99.heap.size,2,none⟩=some (.bool false)/\w'.cell? ⟨w99.heap.size,3,none⟩=some (.slice B21 m21 d21))/\w'.cell? ⟨w.heap.size,0,none⟩=some (.slice Ar (s+1) cr)/\w'.cell? ⟨w.heap.size,1,none⟩=some (.slice Aw Ws.length cw)/\w'.cell? ⟨bl,ol+i,none⟩=some (.slice A5 row.length c5)) [0,1,2,3,4,5,6,7,8] (by kernel_rfl) (HSS.out _ hdr) (fun hh=>?_)
   refine tt 2 hh 24 ?_
   try simp only[Act.put,ptA,ptB,ptC]
   refine tt 3 hh 25 ?_
   try simp only[Act.put,ptA,ptB,ptC]
   refine tt 4 hh 26 ?_
   try simp only[Act.put,ptA,ptB,ptC]
   refine tt 5 hh 27 ?_
   try simp only[Act.put,ptA,ptB,ptC]
   refine tt 0 hh 22 ?_
   try simp only[Act.put,ptA,ptB,ptC]
   refine tt 1 hh 23 ?_
   try simp only[Act.put,ptA,ptB,ptC]
   refine tt 6 hh 28 ?_
   try simp only[Act.put,ptA,ptB,ptC]
   refine zb (rs:=[7]) (by kernel_rfl) (by simp) ?_
   refine mem1 ?_
   refine zd rfl (fun K hK=>?_)
   go_simp
   go_at_call 101
   refine(zgJ _ _ _ _ R E Ws row s (HGV.out.below hdr) (QRowE.below HE1.out hdr) ((IntsT.ints HST.out).below hdr) HG.out HRL.out (by rw[HROW.out];exact zny s n i hn hkn)).mono ?_
   rintro e w1 ⟨u1,rfl,hu1,hd⟩
   replace hu1:QV w1 u1 (wtJ (ldR E R) s n i) 1000001:=(show wtQ (ldR E R) row (s+1)=wtJ (ldR E R) s n i by unfold wtJ;rw[HROW.out])▸hu1
   obtain⟨s1,A1,n1,c1,B1,m1,d1,rfl,-⟩:=hu1.parts
   have HWT:=hide hu1
   clear hu1
   have hg1:Below wr.heap.size wr w1:=hdr.trans (hd.mono hdr.size)
   clear hd
   go_wp2_with fail
   refine hK.out _ _ (HSS.out _ hg1) (fun hh=>?_)
   clear hK K
   try simp only[Act.put,ptA,ptB,ptC]
   refine zb (rs:=[8]) (by kernel_rfl) (by simp) ?_
   refine mem1 ?_
   refine zd rfl (fun K hK=>?_)
   go_simp
   go_at_call 54
   refine(znd _ _ _ (sumN (wtJ (ldR E R) s n) i) (wtJ (ldR E R) s n i) 1000001 (HQS.out.1.below hg1) HWT.out (by omega)).mono ?_
   rintro e w2 ⟨u2,rfl,hu2,hd⟩
   replace hu2:=((show QV w2 u2 (sumN (wtJ (ldR E R) s n) (i+1)) _ from hu2).fitQ (HG.out.sums hn (i+1) (by omega))).more (show 2*500000+1<=1000001 by omega)
   obtain⟨s2,A2,n2,c2,B2,m2,d2,rfl,-⟩:=hu2.parts
   have HN:=hide hu2
   clear hu2 HWT
   have hg2:Below wr.heap.size wr w2:=hg1.trans (hd.mono hg1.size)
   clear hd
   go_wp2_with fail
   refine hK.out _ _ (HSS.out _ hg2) (fun hh=>?_)
   clear hK K
   try simp only[Act.put,ptA,ptB,ptC]
   refine zQ (k:=9) (by rfl) (by rfl) (by kernel_rfl) ?_
   simp only[List.drop_succ_cons,List.drop_zero]
   clear hh
   have hb5:=HBX.out.below hg2
   have HU:=hide (ai (hb5.put4 HN.out) (zaa (B:=w99.heap.size) (x:=.bool s2) (y:=.slice A2 n2 c2) (z:=.bool false) (u:=.slice B2 m2 d2) (bnx HBL.out hg2) (nr _)))
   obtain⟨sz,Az,nz,cz,Bz,mz,dz,hxz,hqz⟩:=id hb5
   obtain⟨x0,x1,x2,x3,xf0,xf1,xf2,xf3⟩:=zq hxz
   have lx:=lt_of_block hxz
   have HLX:=hide (OwnG.kp (zdZ (by decide)) (OwnG.below za7 HLL.out hg2) (by decide) (zmJ hxz (.bool s2) (.slice A2 n2 c2) (.bool false) (.slice B2 m2 d2)))
   clear hxz hqz hb5 HN
   go_wp2
   case roundEnd=>exact⟨⟨i+1,by omega,by go_num,HU.out.1,HLX.out,HU.out.2⟩,by simp[intOf];omega⟩
  ·obtain hi2:i=(stL s n).length:=by omega
   have i1:¬(i:Int)<((stL s n).length:Int):=by omega
   obtain⟨s2,A2,n2,c2,B2,m2,d2,hx2,hq2⟩:=id hbx
   obtain⟨x0,x1,x2,x3,xf0,xf1,xf2,xf3⟩:=zq hx2
   have lx:=lt_of_block hx2
   have hr:=at_later H1.out.2.2.2.1 hbel
   obtain⟨r0,r1,r2,r3,rf0,rf1,rf2,rf3⟩:=zq hr
   have lr:=lt_of_block hr
   rw[hi2,RefG.all] at hq2
   have HFIN:=hide (ai hq2 (ai hr (H1.out.2.2.2.2.1.trans (hbel.mono H1.out.2.2.2.2.1.size))))
   clear hx2 hq2 hbx hbel hr hll hi2
   go_wp2
   refine bodyPost_ret (v:=.agg #[.bool s2,.slice A2 n2 c2,.bool false,.slice B2 m2 d2]) ?_ rfl ?_
   ·simp[results,Tryz.results46,go_sem,r0,r1,r2,r3,lr]
   exact⟨_,rfl,HFIN.out.1.put4 HFIN.out.2.1 (by decide),zaa HFIN.out.2.2 (by omega)⟩
end Go.Proofs.YtpoahodnakhmiaaGreat
