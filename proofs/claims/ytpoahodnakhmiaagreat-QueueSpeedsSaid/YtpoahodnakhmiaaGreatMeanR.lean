import Derived.Test.YtpoahodnakhmiaaGreatRefW
import Derived.Test.YtpoahodnakhmiaaGreatVisW
set_option maxRecDepth 100000
namespace Go.Proofs.YtpoahodnakhmiaaGreat
set_option linter.unusedVariables false
set_option linter.unusedSimpArgs false
open Go.RowKit
structure zb4 (m:Nat) (R E:List Rat):Prop where
 hR:R.length=m
 hE:E.length=m
 m4:m<=4
 h0:∀i,i<m->R.getD i 0≠0
 ld:zS m (ldR E R)
def wtJ (l:Nat->Rat) (s n j:Nat):Rat:=wtQ l ((stL s n).getD j []) (s+1)
theorem zcH (s n j:Nat) (h:j<(stL s n).length):(stL s n).getD j []∈stL s n:=by
 simp[List.getD,h]
theorem zc0 (s n:Nat) (hs:s<=3) (hn:n<=12):(stL s n).length<=2197:=by
 have h1:=zfK s n hn
 have h2:13^s<=13^3:=Nat.pow_le_pow_right (by omega) hs
 have h3:(13:Nat)^3=2197:=by decide
 omega
theorem zb4.wt {s n:Nat} {R E:List Rat} (h:zb4 (s+1) R E) (hn:n<=12) (j:Nat) (hj:j<(stL s n).length) (k:Nat) (hk:k<=s+1):FitQ 101 (wtQ (ldR E R) ((stL s n).getD j []) k):=
 (h.ld.wt_fit _ (fun i=>by have:=(zcw s n _ (zcH s n j hj) i).2;omega) k hk).more (by have:=h.m4;omega)
theorem zb4.sums {s n:Nat} {R E:List Rat} (h:zb4 (s+1) R E) (hn:n<=12) (k:Nat) (hk:k<=(stL s n).length):FitQ 500000 (sumN (wtJ (ldR E R) s n) k):=
 (zdk (L:=101) k (fun j hj=>h.wt hn j (by omega) (s+1) (nr _))).more (by have:=zc0 s n (by have:=h.m4;omega) hn;omega)
theorem zb4.all {s n:Nat} {R E:List Rat}:sumN (wtJ (ldR E R) s n) (stL s n).length=gN (ldR E R) (s+1) n:=by
 rw[<-zi6];exact zgS (fun x=>wtQ (ldR E R) x (s+1)) [] (stL s n)
theorem ziy {w:World} {B:Nat} {cs:Array Value} (hB:w.heap[B]?=some (.cells cs 55 (0,0))) (a b c d:Value):Kp 55 w ((((w.setCell ⟨B,0,none⟩ a).setCell ⟨B,1,none⟩ b).setCell ⟨B,2,none⟩ c).setCell ⟨B,3,none⟩ d):=
 fun b' hb hn=>(zT (zT (zT (zu w B 0 _) (zu _ B 1 _)) (zu _ B 2 _)) (zu _ B 3 _)).block b' hb (by intro e;injection e with e;exact hn (by rw[e];exact⟨_,_,hB⟩))
theorem QRowE.upL {w:World} {v:Value} {qs:List Rat} {L L':Nat} (h:QRowE L w v qs) (hL:L<=L'):QRowE L' w v qs:=zB.imp h fun u x _ hr=>QV.more (show QV w u x L from hr) hL
theorem zg5 (w:World) (vs ve vx:Value) (R E:List Rat) (Ws:List (List Rat)) (xs:List Int) (s:Nat) (hs:zaG w vs R Ws 3) (he:QRowE 1000001 w ve E) (hx:zaH w vx xs) (hG:zb4 (s+1) R E) (hX:xs.length=s+1) (h12:∀i,0<=xs.getD i 0/\xs.getD i 0<=12):
  Calls Tryz.prog 101 #[vs,ve,vx] w (Ret (qR w (wtQ (ldR E R) xs (s+1)) 1000001)):=by
 obtain⟨F,hF⟩:∃F,F=500000:=⟨_,rfl⟩
 have hL:1000001=2*F+1:=by omega
 have h4:=hG.m4
 rw[hL] at he ⊢
 exact zl4 w vs ve vx R E Ws xs (s+1) F 3 hs he hx hG.hR hG.hE hX (by omega) (by omega) (by omega) (by omega) (by omega) hG.h0 (fun j hj=>h12 j) (fun j hj=>(hG.ld.fitl j hj).more (by omega)) (fun j k hj hk=>(hG.ld.p_fit j k hj hk).more (by omega)) (fun k hk=>(hG.ld.wt_fit xs (fun i=>(h12 i).2) k hk).more (by omega))
theorem zg6 (s n j:Nat) (hn:n<=12) (h:j<(stL s n).length) (i:Nat):0<=((stL s n).getD j []).getD i 0/\((stL s n).getD j []).getD i 0<=12:=by
 have:=zcw s n _ (zcH s n j h) i;omega
set_option maxHeartbeats 8000000 in
theorem zjc (w:World) (vs ve:Value) (R E:List Rat) (Ws:List (List Rat)) (s n:Nat) (hs:zaG w vs R Ws 3) (he:QRowE 1000001 w ve E) (hG:zb4 (s+1) R E) (hn:n<=12):
  Calls Tryz.prog 46 #[vs,ve,.int .i64 (n:Int)] w (Ret (qR w (gN (ldR E R) (s+1) n) 1000001)):=by
 have HV:=hide hs
 obtain⟨va,vb,rfl,hra,hwb⟩:=hs
 obtain⟨Ar,cr,rfl,hcr,hmr,-⟩:=id hra
 obtain⟨Aw,cw,rfl,hcw,hmw,-⟩:=id hwb
 unfold maxLen at hmr hmw
 obtain⟨Ae,ce,rfl,hce,hme,-⟩:=id he
 obtain⟨W,hW⟩:∃W,W=(w.alloc (.cells #[.slice Ar R.length cr,.slice Aw Ws.length cw] 28)).alloc (.cells #[.bool false,.slice none 0 0,.bool false,.slice none 0 0] 55):=⟨_,rfl⟩
 have hb0:Below w.heap.size w W:=by rw[hW];exact za (za (blr _ _) _) _
 have hsb:W.heap[w.heap.size]?=some (.cells #[.slice Ar R.length cr,.slice Aw Ws.length cw] 28 (0,0)):=by rw[hW];exact zy (zg _ _) _
 have hrb:W.heap[w.heap.size+1]?=some (.cells #[.bool false,.slice none 0 0,.bool false,.slice none 0 0] 55 (0,0)):=by rw[hW];exact zv _ (by simp)
 have HL:=hide hW
 have hs3:=hG.m4
 have H0:=hide (ai hb0 (ai hsb (ai hrb (ai (HV.out.below hb0) (QRowE.below he hb0)))))
 have hR:=hG.hR
 have HG:=hide hG
 have hsW:=hb0.size
 rw[hR] at hcr HL H0 ⊢
 clear hb0 hsb hrb hW hra hwb he hR hG HV
 go_enter Tryz.func46,Tryz.ntmps46
 go_upto_region 1 with fail
 rw[<-HL.out]
 clear HL
 go_wp2_with fail
 refine(zap _ 0 1 (by omega) (by omega) (by omega) (by omega) (by omega)).mono ?_
 rintro e w99 ⟨_,rfl,hy,hd99⟩
 rw[show Rat.divInt 0 1=(0:Rat) from rfl] at hy
 obtain⟨s99,A99,n99,c99,B99,m99,d99,rfl,-⟩:=hy.parts
 obtain⟨W99,hW99⟩:∃W99,W99=w99.alloc (.cells #[.bool s99,.slice A99 n99 c99,.bool false,.slice B99 m99 d99] 55):=⟨_,rfl⟩
 have hda99:Below w99.heap.size w99 W99:=by rw[hW99];exact za (blr _ _) _
 have hbox99:BoxQ W99 w99.heap.size ((0:Rat)) (1000001):=⟨_,_,_,_,_,_,_,by rw[hW99];exact zg _ _,(hy.below hda99).more (by omega)⟩
 have HL99:=hide hW99
 clear hy hW99
 have H1:=hide (ai (show BoxQ W99 w99.heap.size (sumN (wtJ (ldR E R) s n) 0) 1000001 from hbox99) (ai hda99 (ai (at_later H0.out.2.1 hd99) (ai (at_later H0.out.2.2.1 hd99) (ai (bnx H0.out.1 hd99) (ai (H0.out.2.2.2.1.below hd99) (QRowE.below H0.out.2.2.2.2 hd99)))))))
 have hs1:=hd99.size
 obtain⟨y0,y1,-,-⟩:=ze (at_later H1.out.2.2.1 H1.out.2.1)
 have hly:=lt_of_block (at_later H1.out.2.2.1 H1.out.2.1)
 clear hbox99 hda99 hd99 H0
 go_upto_region 2 with fail
 rw[<-HL99.out]
 clear HL99
 go_wp2_with fail
 refine(zeU s W99 n (by omega) hn).mono ?_
 rintro e wl ⟨vl,rfl,hll,hdl⟩
 obtain⟨Al,cl,rfl,hcl,hml⟩:=hll.len
 unfold maxLen at hml
 have hmost:=zc0 s n (by omega) hn
 have hbl:=H1.out.2.1.trans (hdl.mono H1.out.2.1.size)
 have H2:=hide (ai (H1.out.1.below hdl) hbl)
 have HLL0:=hide hll
 have hs99:w.heap.size<=w99.heap.size:=H1.out.2.2.2.2.1.size
 clear y0 y1 hly hll hbl hdl
 go_wp2_with fail
 go_loopw [9] (fun s9 wr=>∃i:Nat,i<=(stL s n).length/\s9=.int .i64 i/\BoxQ wr w99.heap.size (sumN (wtJ (ldR E R) s n) i) 1000001/\OwnG 22 1 zbg wr W99.heap.size (.slice Al (stL s n).length cl) (stL s n)/\Below w99.heap.size w99 wr) (fun s9 _=>(stL s n).length-(intOf s9).toNat)
 case atStart=>exact⟨0,Nat.zero_le _,rfl,H2.out.1,HLL0.out,H2.out.2⟩
 case round=>
  obtain⟨i,hi,rfl,hbx,hll,hbel⟩:=hrel
  by_cases hkn:i<(stL s n).length
  ·have i1:(i:Int)<((stL s n).length:Int):=by omega
   have HLL:=hide hll
   obtain⟨-,-,-,hat⟩:=HLL.out.lst.row_at
   obtain⟨bl,ol,el,hat2⟩:=hat (by omega)
   obtain rfl:=el
   obtain⟨A5,c5,hcell,hst⟩:=hat2 i hkn
   obtain⟨row,hrow⟩:∃row,row=(stL s n).getD i []:=⟨_,rfl⟩
   rw[<-hrow] at hcell hst
   have HROW:=hide hrow
   have hrowl:row.length=s+1:=by rw[hrow];exact zex s n _ (zcH s n i hkn)
   have HRL:=hide hrowl
   have HST:=hide hst
   have HGV:=hide (H1.out.2.2.2.2.2.1.below hbel)
   have HE1:=hide (QRowE.below H1.out.2.2.2.2.2.2 hbel)
   have HSB:=hide (at_later H1.out.2.2.1 hbel)
   have HBX:=hide hbx
   have HBL:=hide hbel
   clear hat hat2 hst hbx hbel hrow hrowl
   clear hll
   go_upto_region 6 with fail
   obtain⟨s21,A21,n21,c21,B21,m21,d21,hx21,hq21⟩:=HBX.out
   have e22a:=(ze HSB.out).1
   have e23a:=(ze HSB.out).2.1
   have e24a:=hcell
   have hS:∀w',Below wr.heap.size wr w'->(w'.cell? ⟨w99.heap.size,0,none⟩=some (.bool s21)/\w'.cell? ⟨w99.heap.size,1,none⟩=some (.slice A21 n21 c21)/\w'.cell? ⟨w99.heap.size,2,none⟩=some (.bool false)/\w'.cell? ⟨w99.heap.size,3,none⟩=some (.slice B21 m21 d21))/\w'.cell? ⟨w.heap.size,0,none⟩=some (.slice Ar (s+1) cr)/\w'.cell? ⟨w.heap.size,1,none⟩=some (.slice Aw Ws.length cw)/\w'.cell? ⟨bl,ol+i,none⟩=some (.slice A5 row.length c5):=fun w' h=>by
    have eC:∀b o v,wr.cell? ⟨b,o,none⟩=some v->w'.cell? ⟨b,o,none⟩=some v:=fun b o v hv=>(h.cell (zf hv)).trans hv
    exact⟨zaq (at_later hx21 h),eC _ _ _ e22a,eC _ _ _ e23a,eC _ _ _ e24a⟩
   have hdr:Below wr.heap.size wr wr.drew:=(blr _ _).drew
   have HSS:=hide hS
   have HQS:=hide (ai hq21 trivial)
   clear hS hx21 hq21 e22a e23a e24a
   refine zA (fun w'=>(w'.cell? ⟨w99.heap.size,0,none⟩=some (.bool s21)/\w'.cell? ⟨w99.heap.size,1,none⟩=some (.slice A21 n21 c21)/\w'.cell? ⟨w99.heap.size,2,none⟩=some (.bool false)/\w'.cell? ⟨w99.heap.size,3,none⟩=some (.slice B21 m21 d21))/\w'.cell? ⟨w.heap.size,0,none⟩=some (.slice Ar (s+1) cr)/\w'.cell? ⟨w.heap.size,1,none⟩=some (.slice Aw Ws.length cw)/\w'.cell? ⟨bl,ol+i,none⟩=some (.slice A5 row.length c5)) [0,1,2,3,4,5,6,7,8] (by kernel_rfl) (HSS.out _ hdr) (fun hh=>?_)
   refine tt 2 hh 24 ?_
   try simp only[Act.put,ptA,ptB,ptC]
   refine tt 3 hh 25 ?_
   try simp only[Act.put,ptA,ptB,ptC]
   refine tt 4 hh 26 ?_
   try simp only[Act.put,ptA,ptB,ptC]
   refine tt 5 hh 27 ?_
   try simp only[Act.put,ptA,ptB,ptC]
   refine tt 0 hh 22 ?_
   try simp only[Act.put,ptA,ptB,ptC]
   refine tt 1 hh 23 ?_
   try simp only[Act.put,ptA,ptB,ptC]
   refine tt 6 hh 28 ?_
   try simp only[Act.put,ptA,ptB,ptC]
   refine zb (rs:=[7]) (by kernel_rfl) (by simp) ?_
   refine mem1 ?_
   refine zd rfl (fun K hK=>?_)
   go_simp
   go_at_call 101
   refine(zg5 _ _ _ _ R E Ws row s (HGV.out.below hdr) (QRowE.below HE1.out hdr) ((zbg.ints HST.out).below hdr) HG.out HRL.out (by rw[HROW.out];exact zg6 s n i hn hkn)).mono ?_
   rintro e w1 ⟨u1,rfl,hu1,hd⟩
   replace hu1:QV w1 u1 (wtJ (ldR E R) s n i) 1000001:=(show wtQ (ldR E R) row (s+1)=wtJ (ldR E R) s n i by unfold wtJ;rw[HROW.out])▸hu1
   obtain⟨s1,A1,n1,c1,B1,m1,d1,rfl,-⟩:=hu1.parts
   have HWT:=hide hu1
   clear hu1
   have hg1:Below wr.heap.size wr w1:=hdr.trans (hd.mono hdr.size)
   clear hd
   go_wp2_with fail
   refine hK.out _ _ (HSS.out _ hg1) (fun hh=>?_)
   clear hK K
   try simp only[Act.put,ptA,ptB,ptC]
   refine zb (rs:=[8]) (by kernel_rfl) (by simp) ?_
   refine mem1 ?_
   refine zd rfl (fun K hK=>?_)
   go_simp
   go_at_call 54
   refine(ziE _ _ _ (sumN (wtJ (ldR E R) s n) i) (wtJ (ldR E R) s n i) 1000001 (HQS.out.1.below hg1) HWT.out (by omega)).mono ?_
   rintro e w2 ⟨u2,rfl,hu2,hd⟩
   replace hu2:=((show QV w2 u2 (sumN (wtJ (ldR E R) s n) (i+1)) _ from hu2).fitQ (HG.out.sums hn (i+1) (by omega))).more (show 2*500000+1<=1000001 by omega)
   obtain⟨s2,A2,n2,c2,B2,m2,d2,rfl,-⟩:=hu2.parts
   have HN:=hide hu2
   clear hu2 HWT
   have hg2:Below wr.heap.size wr w2:=hg1.trans (hd.mono hg1.size)
   clear hd
   go_wp2_with fail
   refine hK.out _ _ (HSS.out _ hg2) (fun hh=>?_)
   clear hK K
   try simp only[Act.put,ptA,ptB,ptC]
   refine zG (k:=9) (by rfl) (by rfl) (by kernel_rfl) ?_
   simp only[List.drop_succ_cons,List.drop_zero]
   clear hh
   have hb5:=HBX.out.below hg2
   have HU:=hide (ai (hb5.put4 HN.out) (zJ (B:=w99.heap.size) (x:=.bool s2) (y:=.slice A2 n2 c2) (z:=.bool false) (u:=.slice B2 m2 d2) (bnx HBL.out hg2) (nr _)))
   obtain⟨sz,Az,nz,cz,Bz,mz,dz,hxz,hqz⟩:=id hb5
   obtain⟨x0,x1,x2,x3,xf0,xf1,xf2,xf3⟩:=zq hxz
   have lx:=lt_of_block hxz
   have HLX:=hide (OwnG.kp (zc6 (by decide)) (OwnG.below za5 HLL.out hg2) (by decide) (ziy hxz (.bool s2) (.slice A2 n2 c2) (.bool false) (.slice B2 m2 d2)))
   clear hxz hqz hb5 HN
   go_wp2
   case roundEnd=>exact⟨⟨i+1,by omega,by go_num,HU.out.1,HLX.out,HU.out.2⟩,by simp[intOf];omega⟩
  ·obtain hi2:i=(stL s n).length:=by omega
   have i1:¬(i:Int)<((stL s n).length:Int):=by omega
   obtain⟨s2,A2,n2,c2,B2,m2,d2,hx2,hq2⟩:=id hbx
   obtain⟨x0,x1,x2,x3,xf0,xf1,xf2,xf3⟩:=zq hx2
   have lx:=lt_of_block hx2
   have hr:=at_later H1.out.2.2.2.1 hbel
   obtain⟨r0,r1,r2,r3,rf0,rf1,rf2,rf3⟩:=zq hr
   have lr:=lt_of_block hr
   rw[hi2,zb4.all] at hq2
   have HFIN:=hide (ai hq2 (ai hr (H1.out.2.2.2.2.1.trans (hbel.mono H1.out.2.2.2.2.1.size))))
   clear hx2 hq2 hbx hbel hr hll hi2
   go_wp2
   refine bodyPost_ret (v:=.agg #[.bool s2,.slice A2 n2 c2,.bool false,.slice B2 m2 d2]) ?_ rfl ?_
   ·simp[results,Tryz.results46,go_sem,r0,r1,r2,r3,lr]
   exact⟨_,rfl,HFIN.out.1.put4 HFIN.out.2.1 (by decide),zJ HFIN.out.2.2 (by omega)⟩
theorem zO.ldR {m:Nat} {R:List Rat} {Ws:List (List Rat)} (h:zO m R Ws):ldR (visV m (ent Ws)) R=ldF m R Ws:=by
 funext i
 unfold ldF ldV
 by_cases hi:i<(visV m (ent Ws)).length
 ·rw[zdI _ _ _ hi];rfl
 ·have h1:(loadsV R (visV m (ent Ws))).length<=i:=by rw[zba];omega
  unfold Go.Proofs.YtpoahodnakhmiaaGreat.ldR
  simp[List.getD,List.getElem?_eq_none h1,List.getElem?_eq_none (show (visV m (ent Ws)).length<=i by omega),Rat.div_def,Rat.zero_mul]
theorem zO.refG {s:Nat} {R:List Rat} {Ws:List (List Rat)} (h:zO (s+1) R Ws) (h4:s+1<=4):zb4 (s+1) R (visV (s+1) (ent Ws)):=⟨h.ok.shop.rl,h.vlen,h4,h.ok.r0,by rw[h.ldR];exact h.ld⟩
def tkI (k x:Int):Int:=if 0<k then (if k<=x then 1 else 0) else x
def tmJ (l:Nat->Rat) (s n i:Nat) (k:Int) (j:Nat):Rat:=wtJ l s n j*((tkI k (((stL s n).getD j []).getD i 0):Int):Rat)
def mnQ (l:Nat->Rat) (m i:Nat) (k:Int) (n:Nat):Rat:=if 0<k then atQ l m i k n else lnQ l m i n
theorem zoc {l:Nat->Rat} {s:Nat} (h:zS (s+1) l) (i:Nat) (k:Int) (n:Nat) (hi:i<=s):sumN (tmJ l s n i k) (stL s n).length / gN l (s+1) n=mnQ l (s+1) i k n:=by
 have h1:sumN (tmJ l s n i k) (stL s n).length=sL (fun x=>wtQ l x (s+1)*((tkI k (x.getD i 0):Int):Rat)) (stL s n):=zgS (fun x=>wtQ l x (s+1)*((tkI k (x.getD i 0):Int):Rat)) [] (stL s n)
 rw[h1]
 unfold mnQ
 by_cases hk:0<k
 ·rw[if_pos hk]
  obtain⟨kk,rfl⟩:∃kk:Nat,k=kk:=⟨k.toNat,by omega⟩
  have h2:=zi7 s l i kk n hi
  unfold gT at h2
  rw[zci (g:=fun x=>wtQ l x (s+1)*(if (kk:Int)<=x.getD i 0 then 1 else 0)) _ (fun x _=>by
   unfold tkI
   rw[if_pos hk]
   by_cases hx:(kk:Int)<=x.getD i 0
   ·rw[if_pos hx,if_pos hx];rfl
   ·rw[if_neg hx,if_neg hx];rfl),h2]
  by_cases hn:kk<=n
  ·rw[if_pos hn]
   unfold atQ
   rw[if_neg (show ¬(kk:Int)<1 by omega),if_neg (show ¬(n:Int)<(kk:Int) by omega),Int.toNat_natCast,Int.toNat_natCast,show ((n:Int)-(kk:Int)).toNat=n-kk by omega]
  ·rw[if_neg hn,Rat.div_def,Rat.zero_mul]
   unfold atQ
   rw[if_neg (show ¬(kk:Int)<1 by omega),if_pos (show (n:Int)<(kk:Int) by omega)]
 ·rw[if_neg hk,h.ln_eq,<-zn8 l s i n hi]
  congr 1
  exact zci _ (fun x _=>by unfold tkI;rw[if_neg hk])
theorem zmQ {x:Int} (h0:0<=x) (h1:x<=12):FitQ 1 ((x:Int):Rat):=by
 have e:(4294967296:Int)^1=4294967296:=by decide
 unfold FitQ
 rw[e]
 have h2:((x:Int):Rat).num=x:=Rat.num_intCast x
 have h3:((x:Int):Rat).den=1:=Rat.den_intCast x
 rw[h2,h3]
 exact⟨by omega,by omega⟩
theorem zkd {k x:Int} (h0:0<=x) (h1:x<=12):0<=tkI k x/\tkI k x<=12:=by
 unfold tkI;split
 ·split <;> omega
 ·omega
theorem zb4.tk {s n:Nat} {R E:List Rat} (h:zb4 (s+1) R E) (hn:n<=12) (i:Nat) (k:Int) (j:Nat) (hj:j<(stL s n).length):FitQ 102 (tmJ (ldR E R) s n i k j):=by
 have h1:=zcw s n _ (zcH s n j hj) i
 have h2:=zkd (k:=k) h1.1 (by omega)
 have h3:=(h.wt hn j hj (s+1) (nr _)).mulA (zmQ h2.1 h2.2)
 have h4:=h3.more (show 101+1<=102 by omega)
 exact h4
theorem zb4.tks {s n:Nat} {R E:List Rat} (h:zb4 (s+1) R E) (hn:n<=12) (i:Nat) (k:Int) (j:Nat) (hj:j<=(stL s n).length):FitQ 500000 (sumN (tmJ (ldR E R) s n i k) j):=
 (zdk (L:=102) j (fun q hq=>h.tk hn i k q (by omega))).more (by have:=zc0 s n (by have:=h.m4;omega) hn;omega)
theorem zS.mn_fit {s:Nat} {l:Nat->Rat} (h:zS s l) (i:Nat) (k:Int) (n:Nat) (hi:i<s) (hn:n<=12):FitQ 350 (mnQ l s i k n):=by
 unfold mnQ;split
 ·exact(h.at_fit i k n hi (by omega)).more (by omega)
 ·exact h.ln_fit2 i n hi hn
structure zcq (m:Nat) (R:List Rat) (Ws:List (List Rat)):Prop where
 ok:zO m R Ws
 m4:m<=4
 fr:∀i j,i<m->j<m->FracQ 12 (ent Ws i j)/\FracQ 12 (ent Ws i j-1)
theorem zcq.visits {m:Nat} {R:List Rat} {Ws:List (List Rat)} (h:zcq m R Ws) (w:World) (v:Value) (hv:zaG w v R Ws 3):
  Calls Tryz.prog 42 #[v] w (Ret (fun u w'=>QRowE 1000001 w' u (visV m (ent Ws))/\Below w.heap.size w w')):=by
 refine(zmj w v R Ws m hv h.ok.ok.shop.rl h.ok.ok.shop.wl h.ok.ok.shop.rows h.ok.ok.ring (by have:=h.m4;omega) h.ok.ok.sys h.fr).mono ?_
 rintro e w1 ⟨v1,rfl,h1,h2⟩
 exact⟨_,rfl,QRowE.upL h1 (by omega),h2⟩
set_option maxHeartbeats 8000000 in
theorem zg7 (w:World) (vs:Value) (R:List Rat) (Ws:List (List Rat)) (s n st:Nat) (k:Int) (hs:zaG w vs R Ws 3) (hS:zcq (s+1) R Ws) (hst:st<=s) (hn:n<=12):
  Calls Tryz.prog 96 #[vs,.int .i64 (st:Int),.int .i64 k,.int .i64 (n:Int)] w (Ret (qR w (mnQ (ldF (s+1) R Ws) (s+1) st k n) 1000001)):=by
 have HV:=hide hs
 obtain⟨va,vb,rfl,hra,hwb⟩:=hs
 obtain⟨Ar,cr,rfl,hcr,hmr,-⟩:=id hra
 obtain⟨Aw,cw,rfl,hcw,hmw,-⟩:=id hwb
 unfold maxLen at hmr hmw
 obtain⟨W,hW⟩:∃W,W=(w.alloc (.cells #[.slice Ar R.length cr,.slice Aw Ws.length cw] 28)).alloc (.cells #[.bool false,.slice none 0 0,.bool false,.slice none 0 0] 55):=⟨_,rfl⟩
 have hb0:Below w.heap.size w W:=by rw[hW];exact za (za (blr _ _) _) _
 have hsb:W.heap[w.heap.size]?=some (.cells #[.slice Ar R.length cr,.slice Aw Ws.length cw] 28 (0,0)):=by rw[hW];exact zy (zg _ _) _
 have hrb:W.heap[w.heap.size+1]?=some (.cells #[.bool false,.slice none 0 0,.bool false,.slice none 0 0] 55 (0,0)):=by rw[hW];exact zv _ (by simp)
 have HL:=hide hW
 have hs3:=hS.m4
 obtain⟨E,hE⟩:∃E,E=visV (s+1) (ent Ws):=⟨_,rfl⟩
 have hG:=hS.ok.refG hS.m4
 have hle:=hS.ok.ldR
 rw[<-hE] at hG hle
 have H0:=hide (ai hb0 (ai hsb (ai hrb (HV.out.below hb0))))
 have hR:=hG.hR
 have HG:=hide hG
 have HS:=hide hS
 have HLE:=hide hle
 have HE:=hide hE
 have hsW:=hb0.size
 obtain⟨y0,y1,-,-⟩:=ze hsb
 have hly:=lt_of_block hsb
 rw[hR] at hcr HL H0 y0 ⊢
 clear hb0 hsb hrb hW hra hwb hR hG hS hE hle HV
 go_enter Tryz.func96,Tryz.ntmps96
 go_upto_region 1 with fail
 rw[<-HL.out]
 clear HL
 go_wp2_with fail
 refine(HS.out.visits _ _ H0.out.2.2.2).mono ?_
 rintro e w98 ⟨v98,rfl,hv98,hd98⟩
 rw[<-HE.out] at hv98
 obtain⟨Ae,ce,rfl,hce,hme,-⟩:=id hv98
 clear y0 y1 hly
 have H98:=hide (ai hv98 (ai (at_later H0.out.2.1 hd98) (ai (at_later H0.out.2.2.1 hd98) (ai (bnx H0.out.1 hd98) (H0.out.2.2.2.below hd98)))))
 clear hv98 hd98 H0
 go_wp2_with fail
 refine(zap _ 0 1 (by omega) (by omega) (by omega) (by omega) (by omega)).mono ?_
 rintro e w99 ⟨_,rfl,hy,hd99⟩
 rw[show Rat.divInt 0 1=(0:Rat) from rfl] at hy
 obtain⟨s99,A99,n99,c99,B99,m99,d99,rfl,-⟩:=hy.parts
 obtain⟨W99,hW99⟩:∃W99,W99=w99.alloc (.cells #[.bool s99,.slice A99 n99 c99,.bool false,.slice B99 m99 d99] 55):=⟨_,rfl⟩
 have hda99:Below w99.heap.size w99 W99:=by rw[hW99];exact za (blr _ _) _
 have hbox99:BoxQ W99 w99.heap.size ((0:Rat)) (1000001):=⟨_,_,_,_,_,_,_,by rw[hW99];exact zg _ _,(hy.below hda99).more (by omega)⟩
 have HL99:=hide hW99
 clear hy hW99
 have H1:=hide (ai (show BoxQ W99 w99.heap.size (sumN (tmJ (ldR E R) s n st k) 0) 1000001 from hbox99) (ai hda99 (ai (at_later H98.out.2.1 hd99) (ai (at_later H98.out.2.2.1 hd99) (ai (bnx H98.out.2.2.2.1 hd99) (ai (H98.out.2.2.2.2.below hd99) (QRowE.below H98.out.1 hd99)))))))
 have hs1:=hd99.size
 obtain⟨y0,y1,-,-⟩:=ze (at_later H1.out.2.2.1 H1.out.2.1)
 have hly:=lt_of_block (at_later H1.out.2.2.1 H1.out.2.1)
 clear hbox99 hda99 hd99 H98
 go_upto_region 3 with fail
 rw[<-HL99.out]
 clear HL99
 go_wp2_with fail
 refine(zeU s W99 n (by omega) hn).mono ?_
 rintro e wl ⟨vl,rfl,hll,hdl⟩
 obtain⟨Al,cl,rfl,hcl,hml⟩:=hll.len
 unfold maxLen at hml
 have hmost:=zc0 s n (by omega) hn
 have hbl:=H1.out.2.1.trans (hdl.mono H1.out.2.1.size)
 have H2:=hide (ai (H1.out.1.below hdl) hbl)
 have HLL0:=hide hll
 have hs99:w.heap.size<=w99.heap.size:=H1.out.2.2.2.2.1.size
 clear y0 y1 hly hll hbl hdl
 go_wp2_with fail
 go_loopw [12,13] (fun s12 s13 wr=>∃i:Nat,i<=(stL s n).length/\s12=.int .i64 i/\BoxQ wr w99.heap.size (sumN (tmJ (ldR E R) s n st k) i) 1000001/\OwnG 22 1 zbg wr W99.heap.size (.slice Al (stL s n).length cl) (stL s n)/\Below w99.heap.size w99 wr) (fun s12 _ _=>(stL s n).length-(intOf s12).toNat)
 case atStart=>exact⟨0,Nat.zero_le _,rfl,H2.out.1,HLL0.out,H2.out.2⟩
 case round=>
  obtain⟨i,hi,rfl,hbx,hll,hbel⟩:=hrel
  by_cases hkn:i<(stL s n).length
  ·have i1:(i:Int)<((stL s n).length:Int):=by omega
   have HLL:=hide hll
   obtain⟨-,-,-,hat⟩:=HLL.out.lst.row_at
   obtain⟨bl,ol,el,hat2⟩:=hat (by omega)
   obtain rfl:=el
   obtain⟨A5,c5,hcell,hst⟩:=hat2 i hkn
   obtain⟨row,hrow⟩:∃row,row=(stL s n).getD i []:=⟨_,rfl⟩
   rw[<-hrow] at hcell hst
   have HROW:=hide hrow
   have hrowl:row.length=s+1:=by rw[hrow];exact zex s n _ (zcH s n i hkn)
   have HRL:=hide hrowl
   have HST:=hide hst
   have HGV:=hide (H1.out.2.2.2.2.2.1.below hbel)
   have HE1:=hide (QRowE.below H1.out.2.2.2.2.2.2 hbel)
   have HSB:=hide (at_later H1.out.2.2.1 hbel)
   have HBX:=hide hbx
   have HBL:=hide hbel
   clear hat hat2 hst hbx hbel hrow hrowl
   clear hll
   obtain⟨A6,c6,e6,-,-,hx6⟩:=(zbg.ints HST.out).at_
   injection e6 with e61 e62 e63
   subst e61 e63
   obtain⟨b5,o5,e5,hx5⟩:=hx6 (by rw[HRL.out];omega)
   obtain rfl:=e5
   have i2:(st:Int)<((row.length:Nat):Int):=by rw[HRL.out];omega
   have hcx:=hx5 st (by rw[HRL.out];omega)
   obtain⟨x,hxx⟩:∃x,x=row.getD st 0:=⟨_,rfl⟩
   rw[<-hxx] at hcx
   have h12:=zg6 s n i hn hkn st
   rw[<-HROW.out,<-hxx] at h12
   have HTK:=hide (zkd (k:=k) h12.1 h12.2)
   have HXX:=hide hxx
   clear hx6 hx5 e62 h12 hxx
   go_upto_if 36 with fail
   go_cut [13] (fun s13 wx=>s13=.int .i64 (tkI k (x))/\wx=wr)
   case first=>
    by_cases hk:0<k
    ·have hk2:(0<k):=hk
     by_cases hx:k<=x
     ·go_wp2_with fail
      go_meet
      exact⟨by unfold tkI;rw[if_pos (by omega),if_pos (by omega)],rfl⟩
     ·have hx2:¬(k<=x):=hx
      go_wp2_with fail
      go_meet
      exact⟨by unfold tkI;rw[if_pos (by omega),if_neg (by omega)],rfl⟩
    ·have hk2:¬(0<k):=hk
     go_wp2_with fail
     go_meet
     exact⟨by unfold tkI;rw[if_neg (by omega)],rfl⟩
   case rest=>
    obtain⟨rfl,rfl⟩:=hcut
    rename World=>wr
    clear hcx
    go_upto_region 12 with fail
    obtain⟨s21,A21,n21,c21,B21,m21,d21,hx21,hq21⟩:=HBX.out
    have e22a:=(ze HSB.out).1
    have e23a:=(ze HSB.out).2.1
    have e24a:=hcell
    have hS:∀w',Below wr.heap.size wr w'->(w'.cell? ⟨w99.heap.size,0,none⟩=some (.bool s21)/\w'.cell? ⟨w99.heap.size,1,none⟩=some (.slice A21 n21 c21)/\w'.cell? ⟨w99.heap.size,2,none⟩=some (.bool false)/\w'.cell? ⟨w99.heap.size,3,none⟩=some (.slice B21 m21 d21))/\w'.cell? ⟨w.heap.size,0,none⟩=some (.slice Ar (s+1) cr)/\w'.cell? ⟨w.heap.size,1,none⟩=some (.slice Aw Ws.length cw)/\w'.cell? ⟨bl,ol+i,none⟩=some (.slice (some ⟨b5,o5,none⟩) row.length c5):=fun w' h=>by
     have eC:∀b o v,wr.cell? ⟨b,o,none⟩=some v->w'.cell? ⟨b,o,none⟩=some v:=fun b o v hv=>(h.cell (zf hv)).trans hv
     exact⟨zaq (at_later hx21 h),eC _ _ _ e22a,eC _ _ _ e23a,eC _ _ _ e24a⟩
    have hdr:Below wr.heap.size wr wr.drew:=(blr _ _).drew
    have HSS:=hide hS
    have HQS:=hide (ai hq21 trivial)
    clear hS hx21 hq21 e22a e23a e24a
    refine zA (fun w'=>(w'.cell? ⟨w99.heap.size,0,none⟩=some (.bool s21)/\w'.cell? ⟨w99.heap.size,1,none⟩=some (.slice A21 n21 c21)/\w'.cell? ⟨w99.heap.size,2,none⟩=some (.bool false)/\w'.cell? ⟨w99.heap.size,3,none⟩=some (.slice B21 m21 d21))/\w'.cell? ⟨w.heap.size,0,none⟩=some (.slice Ar (s+1) cr)/\w'.cell? ⟨w.heap.size,1,none⟩=some (.slice Aw Ws.length cw)/\w'.cell? ⟨bl,ol+i,none⟩=some (.slice (some ⟨b5,o5,none⟩) row.length c5)) [0,1,2,3,4,5,6,7,8,9,10,11] (by kernel_rfl) (HSS.out _ hdr) (fun hh=>?_)
    refine tt 2 hh 48 ?_
    try simp only[Act.put,ptA,ptB,ptC]
    refine tt 3 hh 49 ?_
    try simp only[Act.put,ptA,ptB,ptC]
    refine tt 4 hh 50 ?_
    try simp only[Act.put,ptA,ptB,ptC]
    refine tt 5 hh 51 ?_
    try simp only[Act.put,ptA,ptB,ptC]
    refine tt 8 hh 54 ?_
    try simp only[Act.put,ptA,ptB,ptC]
    refine tt 0 hh 46 ?_
    try simp only[Act.put,ptA,ptB,ptC]
    refine tt 1 hh 47 ?_
    try simp only[Act.put,ptA,ptB,ptC]
    refine tt 6 hh 52 ?_
    try simp only[Act.put,ptA,ptB,ptC]
    refine zb (rs:=[7]) (by kernel_rfl) (by simp) ?_
    refine mem1 ?_
    refine zd rfl (fun K hK=>?_)
    go_simp
    go_at_call 101
    refine(zg5 _ _ _ _ R E Ws row s (HGV.out.below hdr) (QRowE.below HE1.out hdr) ((zbg.ints HST.out).below hdr) HG.out HRL.out (by rw[HROW.out];exact zg6 s n i hn hkn)).mono ?_
    rintro e w1 ⟨u1,rfl,hu1,hd⟩
    replace hu1:QV w1 u1 (wtJ (ldR E R) s n i) 1000001:=(show wtQ (ldR E R) row (s+1)=wtJ (ldR E R) s n i by unfold wtJ;rw[HROW.out])▸hu1
    obtain⟨s1,A1,n1,c1,B1,m1,d1,rfl,-⟩:=hu1.parts
    have HWT:=hide hu1
    clear hu1
    try (replace HFR:=hide (HFR.out.below hd))
    have hg1:Below wr.heap.size wr w1:=hdr.trans (hd.mono hdr.size)
    clear hd
    go_wp2_with fail
    refine hK.out _ _ (HSS.out _ hg1) (fun hh=>?_)
    clear hK K
    try simp only[Act.put,ptA,ptB,ptC]
    refine zb (rs:=[9]) (by kernel_rfl) (by simp) ?_
    refine mem1 ?_
    refine zd rfl (fun K hK=>?_)
    go_simp
    go_at_call 59
    refine(zap _ (tkI k (x)) 1 (by have:=HTK.out;omega) (by have:=HTK.out;omega) (by omega) (by omega) (by omega)).mono ?_
    rintro e w2 ⟨u2,rfl,hu2,hd⟩
    replace hu2:QV w2 u2 ((tkI k (x):Int):Rat) 1000001:=(show Rat.divInt (tkI k (x)) 1=((tkI k (x):Int):Rat) from Rat.num_divInt_den (((tkI k (x)):Int):Rat))▸hu2.more (by omega)
    obtain⟨s2,A2,n2,c2,B2,m2,d2,rfl,-⟩:=hu2.parts
    have HFR:=hide hu2
    clear hu2
    try (replace HWT:=hide (HWT.out.below hd))
    have hg2:Below wr.heap.size wr w2:=hg1.trans (hd.mono hg1.size)
    clear hd
    go_wp2_with fail
    refine hK.out _ _ (HSS.out _ hg2) (fun hh=>?_)
    clear hK K
    try simp only[Act.put,ptA,ptB,ptC]
    refine zb (rs:=[10]) (by kernel_rfl) (by simp) ?_
    refine mem1 ?_
    refine zd rfl (fun K hK=>?_)
    go_simp
    go_at_call 88
    refine(zcM _ _ _ (wtJ (ldR E R) s n i) ((tkI k (x):Int):Rat) 1000001 HWT.out HFR.out (by omega)).mono ?_
    rintro e w3 ⟨u3,rfl,hu3,hd⟩
    replace hu3:=((show QV w3 u3 (tmJ (ldR E R) s n st k i) _ from (show wtJ (ldR E R) s n i*((tkI k x:Int):Rat)=tmJ (ldR E R) s n st k i by unfold tmJ;rw[HXX.out,HROW.out])▸hu3).fitQ (HG.out.tk hn st k i hkn)).more (show 2*102+1<=1000001 by omega)
    obtain⟨s3,A3,n3,c3,B3,m3,d3,rfl,-⟩:=hu3.parts
    have HTM:=hide hu3
    clear hu3 HWT HFR
    have hg3:Below wr.heap.size wr w3:=hg2.trans (hd.mono hg2.size)
    clear hd
    go_wp2_with fail
    refine hK.out _ _ (HSS.out _ hg3) (fun hh=>?_)
    clear hK K
    try simp only[Act.put,ptA,ptB,ptC]
    refine zb (rs:=[11]) (by kernel_rfl) (by simp) ?_
    refine mem1 ?_
    refine zd rfl (fun K hK=>?_)
    go_simp
    go_at_call 54
    refine(ziE _ _ _ (sumN (tmJ (ldR E R) s n st k) i) (tmJ (ldR E R) s n st k i) 1000001 (HQS.out.1.below hg3) HTM.out (by omega)).mono ?_
    rintro e w4 ⟨u4,rfl,hu4,hd⟩
    replace hu4:=((show QV w4 u4 (sumN (tmJ (ldR E R) s n st k) (i+1)) _ from hu4).fitQ (HG.out.tks hn st k (i+1) (by omega))).more (show 2*500000+1<=1000001 by omega)
    obtain⟨s4,A4,n4,c4,B4,m4,d4,rfl,-⟩:=hu4.parts
    have HN:=hide hu4
    clear hu4 HTM
    have hg4:Below wr.heap.size wr w4:=hg3.trans (hd.mono hg3.size)
    clear hd
    go_wp2_with fail
    refine hK.out _ _ (HSS.out _ hg4) (fun hh=>?_)
    clear hK K
    try simp only[Act.put,ptA,ptB,ptC]
    refine zG (k:=12) (by rfl) (by rfl) (by kernel_rfl) ?_
    simp only[List.drop_succ_cons,List.drop_zero]
    clear hh
    have hb5:=HBX.out.below hg4
    have HU:=hide (ai (hb5.put4 HN.out) (zJ (B:=w99.heap.size) (x:=.bool s4) (y:=.slice A4 n4 c4) (z:=.bool false) (u:=.slice B4 m4 d4) (bnx HBL.out hg4) (nr _)))
    obtain⟨sz,Az,nz,cz,Bz,mz,dz,hxz,hqz⟩:=id hb5
    obtain⟨x0,x1,x2,x3,xf0,xf1,xf2,xf3⟩:=zq hxz
    have lx:=lt_of_block hxz
    have HLX:=hide (OwnG.kp (zc6 (by decide)) (OwnG.below za5 HLL.out hg4) (by decide) (ziy hxz (.bool s4) (.slice A4 n4 c4) (.bool false) (.slice B4 m4 d4)))
    clear hxz hqz hb5 HN
    go_wp2
    case roundEnd=>exact⟨⟨i+1,by omega,by go_num,HU.out.1,HLX.out,HU.out.2⟩,by simp[intOf];omega⟩
  ·obtain hi2:i=(stL s n).length:=by omega
   have i1:¬(i:Int)<((stL s n).length:Int):=by omega
   have HGV:=hide (H1.out.2.2.2.2.2.1.below hbel)
   have HE1:=hide (QRowE.below H1.out.2.2.2.2.2.2 hbel)
   have HSB:=hide (at_later H1.out.2.2.1 hbel)
   rw[hi2] at hbx
   have HBX:=hide hbx
   have HBL:=hide hbel
   clear hbx hbel hll hi2
   go_upto_region 13 with fail
   obtain⟨s61,A61,n61,c61,B61,m61,d61,hx61,hq61⟩:=HBX.out
   have e62a:=(ze HSB.out).1
   have e63a:=(ze HSB.out).2.1
   have hS:∀w',Below wr.heap.size wr w'->(w'.cell? ⟨w99.heap.size,0,none⟩=some (.bool s61)/\w'.cell? ⟨w99.heap.size,1,none⟩=some (.slice A61 n61 c61)/\w'.cell? ⟨w99.heap.size,2,none⟩=some (.bool false)/\w'.cell? ⟨w99.heap.size,3,none⟩=some (.slice B61 m61 d61))/\w'.cell? ⟨w.heap.size,0,none⟩=some (.slice Ar (s+1) cr)/\w'.cell? ⟨w.heap.size,1,none⟩=some (.slice Aw Ws.length cw):=fun w' h=>by
    have eC:∀b o v,wr.cell? ⟨b,o,none⟩=some v->w'.cell? ⟨b,o,none⟩=some v:=fun b o v hv=>(h.cell (zf hv)).trans hv
    exact⟨zaq (at_later hx61 h),eC _ _ _ e62a,eC _ _ _ e63a⟩
   have hdr:Below wr.heap.size wr wr.drew:=(blr _ _).drew
   have HSS:=hide hS
   have HQS:=hide (ai hq61 trivial)
   clear hS hx61 hq61 e62a e63a
   refine zA (fun w'=>(w'.cell? ⟨w99.heap.size,0,none⟩=some (.bool s61)/\w'.cell? ⟨w99.heap.size,1,none⟩=some (.slice A61 n61 c61)/\w'.cell? ⟨w99.heap.size,2,none⟩=some (.bool false)/\w'.cell? ⟨w99.heap.size,3,none⟩=some (.slice B61 m61 d61))/\w'.cell? ⟨w.heap.size,0,none⟩=some (.slice Ar (s+1) cr)/\w'.cell? ⟨w.heap.size,1,none⟩=some (.slice Aw Ws.length cw)) [0,1,2,3,4,5] (by kernel_rfl) (HSS.out _ hdr) (fun hh=>?_)
   refine tt 2 hh 60 ?_
   try simp only[Act.put,ptA,ptB,ptC]
   refine tt 3 hh 61 ?_
   try simp only[Act.put,ptA,ptB,ptC]
   refine tt 0 hh 58 ?_
   try simp only[Act.put,ptA,ptB,ptC]
   refine tt 1 hh 59 ?_
   try simp only[Act.put,ptA,ptB,ptC]
   refine zb (rs:=[4]) (by kernel_rfl) (by simp) ?_
   refine mem1 ?_
   refine zd rfl (fun K hK=>?_)
   go_simp
   go_at_call 46
   refine(zjc _ _ _ R E Ws s n (HGV.out.below hdr) (QRowE.below HE1.out hdr) HG.out hn).mono ?_
   rintro e w1 ⟨u1,rfl,hu1,hd⟩
   obtain⟨s1,A1,n1,c1,B1,m1,d1,rfl,-⟩:=hu1.parts
   have HGN:=hide hu1
   clear hu1
   have hg1:Below wr.heap.size wr w1:=hdr.trans (hd.mono hdr.size)
   clear hd
   go_wp2_with fail
   refine hK.out _ _ (HSS.out _ hg1) (fun hh=>?_)
   clear hK K
   try simp only[Act.put,ptA,ptB,ptC]
   refine zb (rs:=[5]) (by kernel_rfl) (by simp) ?_
   refine mem1 ?_
   refine zd rfl (fun K hK=>?_)
   go_simp
   go_at_call 89
   refine(zew _ _ _ (sumN (tmJ (ldR E R) s n st k) (stL s n).length) (gN (ldR E R) (s+1) n) 1000001 (HQS.out.1.below hg1) HGN.out (by omega) (HG.out.ld.g_ne n)).mono ?_
   rintro e w2 ⟨u2,rfl,hu2,hd⟩
   rw[zoc HG.out.ld st k n (by omega)] at hu2
   replace hu2:=(hu2.fitQ (HG.out.ld.mn_fit st k n (by omega) hn)).more (show 2*350+1<=1000001 by omega)
   obtain⟨s2,A2,n2,c2,B2,m2,d2,rfl,-⟩:=hu2.parts
   have HN:=hide hu2
   clear hu2 HGN
   have hg2:Below wr.heap.size wr w2:=hg1.trans (hd.mono hg1.size)
   clear hd
   go_wp2_with fail
   refine hK.out _ _ (HSS.out _ hg2) (fun hh=>?_)
   clear hK K
   try simp only[Act.put,ptA,ptB,ptC]
   refine zG (k:=6) (by rfl) (by rfl) (by kernel_rfl) ?_
   simp only[List.drop_succ_cons,List.drop_zero]
   clear hh
   have hr:=at_later (at_later H1.out.2.2.2.1 HBL.out) hg2
   obtain⟨r0,r1,r2,r3,rf0,rf1,rf2,rf3⟩:=zq hr
   have lr:=lt_of_block hr
   have HFIN:=hide (ai HN.out (ai hr (bnx (H1.out.2.2.2.2.1.trans (HBL.out.mono H1.out.2.2.2.2.1.size)) hg2)))
   clear hr HN
   go_wp2
   refine bodyPost_ret (v:=.agg #[.bool s2,.slice A2 n2 c2,.bool false,.slice B2 m2 d2]) ?_ rfl ?_
   ·simp[results,Tryz.results96,go_sem,r0,r1,r2,r3,lr]
   refine⟨_,rfl,?_,zJ HFIN.out.2.2 (by omega)⟩
   rw[<-HLE.out]
   exact HFIN.out.1.put4 HFIN.out.2.1 (by decide)
end Go.Proofs.YtpoahodnakhmiaaGreat
