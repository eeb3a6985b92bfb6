import Derived.Test.YtpoahodnakhmiaaGreatChanR
import Derived.Test.YtpoahodnakhmiaaGreatQBott
set_option maxRecDepth 100000
namespace Go.Proofs.YtpoahodnakhmiaaGreat
set_option linter.unusedVariables false
set_option linter.unusedSimpArgs false
open Go.RowKit
def upB (l:Nat->Rat) (i t:Nat):Bool:=(List.range t).all fun k=>decide (l k<=l i)
theorem zmw (l:Nat->Rat) (i t:Nat) (h:upB l i t=true):upB l i (t+1)=decide (l t<=l i):=by
 unfold upB at h ⊢
 rw[List.range_succ,List.all_append,h];simp
theorem znv (l:Nat->Rat) (i t:Nat) (h:upB l i t=false):upB l i (t+1)=false:=by
 unfold upB at h ⊢
 rw[List.range_succ,List.all_append,h];rfl
theorem zmx {l:Nat->Rat} {i m:Nat} {M:Rat} (hi:i<m) (h1:∀t,t<m->l t<=M) (h2:∃j,j<m/\l j=M):upB l i m=decide (l i=M):=by
 unfold upB
 by_cases h:l i=M
 ·rw[decide_eq_true h,List.all_eq_true]
  intro k hk
  rw[h]
  exact decide_eq_true (h1 k (List.mem_range.1 hk))
 ·rw[decide_eq_false h,List.all_eq_false]
  obtain⟨j,hj,e⟩:=h2
  refine⟨j,List.mem_range.2 hj,?_⟩
  have:=h1 i hi
  rw[e]
  intro hc
  have:=of_decide_eq_true hc
  exact h (Rat.le_antisymm (h1 i hi) this)
theorem zmy (a b:Rat):decide (sgnQ (a-b)<=0)=decide (a<=b):=by
 rcases zbR (a-b) with ⟨h1,h2⟩|⟨h1,h2⟩|⟨h1,h2⟩
 ·rw[h1,decide_eq_false (by omega),decide_eq_false (by grind)]
 ·rw[h1,decide_eq_true (by omega),decide_eq_true (by grind)]
 ·rw[h1,decide_eq_true (by omega),decide_eq_true (by grind)]
def bot9R (w:World) (m:Nat) (l:Nat->Rat) (M:Rat) (v:Value) (w':World):Prop:=
 ∃(A:Option Addr) (c:Nat),v=.slice A (botN l M m).length c/\(botN l M m).length<=c/\c<=maxLen/\Arr w' A .i64 (natsI (botN l M m))/\Below w.heap.size w w'
set_option maxHeartbeats 8000000 in
theorem zgD (w:World) (vs:Value) (R:List Rat) (Ws:List (List Rat)) (m:Nat) (M:Rat) (hs:za2 w vs R Ws 3) (hS:zdJ m R Ws) (hM1:∀t,t<m->ldF m R Ws t<=M) (hM2:∃j,j<m/\ldF m R Ws j=M):
  Calls Tryz.prog 43 #[vs] w (Ret (bot9R w m (ldF m R Ws) M)):=by
 have HV:=hide hs
 obtain⟨va,vb,rfl,hra,hwb⟩:=hs
 obtain⟨Ar,cr,rfl,hcr,hmr,-⟩:=id hra
 obtain⟨Aw,cw,rfl,hcw,hmw,-⟩:=id hwb
 unfold maxLen at hmr hmw
 obtain⟨W,hW⟩:∃W,W=w.alloc (.cells #[.slice Ar R.length cr,.slice Aw Ws.length cw] 28):=⟨_,rfl⟩
 have hb0:Below w.heap.size w W:=by rw[hW];exact za (blr _ _) _
 have hsb:W.heap[w.heap.size]?=some (.cells #[.slice Ar R.length cr,.slice Aw Ws.length cw] 28 (0,0)):=by rw[hW];exact zj _ _
 have HL:=hide hW
 have hm4:=hS.m4
 have hm1:=hS.ok.ok.shop.n1
 obtain⟨E,hE⟩:∃E,E=visV m (ent Ws):=⟨_,rfl⟩
 have hG:RefG m R E:=by
  rw[hE]
  cases m with
  | zero=>omega
  | succ s=>exact hS.ok.refG hS.m4
 have hle:=hS.ok.ldR
 rw[<-hE] at hle
 rw[<-hle] at hM1 hM2 ⊢
 have H0:=hide (ai hb0 (ai hsb (ai (HV.out.below hb0) (QRowE.below hra hb0))))
 have hR:=hG.hR
 have HG:=hide hG
 have HS:=hide hS
 have HE:=hide hE
 have HM:=hide (ai hM1 hM2)
 have hsW:=hb0.size
 obtain⟨y0,y1,-,-⟩:=ze hsb
 have hly:=lt_of_block hsb
 rw[hR] at hcr HL H0 y0 ⊢
 clear hb0 hsb hW hra hwb hR hG hS hE hle HV hM1 hM2
 go_enter Tryz.func43,Tryz.ntmps43
 go_upto_region 1 with fail
 rw[<-HL.out]
 clear HL
 go_wp2_with fail
 refine(HS.out.visits _ _ H0.out.2.2.1).mono ?_
 rintro e w98 ⟨v98,rfl,hv98,hd98⟩
 rw[<-HE.out] at hv98
 obtain⟨Ae,ce,rfl,hce,hme,-⟩:=id hv98
 unfold maxLen at hme
 clear y0 y1 hly
 have hel:E.length=m:=HG.out.hE
 obtain⟨be,oe,ee,hE1⟩:=QRowE.x hv98 (by omega)
 obtain rfl:=ee
 obtain⟨br,or_,er,hR1⟩:=QRowE.x (QRowE.below H0.out.2.2.2 hd98) (by rw[HG.out.hR];omega)
 obtain rfl:=er
 have H98:=hide (ai (at_later H0.out.2.1 hd98) (bnx H0.out.1 hd98))
 have HE1:=hide hE1
 have HR1:=hide hR1
 rw[hel] at hce ⊢
 have hs98:=hd98.size
 clear hv98 hd98 H0 hE1 hR1 hel
 go_wp2_with fail
 go_loopw [4,5,6,7] (fun s4 s5 s6 s7 wr=>∃i:Nat,i<=m/\s5=.int .i64 i/\OwnI wr w98.heap.size 3 .i64 s4 (natsI (botN (ldR E R) M i))/\Below w98.heap.size w98 wr) (fun _ s5 _ _ _=>m-(intOf s5).toNat)
 case atStart=>exact⟨0,Nat.zero_le _,rfl,OwnI.nil _ _ _ _,blr _ _⟩
 case round=>
  obtain⟨i,hi,rfl,hown,hbel⟩:=hrel
  obtain⟨wo,hwo⟩:∃wo,wo=wr:=⟨_,rfl⟩
  subst hwo
  obtain⟨Ao,co,rfl,hco,hmo,-⟩:=hown.form
  have hlo:=zfo (ldR E R) M i
  have hsr:=hbel.size
  by_cases him:i<m
  ·have i1:(i:Int)<(m:Int):=by omega
   have HO:=hide (ai hown hbel)
   clear hown hbel
   go_upto_region 8 with fail
   go_loopw [6,7] (fun s6 s7 wr=>∃t:Nat,t<=m/\s7=.int .i64 t/\s6=.bool (upB (ldR E R) i t)/\Below wo.heap.size wo wr) (fun _ s7 _=>m-(intOf s7).toNat)
   case atStart=>exact⟨0,Nat.zero_le _,rfl,rfl,blr _ _⟩
   case round=>
    obtain⟨t,ht,rfl,rfl,hbel⟩:=hrel
    by_cases htm:t<m
    ·have j1:(t:Int)<(m:Int):=by omega
     have hb98:=HO.out.2.trans (hbel.mono HO.out.2.size)
     have HE2:=hide (HE1.out.below hb98)
     have HR2:=hide (HR1.out.below hb98)
     have HSB:=hide (at_later H98.out.1 hb98)
     have HB:=hide hbel
     clear hb98 hbel
     by_cases hf:upB (ldR E R) i t=true
     ·have HF:=hide hf
      rw[hf]
      clear hf
      go_upto_region 10 with fail
      obtain⟨s21,A21,n21,c21,B21,m21,d21,e21a,e21b,e21c,e21d,hq21⟩:=HE2.out (t) (by rw[HG.out.hE];exact htm)
      have e22a:=(ze HSB.out).1
      obtain⟨s23,A23,n23,c23,B23,m23,d23,e23a,e23b,e23c,e23d,hq23⟩:=HR2.out (t) (by rw[HG.out.hR];exact htm)
      obtain⟨s24,A24,n24,c24,B24,m24,d24,e24a,e24b,e24c,e24d,hq24⟩:=HE2.out (i) (by rw[HG.out.hE];exact him)
      obtain⟨s25,A25,n25,c25,B25,m25,d25,e25a,e25b,e25c,e25d,hq25⟩:=HR2.out (i) (by rw[HG.out.hR];exact him)
      have hS:∀w',Below wr.heap.size wr w'->(w'.cell? ⟨be,oe+(t)*4,none⟩=some (.bool s21)/\w'.cell? ⟨be,oe+(t)*4+1,none⟩=some (.slice A21 n21 c21)/\w'.cell? ⟨be,oe+(t)*4+2,none⟩=some (.bool false)/\w'.cell? ⟨be,oe+(t)*4+3,none⟩=some (.slice B21 m21 d21))/\w'.cell? ⟨w.heap.size,0,none⟩=some (.slice (some ⟨br,or_,none⟩) m cr)/\(w'.cell? ⟨br,or_+(t)*4,none⟩=some (.bool s23)/\w'.cell? ⟨br,or_+(t)*4+1,none⟩=some (.slice A23 n23 c23)/\w'.cell? ⟨br,or_+(t)*4+2,none⟩=some (.bool false)/\w'.cell? ⟨br,or_+(t)*4+3,none⟩=some (.slice B23 m23 d23))/\(w'.cell? ⟨be,oe+(i)*4,none⟩=some (.bool s24)/\w'.cell? ⟨be,oe+(i)*4+1,none⟩=some (.slice A24 n24 c24)/\w'.cell? ⟨be,oe+(i)*4+2,none⟩=some (.bool false)/\w'.cell? ⟨be,oe+(i)*4+3,none⟩=some (.slice B24 m24 d24))/\(w'.cell? ⟨br,or_+(i)*4,none⟩=some (.bool s25)/\w'.cell? ⟨br,or_+(i)*4+1,none⟩=some (.slice A25 n25 c25)/\w'.cell? ⟨br,or_+(i)*4+2,none⟩=some (.bool false)/\w'.cell? ⟨br,or_+(i)*4+3,none⟩=some (.slice B25 m25 d25)):=fun w' h=>by
       have eC:∀b o v,wr.cell? ⟨b,o,none⟩=some v->w'.cell? ⟨b,o,none⟩=some v:=fun b o v hv=>(h.cell (zf hv)).trans hv
       exact⟨⟨eC _ _ _ e21a,eC _ _ _ e21b,eC _ _ _ e21c,eC _ _ _ e21d⟩,eC _ _ _ e22a,⟨eC _ _ _ e23a,eC _ _ _ e23b,eC _ _ _ e23c,eC _ _ _ e23d⟩,⟨eC _ _ _ e24a,eC _ _ _ e24b,eC _ _ _ e24c,eC _ _ _ e24d⟩,⟨eC _ _ _ e25a,eC _ _ _ e25b,eC _ _ _ e25c,eC _ _ _ e25d⟩⟩
      have hdr:Below wr.heap.size wr wr.drew:=(blr _ _).drew
      have HSS:=hide hS
      have HQS:=hide (ai hq21 (ai hq23 (ai hq24 (ai hq25 trivial))))
      clear hS e21a e21b e21c e21d hq21 e22a e23a e23b e23c e23d hq23 e24a e24b e24c e24d hq24 e25a e25b e25c e25d hq25
      refine zv (fun w'=>(w'.cell? ⟨be,oe+(t)*4,none⟩=some (.bool s21)/\w'.cell? ⟨be,oe+(t)*4+1,none⟩=some (.slice A21 n21 c21)/\w'.cell? ⟨be,oe+(t)*4+2,none⟩=some (.bool false)/\w'.cell? ⟨be,oe+(t)*4+3,none⟩=some (.slice B21 m21 d21))/\w'.cell? ⟨w.heap.size,0,none⟩=some (.slice (some ⟨br,or_,none⟩) m cr)/\(w'.cell? ⟨br,or_+(t)*4,none⟩=some (.bool s23)/\w'.cell? ⟨br,or_+(t)*4+1,none⟩=some (.slice A23 n23 c23)/\w'.cell? ⟨br,or_+(t)*4+2,none⟩=some (.bool false)/\w'.cell? ⟨br,or_+(t)*4+3,none⟩=some (.slice B23 m23 d23))/\(w'.cell? ⟨be,oe+(i)*4,none⟩=some (.bool s24)/\w'.cell? ⟨be,oe+(i)*4+1,none⟩=some (.slice A24 n24 c24)/\w'.cell? ⟨be,oe+(i)*4+2,none⟩=some (.bool false)/\w'.cell? ⟨be,oe+(i)*4+3,none⟩=some (.slice B24 m24 d24))/\(w'.cell? ⟨br,or_+(i)*4,none⟩=some (.bool s25)/\w'.cell? ⟨br,or_+(i)*4+1,none⟩=some (.slice A25 n25 c25)/\w'.cell? ⟨br,or_+(i)*4+2,none⟩=some (.bool false)/\w'.cell? ⟨br,or_+(i)*4+3,none⟩=some (.slice B25 m25 d25))) [0,1,2,3,4,5,6,7,8,9,10,11,12,13,14,15,16,17,18,19,20,21,22,23,24,25] (by kernel_rfl) (HSS.out _ hdr) (fun hh=>?_)
      refine tt 0 hh 22 ?_
      try simp only[Act.put,ptA,ptB,ptC]
      refine tt 1 hh 23 ?_
      try simp only[Act.put,ptA,ptB,ptC]
      refine tt 2 hh 24 ?_
      try simp only[Act.put,ptA,ptB,ptC]
      refine tt 3 hh 25 ?_
      try simp only[Act.put,ptA,ptB,ptC]
      refine tt 4 hh 26 ?_
      try simp only[Act.put,ptA,ptB,ptC]
      refine tt 6 hh 28 ?_
      try simp only[Act.put,ptA,ptB,ptC]
      refine tt 8 hh 30 ?_
      try simp only[Act.put,ptA,ptB,ptC]
      refine tt 12 hh 34 ?_
      try simp only[Act.put,ptA,ptB,ptC]
      refine tt 13 hh 35 ?_
      try simp only[Act.put,ptA,ptB,ptC]
      refine tt 14 hh 36 ?_
      try simp only[Act.put,ptA,ptB,ptC]
      refine tt 16 hh 38 ?_
      try simp only[Act.put,ptA,ptB,ptC]
      refine tt 18 hh 40 ?_
      try simp only[Act.put,ptA,ptB,ptC]
      refine tt 5 hh 27 ?_
      try simp only[Act.put,ptA,ptB,ptC]
      refine tt 7 hh 29 ?_
      try simp only[Act.put,ptA,ptB,ptC]
      refine tt 9 hh 31 ?_
      try simp only[Act.put,ptA,ptB,ptC]
      refine tt 10 hh 32 ?_
      try simp only[Act.put,ptA,ptB,ptC]
      refine tt 15 hh 37 ?_
      try simp only[Act.put,ptA,ptB,ptC]
      refine tt 17 hh 39 ?_
      try simp only[Act.put,ptA,ptB,ptC]
      refine tt 19 hh 41 ?_
      try simp only[Act.put,ptA,ptB,ptC]
      refine tt 20 hh 42 ?_
      try simp only[Act.put,ptA,ptB,ptC]
      refine zb (rs:=[11]) (by kernel_rfl) (by simp) ?_
      refine mem1 ?_
      refine zd rfl (fun K hK=>?_)
      go_simp
      go_at_call 89
      refine(zc9 _ _ _ (E.getD t 0) (R.getD t 0) 1000001 (HQS.out.1.below hdr) ((HQS.out.2.1.below hdr).more (by omega)) (by omega) (HG.out.h0 t (by omega))).mono ?_
      rintro e w1 ⟨u1,rfl,hu1,hd⟩
      replace hu1:=((show QV w1 u1 (ldR E R t) _ from hu1).fitQ (HG.out.ld.fitl t (by omega))).more (show 2*2+1<=1000001 by omega)
      obtain⟨s1,A1,n1,c1,B1,m1,d1,rfl,-⟩:=hu1.parts
      have HLT:=hide hu1
      clear hu1
      try (replace HLI:=hide (HLI.out.below hd))
      have hg1:Below wr.heap.size wr w1:=hdr.trans (hd.mono hdr.size)
      clear hd
      go_wp2_with fail
      refine hK.out _ _ (HSS.out _ hg1) (fun hh=>?_)
      clear hK K
      try simp only[Act.put,ptA,ptB,ptC]
      refine zb (rs:=[21]) (by kernel_rfl) (by simp) ?_
      refine mem1 ?_
      refine zd rfl (fun K hK=>?_)
      go_simp
      go_at_call 89
      refine(zc9 _ _ _ (E.getD i 0) (R.getD i 0) 1000001 (HQS.out.2.2.1.below hg1) ((HQS.out.2.2.2.1.below hg1).more (by omega)) (by omega) (HG.out.h0 i (by omega))).mono ?_
      rintro e w2 ⟨u2,rfl,hu2,hd⟩
      replace hu2:=((show QV w2 u2 (ldR E R i) _ from hu2).fitQ (HG.out.ld.fitl i (by omega))).more (show 2*2+1<=1000001 by omega)
      obtain⟨s2,A2,n2,c2,B2,m2,d2,rfl,-⟩:=hu2.parts
      have HLI:=hide hu2
      clear hu2
      try (replace HLT:=hide (HLT.out.below hd))
      have hg2:Below wr.heap.size wr w2:=hg1.trans (hd.mono hg1.size)
      clear hd
      go_wp2_with fail
      refine hK.out _ _ (HSS.out _ hg2) (fun hh=>?_)
      clear hK K
      try simp only[Act.put,ptA,ptB,ptC]
      refine zb (rs:=[22]) (by kernel_rfl) (by simp) ?_
      refine mem1 ?_
      refine zd rfl (fun K hK=>?_)
      go_simp
      go_at_call 100
      refine(zjp _ _ _ (ldR E R t) (ldR E R i) 1000001 HLT.out HLI.out (by omega)).mono ?_
      rintro e w3 ⟨_,rfl,rfl,hd⟩
      clear HLT HLI
      have hs0:=zmy (ldR E R t) (ldR E R i)
      obtain⟨σ,hσ⟩:∃σ,σ=sgnQ (ldR E R t-ldR E R i):=⟨_,rfl⟩
      rw[<-hσ] at hs0 ⊢
      have HSG:=hide hs0
      clear hσ hs0
      have hg3:Below wr.heap.size wr w3:=hg2.trans (hd.mono hg2.size)
      clear hd
      go_wp2_with fail
      refine hK.out _ _ (HSS.out _ hg3) (fun hh=>?_)
      clear hK K
      try simp only[Act.put,ptA,ptB,ptC]
      refine tt 23 hh 45 ?_
      try simp only[Act.put,ptA,ptB,ptC]
      refine tt 24 hh 46 ?_
      try simp only[Act.put,ptA,ptB,ptC]
      refine tt 25 hh 6 ?_
      try simp only[Act.put,ptA,ptB,ptC]
      refine zM (by kernel_rfl) ?_ _
      clear hh
      have HE:=hide (bnx HB.out hg3)
      go_wp2
      case roundEnd=>exact⟨⟨t+1,by omega,by go_num,by rw[zmw _ _ _ HF.out,HSG.out],HE.out⟩,by simp[intOf];omega⟩
     ·replace hf:upB (ldR E R) i t=false:=by simpa using hf
      have HF:=hide hf
      rw[hf]
      clear hf
      go_upto_region 10 with fail
      obtain⟨s61,A61,n61,c61,B61,m61,d61,e61a,e61b,e61c,e61d,hq61⟩:=HE2.out (t) (by rw[HG.out.hE];exact htm)
      have e62a:=(ze HSB.out).1
      obtain⟨s63,A63,n63,c63,B63,m63,d63,e63a,e63b,e63c,e63d,hq63⟩:=HR2.out (t) (by rw[HG.out.hR];exact htm)
      obtain⟨s64,A64,n64,c64,B64,m64,d64,e64a,e64b,e64c,e64d,hq64⟩:=HE2.out (i) (by rw[HG.out.hE];exact him)
      obtain⟨s65,A65,n65,c65,B65,m65,d65,e65a,e65b,e65c,e65d,hq65⟩:=HR2.out (i) (by rw[HG.out.hR];exact him)
      have hS:∀w',Below wr.heap.size wr w'->(w'.cell? ⟨be,oe+(t)*4,none⟩=some (.bool s61)/\w'.cell? ⟨be,oe+(t)*4+1,none⟩=some (.slice A61 n61 c61)/\w'.cell? ⟨be,oe+(t)*4+2,none⟩=some (.bool false)/\w'.cell? ⟨be,oe+(t)*4+3,none⟩=some (.slice B61 m61 d61))/\w'.cell? ⟨w.heap.size,0,none⟩=some (.slice (some ⟨br,or_,none⟩) m cr)/\(w'.cell? ⟨br,or_+(t)*4,none⟩=some (.bool s63)/\w'.cell? ⟨br,or_+(t)*4+1,none⟩=some (.slice A63 n63 c63)/\w'.cell? ⟨br,or_+(t)*4+2,none⟩=some (.bool false)/\w'.cell? ⟨br,or_+(t)*4+3,none⟩=some (.slice B63 m63 d63))/\(w'.cell? ⟨be,oe+(i)*4,none⟩=some (.bool s64)/\w'.cell? ⟨be,oe+(i)*4+1,none⟩=some (.slice A64 n64 c64)/\w'.cell? ⟨be,oe+(i)*4+2,none⟩=some (.bool false)/\w'.cell? ⟨be,oe+(i)*4+3,none⟩=some (.slice B64 m64 d64))/\(w'.cell? ⟨br,or_+(i)*4,none⟩=some (.bool s65)/\w'.cell? ⟨br,or_+(i)*4+1,none⟩=some (.slice A65 n65 c65)/\w'.cell? ⟨br,or_+(i)*4+2,none⟩=some (.bool false)/\w'.cell? ⟨br,or_+(i)*4+3,none⟩=some (.slice B65 m65 d65)):=fun w' h=>by
       have eC:∀b o v,wr.cell? ⟨b,o,none⟩=some v->w'.cell? ⟨b,o,none⟩=some v:=fun b o v hv=>(h.cell (zf hv)).trans hv
       exact⟨⟨eC _ _ _ e61a,eC _ _ _ e61b,eC _ _ _ e61c,eC _ _ _ e61d⟩,eC _ _ _ e62a,⟨eC _ _ _ e63a,eC _ _ _ e63b,eC _ _ _ e63c,eC _ _ _ e63d⟩,⟨eC _ _ _ e64a,eC _ _ _ e64b,eC _ _ _ e64c,eC _ _ _ e64d⟩,⟨eC _ _ _ e65a,eC _ _ _ e65b,eC _ _ _ e65c,eC _ _ _ e65d⟩⟩
      have hdr:Below wr.heap.size wr wr.drew:=(blr _ _).drew
      have HSS:=hide hS
      have HQS:=hide (ai hq61 (ai hq63 (ai hq64 (ai hq65 trivial))))
      clear hS e61a e61b e61c e61d hq61 e62a e63a e63b e63c e63d hq63 e64a e64b e64c e64d hq64 e65a e65b e65c e65d hq65
      refine zv (fun w'=>(w'.cell? ⟨be,oe+(t)*4,none⟩=some (.bool s61)/\w'.cell? ⟨be,oe+(t)*4+1,none⟩=some (.slice A61 n61 c61)/\w'.cell? ⟨be,oe+(t)*4+2,none⟩=some (.bool false)/\w'.cell? ⟨be,oe+(t)*4+3,none⟩=some (.slice B61 m61 d61))/\w'.cell? ⟨w.heap.size,0,none⟩=some (.slice (some ⟨br,or_,none⟩) m cr)/\(w'.cell? ⟨br,or_+(t)*4,none⟩=some (.bool s63)/\w'.cell? ⟨br,or_+(t)*4+1,none⟩=some (.slice A63 n63 c63)/\w'.cell? ⟨br,or_+(t)*4+2,none⟩=some (.bool false)/\w'.cell? ⟨br,or_+(t)*4+3,none⟩=some (.slice B63 m63 d63))/\(w'.cell? ⟨be,oe+(i)*4,none⟩=some (.bool s64)/\w'.cell? ⟨be,oe+(i)*4+1,none⟩=some (.slice A64 n64 c64)/\w'.cell? ⟨be,oe+(i)*4+2,none⟩=some (.bool false)/\w'.cell? ⟨be,oe+(i)*4+3,none⟩=some (.slice B64 m64 d64))/\(w'.cell? ⟨br,or_+(i)*4,none⟩=some (.bool s65)/\w'.cell? ⟨br,or_+(i)*4+1,none⟩=some (.slice A65 n65 c65)/\w'.cell? ⟨br,or_+(i)*4+2,none⟩=some (.bool false)/\w'.cell? ⟨br,or_+(i)*4+3,none⟩=some (.slice B65 m65 d65))) [0,1,2,3,4,5,6,7,8,9,10,11,12,13,14,15,16,17,18,19,20,21,22,23,24,25] (by kernel_rfl) (HSS.out _ hdr) (fun hh=>?_)
      refine tt 0 hh 22 ?_
      try simp only[Act.put,ptA,ptB,ptC]
      refine tt 1 hh 23 ?_
      try simp only[Act.put,ptA,ptB,ptC]
      refine zz (i:=2) rfl (by kernel_rfl) (by kernel_rfl) (by kernel_rfl) (by kernel_rfl) (fun _ _ _ h=>h) (by rfl) hh (some 24) rfl ?_
      try simp only[Act.put,ptA,ptB,ptC]
      refine zz (i:=3) rfl (by kernel_rfl) (by kernel_rfl) (by kernel_rfl) (by kernel_rfl) (fun _ _ _ h=>h) (by rfl) hh (some 25) rfl ?_
      try simp only[Act.put,ptA,ptB,ptC]
      refine zz (i:=4) rfl (by kernel_rfl) (by kernel_rfl) (by kernel_rfl) (by kernel_rfl) (fun _ _ _ h=>h) (by rfl) hh (some 26) rfl ?_
      try simp only[Act.put,ptA,ptB,ptC]
      refine zz (i:=5) rfl (by kernel_rfl) (by kernel_rfl) (by kernel_rfl) (by kernel_rfl) (fun _ _ _ h=>h) (by rfl) hh (some 27) rfl ?_
      try simp only[Act.put,ptA,ptB,ptC]
      refine zz (i:=6) rfl (by kernel_rfl) (by kernel_rfl) (by kernel_rfl) (by kernel_rfl) (fun _ _ _ h=>h) (by rfl) hh (some 28) rfl ?_
      try simp only[Act.put,ptA,ptB,ptC]
      refine zz (i:=7) rfl (by kernel_rfl) (by kernel_rfl) (by kernel_rfl) (by kernel_rfl) (fun _ _ _ h=>h) (by rfl) hh (some 29) rfl ?_
      try simp only[Act.put,ptA,ptB,ptC]
      refine zz (i:=8) rfl (by kernel_rfl) (by kernel_rfl) (by kernel_rfl) (by kernel_rfl) (fun _ _ _ h=>h) (by rfl) hh (some 30) rfl ?_
      try simp only[Act.put,ptA,ptB,ptC]
      refine zz (i:=9) rfl (by kernel_rfl) (by kernel_rfl) (by kernel_rfl) (by kernel_rfl) (fun _ _ _ h=>h) (by rfl) hh (some 31) rfl ?_
      try simp only[Act.put,ptA,ptB,ptC]
      refine zz (i:=10) rfl (by kernel_rfl) (by kernel_rfl) (by kernel_rfl) (by kernel_rfl) (fun _ _ _ h=>h) (by rfl) hh (some 32) rfl ?_
      try simp only[Act.put,ptA,ptB,ptC]
      refine zz (i:=11) rfl (by kernel_rfl) (by kernel_rfl) (by kernel_rfl) (by kernel_rfl) (fun _ _ _ h=>h) (by rfl) hh (some 33) rfl ?_
      try simp only[Act.put,ptA,ptB,ptC]
      refine zz (i:=12) rfl (by kernel_rfl) (by kernel_rfl) (by kernel_rfl) (by kernel_rfl) (fun _ _ _ h=>h) (by rfl) hh (some 34) rfl ?_
      try simp only[Act.put,ptA,ptB,ptC]
      refine zz (i:=13) rfl (by kernel_rfl) (by kernel_rfl) (by kernel_rfl) (by kernel_rfl) (fun _ _ _ h=>h) (by rfl) hh (some 35) rfl ?_
      try simp only[Act.put,ptA,ptB,ptC]
      refine zz (i:=14) rfl (by kernel_rfl) (by kernel_rfl) (by kernel_rfl) (by kernel_rfl) (fun _ _ _ h=>h) (by rfl) hh (some 36) rfl ?_
      try simp only[Act.put,ptA,ptB,ptC]
      refine zz (i:=15) rfl (by kernel_rfl) (by kernel_rfl) (by kernel_rfl) (by kernel_rfl) (fun _ _ _ h=>h) (by rfl) hh (some 37) rfl ?_
      try simp only[Act.put,ptA,ptB,ptC]
      refine zz (i:=16) rfl (by kernel_rfl) (by kernel_rfl) (by kernel_rfl) (by kernel_rfl) (fun _ _ _ h=>h) (by rfl) hh (some 38) rfl ?_
      try simp only[Act.put,ptA,ptB,ptC]
      refine zz (i:=17) rfl (by kernel_rfl) (by kernel_rfl) (by kernel_rfl) (by kernel_rfl) (fun _ _ _ h=>h) (by rfl) hh (some 39) rfl ?_
      try simp only[Act.put,ptA,ptB,ptC]
      refine zz (i:=18) rfl (by kernel_rfl) (by kernel_rfl) (by kernel_rfl) (by kernel_rfl) (fun _ _ _ h=>h) (by rfl) hh (some 40) rfl ?_
      try simp only[Act.put,ptA,ptB,ptC]
      refine zz (i:=19) rfl (by kernel_rfl) (by kernel_rfl) (by kernel_rfl) (by kernel_rfl) (fun _ _ _ h=>h) (by rfl) hh (some 41) rfl ?_
      try simp only[Act.put,ptA,ptB,ptC]
      refine zz (i:=20) rfl (by kernel_rfl) (by kernel_rfl) (by kernel_rfl) (by kernel_rfl) (fun _ _ _ h=>h) (by rfl) hh (some 42) rfl ?_
      try simp only[Act.put,ptA,ptB,ptC]
      refine zz (i:=21) rfl (by kernel_rfl) (by kernel_rfl) (by kernel_rfl) (by kernel_rfl) (fun _ _ _ h=>h) (by rfl) hh (some 43) rfl ?_
      try simp only[Act.put,ptA,ptB,ptC]
      refine zz (i:=22) rfl (by kernel_rfl) (by kernel_rfl) (by kernel_rfl) (by kernel_rfl) (fun _ _ _ h=>h) (by rfl) hh (some 44) rfl ?_
      try simp only[Act.put,ptA,ptB,ptC]
      refine zz (i:=23) rfl (by kernel_rfl) (by kernel_rfl) (by kernel_rfl) (by kernel_rfl) (fun _ _ _ h=>h) (by rfl) hh (some 45) rfl ?_
      try simp only[Act.put,ptA,ptB,ptC]
      refine tt 24 hh 46 ?_
      try simp only[Act.put,ptA,ptB,ptC]
      refine tt 25 hh 6 ?_
      try simp only[Act.put,ptA,ptB,ptC]
      refine zM (by kernel_rfl) ?_ _
      clear hh
      have HE:=hide (bnx HB.out hdr)
      go_wp2
      case roundEnd=>exact⟨⟨t+1,by omega,by go_num,by rw[znv _ _ _ HF.out],HE.out⟩,by simp[intOf];omega⟩
    ·obtain rfl:t=m:=by omega
     have j1:¬(t:Int)<(t:Int):=by omega
     have hall:=zmx him HM.out.1 HM.out.2
     have HB:=hide hbel
     have hso:=hbel.size
     clear hbel
     by_cases hy:ldR E R i=M
     ·rw[hall,decide_eq_true hy]
      have HY:=hide hy
      clear hall hy
      go_wp2_with (first
       | (at_builtin;refine app1x Tryz.i64T _ rfl _ _ rfl w98.heap.size _ (natsI (botN (ldR E R) M i)) (i:Int) rfl ((HO.out.1.keep HB.out).keep ((blr _ _).alloc (nr _) _)) ⟨wr.heap.size,0,none⟩ _ rfl (by simp[World.cell?_alloc_new]) (by rw[zY];omega) (by simp;omega) ?_;intro g7 c7 w7 hown7 _ _ hb7 hg7 _ _;
          have H7:=hide (ai hown7 ((za (HO.out.2.trans (HB.out.mono HO.out.2.size)) (.cells #[.int .i64 (i:Int)] 3)).trans hb7));
          clear hown7 hb7 hg7))
      case roundEnd=>
       have e7:natsI (botN (ldR E R) M i)++[(i:Int)]=natsI (botN (ldR E R) M (i+1)):=by rw[zg0 _ _ _ HY.out];simp[natsI]
       have h7:=H7.out.1
       rw[e7] at h7
       exact⟨⟨i+1,by omega,by go_num,h7,H7.out.2⟩,by simp[intOf];omega⟩
     ·rw[hall,decide_eq_false hy]
      have HY:=hide hy
      clear hall hy
      go_wp2
      case roundEnd=>exact⟨⟨i+1,by omega,by go_num,by rw[ziB _ _ _ HY.out];exact HO.out.1.keep HB.out,HO.out.2.trans (HB.out.mono HO.out.2.size)⟩,by simp[intOf];omega⟩
  ·obtain rfl:i=m:=by omega
   have i1:¬(i:Int)<(i:Int):=by omega
   have e3:Arr wo Ao .i64 (natsI (botN (ldR E R) M i)):=by obtain⟨A',c',e,-,-,h⟩:=hown.form;injection e with e;rw[e];exact h
   have HI:=hide (ai e3 (bnx H98.out.2 hbel))
   have hnl:=zY (botN (ldR E R) M i)
   have HN:=hide hnl
   clear hown hbel e3 hnl
   go_wp2
   refine bodyPost_ret (v:=.slice Ao (natsI (botN (ldR E R) M i)).length co) ?_ rfl ?_
   ·simp[results,Tryz.results43,go_sem]
   refine⟨_,rfl,Ao,co,?_,?_,hmo,HI.out.1,HI.out.2⟩
   ·rw[HN.out]
   ·rw[<-HN.out];exact hco
end Go.Proofs.YtpoahodnakhmiaaGreat
