import Derived.Test.YtpoahodnakhmiaaGreatEchIn
set_option maxRecDepth 100000
namespace Go.Proofs.YtpoahodnakhmiaaGreat
set_option linter.unusedVariables false
set_option linter.unusedSimpArgs false
open Go.RowKit
theorem Tryz.i64T:zdj Tryz.prog 22 3 .i64 8:=⟨by kernel_rfl,by kernel_rfl,by decide⟩
def natsI (l:List Nat):List Int:=l.map Int.ofNat
def echR (w:World) (base M R D cR cD:Nat) (rR rD:List Value) (T:St×List Nat) (L:Nat) (v:Value) (w':World):Prop:=
 ∃vs us gs hs,MatS w' base M R D cR cD vs us rR rD gs hs T.1.1 T.1.2 L/\OwnI w' w.heap.size 3 .i64 v (natsI T.2)/\Below base w w'
set_option maxHeartbeats 4000000 in
theorem zjT (w:World) (base M R D cR cD:Nat) (vs us rR rD:List Value) (gs hs:List Nat) (S:St) (L wd cols:Nat) (h:MatS w base M R D cR cD vs us rR rD gs hs S.1 S.2 L) (hrect:Rect wd S) (hcols:cols<=wd) (hwd:wd<=1073741824)
  (hfit:zgL L cols S) (hL:L<=134217700) (hn:S.1.length<=1073741824):
  Calls Tryz.prog 191 #[.pointer (some ⟨M,0,none⟩),.int .i64 cols] w (Ret (echR w base M R D cR cD rR rD (echN cols S) L)):=by
 have hmz:=zeu
 have HA:=hide (ai h (ai hrect hfit));clear h hrect hfit
 go_enter Tryz.func191,Tryz.ntmps191
 go_wp2
 go_loopw [5,13] (fun s5 s13 wr=>∃(n:Nat) (vs us:List Value) (gs hs:List Nat),n<=cols/\s13=.int .i64 n/\OwnI wr w.heap.size 3 .i64 s5 (natsI (echN n S).2) /\
  MatS wr base M R D cR cD vs us rR rD gs hs (echN n S).1.1 (echN n S).1.2 L/\Below base w wr/\w.heap.size<=wr.heap.size) (fun _ s13 _=>cols-(intOf s13).toNat)
 case atStart=>exact⟨0,vs,us,gs,hs,Nat.zero_le _,rfl,OwnI.nil _ _ _ _,HA.out.1,blr _ _,nr _⟩
 case round=>
  obtain⟨n,vs,us,gs,hs,hnc,rfl,hown,hmat,hbel,hsz⟩:=hrel
  rename World=>wo
  by_cases hnl:n<cols
  ·have hrT:=zT n HA.out.2.1
   have hoT:=echN_out n S
   have hlT:=echN_length n S
   have hfT:=HA.out.2.2 n hnl
   have hnx:echN (n+1) S=colS n (echN n S):=rfl
   generalize hT:echN n S=T at *
   have HT:=hide hT;clear hT
   have hol:T.2.length=(natsI T.2).length:=by simp[natsI]
   obtain⟨Ao,co,rfl,hco,hmo,_⟩:=hown.form
   rw[<-hol] at hown hco ⊢
   obtain⟨N,hN⟩:∃N,N=T.1.1.length:=⟨_,rfl⟩
   have hNN:N=S.1.length:=by rw[hN,hlT]
   have HN:=hide (ai hN hNN)
   have hm0:=hmat.m0
   rw[<-hN] at hm0
   rw[<-hlT,<-hN] at hoT
   rw[<-hlT] at hfT
   rw[<-hN] at hfT
   have hNb:N<=1073741824:=by rw[hNN];exact hn
   have HH:=hide (ai hown (ai hmat (ai hbel (ai hrT (ai hfT hnx)))));clear hown hmat hbel hrT hfT hnx hN hNN hlT
   clear hol
   obtain⟨K0,hK0⟩:∃K0,K0=findK T.1.1 n N T.2.length:=⟨_,rfl⟩
   have hKr:=zbA T.1.1 n N T.2.length (by rw[<-HN.out.1];exact hoT)
   rw[<-hK0] at hKr
   have HK0:=hide hK0;clear hK0
   go_wp2
   go_loopw [8] (fun s8 wr2=>∃(k f:Nat),k<=N/\s8=.int .i64 k/\findK T.1.1 n f k=K0/\N<=k+f/\Below wo.heap.size wo wr2) (fun s8 _=>N-(intOf s8).toNat)
   case atStart=>exact⟨T.2.length,N,hoT,rfl,HK0.out.symm,by omega,blr _ _⟩
   case round=>
    obtain⟨k,f,hkN,rfl,hkf,hf,hbel2⟩:=hrel
    by_cases hkl:k<N
    ·have hm:=HH.out.2.1.below hbel2
     obtain⟨gk,ck,hgk,r0,_,_,hrow,_⟩:=hm.rowAt (i:=k) (by rw[<-HN.out.1];exact hkl)
     clear hgk
     have hrl:(T.1.1.getD k []).length=wd:=HH.out.2.2.2.1.row k (by rw[<-HN.out.1];exact hkl)
     rw[hrl] at r0
     obtain⟨s,B1,m1,d1,B2,m2,d2,e0,e1,e2,hr⟩:=(hrow.2 n (by rw[hrl];omega)).rat
     have hm0:=hm.m0
     rw[<-HN.out.1] at hm0
     have hnw:n<wd:=by omega
     have HQ:=hide (ai hr (ai hkf hbel2));clear hr hkf hbel2 hrow hm hrl
     by_cases hz:ent T.1.1 k n=0
     ·go_wp2_with (go_at_call 75;refine(zbg _ _ _ L HQ.out.1).mono ?_;rintro e w1 ⟨_,rfl,rfl,hd1⟩;rw[show decide ((T.1.1.getD k []).getD n 0=0)=true from decide_eq_true hz])
      go_roundw
      case rel=>
       have hkf:=HQ.out.2.1
       obtain⟨f',rfl⟩:∃f',f=f'+1:=⟨f-1,by omega⟩
       rw[zeX _ _ _ _ (by rw[<-HN.out.1];exact hkl) hz] at hkf
       exact⟨k+1,f',by omega,by go_num,hkf,by omega,bnx HQ.out.2.2 hd1⟩
      case measure=>simp[intOf];omega
     ·have hkK:k=K0:=by
       have:=HQ.out.2.1
       rw[zbT _ _ _ _ (fun h=>hz h.2)] at this;exact this
      have haN:T.2.length<N:=by omega
      have HkK:=hide hkK;clear hkK
      go_wp2_with (go_at_call 75;refine(zbg _ _ _ L HQ.out.1).mono ?_;rintro e w1 ⟨_,rfl,rfl,hd1⟩;rw[show decide ((T.1.1.getD k []).getD n 0=0)=false from decide_eq_false hz];have hm1:=(HH.out.2.1.below HQ.out.2.2).below hd1;have hm0:=hm1.m0;rw[<-HN.out.1] at hm0;have HM1:=hide hm1;clear hm1)
      refine(zn0 _ _ _ _ _ _ _ _ _ _ _ _ _ _ _ _ T.2.length k HM1.out (by rw[<-HN.out.1];exact haN) (by rw[<-HN.out.1];exact hkl) (by rw[<-HN.out.1];omega)).mono ?_
      rintro e w2 ⟨_,rfl,rfl,hm2,hk2,hb2,hs2,ho2⟩
      clear hm0 r0 e0 e1 e2
      obtain⟨S2,hS2⟩:∃S2,S2=swapS T.2.length k T.1:=⟨_,rfl⟩
      have hm2:MatS w2 base M R D cR cD (swapL vs T.2.length k undef) (swapL us T.2.length k undef) rR rD (swapL gs T.2.length k 0) (swapL hs T.2.length k 0) S2.1 S2.2 L:=by rw[hS2];exact hm2
      have hl2:S2.1.length=N:=by rw[hS2,zX,HN.out.1]
      have hr2:Rect wd S2:=by rw[hS2];exact zbM HH.out.2.2.2.1 (by rw[<-HN.out.1];exact haN) (by rw[<-HN.out.1];exact hkl)
      have hlead:ent S2.1 T.2.length n≠0:=by
       rw[hS2]
       unfold ent swapS
       rw[zI _ _ _ _ _ (by rw[<-HN.out.1];exact haN)]
       unfold sw
       by_cases e:T.2.length=k
       ·rw[if_pos e,e];exact hz
       ·rw[if_neg e,if_pos rfl];exact hz
      have how:OwnI w2 w.heap.size 3 .i64 (.slice Ao T.2.length co) (natsI T.2):=((HH.out.1.keep HQ.out.2.2).keep hd1).same fun b hb=>ho2 b hb.lt (hb.ne ⟨_,_,HM1.out.hR⟩ (by decide)) (hb.ne ⟨_,_,HM1.out.hD⟩ (by decide))
      have hbe:Below base w w2:=(((HH.out.2.2.1.trans (HQ.out.2.2.mono HH.out.2.1.le))).trans (hd1.mono (HH.out.2.1.below HQ.out.2.2).le)).trans hb2
      have hsw:w.heap.size<=w2.heap.size:=by have h1:=HQ.out.2.2.size;have h2:=hd1.size;omega
      generalize swapL vs T.2.length k undef=vs2 at hm2
      generalize swapL us T.2.length k undef=us2 at hm2
      generalize swapL gs T.2.length k 0=gs2 at hm2
      generalize swapL hs T.2.length k 0=hs2' at hm2
      obtain⟨a,ha⟩:∃a,a=T.2.length:=⟨_,rfl⟩
      rw[<-ha] at hlead haN
      obtain⟨ga,ca,hga,r0,hc1,hc2,hrow,hbg⟩:=hm2.rowAt (i:=a) (by rw[hl2];exact haN)
      rw[hr2.row a (by rw[hl2];exact haN)] at r0 hc1
      obtain⟨s2,B3,m3,d3,B4,m4,d4,e0,e1,e2,hq⟩:=(hrow.2 n (by rw[hr2.row a (by rw[hl2];exact haN)];omega)).rat
      obtain⟨ha',ca',hga',r0',hc1',hc2',hrow',hbg'⟩:=hm2.doneAt (i:=a) (by rw[hl2];exact haN)
      rw[hr2.done a (by rw[hl2];exact haN),hl2] at r0' hc1'
      have hm0:=hm2.m0
      have hm1:=hm2.m1
      rw[hl2] at hm0 hm1
      have HX:=hide (ai hS2 (ai hm2 (ai hl2 (ai hr2 (ai hlead (ai how (ai hbe (ai hsw (ai hga (ai hrow (ai hbg (ai hq (ai hga' (ai hrow' (ai hbg' ha)))))))))))))))
      clear hS2 hm2 hl2 hr2 hlead how hbe hsw hga hrow hbg hq hga' hrow' hbg' hk2 hb2 hs2 ho2
      rw[<-ha];clear ha
      go_wp2
      obtain⟨Wb,hWb⟩:∃Wb,Wb=w2.alloc (.cells #[.bool s2,.slice B3 m3 d3,.slice B4 m4 d4] 43):=⟨_,rfl⟩
      rw[<-hWb]
      have hbb:Below w2.heap.size w2 Wb:=by rw[hWb];exact(blr _ _).alloc (nr _) _
      have hbx:=box3 (zL w2 (.cells #[.bool s2,.slice B3 m3 d3,.slice B4 m4 d4] 43))
      rw[<-hWb] at hbx
      obtain⟨x0,x1,x2,_,_,_,hszb⟩:=hbx
      have hTy:Typed Wb w2.heap.size 43:=by rw[hWb];exact⟨_,_,heap_alloc_new w2 _⟩
      have p0:=(hbb.cell (zf hm0)).trans hm0
      have p1:=(hbb.cell (zf hm1)).trans hm1
      have p2:=(hbb.cell (zf r0)).trans r0
      have p3:=(hbb.cell (zf r0')).trans r0'
      have hmb:=HX.out.2.1.below hbb
      have hfd:=zmL (L:=L) (a:=a) (col:=n) (S:=S2) (by
       have:=HH.out.2.2.2.2.1 0 (Nat.zero_le _) (by rw[<-HK0.out,<-HkK.out];omega)
       rw[<-HK0.out,<-HkK.out,<-HX.out.1,<-HX.out.2.2.2.2.2.2.2.2.2.2.2.2.2.2.2] at this
       exact this) HX.out.2.2.2.1.len (by rw[HX.out.2.2.1];exact haN)
      have hra:=HX.out.2.2.2.1.row a (by rw[HX.out.2.2.1];exact haN)
      have hda:=HX.out.2.2.2.1.done a (by rw[HX.out.2.2.1];exact haN)
      rw[HX.out.2.2.1] at hda
      have hdv:=zeN Wb.drew ga ca (S2.1.getD a []) (.agg #[.bool s2,.slice B3 m3 d3,.slice B4 m4 d4]) (ent S2.1 a n) L ((HX.out.2.2.2.2.2.2.2.2.2.1.below hbb).below (blr _ _).drew) ((HX.out.2.2.2.2.2.2.2.2.2.2.2.1.below hbb).below (blr _ _).drew) (by omega) HX.out.2.2.2.2.1 (by rw[hra];exact hc1) hc2 hfd.1
      rw[hra] at hdv
      have hgax:¬ga=w2.heap.size:=by have:=HX.out.2.2.2.2.2.2.2.2.2.1.lt;omega
      have gM:ga≠M:=Typed.ne ⟨_,_,(HX.out.2.2.2.2.2.2.2.2.2.1).1.choose_spec⟩ ⟨_,_,HX.out.2.1.hM⟩ (by decide)
      have gR:ga≠R:=Typed.ne ⟨_,_,(HX.out.2.2.2.2.2.2.2.2.2.1).1.choose_spec⟩ ⟨_,_,HX.out.2.1.hR⟩ (by decide)
      have gD:ga≠D:=Typed.ne ⟨_,_,(HX.out.2.2.2.2.2.2.2.2.2.1).1.choose_spec⟩ ⟨_,_,HX.out.2.1.hD⟩ (by decide)
      have HV:=hide (ai hWb (ai hbb (ai hTy (ai hmb (ai hfd (ai hra (ai hda (ai hdv (ai hgax (ai gM (ai gR gD)))))))))))
      clear hWb hbb hTy hmb hfd hra hda hdv hgax gM gR gD hm0 hm1 r0 r0'
      have hS0:=ai p0 (ai p1 (ai p2 (ai p3 (ai x0 (ai x1 x2)))))
      have hSk:∀w':World,Wb.drew.grownBy w' (some ga)->w'.cell? ⟨M,0,none⟩=some (.slice (some ⟨R,0,none⟩) N cR)/\w'.cell? ⟨M,1,none⟩=some (.slice (some ⟨D,0,none⟩) N cD)/\w'.cell? ⟨R,a,none⟩=some (.slice (some ⟨ga,0,none⟩) wd ca)/\w'.cell? ⟨D,a,none⟩=some (.slice (some ⟨ha',0,none⟩) N ca')/\w'.cell? ⟨w2.heap.size,0,none⟩=some (.bool s2)/\w'.cell? ⟨w2.heap.size,1,none⟩=some (.slice B3 m3 d3)/\w'.cell? ⟨w2.heap.size,2,none⟩=some (.slice B4 m4 d4):=by
       intro w' hg
       have e:∀b j v,Wb.cell? ⟨b,j,none⟩=some v->ga≠b->w'.cell? ⟨b,j,none⟩=some v:=fun b j v hv hne=>(World.cell?_of_block (w:=Wb.drew) (hg.block b (zf hv) (by intro e;injection e with e;exact hne e.symm))).trans hv
       exact⟨e _ _ _ p0 HV.out.2.2.2.2.2.2.2.2.2.1,e _ _ _ p1 HV.out.2.2.2.2.2.2.2.2.2.1,e _ _ _ p2 HV.out.2.2.2.2.2.2.2.2.2.2.1,e _ _ _ p3 HV.out.2.2.2.2.2.2.2.2.2.2.2,e _ _ _ x0 HV.out.2.2.2.2.2.2.2.2.1,e _ _ _ x1 HV.out.2.2.2.2.2.2.2.2.1,e _ _ _ x2 HV.out.2.2.2.2.2.2.2.2.1⟩
      have HSk:=hide hSk;clear hSk
      go_region_held3 (fun w'=>w'.cell? ⟨M,0,none⟩=some (.slice (some ⟨R,0,none⟩) N cR)/\w'.cell? ⟨M,1,none⟩=some (.slice (some ⟨D,0,none⟩) N cD)/\w'.cell? ⟨R,a,none⟩=some (.slice (some ⟨ga,0,none⟩) wd ca)/\w'.cell? ⟨D,a,none⟩=some (.slice (some ⟨ha',0,none⟩) N ca')/\w'.cell? ⟨w2.heap.size,0,none⟩=some (.bool s2)/\w'.cell? ⟨w2.heap.size,1,none⟩=some (.slice B3 m3 d3)/\w'.cell? ⟨w2.heap.size,2,none⟩=some (.slice B4 m4 d4))
       (first|(exact HSk.out _ hg4)|(exact hS0)|(go_keep;done))
       (first|(go_at_call 194;refine HV.out.2.2.2.2.2.2.2.1.mono ?_;rintro e w4 ⟨_,rfl,rfl,hrow4,hk4,hg4⟩))
      have hbd:=(blr Wb.heap.size Wb).drew
      have hm4:MatS w4 base M R D cR cD vs2 us2 rR rD gs2 hs2' (S2.1.set a (divL (S2.1.getD a []) (ent S2.1 a n))) S2.2 L:=
       (HV.out.2.2.2.1.below hbd).row (i:=a) (by rw[HX.out.2.2.1];exact haN) (by rw[zak]) (by rw[<-HX.out.2.2.2.2.2.2.2.2.1];exact hrow4) hk4 (by rw[<-HX.out.2.2.2.2.2.2.2.2.1];exact hg4)
      obtain⟨q0,q1,q2,q3,q4,q5,q6⟩:=HSk.out w4 hg4
      have hqr:RatV w4 (.agg #[.bool s2,.slice B3 m3 d3,.slice B4 m4 d4]) (ent S2.1 a n) L:=(((HX.out.2.2.2.2.2.2.2.2.2.2.2.1.below HV.out.2.1).below hbd).keeps hk4)
      obtain⟨hb',hcb',hgb',_,hc3',hc4',hrb',hbb'⟩:=hm4.doneAt (i:=a) (by rw[List.length_set,HX.out.2.2.1];exact haN)
      have hhb:hb'=ha':=by rw[hgb',HX.out.2.2.2.2.2.2.2.2.2.2.2.2.1]
      subst hhb
      have hdv:=zeN w4.drew hb' ca' (S2.2.getD a []) (.agg #[.bool s2,.slice B3 m3 d3,.slice B4 m4 d4]) (ent S2.1 a n) L (hrb'.below (blr _ _).drew) (hqr.below (blr _ _).drew) (by omega) HX.out.2.2.2.2.1 (by rw[HV.out.2.2.2.2.2.2.1];exact hc1') hc2' HV.out.2.2.2.2.1.2
      rw[HV.out.2.2.2.2.2.2.1] at hdv
      have hhx:¬hb'=w2.heap.size:=by have:=HX.out.2.2.2.2.2.2.2.2.2.2.2.2.2.1.lt;omega
      have gM:hb'≠M:=Typed.ne ⟨_,_,hrb'.1.choose_spec⟩ ⟨_,_,hm4.hM⟩ (by decide)
      have gR:hb'≠R:=Typed.ne ⟨_,_,hrb'.1.choose_spec⟩ ⟨_,_,hm4.hR⟩ (by decide)
      have gD:hb'≠D:=Typed.ne ⟨_,_,hrb'.1.choose_spec⟩ ⟨_,_,hm4.hD⟩ (by decide)
      have HW:=hide (ai hm4 (ai hrow4 (ai hk4 (ai hg4 (ai hdv (ai hgb' (ai hhx (ai gM (ai gR gD)))))))))
      clear hm4 hrow4 hk4 hg4 hdv hgb' hhx gM gR gD hqr hrb' hbb' hc3' hc4' p0 p1 p2 p3 x0 x1 x2 hS0 hbd
      have hS4:=ai q0 (ai q1 (ai q2 (ai q3 (ai q4 (ai q5 q6)))))
      have hSk2:∀w':World,w4.drew.grownBy w' (some hb')->w'.cell? ⟨M,0,none⟩=some (.slice (some ⟨R,0,none⟩) N cR)/\w'.cell? ⟨M,1,none⟩=some (.slice (some ⟨D,0,none⟩) N cD)/\w'.cell? ⟨R,a,none⟩=some (.slice (some ⟨ga,0,none⟩) wd ca)/\w'.cell? ⟨D,a,none⟩=some (.slice (some ⟨hb',0,none⟩) N ca')/\w'.cell? ⟨w2.heap.size,0,none⟩=some (.bool s2)/\w'.cell? ⟨w2.heap.size,1,none⟩=some (.slice B3 m3 d3)/\w'.cell? ⟨w2.heap.size,2,none⟩=some (.slice B4 m4 d4):=by
       intro w' hg
       have e:∀b j v,w4.cell? ⟨b,j,none⟩=some v->hb'≠b->w'.cell? ⟨b,j,none⟩=some v:=fun b j v hv hne=>(World.cell?_of_block (w:=w4.drew) (hg.block b (zf hv) (by intro e;injection e with e;exact hne e.symm))).trans hv
       exact⟨e _ _ _ q0 HW.out.2.2.2.2.2.2.2.1,e _ _ _ q1 HW.out.2.2.2.2.2.2.2.1,e _ _ _ q2 HW.out.2.2.2.2.2.2.2.2.1,e _ _ _ q3 HW.out.2.2.2.2.2.2.2.2.2,e _ _ _ q4 HW.out.2.2.2.2.2.2.1,e _ _ _ q5 HW.out.2.2.2.2.2.2.1,e _ _ _ q6 HW.out.2.2.2.2.2.2.1⟩
      have HSk2:=hide hSk2;clear hSk2
      go_wp2
      go_region_held3 (fun w'=>w'.cell? ⟨M,0,none⟩=some (.slice (some ⟨R,0,none⟩) N cR)/\w'.cell? ⟨M,1,none⟩=some (.slice (some ⟨D,0,none⟩) N cD)/\w'.cell? ⟨R,a,none⟩=some (.slice (some ⟨ga,0,none⟩) wd ca)/\w'.cell? ⟨D,a,none⟩=some (.slice (some ⟨hb',0,none⟩) N ca')/\w'.cell? ⟨w2.heap.size,0,none⟩=some (.bool s2)/\w'.cell? ⟨w2.heap.size,1,none⟩=some (.slice B3 m3 d3)/\w'.cell? ⟨w2.heap.size,2,none⟩=some (.slice B4 m4 d4))
       (first|(exact HSk2.out _ hg5)|(exact hS4)|(go_keep;done))
       (first|(go_at_call 194;refine HW.out.2.2.2.2.1.mono ?_;rintro e w5 ⟨_,rfl,rfl,hrow5,hk5,hg5⟩))
      have hm5:MatS w5 base M R D cR cD vs2 us2 rR rD gs2 hs2' (divS a n S2).1 (divS a n S2).2 L:=by
       have:=(HW.out.1.below (blr _ _).drew).doneRow (i:=a) (qs:=divL (S2.2.getD a []) (ent S2.1 a n)) (by rw[List.length_set,HX.out.2.2.1];exact haN) (by rw[zak]) (by rw[<-HW.out.2.2.2.2.2.1];exact hrow5) hk5 (by rw[<-HW.out.2.2.2.2.2.1];exact hg5)
       exact this
      have hl5:(divS a n S2).1.length=N:=by rw[zaJ,HX.out.2.2.1]
      have hr5:Rect wd (divS a n S2):=zb3 HX.out.2.2.2.1 (by rw[HX.out.2.2.1];exact haN)
      have hT25:∀b,Typed w2 b 3->w5.heap[b]?=w2.heap[b]?:=by
       intro b hb
       have e1:=HV.out.2.1.block b hb.lt
       have t1:Typed Wb b 3:=hb.same e1
       have e2:=HW.out.2.2.2.1.block b t1.lt (by intro e;injection e with e;exact(t1.ne ⟨_,_,(HV.out.2.2.2.1.rok a (by rw[HX.out.2.2.1];exact haN)).2.choose_spec.2.2.2.1.choose_spec⟩ (by decide)) (by rw[e,HX.out.2.2.2.2.2.2.2.2.1]))
       have t2:Typed w4 b 3:=t1.same e2
       have e3:=hg5.block b t2.lt (by intro e;injection e with e;exact(t2.ne ⟨_,_,(HW.out.1.dok a (by rw[List.length_set,HX.out.2.2.1];exact haN)).2.choose_spec.2.2.2.1.choose_spec⟩ (by decide)) (by rw[e,HW.out.2.2.2.2.2.1]))
       exact e3.trans (e2.trans e1)
      have hfc:∀i,i<=N->FitS L (clearN a n i (divS a n S2)):=by
       intro i hi
       have:=HH.out.2.2.2.2.1 i hi (by rw[<-HK0.out,<-HkK.out];omega)
       rw[<-HK0.out,<-HkK.out,<-HX.out.1,<-HX.out.2.2.2.2.2.2.2.2.2.2.2.2.2.2.2] at this
       exact this
      have hsz5:w.heap.size<=w5.heap.size:=by
       have h1:=HX.out.2.2.2.2.2.2.2.1
       have h2:=HV.out.2.1.size
       have h3:=HW.out.2.2.2.1.size
       have h4:=hg5.size
       have h5:Wb.drew.heap.size=Wb.heap.size:=rfl
       have h6:w4.drew.heap.size=w4.heap.size:=rfl
       omega
      have hbe5:Below base w w5:=by
       have h1:=(HX.out.2.2.2.2.2.2.1.trans (HV.out.2.1.mono HX.out.2.1.le)).drew
       have h2:=only_below h1 HW.out.2.2.2.1 (HV.out.2.2.2.1.le) HX.out.2.2.2.2.2.2.2.2.2.2.1
       exact only_below h2.drew hg5 HW.out.1.le HX.out.2.2.2.2.2.2.2.2.2.2.2.2.2.2.1
      have HY:=hide (ai hm5 (ai hl5 (ai hr5 (ai hT25 (ai hfc (ai hsz5 hbe5))))))
      have hm5':=hm5.m0
      rw[hl5] at hm5'
      clear hm5 hl5 hr5 hT25 hfc hsz5 hbe5 hS4 hrow5 hk5 hg5 q0 q1 q2 q3 q4 q5 q6
      go_wp2
      refine zi4 _ base M R D cR cD vs2 us2 rR rD gs2 hs2' (divS a n S2) L wd a n N HY.out.1 HY.out.2.2.1 HY.out.2.1 haN hnw hwd hNb HY.out.2.2.2.2.1 hL _ _ _ _ _ _ _ _ _ _ _ _ _ _ _ _ _ _ _ _ _ _ _ _ _ _ _ _ _ _ _ _ _ _ _ _ _ _ _ _ _ _ _ _ _ _ _ _ _ _ _ _ _ _ _ _ _ _ _ _ _ _ _ _ _ _ _ _ _ _ _ _ _ _ _ _ _ _ _ _ _ _ _ _ _ _ _ _ _ _ _ _ _ _ _ _ _ _ _ _ _ _ _ _ _ _ _ _ _ _ _ _ _ _ _ _ _ _ _ _ _ _ _ _ _ _ _ _ _ _ _ _ _ _ _ _ _ _ _ _ _ _ _ ?_
      intro v10 v11 v86 v87 v88 v89 v90 v91 v92 v93 v94 v95 v96 v97 v98 v99 v100 v101 v102 v103 v104 v105 v106 v107 v108 v109 v110 v111 v112 v113 v114 v115 v116 v117 v118 v119 v120 v121 v122 v123 v124 v125 v126 v127 v128 v129 v130 v131 v132 v133 v134 v135 v136 v137 v138 v139 v140 w6 hC
      have HC:=hide hC;clear hC
      have hown6:OwnI w6 w.heap.size 3 .i64 (.slice Ao a co) (natsI T.2):=by
       have h2:=HX.out.2.2.2.2.2.1
       rw[<-HX.out.2.2.2.2.2.2.2.2.2.2.2.2.2.2.2] at h2
       exact(h2.same HY.out.2.2.2.1).same HC.out.2.1
      have HO6:=hide hown6;clear hown6
      have hsz6:w.heap.size<=w6.heap.size:=Nat.le_trans HY.out.2.2.2.2.2.1 HC.out.2.2.2
      go_wp2_with (at_builtin;refine app1x Tryz.i64T _ rfl _ _ rfl w.heap.size _ (natsI T.2) (n:Int) rfl (HO6.out.keep ((blr _ _).alloc (nr _) _)) ⟨w6.heap.size,0,none⟩ _ rfl (by simp[World.cell?_alloc_new]) (by simp[natsI];omega) (by simp;omega) ?_;intro g7 c7 w7 hown7 _ _ hb7 hg7 _ _)
      go_roundw
      case rel=>
       have hnx:=HH.out.2.2.2.2.2
       rw[za5 (by rw[<-HN.out.1,<-HK0.out,<-HkK.out];omega),<-HN.out.1,<-HK0.out,<-HkK.out,<-HX.out.1,<-HX.out.2.2.2.2.2.2.2.2.2.2.2.2.2.2.2] at hnx
       have hba:=(blr w6.heap.size w6).alloc (nr _) (.cells #[Value.int IntKind.i64 (n:Int)] 3)
       have hm6:=HC.out.1.below hba
       have hm7:=hm6.only hg7 (e:=3) (fun b hb=>(HO6.out.keep hba).typed b hb) (by decide) (by decide) (by decide) (by decide)
       refine⟨n+1,vs2,us2,gs2,hs2',by omega,by go_num,?_,?_,?_,?_⟩
       ·rw[hnx]
        have e:natsI (T.2++[n])=natsI T.2++[(n:Int)]:=by simp[natsI]
        simp only[e]
        exact hown7
       ·rw[hnx];exact hm7
       ·exact((HY.out.2.2.2.2.2.2.trans HC.out.2.2.1).trans (hba.mono HC.out.1.le)).trans (hb7.mono HA.out.1.le)
       ·have h1:=hg7.size;have h2:=hba.size;omega
      case measure=>simp[intOf];omega
    ·have hkK:k=K0:=by
      have:=hkf
      rw[zbT _ _ _ _ (fun h=>hkl (by rw[HN.out.1];exact h.1))] at this;exact this
     obtain rfl:k=N:=by omega
     have hm:=HH.out.2.1.below hbel2
     have hm0:=hm.m0
     rw[<-HN.out.1] at hm0
     have HQ:=hide (ai hkf (ai hbel2 hkK));clear hkf hbel2 hkK hm
     go_wp2
     go_roundw
     case rel=>
      have hnx:=HH.out.2.2.2.2.2
      rw[zaX (by rw[<-HN.out.1,<-HK0.out];exact HQ.out.2.2.symm)] at hnx
      refine⟨n+1,vs,us,gs,hs,by omega,by go_num,?_,?_,HH.out.2.2.1.trans (HQ.out.2.1.mono HH.out.2.1.le),by have:=HQ.out.2.1.size;omega⟩
      ·rw[hnx];exact HH.out.1.keep HQ.out.2.1
      ·rw[hnx];exact HH.out.2.1.below HQ.out.2.1
     case measure=>simp[intOf];omega
  ·obtain rfl:n=cols:=by omega
   have hol:(natsI (echN n S).2).length=(echN n S).2.length:=by simp[natsI]
   obtain⟨Ao,co,rfl,hco,hmo,_⟩:=hown.form
   have HH:=hide (ai hown (ai hmat (ai hbel hol)));clear hown hmat hbel hol
   go_wp2
   go_ret
   exact⟨_,rfl,vs,us,gs,hs,HH.out.2.1,HH.out.1,HH.out.2.2.1⟩
end Go.Proofs.YtpoahodnakhmiaaGreat
