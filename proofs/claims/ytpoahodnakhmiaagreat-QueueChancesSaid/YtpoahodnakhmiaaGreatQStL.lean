import Derived.Test.YtpoahodnakhmiaaGreatQStOf
import Derived.Deep.CutBlock
import Derived.Deep.DeepCutAuto
set_option maxRecDepth 100000
namespace Go.Proofs.YtpoahodnakhmiaaGreat
set_option linter.unusedVariables false
set_option linter.unusedSimpArgs false
open Go.RowKit
theorem zoh (w:World) (v:Value) (q:Rat) (L:Nat) (hq:QV w v q L) (hL:L<=1073741000) (hf:FracQ 6 q):
  Calls Tryz.prog 23 #[v] w (Ret (ratR w q 1)):=by
 obtain⟨s,A,n,c,B,m,d,rfl,-,-⟩:=hq.parts
 have htl:=zlj hf (by omega)
 obtain⟨W,hW⟩:∃W,W=(w.alloc (.cells #[.bool s,.slice A n c,.bool false,.slice B m d] 55)).alloc (.cells #[.bool false,.slice none 0 0,.slice none 0 0] 43):=⟨_,rfl⟩
 have hb0:Below w.heap.size w W:=by rw[hW];exact za (za (blr _ _) _) _
 have hbx:W.heap[w.heap.size]?=some (.cells #[.bool s,.slice A n c,.bool false,.slice B m d] 55):=by rw[hW];exact at_later (zj w _) (za (blr _ _) _)
 have hbr:W.heap[w.heap.size+1]?=some (.cells #[.bool false,.slice none 0 0,.slice none 0 0] 43):=by rw[hW];exact zu _ (by simp)
 obtain⟨y0,y1,y2,y3,-⟩:=zq hbx
 have H0:=hide (ai hb0 (ai hbr (hq.below hb0)))
 have HL:=hide hW
 clear hb0 hbx hbr hq hW
 go_enter Tryz.func23,Tryz.ntmps23
 go_upto_region 1 with fail
 rw[<-HL.out]
 go_wp2_with fail
 refine(ziQ _ _ q L H0.out.2.2 hL).mono ?_
 rintro e w1 ⟨_,rfl,rfl,hd1⟩
 have H1:=hide hd1
 clear hd1
 go_wp2_with fail
 refine(zmC _ q (by omega)).mono ?_
 rintro e w2 ⟨v2,rfl,hdn⟩
 obtain⟨r,rfl,hr6,hd2⟩:=hdn.ok (hf.fit.smallQ (by omega))
 replace hr6:RatV w2 r q 1:=hr6.fit hf.fit
 obtain⟨s6,A6,n6,c6,B6,m6,d6,rfl⟩:=hr6.shape
 obtain⟨W3,hW3⟩:∃W3,W3=w2.alloc (.cells #[.bool s6,.slice A6 n6 c6,.slice B6 m6 d6] 43):=⟨_,rfl⟩
 have hb3:Below w2.heap.size w2 W3:=by rw[hW3];exact za (blr _ _) _
 have hbx:W3.heap[w2.heap.size]?=some (.cells #[.bool s6,.slice A6 n6 c6,.slice B6 m6 d6] 43):=by rw[hW3];exact zj _ _
 obtain⟨z0,z1,z2⟩:=zk hbx
 have hd3:=bnx (bnx H1.out hd2) hb3
 have hrb:=at_later H0.out.2.1 hd3
 clear y0 y1 y2 y3
 obtain⟨x0,x1,x2⟩:=zk hrb
 obtain⟨f0,f1,f2⟩:=zA hrb
 have hlt:=lt_of_block hrb
 have HU:=hide (ai (hr6.below hb3) (bnx H0.out.1 hd3))
 have HL3:=hide hW3
 clear hrb hr6 hd2 hd3 hdn hb3 hbx hW3
 go_upto_region 2 with fail
 rw[<-HL3.out]
 go_wp2
 refine bodyPost_ret (v:=.agg #[.bool s6,.slice A6 n6 c6,.slice B6 m6 d6]) ?_ rfl ?_
 ·simp[results,Tryz.results23,go_sem,x0,x1,x2,hlt]
 have hr:=HU.out.1
 obtain⟨rn,rl,e,r1,r2⟩:=hr
 injection e with e
 simp only[Array.mk.injEq,List.cons.injEq,Value.bool.injEq,and_true] at e
 obtain⟨rfl,rfl,rfl⟩:=e
 exact⟨_,rfl,⟨_,_,rfl,r1.set3 x0 x1 x2,r2.set3 x0 x1 x2⟩,zm HU.out.2 (by omega) _ _ _⟩
theorem zbV {α:Type} {l:List α} {k:Nat} {s:α} (h:l[k]?=some s):l.take (k+1)=l.take k++[s]:=by
 obtain⟨hk,e⟩:=List.getElem?_eq_some_iff.1 h
 rw[List.take_succ_eq_append_getElem hk,e]
set_option maxHeartbeats 4000000 in
theorem zkt (w:World) (v:Value) (qs:List Rat) (L:Nat) (hv:QRowE L w v qs) (hl100:qs.length<=100) (hL:L<=1000) (hf:∀q∈qs,FracQ 6 q):
  Calls Tryz.prog 49 #[v] w (Ret (fun v w'=>zcm 1 w' v qs/\Below w.heap.size w w')):=by
 obtain⟨A,c,rfl,hc1,hc2,hc3⟩:=hv
 unfold maxLen at hc2
 have HC:=hide (ai hc3 hf)
 clear hc3 hf
 go_enter Tryz.func49,Tryz.ntmps49
 go_wp2
 go_loopw [3,4] (fun s3 s4 wr=>∃k:Nat,k<=qs.length/\s4=.int .i64 k/\OwnG 43 3 (zeM 1) wr w.heap.size s3 (qs.take k)/\Below w.heap.size w wr) (fun _ s4 _=>qs.length-(intOf s4).toNat)
 case atStart=>exact⟨0,by omega,rfl,OwnG.nil _ _ _ _ _,blr _ _⟩
 case round=>
  obtain⟨k,hk,rfl,hoa,hbel⟩:=hrel
  have HO:=hide (ai hoa hbel)
  obtain⟨Aa,ca,ea,_⟩:=hoa.len
  have hlk:(qs.take k).length=k:=by simp;omega
  rw[hlk] at ea
  clear hlk hoa hbel
  subst ea
  by_cases hkl:k<qs.length
  ·have d1:decide (k<qs.length)=true:=decide_eq_true hkl
   obtain⟨b,o,rfl,ht,hcl⟩:=HC.out.1 (by omega)
   have hsk:qs[k]?=some qs[k]:=List.getElem?_eq_getElem hkl
   obtain⟨q,hs⟩:∃q,q=qs[k]:=⟨_,rfl⟩
   rw[<-hs] at hsk
   obtain⟨u,hu1,hu2,hu3⟩:=hcl k q hsk
   have hqf:FracQ 6 q:=HC.out.2 q (by rw[hs];exact List.getElem_mem hkl)
   obtain⟨s,A1,n1,c1,B1,m1,d1',rfl,-,-⟩:=QV.parts hu3
   have kc:∀j x,j<4->(Value.agg #[.bool s,.slice A1 n1 c1,.bool false,.slice B1 m1 d1']).cells.getD j undef=x->wr.cell? ⟨b,o+k*4+j,none⟩=some x:=fun j x hj e=>by
    have:=(HO.out.2.cell (p:=⟨b,o+k*4+j,none⟩) ht.lt).trans (hu2 j (by rw[hu1];exact hj))
    rw[this,e]
   have k0:=kc 0 _ (by omega) rfl
   have k1:=kc 1 _ (by omega) rfl
   have k2:=kc 2 _ (by omega) rfl
   have k3:=kc 3 _ (by omega) rfl
   rw[Nat.add_zero] at k0
   have HS:=hide (ai hsk (ai (QV.below (show QV w _ q L from hu3) HO.out.2) hqf))
   clear hcl hu1 hu2 hu3 ht hs hsk kc hqf
   go_wp2_with fail
   refine(zoh _ _ q L HS.out.2.1 (by omega) HS.out.2.2).mono ?_
   rintro e w1 ⟨r,rfl,hr,hd⟩
   obtain⟨s6,A6,n6,c6,B6,m6,d6,rfl⟩:=hr.shape
   have HV:=hide (ai hr hd)
   have hwk:(qs.take k).length=k:=by simp;omega
   have HWK:=hide hwk
   have hbw1:w.heap.size<=w1.heap.size:=by have:=HO.out.2.size;have:=hd.size;omega
   clear hr hd hwk k0 k1 k2 k3
   go_wp2_with (first
    | (at_builtin;refine appG Tryz.ratE (zfG 1 (by decide)) _ rfl _ _ rfl w.heap.size _ (qs.take k) q rfl (OwnG.below (zei 1) HO.out.1 (za HV.out.2 _)) ⟨w1.heap.size,0,none⟩ _ rfl (.agg #[.bool s6,.slice A6 n6 c6,.slice B6 m6 d6]) (RatV.below HV.out.1 (za (blr _ _) _)) rfl (ze5 _ _ _ _ _ rfl) (ziR _ _ _ _ _ _ _) (by rw[HWK.out];omega) (by simp;omega) ?_;intro g5 c5 w5 hown5 hb5 hg5;rw[HWK.out];rw[HWK.out,<-zbV HS.out.1] at hown5;
       have H5:=hide (ai hown5 ((HO.out.2.trans ((za HV.out.2 (.cells #[.bool s6,.slice A6 n6 c6,.slice B6 m6 d6] 43)).mono HO.out.2.size)).trans hb5));clear hown5 hb5 hg5))
   case roundEnd=>exact⟨⟨k+1,by omega,by go_num,H5.out.1,H5.out.2⟩,by simp[intOf];omega⟩
  ·have d1:decide (k<qs.length)=false:=decide_eq_false hkl
   obtain rfl:k=qs.length:=by omega
   have htk:=List.take_length (l:=qs)
   have HT:=hide htk
   clear htk
   go_wp2
   refine bodyPost_ret (v:=.slice Aa qs.length ca) ?_ rfl ?_
   ·simp[results,Tryz.results49,go_sem]
   have:=HO.out.1.lst
   rw[HT.out] at this
   exact⟨_,rfl,this,HO.out.2⟩
def za2 (w:World) (v:Value) (R:List Rat) (Ws:List (List Rat)) (L:Nat):Prop:=∃a b,v=.agg #[a,b]/\QRowE L w a R/\zx 25 1 (QRowE L) w b Ws
theorem za2.below {w w':World} {v:Value} {R:List Rat} {Ws:List (List Rat)} {L:Nat} (h:za2 w v R Ws L) (hb:Below w.heap.size w w'):za2 w' v R Ws L:=by
 obtain⟨a,b,rfl,h1,h2⟩:=h
 exact⟨a,b,rfl,zaD L _ _ _ _ hb h1,h2.below (zaD L) hb⟩
theorem zx.rowsE {w:World} {v:Value} {rows:List (List Rat)} {L:Nat} (h:zx 30 1 (zcm L) w v rows):RowsV w v rows L:=by
 obtain⟨A,c,rfl,h1,h2,h3⟩:=h
 refine⟨A,c,rfl,h1,h2,fun hx=>?_⟩
 obtain⟨b,o,rfl,ht,hc⟩:=h3 hx
 refine⟨b,o,rfl,fun i hi=>?_⟩
 obtain⟨u,hs,hcu,hr⟩:=hc i (rows.getD i []) (by simp[List.getD,hi])
 have hrv:=zx.rowV hr
 obtain⟨A1,c1,rfl,-⟩:=id hrv
 refine⟨_,?_,hrv⟩
 have:=hcu 0 (by rw[hs];decide)
 rw[Nat.mul_one,Nat.add_zero] at this
 exact this
theorem zf0 {w:World} {B:Nat} {a b u:Value} {e:TypeId} (h:w.heap[B]?=some (.cells #[a,b] e (0,0))):(w.setCell ⟨B,1,none⟩ u).heap[B]?=some (.cells #[a,u] e (0,0)):=by
 simp[World.setCell,Array.getElem?_modify,h]
set_option maxHeartbeats 4000000 in
theorem znM (w:World) (v:Value) (R:List Rat) (Ws:List (List Rat)) (L:Nat) (hv:za2 w v R Ws L) (hL:L<=1000) (hR:R.length<=100) (hW:Ws.length<=100) (hWl:∀r∈Ws,r.length<=100) (hf:∀q∈R,FracQ 6 q) (hg:∀r∈Ws,∀q∈r,FracQ 6 q):
  Calls Tryz.prog 14 #[v] w (Ret (fun v w'=>ShopV w' v R Ws 1/\Below w.heap.size w w')):=by
 obtain⟨va,vb,rfl,ha,hb⟩:=hv
 obtain⟨A1,c1,rfl,-,hm1,-⟩:=id ha
 obtain⟨A2,c2,rfl,hl2,hm2,-⟩:=id hb
 unfold maxLen at hm1 hm2
 obtain⟨W,hWW⟩:∃W,W=(w.alloc (.cells #[.slice A1 R.length c1,.slice A2 Ws.length c2] 28)).alloc (.cells #[.slice none 0 0,.slice none 0 0] 33):=⟨_,rfl⟩
 have hb0:Below w.heap.size w W:=by rw[hWW];exact za (za (blr _ _) _) _
 have hbx:W.heap[w.heap.size]?=some (.cells #[.slice A1 R.length c1,.slice A2 Ws.length c2] 28 (0,0)):=by rw[hWW];exact at_later (zj w _) (za (blr _ _) _)
 have hbr:W.heap[w.heap.size+1]?=some (.cells #[.slice none 0 0,.slice none 0 0] 33 (0,0)):=by rw[hWW];exact zu _ (by simp)
 obtain⟨y0,y1,-,-⟩:=ze hbx
 have hlW:=lt_of_block hbr
 have H0:=hide (ai hb0 (ai hbx (ai hbr (ai (zaD L _ _ _ _ hb0 ha) (hb.below (zaD L) hb0)))))
 have HF:=hide (ai hf (ai hg hWl))
 have HL:=hide hWW
 clear ha hb hb0 hbx hbr hWW hf hg hWl
 go_enter Tryz.func14,Tryz.ntmps14
 go_upto_region 1 with fail
 rw[<-HL.out]
 go_wp2_with fail
 refine(zkt _ _ R L H0.out.2.2.2.1 hR hL HF.out.1).mono ?_
 rintro e w1 ⟨ra,rfl,hra,hd1⟩
 obtain⟨A3,c3,rfl,-,-,-⟩:=id hra
 obtain⟨W2,hW2⟩:∃W2,W2=w1.alloc (.cells #[.slice A3 R.length c3,.slice none 0 0] 33):=⟨_,rfl⟩
 have hb2:Below w1.heap.size w1 W2:=by rw[hW2];exact za (blr _ _) _
 have hbs:W2.heap[w1.heap.size]?=some (.cells #[.slice A3 R.length c3,.slice none 0 0] 33 (0,0)):=by rw[hW2];exact zj _ _
 have hd2:=bnx hd1 hb2
 have hs2:w1.heap.size<W2.heap.size:=lt_of_block hbs
 have hs1:W.heap.size<=w1.heap.size:=hd1.size
 have H2:=hide (ai hbs (ai hra (ai hd1 (ai (bnx H0.out.1 hd1) hb2))))
 have HL2:=hide hW2
 clear hra hd1 hb2 hbs hd2 hW2 y0 y1
 go_upto_region 2 with fail
 rw[<-HL2.out]
 go_wp2_with fail
 go_loopw [4] (fun s4 wr=>∃(k:Nat) (rv:Value),k<=Ws.length/\s4=.int .i64 k/\wr.heap[w1.heap.size]?=some (.cells #[.slice A3 R.length c3,rv] 33 (0,0))/\OwnG 30 1 (zcm 1) wr W2.heap.size rv (Ws.take k)/\Below w1.heap.size w1 wr) (fun s4 _=>Ws.length-(intOf s4).toNat)
 case atStart=>exact⟨0,_,by omega,rfl,H2.out.1,OwnG.nil _ _ _ _ _,H2.out.2.2.2.2⟩
 case round=>
  obtain⟨k,rv,hk,rfl,hbs,hown,hbel⟩:=hrel
  obtain⟨Aa,ca,rfl,hca,hma⟩:=hown.len
  have hlk:(Ws.take k).length=k:=by simp;omega
  rw[hlk] at hbs hown hca
  have hWr:=bnx H2.out.2.2.1 hbel
  obtain⟨y0,y1,-,-⟩:=ze (at_later H0.out.2.1 hWr)
  have hly:=lt_of_block (at_later H0.out.2.1 hWr)
  obtain⟨x0,x1,f0,f1⟩:=ze hbs
  have hlx:=lt_of_block hbs
  by_cases hkl:k<Ws.length
  ·obtain⟨A2',c2',e2,-,-,hcl'⟩:=H0.out.2.2.2.2.below (zaD L) hWr
   obtain⟨b,o,e0,ht,hcl⟩:=hcl' (by omega)
   injection e2 with e2 _ e3
   subst e2
   subst e3
   subst e0
   have hsk:Ws[k]?=some Ws[k]:=List.getElem?_eq_getElem hkl
   obtain⟨row,hs⟩:∃q,q=Ws[k]:=⟨_,rfl⟩
   rw[<-hs] at hsk
   have hmem:row∈Ws:=by rw[hs];exact List.getElem_mem hkl
   obtain⟨u,hu1,hu2,hu3⟩:=hcl k row hsk
   obtain⟨A5,c5,rfl,-,-,-⟩:=id hu3
   have z0:=hu2 0 (by rw[hu1];decide)
   rw[Nat.mul_one,Nat.add_zero] at z0
   replace z0:wr.cell? ⟨b,o+k,none⟩=some (.slice A5 row.length c5):=z0
   have HS:=hide (ai hsk (ai hu3 (ai hmem True.intro)))
   have HI:=hide (ai hbs (ai hown hbel))
   have HWK:=hide hlk
   have i1:(k:Int)<(Ws.length:Int):=by omega
   clear hcl hcl' hu1 hu2 hu3 ht hs hsk hmem hbs hown hbel hlk hWr
   go_wp2_with fail
   refine(zkt _ _ row L HS.out.2.1 (HF.out.2.2 row HS.out.2.2.1) hL (HF.out.2.1 row HS.out.2.2.1)).mono ?_
   rintro e w3 ⟨rr,rfl,hr,hd⟩
   obtain⟨A6,c6,rfl,-,-,-⟩:=id hr
   have hbd:=at_later HI.out.1 hd
   have HV:=hide (ai hr (ai hd hbd))
   have hs3:=hd.size
   have hsr:=HI.out.2.2.size
   have hsr2:W2.heap.size<=wr.heap.size:=by have h1:=H2.out.2.2.2.2;have h2:=lt_of_block HI.out.1;have h3:W2.heap.size=w1.heap.size+1:=(by rw[HL2.out];simp);omega
   clear hr hd hbd x0 x1 f0 f1 y0 y1 z0
   go_wp2_with (first
    | (at_builtin;refine appG Tryz.rowE (zct 1 (by decide) (by decide)) _ rfl _ _ rfl W2.heap.size _ (Ws.take k) row rfl (OwnG.below (zfH 1) HI.out.2.1 (za HV.out.2.1 _)) ⟨w3.heap.size,0,none⟩ _ rfl (.slice A6 row.length c6) (zfH 1 _ _ _ _ (za (blr _ _) _) HV.out.1) rfl (zaH _ _ rfl _ rfl) (zd2 _ _ _) (by rw[HWK.out];omega) (by simp;omega) ?_;intro g7 c7 w7 hown7 hb7 hg7;rw[HWK.out];rw[HWK.out,<-zbV HS.out.1] at hown7;
       have hbx7:=(hg7.by_.block w1.heap.size (by have:=lt_of_block HV.out.2.2;simp;omega) (fun e=>by have:=(HI.out.2.1.lt _ e.symm).1;omega)).trans (at_later HV.out.2.2 (za (blr _ _) (.cells #[.slice A6 row.length c6] 30)));
       obtain⟨x0,x1,f0,f1⟩:=ze hbx7;
       have H7:=hide (ai hown7 (ai hbx7 ((HI.out.2.2.trans ((za HV.out.2.1 (.cells #[.slice A6 row.length c6] 30)).mono HI.out.2.2.size)).trans (hb7.mono (by omega)))));
       clear hown7 hb7 hg7 hbx7))
   case roundEnd=>
    obtain⟨hown7,hbx7,hb7⟩:=H7.out
    have ho:=zp w7 w1.heap.size 1 (.slice (some ⟨g7,0,none⟩) (k+1) c7)
    have hkp:Kp 33 w7 (w7.setCell ⟨w1.heap.size,1,none⟩ (.slice (some ⟨g7,0,none⟩) (k+1) c7)):=fun b hb hn=>ho.block b hb (by intro e;injection e with e;exact hn (by rw[e];exact⟨_,_,hbx7⟩))
    refine⟨⟨k+1,.slice (some ⟨g7,0,none⟩) (k+1) c7,by omega,by go_num,zf0 hbx7,hown7.same (fun u x h=>zct 1 (by decide) (by decide) _ _ _ _ hkp h) (fun g hg=>ho.block g (hown7.lt g hg).2.1 (by intro e;injection e with e;have:=(hown7.lt g hg).1;omega)),?_⟩,by simp[intOf];omega⟩
    exact hb7.setCell (nr _) _
  ·obtain rfl:k=Ws.length:=by omega
   rw[List.take_length] at hown
   have hbrr:=at_later H0.out.2.2.1 hWr
   obtain⟨v0,v1,g0,g1⟩:=ze hbrr
   have hlz:=lt_of_block hbrr
   have HI:=hide (ai hown.lst (ai hbel (ai hbs hbrr)))
   clear hown hbel hbs hWr hbrr hlk
   go_wp2
   refine bodyPost_ret (v:=.agg #[.slice A3 R.length c3,.slice Aa Ws.length ca]) ?_ rfl ?_
   ·simp[results,Tryz.results14,go_sem,v0,v1,hlz]
   obtain⟨hl1,hb1,hbs1,hbr1⟩:=HI.out
   have hkp:∀j u w',(∃cs,w'.heap[w.heap.size+1]?=some (.cells cs 33 (0,0)))->Kp 33 w' (w'.setCell ⟨w.heap.size+1,j,none⟩ u)/\(∃cs,(w'.setCell ⟨w.heap.size+1,j,none⟩ u).heap[w.heap.size+1]?=some (.cells cs 33 (0,0))):=fun j u w' h=>by
    obtain⟨cs,h⟩:=h
    have ho:=zp w' (w.heap.size+1) j u
    refine⟨fun b hb hn=>ho.block b hb (by intro e;injection e with e;exact hn (by rw[e];exact⟨_,_,h⟩)),?_⟩
    exact⟨cs.setIfInBounds j u,by simp[World.setCell,Array.getElem?_modify,h]⟩
   obtain⟨k1,m1⟩:=hkp 0 (.slice A3 R.length c3) wr ⟨_,hbr1⟩
   obtain⟨k2,m2⟩:=hkp 1 (.slice Aa Ws.length ca) _ m1
   refine⟨_,rfl,⟨_,_,rfl,?_,?_⟩,((H2.out.2.2.2.1.trans (hb1.mono H2.out.2.2.2.1.size)).setCell (show w.heap.size<=w.heap.size+1 by omega) _).setCell (show w.heap.size<=w.heap.size+1 by omega) _⟩
   ·exact zx.rowV (zct 1 (by decide) (by decide) _ _ _ _ k2 (zct 1 (by decide) (by decide) _ _ _ _ k1 (zfH 1 _ _ _ _ hb1 H2.out.2.1)))
   ·exact zx.rowsE ((hl1.kp (zct 1 (by decide) (by decide)) (by decide) k1).kp (zct 1 (by decide) (by decide)) (by decide) k2)
def IntE (w:World) (u:Value) (x:Int):Prop:=u=.int .i64 x/\-9223372036854775808<=x/\x<=9223372036854775807
def zao (w:World) (v:Value) (xs:List Int):Prop:=∃T,zx T 1 IntE w v xs
theorem ziE:StB IntE:=fun w w' u x hb h=>h
theorem zhb:StB zao:=fun w w' u x hb h=>by obtain⟨T,h⟩:=h;exact⟨T,h.below ziE hb⟩
theorem zao.below {w w':World} {v:Value} {xs:List Int} (h:zao w v xs) (hb:Below w.heap.size w w'):zao w' v xs:=zhb _ _ _ _ hb h
theorem zao.at_ {w:World} {v:Value} {xs:List Int} (h:zao w v xs):∃A c,v=.slice A xs.length c/\xs.length<=c/\c<=maxLen/\(0<xs.length->∃b o,A=some ⟨b,o,none⟩/\∀i,i<xs.length->w.cell? ⟨b,o+i,none⟩=some (.int .i64 (xs.getD i 0))):=by
 obtain⟨T,A,c,rfl,h1,h2,h3⟩:=h
 refine⟨A,c,rfl,h1,h2,fun h0=>?_⟩
 obtain⟨b,o,rfl,-,hc⟩:=h3 h0
 refine⟨b,o,rfl,fun i hi=>?_⟩
 obtain⟨u,hs,hcu,rfl,-⟩:=hc i (xs.getD i 0) (by simp[List.getD,hi])
 have:=hcu 0 (by rw[hs];decide)
 rw[Nat.mul_one,Nat.add_zero] at this
 exact this
theorem zao.range {w:World} {v:Value} {xs:List Int} (h:zao w v xs) (i:Nat):-9223372036854775808<=xs.getD i 0/\xs.getD i 0<=9223372036854775807:=by
 obtain⟨T,A,c,rfl,h1,h2,h3⟩:=h
 by_cases hi:i<xs.length
 ·obtain⟨b,o,rfl,-,hc⟩:=h3 (by omega)
  obtain⟨u,hs,hcu,rfl,h⟩:=hc i (xs.getD i 0) (by simp[List.getD,hi])
  exact h
 ·simp[List.getD,show xs[i]?=none from List.getElem?_eq_none (by omega)]
def uQ (r:Int):Int:=IntKind.u64.wrap r
theorem zeF (r:Int):0<=uQ r/\uQ r<18446744073709551616:=by unfold uQ;rw[IntKind.wrap_u64];omega
def rvI (rs:List Int) (i:Nat):Int:=if i<rs.length then rs.getD i 0 else 1
def aT (rs:List Int) (i:Nat):Nat:=1+(uQ (rvI rs i)%9).toNat
def bT (rs:List Int) (i:Nat):Nat:=1+(uQ (rvI rs i) / 9%3).toNat
def wT (ws:List (List Int)) (i j:Nat):Nat:=if j<(ws.getD i []).length then (uQ ((ws.getD i []).getD j 0)%4).toNat else 0
def cT (n:Nat) (ws:List (List Int)) (i j:Nat):Nat:=(if (i+1)%n=j then 1 else 0)+wT ws i j
theorem zjn (ws:List (List Int)) (i j:Nat):wT ws i j<=3:=by unfold wT;split <;> omega
theorem tameT (n:Nat) (rs:List Int) (ws:List (List Int)) (h0:0<n) (h6:n<=6):zD n (aT rs) (bT rs) (cT n ws) where
 pos:=h0
 n6:=h6
 ra i:=by unfold aT;omega
 rb i:=by unfold bT;omega
 cw i j _ _:=by have:=zjn ws i j;unfold cT;split <;> omega
 next i _:=by unfold cT;rw[if_pos rfl];omega
def wtsT (n:Nat) (ws:List (List Int)) (i k:Nat):List Int:=(List.range n).map fun j=>(((if (i+1)%n=j then 1 else 0)+(if j<k then wT ws i j else 0):Nat):Int)
def smT (ws:List (List Int)) (i k:Nat):Nat:=1+sumM (wT ws i) k
theorem zcb (n:Nat) (ws:List (List Int)) (i k:Nat):(wtsT n ws i k).length=n:=by simp[wtsT]
theorem zb6 (n:Nat) (ws:List (List Int)) (i k j:Nat) (hj:j<n):(wtsT n ws i k).getD j 0=(((if (i+1)%n=j then 1 else 0)+(if j<k then wT ws i j else 0):Nat):Int):=by unfold wtsT;simp[List.getD,hj]
theorem zf1 (l:List Int) (i j:Nat) (v:Int) (hi:i<l.length):(l.set i v).getD j 0=if i=j then v else l.getD j 0:=by
 simp only[List.getD,List.getElem?_set]
 by_cases e:i=j
 ·subst e;simp[hi]
 ·simp[e]
theorem zhc {a b:List Int} (hl:a.length=b.length) (h:∀i,i<a.length->a.getD i 0=b.getD i 0):a=b:=by
 refine List.ext_getElem hl fun i h1 h2=>?_
 have:=h i h1
 simpa[List.getD,h1,h2] using this
theorem zku (n:Nat) (ws:List (List Int)) (i:Nat) (h0:0<n):(List.replicate n (0:Int)).set ((i+1)%n) (0+1)=wtsT n ws i 0:=by
 have hm:=Nat.mod_lt (i+1) h0
 refine zhc (by simp[wtsT]) fun j hj=>?_
 rw[List.length_set,List.length_replicate] at hj
 rw[zf1 _ _ _ _ (by rw[List.length_replicate];exact hm),zb6 n ws i 0 j hj]
 by_cases e:(i+1)%n=j
 ·rw[if_pos e,if_pos e,if_neg (by omega)];rfl
 ·rw[if_neg e,if_neg e,if_neg (by omega)];simp[List.getD,hj]
theorem zkv (n:Nat) (ws:List (List Int)) (i k:Nat) (hk:k<n):(wtsT n ws i k).set k ((wtsT n ws i k).getD k 0+(wT ws i k:Int))=wtsT n ws i (k+1):=by
 refine zhc (by simp[wtsT]) fun j hj=>?_
 rw[List.length_set,zcb] at hj
 rw[zf1 _ _ _ _ (by rw[zcb];exact hk),zb6 n ws i k k hk,zb6 n ws i k j hj,zb6 n ws i (k+1) j hj]
 by_cases e:k=j
 ·subst e;rw[if_pos rfl,if_neg (Nat.lt_irrefl k),if_pos (show k<k+1 by omega)];omega
 ·rw[if_neg e]
  by_cases h:j<k
  ·rw[if_pos h,if_pos (show j<k+1 by omega)]
  ·rw[if_neg h,if_neg (show ¬j<k+1 by omega)]
theorem zlK (ws:List (List Int)) (i k:Nat):smT ws i (k+1)=smT ws i k+wT ws i k:=by unfold smT;rw[sumM];omega
theorem zkw (n:Nat) (ws:List (List Int)) (i k:Nat) (h:n<=k\/(ws.getD i []).length<=k) (j:Nat) (hj:j<n):(wtsT n ws i k).getD j 0=(cT n ws i j:Int):=by
 rw[zb6 n ws i k j hj]
 unfold cT
 by_cases hjk:j<k
 ·rw[if_pos hjk]
 ·rw[if_neg hjk,show wT ws i j=0 by unfold wT;rw[if_neg (by omega)]]
theorem zhd (f g:Nat->Nat):∀k,sumM (fun j=>f j+g j) k=sumM f k+sumM g k
 | 0=>rfl
 | k+1=>by rw[sumM,sumM,sumM,zhd f g k];omega
theorem zhe (c:Nat):∀k,sumM (fun j=>if c=j then 1 else 0) k=if c<k then 1 else 0
 | 0=>by rw[if_neg (by omega)];rfl
 | k+1=>by
  rw[sumM,zhe c k]
  show (if c<k then 1 else 0)+(if c=k then 1 else 0)=_
  by_cases h:c<k
  ·rw[if_pos h,if_neg (by omega),if_pos (by omega)]
  ·by_cases e:c=k
   ·rw[if_neg h,if_pos e,if_pos (by omega)]
   ·rw[if_neg h,if_neg e,if_neg (by omega)]
theorem zhf (f:Nat->Nat) (k:Nat):∀d,(∀j,k<=j->f j=0)->sumM f (k+d)=sumM f k
 | 0,_=>rfl
 | d+1,h=>by rw[<-Nat.add_assoc,sumM,h (k+d) (by omega),zhf f k d h];rfl
theorem zlL (n:Nat) (ws:List (List Int)) (i k:Nat) (h0:0<n) (hk:k<=n) (h:n<=k\/(ws.getD i []).length<=k):smT ws i k=sumC n (cT n ws) i:=by
 unfold sumC
 have e:sumM (cT n ws i) n=sumM (fun j=>if (i+1)%n=j then 1 else 0) n+sumM (wT ws i) n:=zhd _ _ n
 rw[e,zhe,if_pos (Nat.mod_lt _ h0)]
 unfold smT
 rcases h with h|h
 ·rw[show k=n by omega]
 ·obtain⟨d,rfl⟩:∃d,n=k+d:=⟨n-k,by omega⟩
  rw[zhf (wT ws i) k d (fun j hj=>by unfold wT;rw[if_neg (by omega)])]
theorem zm8 (i:Nat) (a b:Nat->Nat):tR (i+1) a b=tR i a b++[rateT a b i]:=by unfold tR;rw[List.range_succ,List.map_append];rfl
def tWk (n:Nat) (c:Nat->Nat->Nat) (i:Nat):List (List Rat):=(List.range i).map fun r=>(List.range n).map (wayT n c r)
def tRow (n:Nat) (c:Nat->Nat->Nat) (i k:Nat):List Rat:=(List.range k).map (wayT n c i)
theorem zlM (n:Nat) (c:Nat->Nat->Nat) (i:Nat):tWk n c (i+1)=tWk n c i++[tRow n c i n]:=by unfold tWk;rw[List.range_succ,List.map_append];rfl
theorem zkx (n:Nat) (c:Nat->Nat->Nat) (i k:Nat):tRow n c i (k+1)=tRow n c i k++[wayT n c i k]:=by unfold tRow;rw[List.range_succ,List.map_append];rfl
theorem zid (n:Nat) (c:Nat->Nat->Nat) (i k:Nat):(tRow n c i k).length=k:=by simp[tRow]
theorem zjo (n:Nat) (c:Nat->Nat->Nat) (i:Nat):(tWk n c i).length=i:=by simp[tWk]
def QRowA (gv:Option Nat) (w:World) (u:Value) (qs:List Rat):Prop:=QRowE 3 w u qs/\∀g,u.ownBlock=some g->Typed w g 55/\gv≠some g
theorem z8 (gv:Option Nat):StB (QRowA gv):=fun w w' u x hb h=>⟨zaD 3 _ _ _ _ hb h.1,fun g hg=>⟨(h.2 g hg).1.same (hb.block g (h.2 g hg).1.lt),(h.2 g hg).2⟩⟩
theorem zci {T:TypeId} (gv:Option Nat) (hT:3≠T) (hT2:55≠T):StK T (QRowA gv):=fun w w' u x hk h=>⟨zcI 3 hT hT2 _ _ _ _ hk h.1,fun g hg=>⟨(h.2 g hg).1.same (hk.typed (h.2 g hg).1 hT2),(h.2 g hg).2⟩⟩
theorem zdx {W w8:World} {v:Value} {g8:Nat} (hg:zi7 W w8 55 v g8) (u:Value) (x:List Rat) (h:QRowA v.ownBlock W u x):QRowA (some g8) w8 u x:=by
 have key:∀g,u.ownBlock=some g->w8.heap[g]?=W.heap[g]?:=fun g hu=>hg.by_.block g (h.2 g hu).1.lt (fun e=>(h.2 g hu).2 e.symm)
 refine⟨h.1.same (fun u x h=>zap 3 (by decide) _ _ _ _ hg.kp h) (fun b o n c e _=>key b (by rw[e];rfl)),fun g hu=>⟨(h.2 g hu).1.same (key g hu),fun e=>?_⟩⟩
 injection e with e
 rcases hg.new with h1|h1
 ·exact(h.2 g hu).2 (by rw[h1,e])
 ·have:=(h.2 g hu).1.lt;omega
theorem zhg (x:Int):∀(l:List Int) (i:Nat),i<l.length->(l.set i x).sum=l.sum-l.getD i 0+x
 | [],i,h=>by simp at h
 | a::l,0,_=>by simp;omega
 | a::l,i+1,h=>by
  rw[List.set_cons_succ,List.sum_cons,List.sum_cons,zhg x l i (by simpa using h),List.getD_cons_succ]
  omega
def znN (w:World) (n:Nat) (most:Int) (v:Value) (w':World):Prop:=
 ∃(ks:List Int) (A:Option Addr) (c:Nat),v=.slice A ks.length c/\ks.length=n/\ks.length<=c/\c<=maxLen/\Arr w' A .i64 ks/\(∀x∈ks,0<=x)/\ks.sum<=most/\Below w.heap.size w w'
set_option maxHeartbeats 4000000 in
theorem ziF (w:World) (v:Value) (ls:List Int) (n:Nat) (most:Int) (hv:zao w v ls) (hn:n<=100) (h0:0<=most) (h1:most<=1000):
  Calls Tryz.prog 32 #[v,.int .i64 (n:Int),.int .i64 most] w (Ret (znN w n most)):=by
 obtain⟨A,c,rfl,hc1,hc2,-⟩:=hv.at_
 unfold maxLen at hc2
 have hmk:=zby Tryz.i64T n (by omega)
 obtain⟨W,hW⟩:∃W,W=w.alloc (.cells (mk .i64 (List.replicate n 0)) 3):=⟨_,rfl⟩
 have hb0:Below w.heap.size w W:=by rw[hW];exact za (blr _ _) _
 have hbk:Blk W w.heap.size 3 .i64 (List.replicate n 0):=by rw[hW];exact Blk.new _ _ _ _
 have H0:=hide (ai hb0 (ai hbk hv))
 have HL:=hide hW
 clear hb0 hbk hv hW
 go_enter Tryz.func32,Tryz.ntmps32
 go_upto_region 2 with fail
 rw[<-HL.out]
 go_wp2_with fail
 go_loopw [9,8] (fun s9 s8 wr=>∃(i:Nat) (ks:List Int) (left:Int),i<=n/\i<=ls.length/\s9=.int .i64 i/\s8=.int .i64 left/\(0<=left/\ks.sum+left=most)/\ks.length=n/\(∀x∈ks,0<=x)/\(∀j,i<=j->ks.getD j 0=0)/\Blk wr w.heap.size 3 .i64 ks/\Below w.heap.size w wr) (fun s9 _ _=>n-(intOf s9).toNat)
 case atStart=>
  refine⟨0,List.replicate n 0,most,by omega,by omega,rfl,rfl,⟨h0,by simp⟩,by simp,fun x hx=>by rw[List.eq_of_mem_replicate hx];omega,fun j _=>?_,H0.out.2.1,H0.out.1⟩
  by_cases hj:j<n
  ·simp[List.getD,hj]
  ·simp[List.getD,hj]
 case round=>
  obtain⟨i,ks,left,hi,hil,rfl,rfl,hleft,hkl,hk0,hkz,hbk,hbel⟩:=hrel
  have hsn:=zdW hk0
  have HK:=hide hkl
  clear hkl
  by_cases hin:i<n
  ·have i1:(i:Int)<(n:Int):=by omega
   by_cases hlt:i<ls.length
   ·have i2:(i:Int)<(ls.length:Int):=by omega
    obtain⟨A',c',e1,-,-,hcl⟩:=(H0.out.2.2.below hbel).at_
    obtain⟨b,o,e0,hc⟩:=hcl (by omega)
    injection e1 with e1 _ e3
    subst e1
    subst e3
    subst e0
    have y0:=hc i hlt
    obtain⟨x,hx⟩:∃x,x=ls.getD i 0:=⟨_,rfl⟩
    rw[<-hx] at y0
    have z0:=hbk.cell (j:=i) (by rw[HK.out];exact hin)
    rw[hkz i (nr _)] at z0
    have f0:=hbk.frozen i
    have hlz:=hbk.lt
    have hu:=zeF x
    obtain⟨y,hy⟩:∃y,y=uQ x%(left+1):=⟨_,rfl⟩
    have hy0:0<=y:=by rw[hy];exact Int.emod_nonneg _ (by omega)
    have hy1:y<=left:=by have:=Int.emod_lt_of_pos (uQ x) (show (0:Int)<left+1 by omega);omega
    have i3:wrap64 ((IntKind.u64.wrap x).tmod (left+1))=y:=by
     rw[<-IntWalk.i64_left,show IntKind.u64.wrap x=uQ x from rfl,Int.tmod_eq_emod_of_nonneg hu.1,<-hy,IntWalk.i64_in _ (by omega)]
    have i4:left+1≠0:=by omega
    have i5:IntKind.i64.wrap (left+1)=left+1:=IntWalk.i64_in _ (by omega)
    have i6:IntKind.u64.wrap (left+1)=left+1:=IntWalk.u64_in _ (by omega)
    have i7:IntKind.i64.wrap (left-y)=left-y:=IntWalk.i64_in _ (by omega)
    have hl1:=hleft.1
    have hl2:left<=1000:=by have:=hleft.2;omega
    have HI:=hide (ai hbk (ai hbel (ai hk0 (ai hkz hleft))))
    clear hbk hbel hk0 hkz hleft hy hu hx hc hcl hsn
    go_wp2
    case roundEnd=>
     obtain⟨hbk,hbel,hk0,hkz,hleft⟩:=HI.out
     refine⟨⟨i+1,ks.set i y,left-y,by omega,by omega,by go_num,by go_num,⟨by omega,?_⟩,by rw[List.length_set];exact HK.out,fun z hz=>?_,fun j hj=>?_,hbk.set_ i y,hbel.setCell (nr _) _⟩,by simp[intOf];omega⟩
     ·rw[zhg y ks i (by rw[HK.out];exact hin),hkz i (nr _)]
      have:=hleft.2
      omega
     ·rcases List.mem_or_eq_of_mem_set hz with h2|rfl
      ·exact hk0 z h2
      ·exact hy0
     ·rw[zf2 ks i j y (by rw[HK.out];exact hin),if_neg (by omega)]
      exact hkz j (by omega)
   ·have i2:¬(i:Int)<(ls.length:Int):=by omega
    have HI:=hide (ai hbk (ai hbel (ai hk0 hleft)))
    clear hbk hbel hk0 hkz hleft hsn
    go_wp2
    refine bodyPost_ret (v:=.slice (some ⟨w.heap.size,0,none⟩) n n) ?_ rfl ?_
    ·simp[results,Tryz.results32,go_sem]
    exact⟨_,rfl,ks,_,n,by rw[HK.out],HK.out,by rw[HK.out];exact nr _,by unfold maxLen;omega,HI.out.1.arr,HI.out.2.2.1,by have:=HI.out.2.2.2;omega,HI.out.2.1⟩
  ·have i1:¬(i:Int)<(n:Int):=by omega
   have HI:=hide (ai hbk (ai hbel (ai hk0 hleft)))
   clear hbk hbel hk0 hkz hleft hsn
   go_wp2
   refine bodyPost_ret (v:=.slice (some ⟨w.heap.size,0,none⟩) n n) ?_ rfl ?_
   ·simp[results,Tryz.results32,go_sem]
   exact⟨_,rfl,ks,_,n,by rw[HK.out],HK.out,by rw[HK.out];exact nr _,by unfold maxLen;omega,HI.out.1.arr,HI.out.2.2.1,by have:=HI.out.2.2.2;omega,HI.out.2.1⟩
end Go.Proofs.YtpoahodnakhmiaaGreat
