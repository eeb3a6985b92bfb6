import Derived.Test.YtpoahodnakhmiaaGreatQOpen
import Derived.Test.YtpoahodnakhmiaaGreatShopC
import Derived.Test.YtpoahodnakhmiaaGreatPow
import Derived.Deep.CutBlock
import Derived.Deep.DeepCutAuto
import Derived.Deep.Slices
import Derived.SizedLaws
import Derived.OpenShut
import Derived.WideKeyArr2
set_option maxRecDepth 100000
namespace Go.Proofs.YtpoahodnakhmiaaGreat
set_option linter.unusedVariables false
set_option linter.unusedSimpArgs false
open Go.RowKit
theorem zoe (w:World) (v:Value) (q:Rat) (L:Nat) (hq:QV w v q L) (hL:L<=1073741000) (hf:FracQ 6 q):
  Calls Tryz.prog 23 #[v] w (Ret (ratR w q 1)):=by
 obtain⟨s,A,n,c,B,m,d,rfl,-,-⟩:=hq.parts
 have htl:=zlm hf (by omega)
 obtain⟨W,hW⟩:∃W,W=(w.alloc (.cells #[.bool s,.slice A n c,.bool false,.slice B m d] 55)).alloc (.cells #[.bool false,.slice none 0 0,.slice none 0 0] 43):=⟨_,rfl⟩
 have hb0:Below w.heap.size w W:=by rw[hW];exact za (za (blr _ _) _) _
 have hbx:W.heap[w.heap.size]?=some (.cells #[.bool s,.slice A n c,.bool false,.slice B m d] 55):=by rw[hW];exact at_later (zg w _) (za (blr _ _) _)
 have hbr:W.heap[w.heap.size+1]?=some (.cells #[.bool false,.slice none 0 0,.slice none 0 0] 43):=by rw[hW];exact zv _ (by simp)
 obtain⟨y0,y1,y2,y3,-⟩:=zq hbx
 have H0:=hide (ai hb0 (ai hbr (hq.below hb0)))
 have HL:=hide hW
 clear hb0 hbx hbr hq hW
 go_enter Tryz.func23,Tryz.ntmps23
 go_upto_region 1 with fail
 rw[<-HL.out]
 go_wp2_with fail
 refine(zis _ _ q L H0.out.2.2 hL).mono ?_
 rintro e w1 ⟨_,rfl,rfl,hd1⟩
 have H1:=hide hd1
 clear hd1
 go_wp2_with fail
 refine(zmI _ q (by omega)).mono ?_
 rintro e w2 ⟨v2,rfl,hdn⟩
 obtain⟨r,rfl,hr6,hd2⟩:=hdn.ok (hf.fit.smallQ (by omega))
 replace hr6:RatV w2 r q 1:=hr6.fit hf.fit
 obtain⟨s6,A6,n6,c6,B6,m6,d6,rfl⟩:=hr6.shape
 obtain⟨W3,hW3⟩:∃W3,W3=w2.alloc (.cells #[.bool s6,.slice A6 n6 c6,.slice B6 m6 d6] 43):=⟨_,rfl⟩
 have hb3:Below w2.heap.size w2 W3:=by rw[hW3];exact za (blr _ _) _
 have hbx:W3.heap[w2.heap.size]?=some (.cells #[.bool s6,.slice A6 n6 c6,.slice B6 m6 d6] 43):=by rw[hW3];exact zg _ _
 obtain⟨z0,z1,z2⟩:=zj hbx
 have hd3:=bnx (bnx H1.out hd2) hb3
 have hrb:=at_later H0.out.2.1 hd3
 clear y0 y1 y2 y3
 obtain⟨x0,x1,x2⟩:=zj hrb
 obtain⟨f0,f1,f2⟩:=zr hrb
 have hlt:=lt_of_block hrb
 have HU:=hide (ai (hr6.below hb3) (bnx H0.out.1 hd3))
 have HL3:=hide hW3
 clear hrb hr6 hd2 hd3 hdn hb3 hbx hW3
 go_upto_region 2 with fail
 rw[<-HL3.out]
 go_wp2
 refine bodyPost_ret (v:=.agg #[.bool s6,.slice A6 n6 c6,.slice B6 m6 d6]) ?_ rfl ?_
 ·simp[results,Tryz.results23,go_sem,x0,x1,x2,hlt]
 have hr:=HU.out.1
 obtain⟨rn,rl,e,r1,r2⟩:=hr
 injection e with e
 simp only[Array.mk.injEq,List.cons.injEq,Value.bool.injEq,and_true] at e
 obtain⟨rfl,rfl,rfl⟩:=e
 exact⟨_,rfl,⟨_,_,rfl,r1.set3 x0 x1 x2,r2.set3 x0 x1 x2⟩,zl HU.out.2 (by omega) _ _ _⟩
theorem zbR {α:Type} {l:List α} {k:Nat} {s:α} (h:l[k]?=some s):l.take (k+1)=l.take k++[s]:=by
 obtain⟨hk,e⟩:=List.getElem?_eq_some_iff.1 h
 rw[List.take_succ_eq_append_getElem hk,e]
set_option maxHeartbeats 4000000 in
theorem zke (w:World) (v:Value) (qs:List Rat) (L:Nat) (hv:QRowE L w v qs) (hl100:qs.length<=100) (hL:L<=1000) (hf:∀q∈qs,FracQ 6 q):
  Calls Tryz.prog 49 #[v] w (Ret (fun v w'=>zct 1 w' v qs/\Below w.heap.size w w')):=by
 obtain⟨A,c,rfl,hc1,hc2,hc3⟩:=hv
 unfold maxLen at hc2
 have HC:=hide (ai hc3 hf)
 clear hc3 hf
 go_enter Tryz.func49,Tryz.ntmps49
 go_wp2
 go_loopw [3,4] (fun s3 s4 wr=>∃k:Nat,k<=qs.length/\s4=.int .i64 k/\OwnG 43 3 (zeX 1) wr w.heap.size s3 (qs.take k)/\Below w.heap.size w wr) (fun _ s4 _=>qs.length-(intOf s4).toNat)
 case atStart=>exact⟨0,by omega,rfl,OwnG.nil _ _ _ _ _,blr _ _⟩
 case round=>
  obtain⟨k,hk,rfl,hoa,hbel⟩:=hrel
  have HO:=hide (ai hoa hbel)
  obtain⟨Aa,ca,ea,_⟩:=hoa.len
  have hlk:(qs.take k).length=k:=by simp;omega
  rw[hlk] at ea
  clear hlk hoa hbel
  subst ea
  by_cases hkl:k<qs.length
  ·have d1:decide (k<qs.length)=true:=decide_eq_true hkl
   obtain⟨b,o,rfl,ht,hcl⟩:=HC.out.1 (by omega)
   have hsk:qs[k]?=some qs[k]:=List.getElem?_eq_getElem hkl
   obtain⟨q,hs⟩:∃q,q=qs[k]:=⟨_,rfl⟩
   rw[<-hs] at hsk
   obtain⟨u,hu1,hu2,hu3⟩:=hcl k q hsk
   have hqf:FracQ 6 q:=HC.out.2 q (by rw[hs];exact List.getElem_mem hkl)
   obtain⟨s,A1,n1,c1,B1,m1,d1',rfl,-,-⟩:=QV.parts hu3
   have kc:∀j x,j<4->(Value.agg #[.bool s,.slice A1 n1 c1,.bool false,.slice B1 m1 d1']).cells.getD j undef=x->wr.cell? ⟨b,o+k*4+j,none⟩=some x:=fun j x hj e=>by
    have:=(HO.out.2.cell (p:=⟨b,o+k*4+j,none⟩) ht.lt).trans (hu2 j (by rw[hu1];exact hj))
    rw[this,e]
   have k0:=kc 0 _ (by omega) rfl
   have k1:=kc 1 _ (by omega) rfl
   have k2:=kc 2 _ (by omega) rfl
   have k3:=kc 3 _ (by omega) rfl
   rw[Nat.add_zero] at k0
   have HS:=hide (ai hsk (ai (QV.below (show QV w _ q L from hu3) HO.out.2) hqf))
   clear hcl hu1 hu2 hu3 ht hs hsk kc hqf
   go_wp2_with fail
   refine(zoe _ _ q L HS.out.2.1 (by omega) HS.out.2.2).mono ?_
   rintro e w1 ⟨r,rfl,hr,hd⟩
   obtain⟨s6,A6,n6,c6,B6,m6,d6,rfl⟩:=hr.shape
   have HV:=hide (ai hr hd)
   have hwk:(qs.take k).length=k:=by simp;omega
   have HWK:=hide hwk
   have hbw1:w.heap.size<=w1.heap.size:=by have:=HO.out.2.size;have:=hd.size;omega
   clear hr hd hwk k0 k1 k2 k3
   go_wp2_with (first
    | (at_builtin;refine appG Tryz.ratE (zfT 1 (by decide)) _ rfl _ _ rfl w.heap.size _ (qs.take k) q rfl (OwnG.below (zey 1) HO.out.1 (za HV.out.2 _)) ⟨w1.heap.size,0,none⟩ _ rfl (.agg #[.bool s6,.slice A6 n6 c6,.slice B6 m6 d6]) (RatV.below HV.out.1 (za (blr _ _) _)) rfl (zfg _ _ _ _ _ rfl) (ziR _ _ _ _ _ _ _) (by rw[HWK.out];omega) (by simp;omega) ?_;intro g5 c5 w5 hown5 hb5 hg5;rw[HWK.out];rw[HWK.out,<-zbR HS.out.1] at hown5;
       have H5:=hide (ai hown5 ((HO.out.2.trans ((za HV.out.2 (.cells #[.bool s6,.slice A6 n6 c6,.slice B6 m6 d6] 43)).mono HO.out.2.size)).trans hb5));clear hown5 hb5 hg5))
   case roundEnd=>exact⟨⟨k+1,by omega,by go_num,H5.out.1,H5.out.2⟩,by simp[intOf];omega⟩
  ·have d1:decide (k<qs.length)=false:=decide_eq_false hkl
   obtain rfl:k=qs.length:=by omega
   have htk:=List.take_length (l:=qs)
   have HT:=hide htk
   clear htk
   go_wp2
   refine bodyPost_ret (v:=.slice Aa qs.length ca) ?_ rfl ?_
   ·simp[results,Tryz.results49,go_sem]
   have:=HO.out.1.lst
   rw[HT.out] at this
   exact⟨_,rfl,this,HO.out.2⟩
def zaG (w:World) (v:Value) (R:List Rat) (Ws:List (List Rat)) (L:Nat):Prop:=∃a b,v=.agg #[a,b]/\QRowE L w a R/\zB 25 1 (QRowE L) w b Ws
theorem zaG.below {w w':World} {v:Value} {R:List Rat} {Ws:List (List Rat)} {L:Nat} (h:zaG w v R Ws L) (hb:Below w.heap.size w w'):zaG w' v R Ws L:=by
 obtain⟨a,b,rfl,h1,h2⟩:=h
 exact⟨a,b,rfl,zaB L _ _ _ _ hb h1,h2.below (zaB L) hb⟩
theorem zB.rowsE {w:World} {v:Value} {rows:List (List Rat)} {L:Nat} (h:zB 30 1 (zct L) w v rows):RowsV w v rows L:=by
 obtain⟨A,c,rfl,h1,h2,h3⟩:=h
 refine⟨A,c,rfl,h1,h2,fun hx=>?_⟩
 obtain⟨b,o,rfl,ht,hc⟩:=h3 hx
 refine⟨b,o,rfl,fun i hi=>?_⟩
 obtain⟨u,hs,hcu,hr⟩:=hc i (rows.getD i []) (by simp[List.getD,hi])
 have hrv:=zB.rowV hr
 obtain⟨A1,c1,rfl,-⟩:=id hrv
 refine⟨_,?_,hrv⟩
 have:=hcu 0 (by rw[hs];decide)
 rw[Nat.mul_one,Nat.add_zero] at this
 exact this
theorem zf6 {w:World} {B:Nat} {a b u:Value} {e:TypeId} (h:w.heap[B]?=some (.cells #[a,b] e (0,0))):(w.setCell ⟨B,1,none⟩ u).heap[B]?=some (.cells #[a,u] e (0,0)):=by
 simp[World.setCell,Array.getElem?_modify,h]
set_option maxHeartbeats 4000000 in
theorem zny (w:World) (v:Value) (R:List Rat) (Ws:List (List Rat)) (L:Nat) (hv:zaG w v R Ws L) (hL:L<=1000) (hR:R.length<=100) (hW:Ws.length<=100) (hWl:∀r∈Ws,r.length<=100) (hf:∀q∈R,FracQ 6 q) (hg:∀r∈Ws,∀q∈r,FracQ 6 q):
  Calls Tryz.prog 14 #[v] w (Ret (fun v w'=>ShopV w' v R Ws 1/\Below w.heap.size w w')):=by
 obtain⟨va,vb,rfl,ha,hb⟩:=hv
 obtain⟨A1,c1,rfl,-,hm1,-⟩:=id ha
 obtain⟨A2,c2,rfl,hl2,hm2,-⟩:=id hb
 unfold maxLen at hm1 hm2
 obtain⟨W,hWW⟩:∃W,W=(w.alloc (.cells #[.slice A1 R.length c1,.slice A2 Ws.length c2] 28)).alloc (.cells #[.slice none 0 0,.slice none 0 0] 33):=⟨_,rfl⟩
 have hb0:Below w.heap.size w W:=by rw[hWW];exact za (za (blr _ _) _) _
 have hbx:W.heap[w.heap.size]?=some (.cells #[.slice A1 R.length c1,.slice A2 Ws.length c2] 28 (0,0)):=by rw[hWW];exact at_later (zg w _) (za (blr _ _) _)
 have hbr:W.heap[w.heap.size+1]?=some (.cells #[.slice none 0 0,.slice none 0 0] 33 (0,0)):=by rw[hWW];exact zv _ (by simp)
 obtain⟨y0,y1,-,-⟩:=ze hbx
 have hlW:=lt_of_block hbr
 have H0:=hide (ai hb0 (ai hbx (ai hbr (ai (zaB L _ _ _ _ hb0 ha) (hb.below (zaB L) hb0)))))
 have HF:=hide (ai hf (ai hg hWl))
 have HL:=hide hWW
 clear ha hb hb0 hbx hbr hWW hf hg hWl
 go_enter Tryz.func14,Tryz.ntmps14
 go_upto_region 1 with fail
 rw[<-HL.out]
 go_wp2_with fail
 refine(zke _ _ R L H0.out.2.2.2.1 hR hL HF.out.1).mono ?_
 rintro e w1 ⟨ra,rfl,hra,hd1⟩
 obtain⟨A3,c3,rfl,-,-,-⟩:=id hra
 obtain⟨W2,hW2⟩:∃W2,W2=w1.alloc (.cells #[.slice A3 R.length c3,.slice none 0 0] 33):=⟨_,rfl⟩
 have hb2:Below w1.heap.size w1 W2:=by rw[hW2];exact za (blr _ _) _
 have hbs:W2.heap[w1.heap.size]?=some (.cells #[.slice A3 R.length c3,.slice none 0 0] 33 (0,0)):=by rw[hW2];exact zg _ _
 have hd2:=bnx hd1 hb2
 have hs2:w1.heap.size<W2.heap.size:=lt_of_block hbs
 have hs1:W.heap.size<=w1.heap.size:=hd1.size
 have H2:=hide (ai hbs (ai hra (ai hd1 (ai (bnx H0.out.1 hd1) hb2))))
 have HL2:=hide hW2
 clear hra hd1 hb2 hbs hd2 hW2 y0 y1
 go_upto_region 2 with fail
 rw[<-HL2.out]
 go_wp2_with fail
 go_loopw [4] (fun s4 wr=>∃(k:Nat) (rv:Value),k<=Ws.length/\s4=.int .i64 k/\wr.heap[w1.heap.size]?=some (.cells #[.slice A3 R.length c3,rv] 33 (0,0))/\OwnG 30 1 (zct 1) wr W2.heap.size rv (Ws.take k)/\Below w1.heap.size w1 wr) (fun s4 _=>Ws.length-(intOf s4).toNat)
 case atStart=>exact⟨0,_,by omega,rfl,H2.out.1,OwnG.nil _ _ _ _ _,H2.out.2.2.2.2⟩
 case round=>
  obtain⟨k,rv,hk,rfl,hbs,hown,hbel⟩:=hrel
  obtain⟨Aa,ca,rfl,hca,hma⟩:=hown.len
  have hlk:(Ws.take k).length=k:=by simp;omega
  rw[hlk] at hbs hown hca
  have hWr:=bnx H2.out.2.2.1 hbel
  obtain⟨y0,y1,-,-⟩:=ze (at_later H0.out.2.1 hWr)
  have hly:=lt_of_block (at_later H0.out.2.1 hWr)
  obtain⟨x0,x1,f0,f1⟩:=ze hbs
  have hlx:=lt_of_block hbs
  by_cases hkl:k<Ws.length
  ·obtain⟨A2',c2',e2,-,-,hcl'⟩:=H0.out.2.2.2.2.below (zaB L) hWr
   obtain⟨b,o,e0,ht,hcl⟩:=hcl' (by omega)
   injection e2 with e2 _ e3
   subst e2
   subst e3
   subst e0
   have hsk:Ws[k]?=some Ws[k]:=List.getElem?_eq_getElem hkl
   obtain⟨row,hs⟩:∃q,q=Ws[k]:=⟨_,rfl⟩
   rw[<-hs] at hsk
   have hmem:row∈Ws:=by rw[hs];exact List.getElem_mem hkl
   obtain⟨u,hu1,hu2,hu3⟩:=hcl k row hsk
   obtain⟨A5,c5,rfl,-,-,-⟩:=id hu3
   have z0:=hu2 0 (by rw[hu1];decide)
   rw[Nat.mul_one,Nat.add_zero] at z0
   replace z0:wr.cell? ⟨b,o+k,none⟩=some (.slice A5 row.length c5):=z0
   have HS:=hide (ai hsk (ai hu3 (ai hmem True.intro)))
   have HI:=hide (ai hbs (ai hown hbel))
   have HWK:=hide hlk
   have i1:(k:Int)<(Ws.length:Int):=by omega
   clear hcl hcl' hu1 hu2 hu3 ht hs hsk hmem hbs hown hbel hlk hWr
   go_wp2_with fail
   refine(zke _ _ row L HS.out.2.1 (HF.out.2.2 row HS.out.2.2.1) hL (HF.out.2.1 row HS.out.2.2.1)).mono ?_
   rintro e w3 ⟨rr,rfl,hr,hd⟩
   obtain⟨A6,c6,rfl,-,-,-⟩:=id hr
   have hbd:=at_later HI.out.1 hd
   have HV:=hide (ai hr (ai hd hbd))
   have hs3:=hd.size
   have hsr:=HI.out.2.2.size
   have hsr2:W2.heap.size<=wr.heap.size:=by have h1:=H2.out.2.2.2.2;have h2:=lt_of_block HI.out.1;have h3:W2.heap.size=w1.heap.size+1:=(by rw[HL2.out];simp);omega
   clear hr hd hbd x0 x1 f0 f1 y0 y1 z0
   go_wp2_with (first
    | (at_builtin;refine appG Tryz.rowE (zcB 1 (by decide) (by decide)) _ rfl _ _ rfl W2.heap.size _ (Ws.take k) row rfl (OwnG.below (zfU 1) HI.out.2.1 (za HV.out.2.1 _)) ⟨w3.heap.size,0,none⟩ _ rfl (.slice A6 row.length c6) (zfU 1 _ _ _ _ (za (blr _ _) _) HV.out.1) rfl (zaF _ _ rfl _ rfl) (zee _ _ _) (by rw[HWK.out];omega) (by simp;omega) ?_;intro g7 c7 w7 hown7 hb7 hg7;rw[HWK.out];rw[HWK.out,<-zbR HS.out.1] at hown7;
       have hbx7:=(hg7.by_.block w1.heap.size (by have:=lt_of_block HV.out.2.2;simp;omega) (fun e=>by have:=(HI.out.2.1.lt _ e.symm).1;omega)).trans (at_later HV.out.2.2 (za (blr _ _) (.cells #[.slice A6 row.length c6] 30)));
       obtain⟨x0,x1,f0,f1⟩:=ze hbx7;
       have H7:=hide (ai hown7 (ai hbx7 ((HI.out.2.2.trans ((za HV.out.2.1 (.cells #[.slice A6 row.length c6] 30)).mono HI.out.2.2.size)).trans (hb7.mono (by omega)))));
       clear hown7 hb7 hg7 hbx7))
   case roundEnd=>
    obtain⟨hown7,hbx7,hb7⟩:=H7.out
    have ho:=zu w7 w1.heap.size 1 (.slice (some ⟨g7,0,none⟩) (k+1) c7)
    have hkp:Kp 33 w7 (w7.setCell ⟨w1.heap.size,1,none⟩ (.slice (some ⟨g7,0,none⟩) (k+1) c7)):=fun b hb hn=>ho.block b hb (by intro e;injection e with e;exact hn (by rw[e];exact⟨_,_,hbx7⟩))
    refine⟨⟨k+1,.slice (some ⟨g7,0,none⟩) (k+1) c7,by omega,by go_num,zf6 hbx7,hown7.same (fun u x h=>zcB 1 (by decide) (by decide) _ _ _ _ hkp h) (fun g hg=>ho.block g (hown7.lt g hg).2.1 (by intro e;injection e with e;have:=(hown7.lt g hg).1;omega)),?_⟩,by simp[intOf];omega⟩
    exact hb7.setCell (nr _) _
  ·obtain rfl:k=Ws.length:=by omega
   rw[List.take_length] at hown
   have hbrr:=at_later H0.out.2.2.1 hWr
   obtain⟨v0,v1,g0,g1⟩:=ze hbrr
   have hlz:=lt_of_block hbrr
   have HI:=hide (ai hown.lst (ai hbel (ai hbs hbrr)))
   clear hown hbel hbs hWr hbrr hlk
   go_wp2
   refine bodyPost_ret (v:=.agg #[.slice A3 R.length c3,.slice Aa Ws.length ca]) ?_ rfl ?_
   ·simp[results,Tryz.results14,go_sem,v0,v1,hlz]
   obtain⟨hl1,hb1,hbs1,hbr1⟩:=HI.out
   have hkp:∀j u w',(∃cs,w'.heap[w.heap.size+1]?=some (.cells cs 33 (0,0)))->Kp 33 w' (w'.setCell ⟨w.heap.size+1,j,none⟩ u)/\(∃cs,(w'.setCell ⟨w.heap.size+1,j,none⟩ u).heap[w.heap.size+1]?=some (.cells cs 33 (0,0))):=fun j u w' h=>by
    obtain⟨cs,h⟩:=h
    have ho:=zu w' (w.heap.size+1) j u
    refine⟨fun b hb hn=>ho.block b hb (by intro e;injection e with e;exact hn (by rw[e];exact⟨_,_,h⟩)),?_⟩
    exact⟨cs.setIfInBounds j u,by simp[World.setCell,Array.getElem?_modify,h]⟩
   obtain⟨k1,m1⟩:=hkp 0 (.slice A3 R.length c3) wr ⟨_,hbr1⟩
   obtain⟨k2,m2⟩:=hkp 1 (.slice Aa Ws.length ca) _ m1
   refine⟨_,rfl,⟨_,_,rfl,?_,?_⟩,((H2.out.2.2.2.1.trans (hb1.mono H2.out.2.2.2.1.size)).setCell (show w.heap.size<=w.heap.size+1 by omega) _).setCell (show w.heap.size<=w.heap.size+1 by omega) _⟩
   ·exact zB.rowV (zcB 1 (by decide) (by decide) _ _ _ _ k2 (zcB 1 (by decide) (by decide) _ _ _ _ k1 (zfU 1 _ _ _ _ hb1 H2.out.2.1)))
   ·exact zB.rowsE ((hl1.kp (zcB 1 (by decide) (by decide)) (by decide) k1).kp (zcB 1 (by decide) (by decide)) (by decide) k2)
theorem zcK {L:Nat} (h:1<=L):FitQ L 1:=by
 have h1:=zw (B:=4294967296) (by omega) h
 exact⟨by show ((1:Nat):Int)<_;omega,by show ((1:Nat):Int)<=_;omega⟩
theorem zfh {q:Rat} (h:FracQ 6 q):shortQ q=true:=by
 unfold shortQ
 have h1:(decText (q.num.natAbs:Int)).length<=6:=by
  by_cases e:q.num.natAbs=0
  ·rw[e];decide
  ·exact zdf (by omega) h.1
 have h2:(decText (q.den:Int)).length<=6:=zdf (by have:=q.den_pos;omega) h.2
 simp[h1,h2]
theorem zmT {q:Rat} (h:FracQ 6 q) (h0:0<q):badR q=false:=by
 unfold badR
 have h1:=zfF q
 rw[decide_eq_true h0] at h1
 have h2:=of_decide_eq_true h1
 rw[zfh h,decide_eq_false (by omega)];rfl
theorem zmU {q:Rat} (h:FracQ 6 q) (h0:0<=q):badW q=false:=by
 unfold badW
 have h2:¬sgnQ q<0:=by
  rcases Rat.le_iff_lt_or_eq.1 h0 with h3|h3
  ·have h1:=zfF q
   rw[decide_eq_true h3] at h1
   have:=of_decide_eq_true h1
   omega
  ·rw[<-h3];decide
 rw[zfh h,decide_eq_false h2];rfl
theorem zeE {n:Nat} {W W':Nat->Nat->Rat} (h:∀i j,i<n->j<n->W i j=W' i j):rowsV n W=rowsV n W':=by
 unfold rowsV
 refine List.map_congr_left fun j hj=>List.map_congr_left fun i hi=>?_
 rw[List.mem_range] at hj hi
 rw[h i j hi hj]
theorem zjf {n:Nat} {W W':Nat->Nat->Rat} (h:∀i j,i<n->j<n->W i j=W' i j):visV n W=visV n W':=by
 unfold visV;rw[zeE h]
def tR (n:Nat) (a b:Nat->Nat):List Rat:=(List.range n).map (rateT a b)
def tW (n:Nat) (c:Nat->Nat->Nat):List (List Rat):=(List.range n).map fun i=>(List.range n).map (wayT n c i)
theorem zc2 (n:Nat) (a b:Nat->Nat):(tR n a b).length=n:=by simp[tR]
theorem zd4 (n:Nat) (c:Nat->Nat->Nat):(tW n c).length=n:=by simp[tW]
theorem zd5 (n:Nat) (a b:Nat->Nat) (i:Nat) (hi:i<n):(tR n a b).getD i 0=rateT a b i:=by unfold tR;simp[List.getD,hi]
theorem zkf (n:Nat) (c:Nat->Nat->Nat) (i:Nat) (hi:i<n):(tW n c).getD i []=(List.range n).map (wayT n c i):=by unfold tW;simp[List.getD,hi]
theorem zbS (n:Nat) (c:Nat->Nat->Nat) (i j:Nat) (hi:i<n) (hj:j<n):ent (tW n c) i j=wayT n c i j:=by unfold ent;rw[zkf n c i hi];simp[List.getD,hj]
theorem zdk {f:Nat->Rat} {L:Nat}:∀k,(∀i,i<k->FitQ L (f i))->FitQ ((L+1)*k+1) (sumN f k)
 | 0,_=>zaT _
 | k+1,h=>by
  rw[sumN]
  have:=(zdk k (fun i hi=>h i (by omega))).addA (h k (by omega))
  exact this.more (by rw[Nat.mul_succ];omega)
theorem zet {q:Rat} {L:Nat} (h:FitQ L q):∀k,FitQ (L*k+1) (powN q k)
 | 0=>by
  have:powN q 0=1:=rfl
  rw[this];exact zcK (by omega)
 | k+1=>by
  rw[powN]
  exact((zet h k).mulA h).more (by rw[Nat.mul_succ];omega)
theorem FitQ.divA {a b:Nat} {p q:Rat} (hp:FitQ a p) (hq:FitQ b q) (h0:q≠0):FitQ (a+b+1) (p / q):=by
 rw[Rat.div_def]
 exact(hp.mulA (hq.inv h0)).more (by omega)
namespace zE
variable {n:Nat} {a b:Nat->Nat} {c:Nat->Nat->Nat}
theorem ringE (h:zE n a b c):zaa n (ent (tW n c)) where
 pos:=h.pos
 nn i j hi hj:=by rw[zbS n c i j hi hj];exact h.ring.nn i j hi hj
 one i hi:=by
  rw[<-h.ring.one i hi]
  exact zay n fun j hj=>zbS n c i j hi hj
 next i hi:=by rw[zbS n c i _ hi (Nat.mod_lt _ h.pos)];exact h.ring.next i hi
theorem rowsE (h:zE n a b c):rowsV n (ent (tW n c))=rowsV n (wayT n c):=zeE fun i j hi hj=>zbS n c i j hi hj
theorem visE (h:zE n a b c):visV n (ent (tW n c))=visV n (wayT n c):=zjf fun i j hi hj=>zbS n c i j hi hj
theorem shopOK (h:zE n a b c) (L:Nat) (hL:20<=L):zhh n L (tR n a b) (tW n c) where
 n1:=h.pos
 n8:=by have:=h.n6;omega
 rl:=zc2 n a b
 wl:=zd4 n c
 rows i hi:=by rw[zkf n c i hi];simp
 rok i hi:=by rw[zd5 n a b i hi];exact zmT (h.rate_small i) (h.rate_pos i)
 wok i j hi hj:=by rw[zbS n c i j hi hj];exact zmU (h.way_small i j hi hj) (h.ring.nn i j hi hj)
 fit i k hi hk:=by
  have h1:=zdk (f:=ent (tW n c) i) (L:=1) k (fun j hj=>by rw[zbS n c i j hi (by omega)];exact(h.way_small i j hi (by omega)).fit)
  have:=h.n6
  exact h1.more (by omega)
 one i hi:=h.ringE.one i hi
 all i hi o h0 hc x hx:=by
  have key:∀t,(i+t)%n∈o:=by
   intro t
   induction t with
   | zero=>rw[Nat.add_zero,Nat.mod_eq_of_lt hi];exact h0
   | succ t ih=>
    have h1:=Nat.mod_lt (i+t) h.pos
    have h2:=hc _ ih (((i+t)%n+1)%n) (Nat.mod_lt _ h.pos) (h.ringE.next _ h1)
    rwa[show ((i+t)%n+1)%n=(i+(t+1))%n by rw[Nat.mod_add_mod,Nat.add_assoc]] at h2
  have h1:=key (x+n-i)
  rwa[show i+(x+n-i)=x+n by omega,Nat.add_mod_right,Nat.mod_eq_of_lt hx] at h1
theorem rate_fit (h:zE n a b c) (i:Nat):FitQ 1 (rateT a b i):=(h.rate_small i).fit
theorem load_fit (h:zE n a b c) (i:Nat) (hi:i<n):FitQ 2 (load n a b c i):=by
 obtain⟨D,z,hd⟩:=h.loads
 have h1:=hd.d0
 have h2:=hd.d1
 have h3:=hd.lt i hi
 exact zhz (a:=(z i:Int)) (b:=(D:Int)) (by omega) (hd.eq i hi) (by omega) (by omega)
theorem vis_mul (h:zE n a b c) (i:Nat):(visV n (wayT n c)).getD i 0=load n a b c i*rateT a b i:=by
 have:=h.rate_pos i
 unfold load
 have h2:rateT a b i≠0:=by grind
 rw[Rat.div_mul_cancel h2]
theorem vis_fit (h:zE n a b c) (i:Nat) (hi:i<n):FitQ 3 ((visV n (wayT n c)).getD i 0):=by
 have h1:=(h.load_fit i hi).mulA (h.rate_fit i)
 have h2:=h1.more (show 2+1<=3 by omega)
 rw[<-h.vis_mul i] at h2
 exact h2
theorem openOK (h:zE n a b c) (L:Nat) (hL:20<=L) (hL2:L<=3000):zhi n L (tR n a b) (tW n c) where
 shop:=h.shopOK L hL
 ring:=h.ringE
 sys:=by rw[h.rowsE];exact h.sys
 L1:=by omega
 L2:=hL2
 r0 i hi:=by
  have:=h.rate_pos i
  rw[zd5 n a b i hi];grind
 fitV i hi:=by rw[h.visE];exact(h.vis_fit i hi).more (by omega)
 fitL i hi:=by
  rw[h.visE,zd5 n a b i hi]
  exact(h.load_fit i hi).more (by omega)
 fitW j i t hj ht:=by
  rw[zcn n _ j i t ht]
  have h0:FitQ 1 (if t=j then (1:Rat) else 0):=by
   split
   ·exact zcK (by omega)
   ·exact zaT _
  have h1:FitQ 1 (if t<i then ent (tW n c) t j else 0):=by
   split
   ·rw[zbS n c t j ht hj];exact(h.way_small t j ht hj).fit
   ·exact zaT _
  split
  ·exact h0.more (by omega)
  ·exact(h0.sub h1).more (by omega)
theorem g_fit (h:zE n a b c) (s k:Nat) (hs:s<=n) (hk:k<=12):FitQ 24 (gN (load n a b c) s k):=by
 obtain⟨D,z,hd⟩:=h.loads
 have h1:=zhy (l:=load n a b c) (z:=z) (D:=D) s (fun i hi=>hd.eq i (by omega)) k
 have h2:=zjA (z:=z) (B:=2^59) s (fun i hi=>Nat.le_of_lt (hd.lt i (by omega))) k
 have h6:=h.n6
 have h3:(s*2^59)^k<4294967296^24:=by
  have e1:(s*2^59)^k<=(2^62)^k:=Nat.pow_le_pow_left (by omega) k
  have e2:(2^62)^k<=(2^62)^12:=Nat.pow_le_pow_right (by omega) hk
  have e3:(2^62)^12<4294967296^24:=by decide
  omega
 have h4:D^k<=4294967296^24:=by
  have e1:D^k<=(2^59)^k:=Nat.pow_le_pow_left (by have:=hd.d1;omega) k
  have e2:(2^59)^k<=(2^59)^12:=Nat.pow_le_pow_right (by omega) hk
  have e3:(2^59)^12<4294967296^24:=by decide
  omega
 rw[zhx,<-Int.natCast_pow] at h1
 have h5:0<D^k:=Nat.pow_pos hd.d0
 exact zhz (a:=(gZ z s k:Int)) (b:=((D^k:Nat):Int)) (by omega) h1 (by omega) (by omega)
end zE
structure zS (s:Nat) (l:Nat->Rat):Prop where
 s0:0<s
 s8:s<=8
 pos:∀i,i<s->0<l i
 fitl:∀i,i<s->FitQ 2 (l i)
 fitg:∀t k,t<=s->k<=12->FitQ 24 (gN l t k)
theorem zE.ldOK {n:Nat} {a b:Nat->Nat} {c:Nat->Nat->Nat} (h:zE n a b c):zS n (zE.load n a b c):=
 ⟨h.pos,by have:=h.n6;omega,h.load_pos,h.load_fit,h.g_fit⟩
theorem zeP {l l':Nat->Rat}:∀(s:Nat),(∀i,i<s->l i=l' i)->∀k,gN l s k=gN l' s k
 | 0,_,0=>by rw[zaf,zaf]
 | 0,_,k+1=>by rw[zbw,zbw]
 | s+1,_,0=>by rw[zaf,zaf]
 | s+1,h,k+1=>by rw[zax,zax,zeP s (fun i hi=>h i (by omega)) (k+1),zeP (s+1) h k,h s (by omega)]
theorem zS.congr {s:Nat} {l l':Nat->Rat} (h:zS s l) (e:∀i,i<s->l' i=l i):zS s l':=
 ⟨h.s0,h.s8,fun i hi=>by rw[e i hi];exact h.pos i hi,fun i hi=>by rw[e i hi];exact h.fitl i hi,fun t k ht hk=>by rw[zeP t (fun i hi=>e i (by omega)) k];exact h.fitg t k ht hk⟩
theorem zE.loads_get {n:Nat} {a b:Nat->Nat} {c:Nat->Nat->Nat} (h:zE n a b c) (i:Nat) (hi:i<n):(loadsV (tR n a b) (visV n (ent (tW n c)))).getD i 0=zE.load n a b c i:=by
 rw[zdI _ _ _ (by rw[h.visE,zbE n _ h.pos];exact hi),h.visE,zd5 n a b i hi];rfl
theorem zE.loads_len {n:Nat} {a b:Nat->Nat} {c:Nat->Nat->Nat} (h:zE n a b c):(loadsV (tR n a b) (visV n (ent (tW n c)))).length=n:=by
 rw[zba,zbE n _ h.pos]
namespace zS
variable {s:Nat} {l:Nat->Rat}
theorem g_pos (h:zS s l) (k:Nat):0<gN l s k:=zkX s h.s0 h.pos k
theorem g_ne (h:zS s l) (k:Nat):gN l s k≠0:=by have:=h.g_pos k;grind
theorem p_fit (h:zS s l) (i k:Nat) (hi:i<s) (hk:k<=12):FitQ 25 (powN (l i) k):=(zet (h.fitl i hi) k).more (by omega)
theorem lg_fit (h:zS s l) (i t k:Nat) (hi:i<s) (ht:t<=s) (hk:k<=12):FitQ 26 (l i*gN l t k):=((h.fitl i hi).mulA (h.fitg t k ht hk)).more (by omega)
theorem pg_fit (h:zS s l) (i k m:Nat) (hi:i<s) (hk:k<=12) (hm:m<=12):FitQ 49 (powN (l i) k*gN l s m):=((h.p_fit i k hi hk).mulA (h.fitg s m (nr _) hm)).more (by omega)
end zS
def atQ (l:Nat->Rat) (s i:Nat) (k n:Int):Rat:=if k<1 then 1 else if n<k then 0 else powN (l i) k.toNat*gN l s (n-k).toNat / gN l s n.toNat
theorem zS.at_fit {s:Nat} {l:Nat->Rat} (h:zS s l) (i:Nat) (k n:Int) (hi:i<s) (hn:n<=12):FitQ 74 (atQ l s i k n):=by
 unfold atQ
 split
 ·exact zcK (by omega)
 ·split
  ·exact zaT _
  ·exact((h.pg_fit i k.toNat (n-k).toNat hi (by omega) (by omega)).divA (h.fitg s n.toNat (nr _) (by omega)) (h.g_ne _)).more (by omega)
set_option linter.unusedVariables false
set_option linter.unusedSimpArgs false
def IntE (w:World) (u:Value) (x:Int):Prop:=u=.int .i64 x/\-9223372036854775808<=x/\x<=9223372036854775807
def zaH (w:World) (v:Value) (xs:List Int):Prop:=∃T,zB T 1 IntE w v xs
theorem ziA:StB IntE:=fun w w' u x hb h=>h
theorem zeQ:StB zaH:=fun w w' u x hb h=>by obtain⟨T,h⟩:=h;exact⟨T,h.below ziA hb⟩
theorem zaH.below {w w':World} {v:Value} {xs:List Int} (h:zaH w v xs) (hb:Below w.heap.size w w'):zaH w' v xs:=zeQ _ _ _ _ hb h
theorem zaH.at_ {w:World} {v:Value} {xs:List Int} (h:zaH w v xs):∃A c,v=.slice A xs.length c/\xs.length<=c/\c<=maxLen/\(0<xs.length->∃b o,A=some ⟨b,o,none⟩/\∀i,i<xs.length->w.cell? ⟨b,o+i,none⟩=some (.int .i64 (xs.getD i 0))):=by
 obtain⟨T,A,c,rfl,h1,h2,h3⟩:=h
 refine⟨A,c,rfl,h1,h2,fun h0=>?_⟩
 obtain⟨b,o,rfl,-,hc⟩:=h3 h0
 refine⟨b,o,rfl,fun i hi=>?_⟩
 obtain⟨u,hs,hcu,rfl,-⟩:=hc i (xs.getD i 0) (by simp[List.getD,hi])
 have:=hcu 0 (by rw[hs];decide)
 rw[Nat.mul_one,Nat.add_zero] at this
 exact this
theorem zaH.range {w:World} {v:Value} {xs:List Int} (h:zaH w v xs) (i:Nat):-9223372036854775808<=xs.getD i 0/\xs.getD i 0<=9223372036854775807:=by
 obtain⟨T,A,c,rfl,h1,h2,h3⟩:=h
 by_cases hi:i<xs.length
 ·obtain⟨b,o,rfl,-,hc⟩:=h3 (by omega)
  obtain⟨u,hs,hcu,rfl,h⟩:=hc i (xs.getD i 0) (by simp[List.getD,hi])
  exact h
 ·simp[List.getD,show xs[i]?=none from List.getElem?_eq_none (by omega)]
def uQ (r:Int):Int:=IntKind.u64.wrap r
theorem zg8 (r:Int):0<=uQ r/\uQ r<18446744073709551616:=by unfold uQ;rw[IntKind.wrap_u64];omega
def rvI (rs:List Int) (i:Nat):Int:=if i<rs.length then rs.getD i 0 else 1
def aT (rs:List Int) (i:Nat):Nat:=1+(uQ (rvI rs i)%9).toNat
def bT (rs:List Int) (i:Nat):Nat:=1+(uQ (rvI rs i) / 9%3).toNat
def wT (ws:List (List Int)) (i j:Nat):Nat:=if j<(ws.getD i []).length then (uQ ((ws.getD i []).getD j 0)%4).toNat else 0
def cT (n:Nat) (ws:List (List Int)) (i j:Nat):Nat:=(if (i+1)%n=j then 1 else 0)+wT ws i j
theorem zjg (ws:List (List Int)) (i j:Nat):wT ws i j<=3:=by unfold wT;split <;> omega
theorem tameT (n:Nat) (rs:List Int) (ws:List (List Int)) (h0:0<n) (h6:n<=6):zE n (aT rs) (bT rs) (cT n ws) where
 pos:=h0
 n6:=h6
 ra i:=by unfold aT;omega
 rb i:=by unfold bT;omega
 cw i j _ _:=by have:=zjg ws i j;unfold cT;split <;> omega
 next i _:=by unfold cT;rw[if_pos rfl];omega
def wtsT (n:Nat) (ws:List (List Int)) (i k:Nat):List Int:=(List.range n).map fun j=>(((if (i+1)%n=j then 1 else 0)+(if j<k then wT ws i j else 0):Nat):Int)
def smT (ws:List (List Int)) (i k:Nat):Nat:=1+sumM (wT ws i) k
theorem zcd (n:Nat) (ws:List (List Int)) (i k:Nat):(wtsT n ws i k).length=n:=by simp[wtsT]
theorem zb5 (n:Nat) (ws:List (List Int)) (i k j:Nat) (hj:j<n):(wtsT n ws i k).getD j 0=(((if (i+1)%n=j then 1 else 0)+(if j<k then wT ws i j else 0):Nat):Int):=by unfold wtsT;simp[List.getD,hj]
theorem zf7 (l:List Int) (i j:Nat) (v:Int) (hi:i<l.length):(l.set i v).getD j 0=if i=j then v else l.getD j 0:=by
 simp only[List.getD,List.getElem?_set]
 by_cases e:i=j
 ·subst e;simp[hi]
 ·simp[e]
theorem zg9 {a b:List Int} (hl:a.length=b.length) (h:∀i,i<a.length->a.getD i 0=b.getD i 0):a=b:=by
 refine List.ext_getElem hl fun i h1 h2=>?_
 have:=h i h1
 simpa[List.getD,h1,h2] using this
theorem zkg (n:Nat) (ws:List (List Int)) (i:Nat) (h0:0<n):(List.replicate n (0:Int)).set ((i+1)%n) (0+1)=wtsT n ws i 0:=by
 have hm:=Nat.mod_lt (i+1) h0
 refine zg9 (by simp[wtsT]) fun j hj=>?_
 rw[List.length_set,List.length_replicate] at hj
 rw[zf7 _ _ _ _ (by rw[List.length_replicate];exact hm),zb5 n ws i 0 j hj]
 by_cases e:(i+1)%n=j
 ·rw[if_pos e,if_pos e,if_neg (by omega)];rfl
 ·rw[if_neg e,if_neg e,if_neg (by omega)];simp[List.getD,hj]
theorem zkh (n:Nat) (ws:List (List Int)) (i k:Nat) (hk:k<n):(wtsT n ws i k).set k ((wtsT n ws i k).getD k 0+(wT ws i k:Int))=wtsT n ws i (k+1):=by
 refine zg9 (by simp[wtsT]) fun j hj=>?_
 rw[List.length_set,zcd] at hj
 rw[zf7 _ _ _ _ (by rw[zcd];exact hk),zb5 n ws i k k hk,zb5 n ws i k j hj,zb5 n ws i (k+1) j hj]
 by_cases e:k=j
 ·subst e;rw[if_pos rfl,if_neg (Nat.lt_irrefl k),if_pos (show k<k+1 by omega)];omega
 ·rw[if_neg e]
  by_cases h:j<k
  ·rw[if_pos h,if_pos (show j<k+1 by omega)]
  ·rw[if_neg h,if_neg (show ¬j<k+1 by omega)]
theorem zlz (ws:List (List Int)) (i k:Nat):smT ws i (k+1)=smT ws i k+wT ws i k:=by unfold smT;rw[sumM];omega
theorem zki (n:Nat) (ws:List (List Int)) (i k:Nat) (h:n<=k\/(ws.getD i []).length<=k) (j:Nat) (hj:j<n):(wtsT n ws i k).getD j 0=(cT n ws i j:Int):=by
 rw[zb5 n ws i k j hj]
 unfold cT
 by_cases hjk:j<k
 ·rw[if_pos hjk]
 ·rw[if_neg hjk,show wT ws i j=0 by unfold wT;rw[if_neg (by omega)]]
theorem zha (f g:Nat->Nat):∀k,sumM (fun j=>f j+g j) k=sumM f k+sumM g k
 | 0=>rfl
 | k+1=>by rw[sumM,sumM,sumM,zha f g k];omega
theorem zhb (c:Nat):∀k,sumM (fun j=>if c=j then 1 else 0) k=if c<k then 1 else 0
 | 0=>by rw[if_neg (by omega)];rfl
 | k+1=>by
  rw[sumM,zhb c k]
  show (if c<k then 1 else 0)+(if c=k then 1 else 0)=_
  by_cases h:c<k
  ·rw[if_pos h,if_neg (by omega),if_pos (by omega)]
  ·by_cases e:c=k
   ·rw[if_neg h,if_pos e,if_pos (by omega)]
   ·rw[if_neg h,if_neg e,if_neg (by omega)]
theorem zhc (f:Nat->Nat) (k:Nat):∀d,(∀j,k<=j->f j=0)->sumM f (k+d)=sumM f k
 | 0,_=>rfl
 | d+1,h=>by rw[<-Nat.add_assoc,sumM,h (k+d) (by omega),zhc f k d h];rfl
theorem zlA (n:Nat) (ws:List (List Int)) (i k:Nat) (h0:0<n) (hk:k<=n) (h:n<=k\/(ws.getD i []).length<=k):smT ws i k=sumC n (cT n ws) i:=by
 unfold sumC
 have e:sumM (cT n ws i) n=sumM (fun j=>if (i+1)%n=j then 1 else 0) n+sumM (wT ws i) n:=zha _ _ n
 rw[e,zhb,if_pos (Nat.mod_lt _ h0)]
 unfold smT
 rcases h with h|h
 ·rw[show k=n by omega]
 ·obtain⟨d,rfl⟩:∃d,n=k+d:=⟨n-k,by omega⟩
  rw[zhc (wT ws i) k d (fun j hj=>by unfold wT;rw[if_neg (by omega)])]
theorem zmV (i:Nat) (a b:Nat->Nat):tR (i+1) a b=tR i a b++[rateT a b i]:=by unfold tR;rw[List.range_succ,List.map_append];rfl
def tWk (n:Nat) (c:Nat->Nat->Nat) (i:Nat):List (List Rat):=(List.range i).map fun r=>(List.range n).map (wayT n c r)
def tRow (n:Nat) (c:Nat->Nat->Nat) (i k:Nat):List Rat:=(List.range k).map (wayT n c i)
theorem zlB (n:Nat) (c:Nat->Nat->Nat) (i:Nat):tWk n c (i+1)=tWk n c i++[tRow n c i n]:=by unfold tWk;rw[List.range_succ,List.map_append];rfl
theorem zkj (n:Nat) (c:Nat->Nat->Nat) (i k:Nat):tRow n c i (k+1)=tRow n c i k++[wayT n c i k]:=by unfold tRow;rw[List.range_succ,List.map_append];rfl
theorem zh9 (n:Nat) (c:Nat->Nat->Nat) (i k:Nat):(tRow n c i k).length=k:=by simp[tRow]
theorem zjh (n:Nat) (c:Nat->Nat->Nat) (i:Nat):(tWk n c i).length=i:=by simp[tWk]
def QRowA (gv:Option Nat) (w:World) (u:Value) (qs:List Rat):Prop:=QRowE 3 w u qs/\∀g,u.ownBlock=some g->Typed w g 55/\gv≠some g
theorem z8 (gv:Option Nat):StB (QRowA gv):=fun w w' u x hb h=>⟨zaB 3 _ _ _ _ hb h.1,fun g hg=>⟨(h.2 g hg).1.same (hb.block g (h.2 g hg).1.lt),(h.2 g hg).2⟩⟩
theorem zcj {T:TypeId} (gv:Option Nat) (hT:3≠T) (hT2:55≠T):StK T (QRowA gv):=fun w w' u x hk h=>⟨zcT 3 hT hT2 _ _ _ _ hk h.1,fun g hg=>⟨(h.2 g hg).1.same (hk.typed (h.2 g hg).1 hT2),(h.2 g hg).2⟩⟩
theorem zdH {W w8:World} {v:Value} {g8:Nat} (hg:zja W w8 55 v g8) (u:Value) (x:List Rat) (h:QRowA v.ownBlock W u x):QRowA (some g8) w8 u x:=by
 have key:∀g,u.ownBlock=some g->w8.heap[g]?=W.heap[g]?:=fun g hu=>hg.by_.block g (h.2 g hu).1.lt (fun e=>(h.2 g hu).2 e.symm)
 refine⟨h.1.same (fun u x h=>zam 3 (by decide) _ _ _ _ hg.kp h) (fun b o n c e _=>key b (by rw[e];rfl)),fun g hu=>⟨(h.2 g hu).1.same (key g hu),fun e=>?_⟩⟩
 injection e with e
 rcases hg.new with h1|h1
 ·exact(h.2 g hu).2 (by rw[h1,e])
 ·have:=(h.2 g hu).1.lt;omega
open Go.RowKit Go.ChangeShapes Go.WideShapes
theorem zia {w:World} {a:Addr} {v:Value} (h:w.cell? a=some v):a.spot=none/\∃T,Typed w a.block T:=by
 unfold World.cell? at h
 split at h
 ·rename_i c e f hb
  split at h
  ·cases h
  ·rename_i hs
   exact⟨by simpa using hs,e,c,f,hb⟩
 ·cases h
theorem zfi {a:Addr} (h:a.spot=none) (i:Nat):a.add i=⟨a.block,a.off+i,none⟩:=by
 obtain⟨b,o,s⟩:=a
 simp only at h
 subst h
 unfold Addr.add
 split <;> simp_all
section
variable {H:Type} {enc:TypeId×Value->H} {P:Program} {w:World} {base:Nat} {spare:Nat->Bool} {held:Bool}
theorem zfj {α:Type} [Inhabited α] {R:World->Value->α->Prop} {t e:TypeId} {fuel:Nat} {cs:List Value} {x:DataW H×List MemPlace} (ht:P.underlying t=some (.slice e)) (hc:P.cellsOf e=1)
  (hR:∀(v:Value) n y,DataW.trod enc P w base spare held n e [v]=some y->v.cells=#[v]/\∃z,R w v z)
  (h:DataW.trod enc P w base spare held fuel t cs=some x):∃v T ls,cs=[v]/\zB T 1 R w v ls:=by
 rcases Deep.open_slice1 ht hc h with ⟨hcs,hx⟩|⟨a,len,cap,m,n,V,D,Pl,hcs,hb,hl,hm,hz,rfl,hrow⟩
 ·exact⟨_,0,[],hcs,zB.nil _ _ _ _⟩
 ·have hlen:len<=m:=by rw[hz];split <;> omega
  have each:∀i,i<len->∃z,R w (V i) z:=fun i hi=>(hR _ _ _ (hrow i (by omega)).2).2
  obtain⟨S,hS⟩:=Deep.choose_lt each
  by_cases h0:len=0
  ·refine⟨_,0,[],hcs,_,_,by rw[h0];rfl,Nat.zero_le _,hm,fun hx=>by simp at hx⟩
  ·have hc0:=(hrow 0 (by omega)).1
   obtain⟨hsp,T,ht0⟩:=zia hc0
   have hsp':a.spot=none:=by
    obtain⟨b,o,s⟩:=a
    unfold Addr.add at hsp
    split at hsp <;> simp_all
   have hblk:(a.add 0).block=a.block:=by rw[zfi hsp']
   rw[hblk] at ht0
   have hll:((List.range len).map S).length=len:=by simp
   refine⟨_,T,(List.range len).map S,hcs,some a,cap,by rw[hll],by rw[hll];exact hl,hm,fun _=>⟨a.block,a.off,by obtain⟨b,o,s⟩:=a;simp only at hsp';rw[hsp'],ht0,fun i s hi=>?_⟩⟩
   have hil:i<len:=by have:=(List.getElem?_eq_some_iff.1 hi).1;simpa using this
   have hc1:=(hrow i (by omega)).1
   rw[zfi hsp'] at hc1
   have hs:S i=s:=by
    simp[hil] at hi
    exact hi
   have hSi:=hS i hil
   rw[hs] at hSi
   have hv:=(hR _ _ _ (hrow i (by omega)).2).1
   refine⟨V i,by rw[hv];rfl,fun j hj=>?_,hSi⟩
   have:j=0:=by rw[hv] at hj;simpa using hj
   subst this
   rw[Nat.mul_one,Nat.add_zero,hc1,hv]
   rfl
theorem zfk {t e:TypeId} {fuel:Nat} {cs:List Value} {x:DataW H×List MemPlace} (ht:P.underlying t=some (.slice e)) (he:P.underlying e=some (.int .i64)) (hc:P.cellsOf e=1)
  (h:DataW.trod enc P w base spare held fuel t cs=some x):∃v xs,cs=[v]/\zaH w v xs:=by
 obtain⟨v,T,ls,h1,h2⟩:=zfj (R:=IntE) ht hc (fun v n y hy=>by
  obtain⟨a,ea,-,wa⟩:=DataW.trod_int he hy
  injection ea with ea
  subst ea
  obtain⟨l,u⟩:=bounds_i64 wa
  exact⟨rfl,a,rfl,l,u⟩) h
 exact⟨v,ls,h1,T,h2⟩
theorem zib {t u e:TypeId} {fuel:Nat} {cs:List Value} {x:DataW H×List MemPlace} (ht:P.underlying t=some (.slice u)) (hu:P.underlying u=some (.slice e)) (he:P.underlying e=some (.int .i64)) (hcu:P.cellsOf u=1) (hc:P.cellsOf e=1)
  (h:DataW.trod enc P w base spare held fuel t cs=some x):∃v T ls,cs=[v]/\zB T 1 zaH w v ls:=
 zfj (R:=zaH) ht hcu (fun v n y hy=>by
  obtain⟨v',xs,hv,hx⟩:=zfk hu he hc hy
  injection hv with hv
  subst hv
  refine⟨?_,xs,hx⟩
  obtain⟨T,A,c,rfl,-⟩:=hx
  rfl) h
end
def I64 (x:Int):Prop:=-9223372036854775808<=x/\x<=9223372036854775807
theorem zeu (x:Int):I64 (IntKind.i64.wrap x):=by
 rw[IntWalk.i64_left];unfold I64 wrap64;constructor <;> omega
section
variable {H:Type} {enc:TypeId×Value->H} {P:Program} {w:World} {base:Nat} {spare:Nat->Bool} {held:Bool}
theorem zji {t e:TypeId} {r:Reach} {b0:Nat} {v:Value} {d:DataW H} {ps:List MemPlace} (hu:P.underlying t=some (.array 3 e)) (he:P.underlying e=some (.int .i64)) (hc:P.cellsOf e=1) (hct:P.cellsOf t=3)
  (hval:Value.okWide P w r b0 t v) (hd:DataW.Trod enc P w base spare held t v d ps):∃a0 a1 a2,v=.agg #[.int .i64 a0,.int .i64 a1,.int .i64 a2]/\I64 a0/\I64 a1/\I64 a2:=by
 simp only[Value.okWide,hu] at hval
 obtain⟨cs,rfl,hsz,-⟩:=hval
 rw[hct] at hsz
 obtain⟨fuel,hf⟩:=hd
 obtain⟨c0,c1,c2,rfl⟩:∃c0 c1 c2,cs=#[c0,c1,c2]:=by
  obtain⟨l⟩:=cs
  match l,hsz with
  | [a,b,c],_=>exact⟨a,b,c,rfl⟩
 cases fuel with
 | zero=>simp[DataW.trod] at hf
 | succ m=>
  rw[DataW.trod_step] at hf
  unfold DataW.trodStep at hf
  simp only[hu,Value.cells] at hf
  rw[if_pos (by rw[hct];rfl)] at hf
  simp only[Option.map_eq_some_iff] at hf
  obtain⟨ys,hy,-⟩:=hf
  rw[show List.range 3=[0,1,2] from rfl,hc] at hy
  simp only[List.mapM_cons,List.mapM_nil,bind,Option.bind_eq_some_iff,pure,Option.some.injEq,Nat.mul_one,List.drop_zero,List.drop_succ_cons,List.take_succ_cons,List.take_zero] at hy
  obtain⟨y0,h0,_,⟨y1,h1,_,⟨y2,h2,-⟩,-⟩,-⟩:=hy
  obtain⟨a0,e0,-,b0⟩:=DataW.trod_int he h0
  obtain⟨a1,e1,-,b1⟩:=DataW.trod_int he h1
  obtain⟨a2,e2,-,b2⟩:=DataW.trod_int he h2
  injection e0 with e0
  injection e1 with e1
  injection e2 with e2
  exact⟨a0,a1,a2,by rw[e0,e1,e2],bounds_i64 b0,bounds_i64 b1,bounds_i64 b2⟩
end
end Go.Proofs.YtpoahodnakhmiaaGreat
