import Derived.Test.YtpoahodnakhmiaaGreatSolveR
import Derived.Test.YtpoahodnakhmiaaGreatEnum
set_option maxRecDepth 100000
namespace Go.Proofs.YtpoahodnakhmiaaGreat
set_option linter.unusedVariables false
set_option linter.unusedSimpArgs false
open Go.RowKit
theorem zjB (w:World) (B:Nat) (a b c d:Value):w.grownBy ((((w.setCell ⟨B,0,none⟩ a).setCell ⟨B,1,none⟩ b).setCell ⟨B,2,none⟩ c).setCell ⟨B,3,none⟩ d) (some B):=
 zN (zN (zN (zp w B 0 _) (zp _ B 1 _)) (zp _ B 2 _)) (zp _ B 3 _)
theorem OwnG.put4b {w:World} {base B:Nat} {v:Value} {qs:List Rat} {cs:Array Value} {a b c d:Value} (h:OwnG 55 4 (QE 3) w base v qs) (hB:w.heap[B]?=some (.cells cs 55 (0,0))) (hne:v.ownBlock≠some B):
  OwnG 55 4 (QE 3) ((((w.setCell ⟨B,0,none⟩ a).setCell ⟨B,1,none⟩ b).setCell ⟨B,2,none⟩ c).setCell ⟨B,3,none⟩ d) base v qs:=by
 have hg:=zjB w B a b c d
 have hk:Kp 55 w ((((w.setCell ⟨B,0,none⟩ a).setCell ⟨B,1,none⟩ b).setCell ⟨B,2,none⟩ c).setCell ⟨B,3,none⟩ d):=fun b' hb hn=>hg.block b' hb (by intro e;injection e with e;exact hn (by rw[e];exact⟨_,_,hB⟩))
 exact h.same (fun u x hu=>zap 3 (by decide) _ _ _ _ hk hu) (fun g hg'=>hg.block g (h.lt g hg').2.1 (fun e=>hne (by rw[hg',e])))
theorem upV {w:World} {v:Value} {qs:List Rat} (h:QRowE 3 w v qs):QRowE 1423 w v qs:=zx.imp h fun u x _ hr=>QV.more (show QV w u x 3 from hr) (by omega)
def colE (W:Nat->Nat->Rat) (j i:Nat):Rat:=if i=j then W i j-1 else W i j
def colR (n:Nat) (W:Nat->Nat->Rat) (j:Nat):List Rat:=(List.range n).map (colE W j)
theorem zew (n:Nat) (W:Nat->Nat->Rat) (j:Nat):(colR n W j).length=n:=by simp[colR]
theorem colR_step (n:Nat) (W:Nat->Nat->Rat) (j i:Nat) (hi:i<n):(colR n W j).take (i+1)=(colR n W j).take i++[colE W j i]:=zbV (by simp[colR,hi])
def oneR (n:Nat):List Rat:=(List.range n).map fun i=>if i=0 then (1:Rat) else 0
theorem zgm (n i:Nat) (hi:i<n):(oneR n).take (i+1)=(oneR n).take i++[if i=0 then (1:Rat) else 0]:=zbV (by simp[oneR,hi])
theorem refV_step (n:Nat) (W:Nat->Nat->Rat) (j:Nat) (hj:j<n):(refV n W).take (j+1)=(refV n W).take j++[colR n W j]:=zbV (by
 unfold refV;rw[List.getElem?_append_left (by simpa using hj)];simp[hj,colR];intro a _;rfl)
theorem zld (n:Nat) (W:Nat->Nat->Rat):(refV n W).take n++[oneR n]=refV n W:=by
 unfold refV;rw[List.take_append_of_le_length (by simp),List.take_of_length_le (by simp)];rfl
set_option maxHeartbeats 8000000 in
theorem zmf (w:World) (v:Value) (R:List Rat) (Ws:List (List Rat)) (m:Nat) (hv:za2 w v R Ws 3) (hR:R.length=m) (hW:Ws.length=m) (hrow:∀i,i<m->(Ws.getD i []).length=m) (hr:zab m (ent Ws)) (hm5:m<=5) (hp:Sys m (rowsV m (ent Ws)) (bsV m)) (hf:∀i j,i<m->j<m->FracQ 12 (ent Ws i j)/\FracQ 12 (ent Ws i j-1)):
  Calls Tryz.prog 42 #[v] w (Ret (fun u w'=>QRowE 1423 w' u (visV m (ent Ws))/\Below w.heap.size w w')):=by
 have hm0:=hr.pos
 obtain⟨va,vb,rfl,hra,hwb⟩:=hv
 obtain⟨Ar,cr,rfl,hcr,hmr,-⟩:=id hra
 obtain⟨Aw,cw,rfl,hcw,hmw,-⟩:=id hwb
 unfold maxLen at hmr hmw
 have hsysr:=zme (n:=m) (W:=ent Ws) hm5 hm0 (fun i j hi hj=>hf i j hi hj)
 have HP:=hide (hr.ref_vis hp hsysr)
 have HSY:=hide hsysr
 have HF:=hide hf
 have HRW:=hide (ai hW hrow)
 rw[hR] at hcr ⊢
 rw[hW] at hcw ⊢
 rw[hW] at hwb
 obtain⟨W,hWW⟩:∃W,W=w.alloc (.cells #[.slice Ar m cr,.slice Aw m cw] 28):=⟨_,rfl⟩
 have hb0:Below w.heap.size w W:=by rw[hWW];exact za (blr _ _) _
 have hsb:W.heap[w.heap.size]?=some (.cells #[.slice Ar m cr,.slice Aw m cw] 28 (0,0)):=by rw[hWW];exact zj _ _
 have H0:=hide (ai hb0 (ai hsb (hwb.below (zaD 3) hb0)))
 have HL:=hide hWW
 obtain⟨x0,x1,-,-⟩:=ze hsb
 have hlx:=lt_of_block hsb
 clear hb0 hsb hWW hra hwb hsysr hf hR hW hrow hp hr
 go_enter Tryz.func42,Tryz.ntmps42
 go_upto_region 1 with fail
 rw[<-HL.out]
 clear HL
 go_wp2_with fail
 clear x0 x1 hlx
 go_loopw [4,5,6,7,8,9] (fun s4 s5 s6 s7 s8 s9 wr=>∃j:Nat,j<=m/\s6=.int .i64 j/\OwnG 25 1 (QRowA s5.ownBlock) wr W.heap.size s4 ((refV m (ent Ws)).take j)/\OwnG 55 4 (QE 3) wr W.heap.size s5 (List.replicate j 0)/\Below W.heap.size W wr) (fun _ _ s6 _ _ _ _=>m-(intOf s6).toNat)
 case atStart=>exact⟨0,Nat.zero_le _,rfl,OwnG.nil _ _ _ _ _,OwnG.nil _ _ _ _ _,blr _ _⟩
 case round=>
  obtain⟨j,hj,rfl,hrows,hbs,hbel⟩:=hrel
  obtain⟨wo,hwo⟩:∃wo,wo=wr:=⟨_,rfl⟩
  subst hwo
  have hwW:=hbel.size
  obtain⟨A8,c8,rfl,hc8,hm8⟩:=hrows.len
  obtain⟨A9,c9,rfl,hc9,hm9⟩:=hbs.len
  have hl8:((refV m (ent Ws)).take j).length=j:=by rw[List.length_take,zaO];omega
  rw[hl8] at hrows hc8 ⊢
  rw[List.length_replicate] at hrows hbs hc9 ⊢
  unfold maxLen at hm8 hm9
  have HO:=hide (ai hrows (ai hbs (ai hbel hl8)))
  clear hrows hbs hbel hl8
  by_cases hjm:j<m
  ·have i1:(j:Int)<(m:Int):=by omega
   go_wp2_with fail
   go_loopw [7,8,9] (fun s7 s8 s9 wr=>∃i:Nat,i<=m/\s8=.int .i64 i/\OwnG 55 4 (QE 3) wr wo.heap.size s7 ((colR m (ent Ws) j).take i)/\Below wo.heap.size wo wr) (fun _ s8 _ _=>m-(intOf s8).toNat)
   case atStart=>exact⟨0,Nat.zero_le _,rfl,OwnG.nil _ _ _ _ _,blr _ _⟩
   case round=>
    obtain⟨i,hi,rfl,hown,hbel⟩:=hrel
    obtain⟨Ax,cx,rfl,hcx,hmx⟩:=hown.len
    have hlk:((colR m (ent Ws) j).take i).length=i:=by rw[List.length_take,zew];omega
    rw[hlk] at hown hcx ⊢
    have HLK:=hide hlk
    unfold maxLen at hmx
    have hwr:=hbel.size
    have hbW:=HO.out.2.2.1.trans (hbel.mono hwW)
    by_cases hkn:i<m
    ·have i2:(i:Int)<(m:Int):=by omega
     have hsb:=at_later H0.out.2.1 hbW
     obtain⟨y0,y1,-,-⟩:=ze hsb
     have hly:=lt_of_block hsb
     obtain⟨-,-,-,hat⟩:=zx.row_at (H0.out.2.2.below (zaD 3) hbW)
     obtain⟨b,o,e,hat2⟩:=hat (by rw[HRW.out.1];exact hm0)
     obtain rfl:=e
     obtain⟨A1,c1,hcell,hrw⟩:=hat2 i (by rw[HRW.out.1];exact hkn)
     rw[HRW.out.2 i hkn] at hcell hrw
     obtain⟨-,-,-,hatq⟩:=zx.q_at hrw
     obtain⟨b2,o2,e,hatq2⟩:=hatq (by rw[HRW.out.2 i hkn];exact hm0)
     obtain rfl:=e
     obtain⟨s3,A3,n3,c3,B3,m3,d3,z0,z1,z2,z3,hq3⟩:=hatq2 j (by rw[HRW.out.2 i hkn];exact hjm)
     have hlb:=zf hcell
     have hlz:=zf z0
     replace hq3:QV wr (.agg #[.bool s3,.slice A3 n3 c3,.bool false,.slice B3 m3 d3]) (ent Ws i j) 3:=hq3
     have HO8:=hide (ai hown hbel)
     obtain⟨W9,hW9⟩:∃W9,W9=wr.alloc (.cells #[.bool s3,.slice A3 n3 c3,.bool false,.slice B3 m3 d3] 55):=⟨_,rfl⟩
     have hb9:Below wr.heap.size wr W9:=by rw[hW9];exact za (blr _ _) _
     have hk9:W9.heap[wr.heap.size]?=some (.cells #[.bool s3,.slice A3 n3 c3,.bool false,.slice B3 m3 d3] 55 (0,0)):=by rw[hW9];exact zj _ _
     have HX9:=hide (ai hk9 (hq3.below hb9))
     have HO9:=hide (ai (hown.below (zai 3) hb9) (ai (hq3.below hb9) (hbel.trans (hb9.mono hwr))))
     have HL9:=hide hW9
     clear hsb hat hat2 hatq hatq2 hrw hq3 hown hbel hb9 hk9 hW9 hlk hbW
     go_upto_region 12 with fail
     rw[<-HL9.out]
     clear HL9 y0 y1 hly hcell z0 z1 z2 z3 hlb hlz
     by_cases hij:i=j
     ·subst hij
      have i3:((i:Int) == (i:Int))=true:=beq_self_eq_true _
      have hS:∀w',Below W9.heap.size W9 w'->(w'.cell? ⟨wr.heap.size,0,none⟩=some (.bool s3)/\w'.cell? ⟨wr.heap.size,1,none⟩=some (.slice A3 n3 c3)/\w'.cell? ⟨wr.heap.size,2,none⟩=some (.bool false)/\w'.cell? ⟨wr.heap.size,3,none⟩=some (.slice B3 m3 d3)):=fun w' h=>zas (at_later HX9.out.1 h)
      have hdr:Below W9.heap.size W9 W9.drew:=(blr _ _).drew
      have HSS:=hide hS
      clear hS
      go_upto_region 13 with fail
      refine zv (fun w'=>(w'.cell? ⟨wr.heap.size,0,none⟩=some (.bool s3)/\w'.cell? ⟨wr.heap.size,1,none⟩=some (.slice A3 n3 c3)/\w'.cell? ⟨wr.heap.size,2,none⟩=some (.bool false)/\w'.cell? ⟨wr.heap.size,3,none⟩=some (.slice B3 m3 d3))) [0,1,2] (by kernel_rfl) (HSS.out _ hdr) (fun hh=>?_)
      refine tt 0 hh 38 ?_
      try simp only[Act.put,ptA,ptB,ptC]
      refine zb (rs:=[1]) (by kernel_rfl) (by simp) ?_
      refine mem1 ?_
      refine zd rfl (fun K hK=>?_)
      go_simp
      go_at_call 59
      refine(za4 _ 1 1 (by omega) (by omega) (by omega) (by omega) (by omega)).mono ?_
      rintro e w1 ⟨u1,rfl,hu1,hd⟩
      rw[show Rat.divInt 1 1=(1:Rat) from Rat.num_divInt_den 1] at hu1
      obtain⟨s1,A1,n1,c1,B1,m1,d1,rfl,-⟩:=hu1.parts
      have H1:=hide hu1
      clear hu1
      have hg1:Below W9.heap.size W9 w1:=hdr.trans (hd.mono hdr.size)
      clear hd
      go_wp2_with fail
      refine hK.out _ _ (HSS.out _ hg1) (fun hh=>?_)
      clear hK K
      try simp only[Act.put,ptA,ptB,ptC]
      refine zb (rs:=[2]) (by kernel_rfl) (by simp) ?_
      refine mem1 ?_
      refine zd rfl (fun K hK=>?_)
      go_simp
      go_at_call 53
      refine(zhm _ _ _ (ent Ws i i) 1 3 (HX9.out.2.below hg1) H1.out (by omega)).mono ?_
      rintro e w2 ⟨u2,rfl,hu2,hd⟩
      replace hu2:QV w2 u2 (ent Ws i i-1) 3:=(hu2.fit (HF.out i i hkn hkn).2).more (by omega)
      obtain⟨s2,A2,n2,c2,B2,m2,d2,rfl,-⟩:=hu2.parts
      have HN:=hide hu2
      clear hu2 H1
      have hg2:Below W9.heap.size W9 w2:=hg1.trans (hd.mono hg1.size)
      clear hd
      go_wp2_with fail
      refine hK.out _ _ (HSS.out _ hg2) (fun hh=>?_)
      clear hK K
      try simp only[Act.put,ptA,ptB,ptC]
      refine zQ (k:=3) (by rfl) (by rfl) (by kernel_rfl) ?_
      simp only[List.drop_succ_cons,List.drop_zero]
      clear hh
      have hh9:=at_later HX9.out.1 hg2
      obtain⟨x0,x1,x2,x3,xf0,xf1,xf2,xf3⟩:=zq hh9
      have lx:=lt_of_block hh9
      go_upto_region 14 with fail
      obtain⟨w9,hw9⟩:∃w9,w9=((((w2.setCell ⟨wr.heap.size,0,none⟩ (.bool s2)).setCell ⟨wr.heap.size,1,none⟩ (.slice A2 n2 c2)).setCell ⟨wr.heap.size,2,none⟩ (.bool false)).setCell ⟨wr.heap.size,3,none⟩ (.slice B2 m2 d2)):=⟨_,rfl⟩
      have hq9:QV w9 (.agg #[.bool s2,.slice A2 n2 c2,.bool false,.slice B2 m2 d2]) (ent Ws i i-1) 3:=by rw[hw9];exact HN.out.put4 hh9 (by decide)
      have hk9:w9.heap[wr.heap.size]?=some (.cells #[.bool s2,.slice A2 n2 c2,.bool false,.slice B2 m2 d2] 55 (0,0)):=by rw[hw9];exact zk1 hh9
      have hown9:OwnG 55 4 (QE 3) w9 wo.heap.size (.slice Ax i cx) ((colR m (ent Ws) i).take i):=by
       rw[hw9];exact(HO9.out.1.below (zai 3) (hg2)).put4b hh9 (fun e=>by have:=(HO8.out.1.lt wr.heap.size e).2.1;omega)
      have hbl9:Below wo.heap.size wo w9:=by
       rw[hw9];exact zaa (HO9.out.2.2.trans (hg2.mono HO9.out.2.2.size)) HO8.out.2.size
      replace HO9:=hide (ai hown9 (ai (show QV w9 (.agg #[.bool s2,.slice A2 n2 c2,.bool false,.slice B2 m2 d2]) (colE (ent Ws) i i) 3 by unfold colE;rw[if_pos rfl];exact hq9) hbl9))
      rw[<-hw9]
      clear x0 x1 x2 x3 xf0 xf1 xf2 xf3 lx hh9 hw9 hq9 hown9 hbl9
      obtain⟨x0,x1,x2,x3,xf0,xf1,xf2,xf3⟩:=zq hk9
      have lx:=lt_of_block hk9
      clear hk9 HN HX9 HO8
      go_wp2_with (at_builtin;refine appG Tryz.qE (zap 3 (by decide)) _ rfl _ _ rfl wo.heap.size _ ((colR m (ent Ws) i).take i) (colE (ent Ws) i i) rfl (OwnG.below (zai 3) HO9.out.1 (za (blr _ _) _)) ⟨w9.heap.size,0,none⟩ _ rfl (.agg #[.bool s2,.slice A2 n2 c2,.bool false,.slice B2 m2 d2]) (QV.below HO9.out.2.1 (za (blr _ _) _)) rfl (zan _ _ _ _ _ _ rfl) (zbI _ _ _ _ _ _ _ _) (by rw[HLK.out];omega) (by simp;omega) ?_;intro g7 c7 w7 hown7 hb7 hg7;rw[HLK.out];rw[HLK.out] at hown7;rw[<-colR_step m (ent Ws) i i hkn] at hown7;have H7:=hide (ai hown7 ((HO9.out.2.2.trans ((za (blr _ _) _).mono HO9.out.2.2.size)).trans hb7));clear hown7 hb7 hg7)
      case roundEnd=>exact⟨⟨i+1,by omega,by go_num,H7.out.1,H7.out.2⟩,by simp[intOf];omega⟩
     ·have i3:((i:Int) == (j:Int))=false:=by rw[beq_eq_false_iff_ne];omega
      obtain⟨x0,x1,x2,x3,xf0,xf1,xf2,xf3⟩:=zq HX9.out.1
      have lx:=lt_of_block HX9.out.1
      obtain⟨w9,hw9⟩:∃w9,w9=W9:=⟨_,rfl⟩
      subst hw9
      replace HO9:=hide (ai HO9.out.1 (ai (show QV w9 (.agg #[.bool s3,.slice A3 n3 c3,.bool false,.slice B3 m3 d3]) (colE (ent Ws) j i) 3 by unfold colE;rw[if_neg hij];exact HO9.out.2.1) HO9.out.2.2))
      clear HX9 HO8
      go_wp2_with (at_builtin;refine appG Tryz.qE (zap 3 (by decide)) _ rfl _ _ rfl wo.heap.size _ ((colR m (ent Ws) j).take i) (colE (ent Ws) j i) rfl (OwnG.below (zai 3) HO9.out.1 (za (blr _ _) _)) ⟨w9.heap.size,0,none⟩ _ rfl (.agg #[.bool s3,.slice A3 n3 c3,.bool false,.slice B3 m3 d3]) (QV.below HO9.out.2.1 (za (blr _ _) _)) rfl (zan _ _ _ _ _ _ rfl) (zbI _ _ _ _ _ _ _ _) (by rw[HLK.out];omega) (by simp;omega) ?_;intro g7 c7 w7 hown7 hb7 hg7;rw[HLK.out];rw[HLK.out] at hown7;rw[<-colR_step m (ent Ws) j i hkn] at hown7;have H7:=hide (ai hown7 ((HO9.out.2.2.trans ((za (blr _ _) _).mono HO9.out.2.2.size)).trans hb7));clear hown7 hb7 hg7)
      case roundEnd=>exact⟨⟨i+1,by omega,by go_num,H7.out.1,H7.out.2⟩,by simp[intOf];omega⟩
    ·have him:i=m:=by omega
     have i2:¬(i:Int)<(m:Int):=by omega
     have hfull:(colR m (ent Ws) j).take i=colR m (ent Ws) j:=List.take_of_length_le (by rw[zew];omega)
     rw[hfull] at hown
     have hrowA:QRowA (Value.slice A9 j c9).ownBlock wr (.slice Ax i cx) (colR m (ent Ws) j):=⟨hown.lst,fun g hg=>⟨(hown.lt g hg).2.2,fun e=>by have h1:=(HO.out.2.1.lt g e).2.1;have h2:=(hown.lt g hg).1;omega⟩⟩
     have HB:=hide (ai (HO.out.1.below (z8 _) hbel) (ai (HO.out.2.1.below (zai 3) hbel) (ai hrowA hbW)))
     have HL8:=hide HO.out.2.2.2
     have HIM:=hide him
     clear him
     clear hown hrowA hbel hfull HLK hlk hbW HO
     go_wp2_with (at_builtin;refine appG Tryz.qrowE (zci _ (by decide) (by decide)) _ rfl _ _ rfl W.heap.size _ ((refV m (ent Ws)).take j) (colR m (ent Ws) j) rfl (OwnG.below (z8 _) HB.out.1 (za (blr _ _) _)) ⟨wr.heap.size,0,none⟩ _ rfl (.slice Ax i cx) (z8 _ _ _ _ _ (za (blr _ _) _) HB.out.2.2.1) rfl (zaH _ _ rfl _ rfl) (fun c hc=>(by simp[Value.cells] at hc;rw[hc];rfl)) (by rw[HL8.out];omega) (by simp;omega) ?_;intro g7 c7 w7 hown7 hb7 hg7;rw[HL8.out];rw[HL8.out] at hown7;rw[<-refV_step m (ent Ws) j hjm] at hown7;have hba:=za (blr wr.heap.size wr) (.cells #[.slice Ax i cx] 25);have hbb7:=OwnG.kp (zap 3 (by decide)) (OwnG.below (zai 3) HB.out.2.1 hba) (by decide) hg7.kp;have hbl7:=(HB.out.2.2.2.trans (hba.mono HB.out.2.2.2.size)).trans hb7;have H7:=hide (ai hown7 (ai hbb7 hbl7));clear hown7 hb7 hg7 hba hbb7 hbl7)
     refine(za4 _ 0 1 (by omega) (by omega) (by omega) (by omega) (by omega)).mono ?_
     rintro e w5 ⟨_,rfl,hq5,hd5⟩
     rw[show Rat.divInt 0 1=(0:Rat) from rfl] at hq5
     obtain⟨s5,A5,n5,c5,B5,m5,d5,rfl,-⟩:=hq5.parts
     have H5:=hide (ai (H7.out.1.below (z8 _) hd5) (ai (H7.out.2.1.below (zai 3) hd5) (ai (hq5.more (show 3<=3 by omega)) (bnx H7.out.2.2 hd5))))
     have hs5:=(bnx H7.out.2.2 hd5).size
     clear hq5 hd5 H7
     go_wp2_with (at_builtin;refine appG Tryz.qE (zap 3 (by decide)) _ rfl _ _ rfl W.heap.size _ (List.replicate j 0) (0) rfl (OwnG.below (zai 3) H5.out.2.1 (za (blr _ _) _)) ⟨w5.heap.size,0,none⟩ _ rfl (.agg #[.bool s5,.slice A5 n5 c5,.bool false,.slice B5 m5 d5]) (QV.below H5.out.2.2.1 (za (blr _ _) _)) rfl (zan _ _ _ _ _ _ rfl) (zbI _ _ _ _ _ _ _ _) (by rw[List.length_replicate];omega) (by simp;omega) ?_;intro g8 c8 w8 hown8 hb8 hg8;rw[List.length_replicate];rw[List.length_replicate] at hown8;have hba:=za (blr w5.heap.size w5) (.cells #[.bool s5,.slice A5 n5 c5,.bool false,.slice B5 m5 d5] 55);have hrr8:=(OwnG.below (z8 _) H5.out.1 hba).turn (zdx hg8) (fun g hg=>hg8.kp.typed ((OwnG.below (z8 _) H5.out.1 hba).lt g hg).2.2 (by decide));have hbl8:=(H5.out.2.2.2.trans (hba.mono H5.out.2.2.2.size)).trans hb8;have H8:=hide (ai hown8 (ai hrr8 hbl8));clear hown8 hb8 hg8 hba hrr8 hbl8)
     go_roundw
     case rel=>
      repeat apply Exists.intro
      exact⟨show j+1<=m by omega,by go_num,H8.out.2.1,by rw[List.replicate_succ'];exact H8.out.1,H8.out.2.2⟩
     case measure=>simp[intOf];omega
  ·have hjm2:j=m:=by omega
   have i1:¬(j:Int)<(m:Int):=by omega
   have HJ2:=hide hjm2
   clear hjm2
   go_wp2_with fail
   go_loopw [10,11] (fun s10 s11 wr=>∃i:Nat,i<=m/\s11=.int .i64 i/\OwnG 55 4 (QE 3) wr wo.heap.size s10 ((oneR m).take i)/\Below wo.heap.size wo wr) (fun _ s11 _=>m-(intOf s11).toNat)
   case atStart=>exact⟨0,Nat.zero_le _,rfl,OwnG.nil _ _ _ _ _,blr _ _⟩
   case round=>
    obtain⟨i,hi,rfl,hown,hbel⟩:=hrel
    obtain⟨Ax,cx,rfl,hcx,hmx⟩:=hown.len
    have hlk:((oneR m).take i).length=i:=by rw[List.length_take];simp[oneR];omega
    rw[hlk] at hown hcx ⊢
    have HLK:=hide hlk
    clear hlk
    unfold maxLen at hmx
    have hwr:=hbel.size
    by_cases hkn:i<m
    ·have i2:(i:Int)<(m:Int):=by omega
     by_cases hi0:i=0
     ·have i3:((i:Int) == 0)=true:=by rw[beq_iff_eq];omega
      have HST:=hide (show (oneR m).take (i+1)=(oneR m).take i++[1] by rw[zgm m i hkn,if_pos hi0])
      clear hi0
      go_wp2_with fail
      refine(za4 _ 1 1 (by omega) (by omega) (by omega) (by omega) (by omega)).mono ?_
      rintro e w5 ⟨_,rfl,hq5,hd5⟩
      rw[show Rat.divInt 1 1=(1:Rat) from Rat.num_divInt_den 1] at hq5
      obtain⟨s5,A5,n5,c5,B5,m5,d5,rfl,-⟩:=hq5.parts
      have H5:=hide (ai (hown.below (zai 3) hd5) (ai hq5 (bnx hbel hd5)))
      have hs5:=(bnx hbel hd5).size
      clear hown hbel hq5 hd5
      go_wp2_with (at_builtin;refine appG Tryz.qE (zap 3 (by decide)) _ rfl _ _ rfl wo.heap.size _ ((oneR m).take i) (1) rfl (OwnG.below (zai 3) H5.out.1 (za (blr _ _) _)) ⟨w5.heap.size,0,none⟩ _ rfl (.agg #[.bool s5,.slice A5 n5 c5,.bool false,.slice B5 m5 d5]) (QV.below H5.out.2.1 (za (blr _ _) _)) rfl (zan _ _ _ _ _ _ rfl) (zbI _ _ _ _ _ _ _ _) (by rw[HLK.out];omega) (by simp;omega) ?_;intro g7 c7 w7 hown7 hb7 hg7;rw[HLK.out];rw[HLK.out] at hown7;rw[<-HST.out] at hown7;have H7:=hide (ai hown7 ((H5.out.2.2.trans ((za (blr _ _) _).mono H5.out.2.2.size)).trans hb7));clear hown7 hb7 hg7)
      case roundEnd=>exact⟨⟨i+1,by omega,by go_num,H7.out.1,H7.out.2⟩,by simp[intOf];omega⟩
     ·have i3:((i:Int) == 0)=false:=by rw[beq_eq_false_iff_ne];omega
      have HST:=hide (show (oneR m).take (i+1)=(oneR m).take i++[0] by rw[zgm m i hkn,if_neg hi0])
      clear hi0
      go_wp2_with fail
      refine(za4 _ 0 1 (by omega) (by omega) (by omega) (by omega) (by omega)).mono ?_
      rintro e w5 ⟨_,rfl,hq5,hd5⟩
      rw[show Rat.divInt 0 1=(0:Rat) from rfl] at hq5
      obtain⟨s5,A5,n5,c5,B5,m5,d5,rfl,-⟩:=hq5.parts
      have H5:=hide (ai (hown.below (zai 3) hd5) (ai hq5 (bnx hbel hd5)))
      have hs5:=(bnx hbel hd5).size
      clear hown hbel hq5 hd5
      go_wp2_with (at_builtin;refine appG Tryz.qE (zap 3 (by decide)) _ rfl _ _ rfl wo.heap.size _ ((oneR m).take i) (0) rfl (OwnG.below (zai 3) H5.out.1 (za (blr _ _) _)) ⟨w5.heap.size,0,none⟩ _ rfl (.agg #[.bool s5,.slice A5 n5 c5,.bool false,.slice B5 m5 d5]) (QV.below H5.out.2.1 (za (blr _ _) _)) rfl (zan _ _ _ _ _ _ rfl) (zbI _ _ _ _ _ _ _ _) (by rw[HLK.out];omega) (by simp;omega) ?_;intro g7 c7 w7 hown7 hb7 hg7;rw[HLK.out];rw[HLK.out] at hown7;rw[<-HST.out] at hown7;have H7:=hide (ai hown7 ((H5.out.2.2.trans ((za (blr _ _) _).mono H5.out.2.2.size)).trans hb7));clear hown7 hb7 hg7)
      case roundEnd=>exact⟨⟨i+1,by omega,by go_num,H7.out.1,H7.out.2⟩,by simp[intOf];omega⟩
    ·have him:i=m:=by omega
     have i2:¬(i:Int)<(m:Int):=by omega
     have hfull:(oneR m).take i=oneR m:=List.take_of_length_le (by simp[oneR];omega)
     rw[hfull] at hown
     have hbW:=HO.out.2.2.1.trans (hbel.mono hwW)
     have hrowA:QRowA (Value.slice A9 j c9).ownBlock wr (.slice Ax i cx) (oneR m):=⟨hown.lst,fun g hg=>⟨(hown.lt g hg).2.2,fun e=>by have h1:=(HO.out.2.1.lt g e).2.1;have h2:=(hown.lt g hg).1;omega⟩⟩
     have HB:=hide (ai (HO.out.1.below (z8 _) hbel) (ai (HO.out.2.1.below (zai 3) hbel) (ai hrowA hbW)))
     have HL8:=hide HO.out.2.2.2
     have HIM:=hide him
     have HJM:=HJ2
     clear him
     clear hown hrowA hbel hfull HLK hbW HO
     go_wp2_with (at_builtin;refine appG Tryz.qrowE (zci _ (by decide) (by decide)) _ rfl _ _ rfl W.heap.size _ ((refV m (ent Ws)).take j) (oneR m) rfl (OwnG.below (z8 _) HB.out.1 (za (blr _ _) _)) ⟨wr.heap.size,0,none⟩ _ rfl (.slice Ax i cx) (z8 _ _ _ _ _ (za (blr _ _) _) HB.out.2.2.1) rfl (zaH _ _ rfl _ rfl) (fun c hc=>(by simp[Value.cells] at hc;rw[hc];rfl)) (by rw[HL8.out];omega) (by simp;omega) ?_;intro g7 c7 w7 hown7 hb7 hg7;rw[HL8.out];rw[HL8.out] at hown7;rw[show (refV m (ent Ws)).take j++[oneR m]=refV m (ent Ws) by rw[HJM.out,zld]] at hown7;have hba:=za (blr wr.heap.size wr) (.cells #[.slice Ax i cx] 25);have hbb7:=OwnG.kp (zap 3 (by decide)) (OwnG.below (zai 3) HB.out.2.1 hba) (by decide) hg7.kp;have hbl7:=(HB.out.2.2.2.trans (hba.mono HB.out.2.2.2.size)).trans hb7;have H7:=hide (ai hown7 (ai hbb7 hbl7));clear hown7 hb7 hg7 hba hbb7 hbl7)
     refine(za4 _ 1 1 (by omega) (by omega) (by omega) (by omega) (by omega)).mono ?_
     rintro e w5 ⟨_,rfl,hq5,hd5⟩
     rw[show Rat.divInt 1 1=(1:Rat) from Rat.num_divInt_den 1] at hq5
     obtain⟨s5,A5,n5,c5,B5,m5,d5,rfl,-⟩:=hq5.parts
     have H5:=hide (ai (H7.out.1.below (z8 _) hd5) (ai (H7.out.2.1.below (zai 3) hd5) (ai (hq5.more (show 3<=3 by omega)) (bnx H7.out.2.2 hd5))))
     have hs5:=(bnx H7.out.2.2 hd5).size
     clear hq5 hd5 H7
     go_wp2_with (at_builtin;refine appG Tryz.qE (zap 3 (by decide)) _ rfl _ _ rfl W.heap.size _ (List.replicate j 0) (1) rfl (OwnG.below (zai 3) H5.out.2.1 (za (blr _ _) _)) ⟨w5.heap.size,0,none⟩ _ rfl (.agg #[.bool s5,.slice A5 n5 c5,.bool false,.slice B5 m5 d5]) (QV.below H5.out.2.2.1 (za (blr _ _) _)) rfl (zan _ _ _ _ _ _ rfl) (zbI _ _ _ _ _ _ _ _) (by rw[List.length_replicate];omega) (by simp;omega) ?_;intro g8 c8 w8 hown8 hb8 hg8;rw[List.length_replicate];rw[List.length_replicate] at hown8;have hba:=za (blr w5.heap.size w5) (.cells #[.bool s5,.slice A5 n5 c5,.bool false,.slice B5 m5 d5] 55);have hrr8:=(OwnG.below (z8 _) H5.out.1 hba).turn (zdx hg8) (fun g hg=>hg8.kp.typed ((OwnG.below (z8 _) H5.out.1 hba).lt g hg).2.2 (by decide));have hbl8:=(H5.out.2.2.2.trans (hba.mono H5.out.2.2.2.size)).trans hb8;have H8:=hide (ai hown8 (ai hrr8 hbl8));clear hown8 hb8 hg8 hba hrr8 hbl8)
     have hrr9:QRows 1423 w8 (.slice (some ⟨g7,0,none⟩) (j+1) c7) (refV m (ent Ws)):=zx.imp H8.out.2.1.lst (fun u x _ hu=>upV hu.1)
     have hbb9:QRowE 1423 w8 (.slice (some ⟨g8,0,none⟩) (j+1) c8) (refB m):=by
      have:=H8.out.1.lst
      rw[show List.replicate j 0++[1]=refB m by rw[HJM.out];rfl] at this
      exact upV this
     have H9:=hide (ai hrr9 (ai hbb9 H8.out.2.2))
     clear hrr9 hbb9 H8
     go_wp2_with fail
     refine(znk _ _ _ (refV m (ent Ws)) (refB m) m H9.out.1 H9.out.2.1 HSY.out (by rw[zcK m (ent Ws) 0 hm0];simp)).mono ?_
     rintro e w9 ⟨v9,rfl,hd9,hres⟩
     have hfin:=bnx H0.out.1 (bnx H9.out.2.2 hd9)
     rcases hres with ⟨hd,-⟩|⟨-,hno,-⟩|⟨-,-,u,rfl,hu⟩
     ·exact absurd hd HP.out.2.1
     ·exact absurd HP.out.1 hno
     ·rw[HP.out.2.2] at hu
      have HU:=hide (ai hu hfin)
      obtain⟨A2,c2,rfl,-,-,-⟩:=id hu
      clear hu hfin hd9
      go_wp2
      refine bodyPost_ret (v:=.slice A2 (visV m (ent Ws)).length c2) ?_ rfl ?_
      ·simp[results,Tryz.results42,go_sem]
      exact⟨_,rfl,HU.out⟩
end Go.Proofs.YtpoahodnakhmiaaGreat
