import Derived.Test.YtpoahodnakhmiaaGreatNewS
import Derived.Test.YtpoahodnakhmiaaGreatReg
set_option maxRecDepth 100000
namespace Go.Proofs.YtpoahodnakhmiaaGreat
set_option linter.unusedVariables false
set_option linter.unusedSimpArgs false
open Go.RowKit
def RowsV (w:World) (v:Value) (rows:List (List Rat)) (L:Nat):Prop:=
 ∃A c,v=.slice A rows.length c/\rows.length<=c/\c<=maxLen/\(0<rows.length->∃b o,A=some ⟨b,o,none⟩/\∀i,i<rows.length->∃u,w.cell? ⟨b,o+i,none⟩=some u/\RowV w u (rows.getD i []) L)
theorem RowsV.below {w w':World} {v:Value} {rows:List (List Rat)} {L:Nat} (h:RowsV w v rows L) (hb:Below w.heap.size w w'):RowsV w' v rows L:=by
 obtain⟨A,c,rfl,h1,h2,h3⟩:=h
 refine⟨A,c,rfl,h1,h2,fun hx=>?_⟩
 obtain⟨b,o,rfl,hc⟩:=h3 hx
 refine⟨b,o,rfl,fun i hi=>?_⟩
 obtain⟨u,hu,hr⟩:=hc i hi
 exact⟨u,(hb.cell (zf hu)).trans hu,hr.below hb⟩
def newR (w:World) (rows:List (List Rat)) (L:Nat) (v:Value) (w':World):Prop:=
 ∃M R D cR cD vs us rR rD gs hs,v=.pointer (some ⟨M,0,none⟩)/\MatS w' w.heap.size M R D cR cD vs us rR rD gs hs rows (idRows rows.length) L/\Below w.heap.size w w'
theorem zlC:(Tryz.prog.info? 30).map (fun i=>(i.zero,i.size,i.bytes))=some (some (.slice none 0 0),1,24):=by kernel_rfl
theorem RX.below {w w':World} {v:Value} {g:Nat} {qs:List Rat} {L:Nat} (h:RX w v g qs L) (hb:Below w.heap.size w w'):RX w' v g qs L:=⟨h.1,fun h0=>(h.2 h0).below hb⟩
def newN (w:World) (rows:List (List Rat)) (L:Nat) (v:Value) (w':World):Prop:=
 ∃vR vD vs us gs hs,v=.pointer (some ⟨w.heap.size,0,none⟩)/\zaB w' w.heap.size w.heap.size rows.length vR vD vs us gs hs rows (idRows rows.length) L/\Below w.heap.size w w'
set_option maxHeartbeats 4000000 in
theorem zmm (w:World) (v:Value) (rows:List (List Rat)) (L:Nat) (h:RowsV w v rows L) (h0:0<rows.length) (hl:rows.length<=1073741824) (hrow:∀i,i<rows.length->(rows.getD i []).length<=1073741824) (hL:1<=L):
  Calls Tryz.prog 190 #[v] w (Ret (newN w rows L)):=by
 have HA:=hide (ai h hrow);clear hrow
 obtain⟨A,c,rfl,hc,hm,hx⟩:=h
 obtain⟨b,o,rfl,hat⟩:=hx h0
 clear hat hx
 unfold maxLen at hm
 have hmk:=zcy rows.length hl
 obtain⟨N,hN⟩:∃N,N=rows.length:=⟨_,rfl⟩
 rw[<-hN] at hc h0 hl hmk ⊢
 have HN:=hide hN;clear hN
 obtain⟨ri,hri,hrz,hrs,hrb⟩:=info_parts zlC
 have HI:=hide (ai hri (ai hrz (ai hrs hrb)));clear hri hrz hrs hrb
 go_enter Tryz.func190,Tryz.ntmps190
 go_wp2
 go_loopw [11] (fun s11 wr=>∃(k:Nat) (vR vD:Value) (vs us:List Value) (gs hs:List Nat),k<=N/\s11=.int .i64 k/\zaB wr w.heap.size w.heap.size k vR vD vs us gs hs rows (idRows N) L/\Below w.heap.size w wr) (fun s11 _=>N-(intOf s11).toNat)
 case atStart=>
  refine⟨0,.slice none 0 0,.slice none 0 0,[],[],[],[],Nat.zero_le _,rfl,?_,(blr _ _).alloc (nr _) _⟩
  exact⟨nr _,heap_alloc_new w _,World.ownsRow_nil _ _ _ _,World.ownsRow_nil _ _ _ _,fun b hb=>by simp[Value.ownBlock] at hb,rfl,rfl,fun i hi=>by omega,fun i hi=>by omega,fun i j hi=>by omega,fun i j hi=>by omega,fun i j hi=>by omega⟩
 case round=>
  obtain⟨k,vR,vD,vs,us,gs,hs,hk,rfl,hnew,hbel⟩:=hrel
  by_cases hkl:k<N
  ·obtain⟨_,_,e,_,_,hatA⟩:=HA.out.1.below hbel
   injection e with e1 e2 e3
   subst e1 e3
   obtain⟨b',o',e,hatB⟩:=hatA (by rw[<-HN.out];omega)
   injection e with e
   injection e with e1 e2
   subst e1 e2
   obtain⟨u,hu,hrv⟩:=hatB k (by rw[<-HN.out];exact hkl)
   have HH:=hide (ai hnew (ai hbel hrv));clear hnew hbel hrv hatA hatB e2
   obtain⟨Wa,hWa⟩:∃Wa,Wa=wr.alloc (.cells (madeCells #[Value.bool false,.slice none 0 0,.slice none 0 0] (N*3)) 43):=⟨_,rfl⟩
   have hba:Below wr.heap.size wr Wa:=by rw[hWa];exact(blr _ _).alloc (nr _) _
   have hza:RowC Wa wr.heap.size (List.replicate N 0) L:=by rw[hWa];exact zcx wr N L
   have HW:=hide (ai hba (ai hza hWa));clear hba hza
   go_wp2_with fail
   refine(zcu _ 1 (by omega) (by omega)).mono ?_
   rintro e w1 ⟨ov,rfl,hov,hd1⟩
   rw[<-HW.out.2.2] at hd1
   replace hov:=hov.fit (L':=L) (by
    refine⟨?_,?_⟩
    ·have:=zt (B:=4294967296) (by omega) hL
     simp;omega
    ·have:=zt (B:=4294967296) (by omega) hL
     simp;omega)
   have hb1:=bnx HW.out.1 hd1
   have hz1:=HW.out.2.1.below hd1
   obtain⟨n1,l1,rfl,r1,r2⟩:=id hov
   obtain⟨s1,hs1⟩:∃s,s=decide (((1:Int):Rat).num<0):=⟨_,rfl⟩
   rw[<-hs1] at hov ⊢
   clear hs1
   obtain⟨A1,d1,xs1,rfl,_⟩:=r1.open_
   obtain⟨A2,d2,xs2,rfl,_⟩:=r2.open_
   obtain⟨s',B1',m1',d1',B2',m2',d2',e0,e1,e2,_⟩:=(hz1.2 k (by simp;exact hkl)).rat
   have f0:=hz1.frozen (k*3)
   have f1:=hz1.frozen (k*3+1)
   have f2:=hz1.frozen (k*3+2)
   have HV:=hide (ai hov (ai hb1 hz1));clear hov hb1 hz1 r1 r2 hd1 hu
   go_wp2_with fail
   obtain⟨t1,t2,t3⟩:=HV.out.2.2.set3 (i:=k) (by simp;exact hkl) HV.out.1
   obtain⟨W2,hW2⟩:∃W2,W2=((w1.setCell ⟨wr.heap.size,k*3,none⟩ (.bool s1)).setCell ⟨wr.heap.size,k*3+1,none⟩ (.slice A1 xs1.length d1)).setCell ⟨wr.heap.size,k*3+2,none⟩ (.slice A2 xs2.length d2):=⟨_,rfl⟩
   rw[<-hW2] at t1 t2 t3
   have hb2:Below wr.heap.size wr W2:=only_below HV.out.2.1 t3 HV.out.2.1.size (nr _)
   have hrow2:=HH.out.2.2.below hb2
   have hnew2:=HH.out.1.below hb2
   have hS0:=zaV hnew2.hM
   have hown2:RV W2 (.slice (some ⟨wr.heap.size,0,none⟩) N N) wr.heap.size ((idRows N).getD k []) L:=by
    rw[zdt _ _ hkl]
    refine⟨N,by simp,by simp,by unfold maxLen;omega,t1⟩
   rw[<-hW2]
   have hs2:wr.heap.size<=W2.heap.size:=hb2.size
   have HX:=hide (ai hb2 (ai hrow2 (ai hnew2 (ai hown2 hW2))));clear hb2 hrow2 hnew2 hown2 hW2 t1 t2 t3 e0 e1 e2 f0 f1 f2
   have hsw:w.heap.size<wr.heap.size:=lt_of_block HH.out.1.hM
   refine zv (fun w'=>w'.cell? ⟨w.heap.size,0,none⟩=some vR/\w'.cell? ⟨w.heap.size,1,none⟩=some vD/\w'.frozen? ⟨w.heap.size,0,none⟩=false/\w'.frozen? ⟨w.heap.size,1,none⟩=false) [5,7,8,9,13,15,16] (by kernel_rfl) hS0 (fun hh=>?_)
   refine zaL (i:=0) (v:=?vv1) rfl (by kernel_rfl) (by kernel_rfl) (by kernel_rfl) (by rfl) (fun _ _ _ h=>h) (by rfl) ?hy1 (some 23) rfl ?rest1
   case hy1=>(intro w;go_simp;try with_reducible rfl)
   try simp only[Act.put,ptA,ptB,ptC]
   refine zaL (i:=1) (v:=?vv2) rfl (by kernel_rfl) (by kernel_rfl) (by kernel_rfl) (by rfl) (fun _ _ _ h=>h) (by rfl) ?hy2 (some 24) rfl ?rest2
   case hy2=>(intro w;go_simp;try with_reducible rfl)
   try simp only[Act.put,ptA,ptB,ptC]
   refine zaL (i:=2) (v:=?vv3) rfl (by kernel_rfl) (by kernel_rfl) (by kernel_rfl) (by rfl) (fun _ _ _ h=>h) (by rfl) ?hy3 (some 25) rfl ?rest3
   case hy3=>(intro w;go_simp;try with_reducible rfl)
   try simp only[Act.put,ptA,ptB,ptC]
   refine zaL (i:=3) (v:=?vv4) rfl (by kernel_rfl) (by kernel_rfl) (by kernel_rfl) (by rfl) (fun _ _ _ h=>h) (by rfl) ?hy4 (some 26) rfl ?rest4
   case hy4=>(intro w;go_simp;try with_reducible rfl)
   try simp only[Act.put,ptA,ptB,ptC]
   refine zaL (i:=4) (v:=?vv5) rfl (by kernel_rfl) (by kernel_rfl) (by kernel_rfl) (by rfl) (fun _ _ _ h=>h) (by rfl) ?hy5 (some 27) rfl ?rest5
   case hy5=>(intro w;go_simp;try with_reducible rfl)
   try simp only[Act.put,ptA,ptB,ptC]
   refine zaL (i:=6) (v:=?vv7) rfl (by kernel_rfl) (by kernel_rfl) (by kernel_rfl) (by rfl) (fun _ _ _ h=>h) (by rfl) ?hy7 (some 29) rfl ?rest7
   case hy7=>(intro w;go_simp;try with_reducible rfl)
   try simp only[Act.put,ptA,ptB,ptC]
   refine zaL (i:=10) (v:=?vv8) rfl (by kernel_rfl) (by kernel_rfl) (by kernel_rfl) (by rfl) (fun _ _ _ h=>h) (by rfl) ?hy8 (some 33) rfl ?rest8
   case hy8=>(intro w;go_simp;try with_reducible rfl)
   try simp only[Act.put,ptA,ptB,ptC]
   refine zaL (i:=11) (v:=?vv9) rfl (by kernel_rfl) (by kernel_rfl) (by kernel_rfl) (by rfl) (fun _ _ _ h=>h) (by rfl) ?hy9 (some 34) rfl ?rest9
   case hy9=>(intro w;go_simp;try with_reducible rfl)
   try simp only[Act.put,ptA,ptB,ptC]
   refine zaL (i:=12) (v:=?vv10) rfl (by kernel_rfl) (by kernel_rfl) (by kernel_rfl) (by rfl) (fun _ _ _ h=>h) (by rfl) ?hy10 (some 35) rfl ?rest10
   case hy10=>(intro w;go_simp;try with_reducible rfl)
   try simp only[Act.put,ptA,ptB,ptC]
   refine zaL (i:=14) (v:=?vv12) rfl (by kernel_rfl) (by kernel_rfl) (by kernel_rfl) (by rfl) (fun _ _ _ h=>h) (by rfl) ?hy12 (some 37) rfl ?rest12
   case hy12=>(intro w;go_simp;try with_reducible rfl)
   try simp only[Act.put,ptA,ptB,ptC]
   refine tt 5 hh 28 ?_
   try simp only[Act.put,ptA,ptB,ptC]
   refine tt 13 hh 36 ?_
   try simp only[Act.put,ptA,ptB,ptC]
   refine zb (rs:=[7,15]) (by kernel_rfl) (by simp) ?_
   refine List.forall_mem_cons.2 ⟨?_,List.forall_mem_cons.2 ⟨?_,fun _ h=>absurd h List.not_mem_nil⟩⟩
   ·refine zd rfl (fun K hK=>?_)
    go_simp
    go_at_call 205
    refine(ziz _ _ (rows.getD k []) L ?_ (HA.out.2 k (by rw[<-HN.out];exact hkl))).mono ?_
    ·refine HX.out.2.1.below ?_;(repeat (first|exact blr _ _|refine Below.drew ?_|(refine Below.alloc ?_ (by first|exact nr _|omega|(simp;done)|(simp;omega)) _)))
    rintro e w3 ⟨_,rfl,g,⟨⟨Ag,cc,rfl⟩,hq3⟩,hg,hd3⟩
    have hcv:RX w3 (.slice Ag (rows.getD k []).length cc) g (rows.getD k []) L:=⟨⟨_,_,rfl⟩,hq3⟩
    clear hq3
    obtain⟨lk,hlk⟩:∃n,n=(rows.getD k []).length:=⟨_,rfl⟩
    rw[<-hlk] at hcv ⊢;clear hlk
    have hbB:Below W2.heap.size W2 w3:=Below.trans (by (repeat (first|exact blr _ _|refine Below.drew ?_|(refine Below.alloc ?_ (by first|exact nr _|omega|(simp;done)|(simp;omega)) _)))) (hd3.mono (by first|exact nr _|simp))
    have hS3:=zaV (HX.out.2.2.1.below hbB).hM
    have hs3:=hbB.size
    try (have hn3:w3.cell? ⟨W2.heap.size,0,none⟩=some (.slice (some ⟨wr.heap.size,0,none⟩) N N):=(hd3.cell (by simp)).trans (zB _ _ _ rfl))
    replace hg:0<(rows.getD k []).length->W2.heap.size<=g:=fun h0=>by have hg:=hg h0;first|exact hg|(simp at hg;omega)
    have HC:=hide (ai hcv (ai hg hbB));clear hcv hg hbB hd3
    go_wp2_with fail
    clear hh
    refine hK.out _ _ (by first|exact hS7|exact hS5|exact hS3|exact hS0|exact zg hS5 _|exact zg hS3 _|exact zg hS0 _|exact zg (zg hS3 _) _) (fun hh=>?_)
    clear hK K
    try simp only[Act.put,ptA,ptB,ptC]
    refine zb (rs:=[8,15]) (by kernel_rfl) (by simp) ?_
    refine List.forall_mem_cons.2 ⟨?_,List.forall_mem_cons.2 ⟨?_,fun _ h=>absurd h List.not_mem_nil⟩⟩
    ·refine zd rfl (fun K hK=>?_)
     go_simp
     clear hh
     refine hK.out _ _ (by first|exact hS7|exact hS5|exact hS3|exact hS0|exact zg hS5 _|exact zg hS3 _|exact zg hS0 _|exact zg (zg hS3 _) _) (fun hh=>?_)
     clear hK K
     try simp only[Act.put,ptA,ptB,ptC]
     refine zb (rs:=[9,15]) (by kernel_rfl) (by simp) ?_
     refine List.forall_mem_cons.2 ⟨?_,List.forall_mem_cons.2 ⟨?_,fun _ h=>absurd h List.not_mem_nil⟩⟩
     ·refine zd rfl (fun K hK=>?_)
      refine step_append_lies _ rfl (.tmp 28) (.tmp 31) 31 rfl w.heap.size 30 ri (.slice none 0 0) 1 24 Tryz.underlying31 HI.out.1 HI.out.2.1 HI.out.2.2.1 HI.out.2.2.2 rfl (by decide) vR k vs rfl ?_ ⟨_,0,none⟩ 1 _ [(.slice Ag lk cc)] rfl rfl ?_ ?_ (by decide) ?_ ?_ ?_ _ rfl ?_
      ·refine zaq HX.out.2.2.1.oR ?_;(repeat (first|exact HC.out.2.2|refine Below.drew ?_|(refine Below.alloc ?_ (by first|exact nr _|omega|(simp;done)|(simp;omega)) _)))
      ·first|exact zad (zB _ _ _ (by first|rfl|(simp;done)))|exact zad (za6 _ _ _ _ (by first|rfl|(simp;done)))
      ·(intro u hu;simp at hu;subst hu;rfl)
      ·unfold maxLen;omega
      ·omega
      ·first|omega|(simp;omega)
      intro r1 c1 w5 hown1 hgr1 hat1 hlt1
      have hA1:Ap1 wr w5 w.heap.size vR (.slice Ag lk cc) (.slice (some ⟨wr.heap.size,0,none⟩) N N) vs g wr.heap.size r1 c1 k (rows.getD k []) ((idRows N).getD k []) L:=by
       refine⟨_,?_,?_,?_,?_,hgr1,hat1,hown1⟩
       ·refine HX.out.1.trans (Below.mono (B:=W2.heap.size) ?_ hs2);(repeat (first|exact HC.out.2.2|refine Below.drew ?_|(refine Below.alloc ?_ (by first|exact nr _|omega|(simp;done)|(simp;omega)) _)))
       ·refine HC.out.1.below ?_;(repeat (first|exact blr _ _|refine Below.drew ?_|(refine Below.alloc ?_ (by first|exact nr _|omega|(simp;done)|(simp;omega)) _)))
       ·intro h0;have:=HC.out.2.1 h0;omega
       ·refine HX.out.2.2.2.1.below ?_;(repeat (first|exact HC.out.2.2|refine Below.drew ?_|(refine Below.alloc ?_ (by first|exact nr _|omega|(simp;done)|(simp;omega)) _)))
      have hS5:=zaV (HH.out.1.ap1M hA1).1
      have hs5:wr.heap.size<=w5.heap.size:=(HH.out.1.ap1M hA1).2.2
      have HF:=hide (zds hgr1 (n:=wr.heap.size) (fun b hb=>(ownTyped HH.out.1.oR b hb).lt))
      have HA1:=hide hA1;clear hA1 hown1 hgr1 hat1 hlt1
      clear hh
      refine hK.out _ _ (by first|exact hS7|exact hS5|exact hS3|exact hS0|exact zg hS5 _|exact zg hS3 _|exact zg hS0 _|exact zg (zg hS3 _) _) (fun hh=>?_)
      clear hK K
      try simp only[Act.put,ptA,ptB,ptC]
      refine zb (rs:=[15]) (by kernel_rfl) (by simp) ?_
      refine mem1 ?_
      refine zd rfl (fun K hK=>?_)
      go_simp
      clear hh
      refine hK.out _ _ (by first|exact hS7|exact hS5|exact hS3|exact hS0|exact zg hS5 _|exact zg hS3 _|exact zg hS0 _|exact zg (zg hS3 _) _) (fun hh=>?_)
      clear hK K
      try simp only[Act.put,ptA,ptB,ptC]
      refine zb (rs:=[16]) (by kernel_rfl) (by simp) ?_
      refine mem1 ?_
      refine zd rfl (fun K hK=>?_)
      refine step_append_lies _ rfl (.tmp 36) (.tmp 38) 31 rfl w.heap.size 30 ri (.slice none 0 0) 1 24 Tryz.underlying31 HI.out.1 HI.out.2.1 HI.out.2.2.1 HI.out.2.2.2 rfl (by decide) vD k us rfl ?_ ⟨_,0,none⟩ 1 _ [(.slice (some ⟨wr.heap.size,0,none⟩) N N)] rfl rfl ?_ ?_ (by decide) ?_ ?_ ?_ _ rfl ?_
      ·refine zaq (HH.out.1.ap1M HA1.out).2.1 ?_;(repeat (first|exact blr _ _|refine Below.drew ?_|(refine Below.alloc ?_ (by first|exact nr _|omega|(simp;done)|(simp;omega)) _)))
      ·first|exact zad (zB _ _ _ (by first|rfl|(simp;done)))|exact zad (HF.out _ _ (by first|exact zB _ _ _ (by first|rfl|(simp;done))|exact za6 _ _ _ _ (by first|rfl|(simp;done))|exact zcP _ _ _ hn3) (by first|omega|(simp;omega)))
      ·(intro u hu;simp at hu;subst hu;rfl)
      ·unfold maxLen;omega
      ·omega
      ·first|omega|(simp;omega)
      intro r2 c2 w7 hown2 hgr2 hat2 hlt2
      have hA2:Ap2 wr w7 w.heap.size vR vD (.slice Ag lk cc) (.slice (some ⟨wr.heap.size,0,none⟩) N N) vs us g wr.heap.size r1 c1 r2 c2 k (rows.getD k []) ((idRows N).getD k []) L:=by
       refine⟨w5,_,HA1.out,?_,hgr2,hat2,hown2⟩;(repeat (first|exact blr _ _|refine Below.drew ?_|(refine Below.alloc ?_ (by first|exact nr _|omega|(simp;done)|(simp;omega)) _)))
      have hS7:=zaV (HH.out.1.ap2M hA2)
      have HA2:=hide hA2;clear hA2 hown2 hgr2 hat2 hlt2
      clear hh
      refine hK.out _ _ (by first|exact hS7|exact hS5|exact hS3|exact hS0|exact zg hS5 _|exact zg hS3 _|exact zg hS0 _|exact zg (zg hS3 _) _) (fun hh=>?_)
      clear hK K
      try simp only[Act.put,ptA,ptB,ptC]
      refine zQ (k:=17) (by rfl) (by rfl) (by kernel_rfl) ?_
      simp only[List.drop_succ_cons,List.drop_zero]
      obtain⟨z0,z1,z2,z3⟩:=hS7
      clear hh hS3 hS5 hS0
      go_wp2
      go_roundw
      case rel=>
       have hlw:=HX.out.2.2.2.1.lt
       have hst:=HH.out.1.step2 (nr _) (fun h0=>by have:=HC.out.2.1 h0;omega) HA2.out
       exact⟨k+1,_,_,_,_,_,_,by omega,by go_num,hst.1,HH.out.2.1.trans hst.2⟩
      case measure=>simp[intOf];omega
     ·refine zd rfl (fun K hK=>?_)
      go_simp
      clear hh
      refine hK.out _ _ (by first|exact hS7|exact hS5|exact hS3|exact hS0|exact zg hS5 _|exact zg hS3 _|exact zg hS0 _|exact zg (zg hS3 _) _) (fun hh=>?_)
      clear hK K
      try simp only[Act.put,ptA,ptB,ptC]
      refine zb (rs:=[9]) (by kernel_rfl) (by simp) ?_
      refine mem1 ?_
      refine zd rfl (fun K hK=>?_)
      refine step_append_lies _ rfl (.tmp 28) (.tmp 31) 31 rfl w.heap.size 30 ri (.slice none 0 0) 1 24 Tryz.underlying31 HI.out.1 HI.out.2.1 HI.out.2.2.1 HI.out.2.2.2 rfl (by decide) vR k vs rfl ?_ ⟨_,0,none⟩ 1 _ [(.slice Ag lk cc)] rfl rfl ?_ ?_ (by decide) ?_ ?_ ?_ _ rfl ?_
      ·refine zaq HX.out.2.2.1.oR ?_;(repeat (first|exact HC.out.2.2|refine Below.drew ?_|(refine Below.alloc ?_ (by first|exact nr _|omega|(simp;done)|(simp;omega)) _)))
      ·first|exact zad (zB _ _ _ (by first|rfl|(simp;done)))|exact zad (za6 _ _ _ _ (by first|rfl|(simp;done)))
      ·(intro u hu;simp at hu;subst hu;rfl)
      ·unfold maxLen;omega
      ·omega
      ·first|omega|(simp;omega)
      intro r1 c1 w5 hown1 hgr1 hat1 hlt1
      have hA1:Ap1 wr w5 w.heap.size vR (.slice Ag lk cc) (.slice (some ⟨wr.heap.size,0,none⟩) N N) vs g wr.heap.size r1 c1 k (rows.getD k []) ((idRows N).getD k []) L:=by
       refine⟨_,?_,?_,?_,?_,hgr1,hat1,hown1⟩
       ·refine HX.out.1.trans (Below.mono (B:=W2.heap.size) ?_ hs2);(repeat (first|exact HC.out.2.2|refine Below.drew ?_|(refine Below.alloc ?_ (by first|exact nr _|omega|(simp;done)|(simp;omega)) _)))
       ·refine HC.out.1.below ?_;(repeat (first|exact blr _ _|refine Below.drew ?_|(refine Below.alloc ?_ (by first|exact nr _|omega|(simp;done)|(simp;omega)) _)))
       ·intro h0;have:=HC.out.2.1 h0;omega
       ·refine HX.out.2.2.2.1.below ?_;(repeat (first|exact HC.out.2.2|refine Below.drew ?_|(refine Below.alloc ?_ (by first|exact nr _|omega|(simp;done)|(simp;omega)) _)))
      have hS5:=zaV (HH.out.1.ap1M hA1).1
      have hs5:wr.heap.size<=w5.heap.size:=(HH.out.1.ap1M hA1).2.2
      have HF:=hide (zds hgr1 (n:=wr.heap.size) (fun b hb=>(ownTyped HH.out.1.oR b hb).lt))
      have HA1:=hide hA1;clear hA1 hown1 hgr1 hat1 hlt1
      clear hh
      refine hK.out _ _ (by first|exact hS7|exact hS5|exact hS3|exact hS0|exact zg hS5 _|exact zg hS3 _|exact zg hS0 _|exact zg (zg hS3 _) _) (fun hh=>?_)
      clear hK K
      try simp only[Act.put,ptA,ptB,ptC]
      refine zb (rs:=[16]) (by kernel_rfl) (by simp) ?_
      refine mem1 ?_
      refine zd rfl (fun K hK=>?_)
      refine step_append_lies _ rfl (.tmp 36) (.tmp 38) 31 rfl w.heap.size 30 ri (.slice none 0 0) 1 24 Tryz.underlying31 HI.out.1 HI.out.2.1 HI.out.2.2.1 HI.out.2.2.2 rfl (by decide) vD k us rfl ?_ ⟨_,0,none⟩ 1 _ [(.slice (some ⟨wr.heap.size,0,none⟩) N N)] rfl rfl ?_ ?_ (by decide) ?_ ?_ ?_ _ rfl ?_
      ·refine zaq (HH.out.1.ap1M HA1.out).2.1 ?_;(repeat (first|exact blr _ _|refine Below.drew ?_|(refine Below.alloc ?_ (by first|exact nr _|omega|(simp;done)|(simp;omega)) _)))
      ·first|exact zad (zB _ _ _ (by first|rfl|(simp;done)))|exact zad (HF.out _ _ (by first|exact zB _ _ _ (by first|rfl|(simp;done))|exact za6 _ _ _ _ (by first|rfl|(simp;done))|exact zcP _ _ _ hn3) (by first|omega|(simp;omega)))
      ·(intro u hu;simp at hu;subst hu;rfl)
      ·unfold maxLen;omega
      ·omega
      ·first|omega|(simp;omega)
      intro r2 c2 w7 hown2 hgr2 hat2 hlt2
      have hA2:Ap2 wr w7 w.heap.size vR vD (.slice Ag lk cc) (.slice (some ⟨wr.heap.size,0,none⟩) N N) vs us g wr.heap.size r1 c1 r2 c2 k (rows.getD k []) ((idRows N).getD k []) L:=by
       refine⟨w5,_,HA1.out,?_,hgr2,hat2,hown2⟩;(repeat (first|exact blr _ _|refine Below.drew ?_|(refine Below.alloc ?_ (by first|exact nr _|omega|(simp;done)|(simp;omega)) _)))
      have hS7:=zaV (HH.out.1.ap2M hA2)
      have HA2:=hide hA2;clear hA2 hown2 hgr2 hat2 hlt2
      clear hh
      refine hK.out _ _ (by first|exact hS7|exact hS5|exact hS3|exact hS0|exact zg hS5 _|exact zg hS3 _|exact zg hS0 _|exact zg (zg hS3 _) _) (fun hh=>?_)
      clear hK K
      try simp only[Act.put,ptA,ptB,ptC]
      refine zQ (k:=17) (by rfl) (by rfl) (by kernel_rfl) ?_
      simp only[List.drop_succ_cons,List.drop_zero]
      obtain⟨z0,z1,z2,z3⟩:=hS7
      clear hh hS3 hS5 hS0
      go_wp2
      go_roundw
      case rel=>
       have hlw:=HX.out.2.2.2.1.lt
       have hst:=HH.out.1.step2 (nr _) (fun h0=>by have:=HC.out.2.1 h0;omega) HA2.out
       exact⟨k+1,_,_,_,_,_,_,by omega,by go_num,hst.1,HH.out.2.1.trans hst.2⟩
      case measure=>simp[intOf];omega
    ·refine zd rfl (fun K hK=>?_)
     go_simp
     clear hh
     refine hK.out _ _ (by first|exact hS7|exact hS5|exact hS3|exact hS0|exact zg hS5 _|exact zg hS3 _|exact zg hS0 _|exact zg (zg hS3 _) _) (fun hh=>?_)
     clear hK K
     try simp only[Act.put,ptA,ptB,ptC]
     refine zb (rs:=[8]) (by kernel_rfl) (by simp) ?_
     refine mem1 ?_
     refine zd rfl (fun K hK=>?_)
     go_simp
     clear hh
     refine hK.out _ _ (by first|exact hS7|exact hS5|exact hS3|exact hS0|exact zg hS5 _|exact zg hS3 _|exact zg hS0 _|exact zg (zg hS3 _) _) (fun hh=>?_)
     clear hK K
     try simp only[Act.put,ptA,ptB,ptC]
     refine zb (rs:=[9]) (by kernel_rfl) (by simp) ?_
     refine mem1 ?_
     refine zd rfl (fun K hK=>?_)
     refine step_append_lies _ rfl (.tmp 28) (.tmp 31) 31 rfl w.heap.size 30 ri (.slice none 0 0) 1 24 Tryz.underlying31 HI.out.1 HI.out.2.1 HI.out.2.2.1 HI.out.2.2.2 rfl (by decide) vR k vs rfl ?_ ⟨_,0,none⟩ 1 _ [(.slice Ag lk cc)] rfl rfl ?_ ?_ (by decide) ?_ ?_ ?_ _ rfl ?_
     ·refine zaq HX.out.2.2.1.oR ?_;(repeat (first|exact HC.out.2.2|refine Below.drew ?_|(refine Below.alloc ?_ (by first|exact nr _|omega|(simp;done)|(simp;omega)) _)))
     ·first|exact zad (zB _ _ _ (by first|rfl|(simp;done)))|exact zad (za6 _ _ _ _ (by first|rfl|(simp;done)))
     ·(intro u hu;simp at hu;subst hu;rfl)
     ·unfold maxLen;omega
     ·omega
     ·first|omega|(simp;omega)
     intro r1 c1 w5 hown1 hgr1 hat1 hlt1
     have hA1:Ap1 wr w5 w.heap.size vR (.slice Ag lk cc) (.slice (some ⟨wr.heap.size,0,none⟩) N N) vs g wr.heap.size r1 c1 k (rows.getD k []) ((idRows N).getD k []) L:=by
      refine⟨_,?_,?_,?_,?_,hgr1,hat1,hown1⟩
      ·refine HX.out.1.trans (Below.mono (B:=W2.heap.size) ?_ hs2);(repeat (first|exact HC.out.2.2|refine Below.drew ?_|(refine Below.alloc ?_ (by first|exact nr _|omega|(simp;done)|(simp;omega)) _)))
      ·refine HC.out.1.below ?_;(repeat (first|exact blr _ _|refine Below.drew ?_|(refine Below.alloc ?_ (by first|exact nr _|omega|(simp;done)|(simp;omega)) _)))
      ·intro h0;have:=HC.out.2.1 h0;omega
      ·refine HX.out.2.2.2.1.below ?_;(repeat (first|exact HC.out.2.2|refine Below.drew ?_|(refine Below.alloc ?_ (by first|exact nr _|omega|(simp;done)|(simp;omega)) _)))
     have hS5:=zaV (HH.out.1.ap1M hA1).1
     have hs5:wr.heap.size<=w5.heap.size:=(HH.out.1.ap1M hA1).2.2
     have HF:=hide (zds hgr1 (n:=wr.heap.size) (fun b hb=>(ownTyped HH.out.1.oR b hb).lt))
     have HA1:=hide hA1;clear hA1 hown1 hgr1 hat1 hlt1
     clear hh
     refine hK.out _ _ (by first|exact hS7|exact hS5|exact hS3|exact hS0|exact zg hS5 _|exact zg hS3 _|exact zg hS0 _|exact zg (zg hS3 _) _) (fun hh=>?_)
     clear hK K
     try simp only[Act.put,ptA,ptB,ptC]
     refine zb (rs:=[16]) (by kernel_rfl) (by simp) ?_
     refine mem1 ?_
     refine zd rfl (fun K hK=>?_)
     refine step_append_lies _ rfl (.tmp 36) (.tmp 38) 31 rfl w.heap.size 30 ri (.slice none 0 0) 1 24 Tryz.underlying31 HI.out.1 HI.out.2.1 HI.out.2.2.1 HI.out.2.2.2 rfl (by decide) vD k us rfl ?_ ⟨_,0,none⟩ 1 _ [(.slice (some ⟨wr.heap.size,0,none⟩) N N)] rfl rfl ?_ ?_ (by decide) ?_ ?_ ?_ _ rfl ?_
     ·refine zaq (HH.out.1.ap1M HA1.out).2.1 ?_;(repeat (first|exact blr _ _|refine Below.drew ?_|(refine Below.alloc ?_ (by first|exact nr _|omega|(simp;done)|(simp;omega)) _)))
     ·first|exact zad (zB _ _ _ (by first|rfl|(simp;done)))|exact zad (HF.out _ _ (by first|exact zB _ _ _ (by first|rfl|(simp;done))|exact za6 _ _ _ _ (by first|rfl|(simp;done))|exact zcP _ _ _ hn3) (by first|omega|(simp;omega)))
     ·(intro u hu;simp at hu;subst hu;rfl)
     ·unfold maxLen;omega
     ·omega
     ·first|omega|(simp;omega)
     intro r2 c2 w7 hown2 hgr2 hat2 hlt2
     have hA2:Ap2 wr w7 w.heap.size vR vD (.slice Ag lk cc) (.slice (some ⟨wr.heap.size,0,none⟩) N N) vs us g wr.heap.size r1 c1 r2 c2 k (rows.getD k []) ((idRows N).getD k []) L:=by
      refine⟨w5,_,HA1.out,?_,hgr2,hat2,hown2⟩;(repeat (first|exact blr _ _|refine Below.drew ?_|(refine Below.alloc ?_ (by first|exact nr _|omega|(simp;done)|(simp;omega)) _)))
     have hS7:=zaV (HH.out.1.ap2M hA2)
     have HA2:=hide hA2;clear hA2 hown2 hgr2 hat2 hlt2
     clear hh
     refine hK.out _ _ (by first|exact hS7|exact hS5|exact hS3|exact hS0|exact zg hS5 _|exact zg hS3 _|exact zg hS0 _|exact zg (zg hS3 _) _) (fun hh=>?_)
     clear hK K
     try simp only[Act.put,ptA,ptB,ptC]
     refine zQ (k:=17) (by rfl) (by rfl) (by kernel_rfl) ?_
     simp only[List.drop_succ_cons,List.drop_zero]
     obtain⟨z0,z1,z2,z3⟩:=hS7
     clear hh hS3 hS5 hS0
     go_wp2
     go_roundw
     case rel=>
      have hlw:=HX.out.2.2.2.1.lt
      have hst:=HH.out.1.step2 (nr _) (fun h0=>by have:=HC.out.2.1 h0;omega) HA2.out
      exact⟨k+1,_,_,_,_,_,_,by omega,by go_num,hst.1,HH.out.2.1.trans hst.2⟩
     case measure=>simp[intOf];omega
   ·refine zd rfl (fun K hK=>?_)
    go_simp
    clear hh
    refine hK.out _ _ (by first|exact hS7|exact hS5|exact hS3|exact hS0|exact zg hS5 _|exact zg hS3 _|exact zg hS0 _|exact zg (zg hS3 _) _) (fun hh=>?_)
    clear hK K
    try simp only[Act.put,ptA,ptB,ptC]
    refine zb (rs:=[7]) (by kernel_rfl) (by simp) ?_
    refine mem1 ?_
    refine zd rfl (fun K hK=>?_)
    go_simp
    go_at_call 205
    refine(ziz _ _ (rows.getD k []) L ?_ (HA.out.2 k (by rw[<-HN.out];exact hkl))).mono ?_
    ·refine HX.out.2.1.below ?_;(repeat (first|exact blr _ _|refine Below.drew ?_|(refine Below.alloc ?_ (by first|exact nr _|omega|(simp;done)|(simp;omega)) _)))
    rintro e w3 ⟨_,rfl,g,⟨⟨Ag,cc,rfl⟩,hq3⟩,hg,hd3⟩
    have hcv:RX w3 (.slice Ag (rows.getD k []).length cc) g (rows.getD k []) L:=⟨⟨_,_,rfl⟩,hq3⟩
    clear hq3
    obtain⟨lk,hlk⟩:∃n,n=(rows.getD k []).length:=⟨_,rfl⟩
    rw[<-hlk] at hcv ⊢;clear hlk
    have hbB:Below W2.heap.size W2 w3:=Below.trans (by (repeat (first|exact blr _ _|refine Below.drew ?_|(refine Below.alloc ?_ (by first|exact nr _|omega|(simp;done)|(simp;omega)) _)))) (hd3.mono (by first|exact nr _|simp))
    have hS3:=zaV (HX.out.2.2.1.below hbB).hM
    have hs3:=hbB.size
    try (have hn3:w3.cell? ⟨W2.heap.size,0,none⟩=some (.slice (some ⟨wr.heap.size,0,none⟩) N N):=(hd3.cell (by simp)).trans (zB _ _ _ rfl))
    replace hg:0<(rows.getD k []).length->W2.heap.size<=g:=fun h0=>by have hg:=hg h0;first|exact hg|(simp at hg;omega)
    have HC:=hide (ai hcv (ai hg hbB));clear hcv hg hbB hd3
    go_wp2_with fail
    clear hh
    refine hK.out _ _ (by first|exact hS7|exact hS5|exact hS3|exact hS0|exact zg hS5 _|exact zg hS3 _|exact zg hS0 _|exact zg (zg hS3 _) _) (fun hh=>?_)
    clear hK K
    try simp only[Act.put,ptA,ptB,ptC]
    refine zb (rs:=[8]) (by kernel_rfl) (by simp) ?_
    refine mem1 ?_
    refine zd rfl (fun K hK=>?_)
    go_simp
    clear hh
    refine hK.out _ _ (by first|exact hS7|exact hS5|exact hS3|exact hS0|exact zg hS5 _|exact zg hS3 _|exact zg hS0 _|exact zg (zg hS3 _) _) (fun hh=>?_)
    clear hK K
    try simp only[Act.put,ptA,ptB,ptC]
    refine zb (rs:=[9]) (by kernel_rfl) (by simp) ?_
    refine mem1 ?_
    refine zd rfl (fun K hK=>?_)
    refine step_append_lies _ rfl (.tmp 28) (.tmp 31) 31 rfl w.heap.size 30 ri (.slice none 0 0) 1 24 Tryz.underlying31 HI.out.1 HI.out.2.1 HI.out.2.2.1 HI.out.2.2.2 rfl (by decide) vR k vs rfl ?_ ⟨_,0,none⟩ 1 _ [(.slice Ag lk cc)] rfl rfl ?_ ?_ (by decide) ?_ ?_ ?_ _ rfl ?_
    ·refine zaq HX.out.2.2.1.oR ?_;(repeat (first|exact HC.out.2.2|refine Below.drew ?_|(refine Below.alloc ?_ (by first|exact nr _|omega|(simp;done)|(simp;omega)) _)))
    ·first|exact zad (zB _ _ _ (by first|rfl|(simp;done)))|exact zad (za6 _ _ _ _ (by first|rfl|(simp;done)))
    ·(intro u hu;simp at hu;subst hu;rfl)
    ·unfold maxLen;omega
    ·omega
    ·first|omega|(simp;omega)
    intro r1 c1 w5 hown1 hgr1 hat1 hlt1
    have hA1:Ap1 wr w5 w.heap.size vR (.slice Ag lk cc) (.slice (some ⟨wr.heap.size,0,none⟩) N N) vs g wr.heap.size r1 c1 k (rows.getD k []) ((idRows N).getD k []) L:=by
     refine⟨_,?_,?_,?_,?_,hgr1,hat1,hown1⟩
     ·refine HX.out.1.trans (Below.mono (B:=W2.heap.size) ?_ hs2);(repeat (first|exact HC.out.2.2|refine Below.drew ?_|(refine Below.alloc ?_ (by first|exact nr _|omega|(simp;done)|(simp;omega)) _)))
     ·refine HC.out.1.below ?_;(repeat (first|exact blr _ _|refine Below.drew ?_|(refine Below.alloc ?_ (by first|exact nr _|omega|(simp;done)|(simp;omega)) _)))
     ·intro h0;have:=HC.out.2.1 h0;omega
     ·refine HX.out.2.2.2.1.below ?_;(repeat (first|exact HC.out.2.2|refine Below.drew ?_|(refine Below.alloc ?_ (by first|exact nr _|omega|(simp;done)|(simp;omega)) _)))
    have hS5:=zaV (HH.out.1.ap1M hA1).1
    have hs5:wr.heap.size<=w5.heap.size:=(HH.out.1.ap1M hA1).2.2
    have HF:=hide (zds hgr1 (n:=wr.heap.size) (fun b hb=>(ownTyped HH.out.1.oR b hb).lt))
    have HA1:=hide hA1;clear hA1 hown1 hgr1 hat1 hlt1
    clear hh
    refine hK.out _ _ (by first|exact hS7|exact hS5|exact hS3|exact hS0|exact zg hS5 _|exact zg hS3 _|exact zg hS0 _|exact zg (zg hS3 _) _) (fun hh=>?_)
    clear hK K
    try simp only[Act.put,ptA,ptB,ptC]
    refine zb (rs:=[16]) (by kernel_rfl) (by simp) ?_
    refine mem1 ?_
    refine zd rfl (fun K hK=>?_)
    refine step_append_lies _ rfl (.tmp 36) (.tmp 38) 31 rfl w.heap.size 30 ri (.slice none 0 0) 1 24 Tryz.underlying31 HI.out.1 HI.out.2.1 HI.out.2.2.1 HI.out.2.2.2 rfl (by decide) vD k us rfl ?_ ⟨_,0,none⟩ 1 _ [(.slice (some ⟨wr.heap.size,0,none⟩) N N)] rfl rfl ?_ ?_ (by decide) ?_ ?_ ?_ _ rfl ?_
    ·refine zaq (HH.out.1.ap1M HA1.out).2.1 ?_;(repeat (first|exact blr _ _|refine Below.drew ?_|(refine Below.alloc ?_ (by first|exact nr _|omega|(simp;done)|(simp;omega)) _)))
    ·first|exact zad (zB _ _ _ (by first|rfl|(simp;done)))|exact zad (HF.out _ _ (by first|exact zB _ _ _ (by first|rfl|(simp;done))|exact za6 _ _ _ _ (by first|rfl|(simp;done))|exact zcP _ _ _ hn3) (by first|omega|(simp;omega)))
    ·(intro u hu;simp at hu;subst hu;rfl)
    ·unfold maxLen;omega
    ·omega
    ·first|omega|(simp;omega)
    intro r2 c2 w7 hown2 hgr2 hat2 hlt2
    have hA2:Ap2 wr w7 w.heap.size vR vD (.slice Ag lk cc) (.slice (some ⟨wr.heap.size,0,none⟩) N N) vs us g wr.heap.size r1 c1 r2 c2 k (rows.getD k []) ((idRows N).getD k []) L:=by
     refine⟨w5,_,HA1.out,?_,hgr2,hat2,hown2⟩;(repeat (first|exact blr _ _|refine Below.drew ?_|(refine Below.alloc ?_ (by first|exact nr _|omega|(simp;done)|(simp;omega)) _)))
    have hS7:=zaV (HH.out.1.ap2M hA2)
    have HA2:=hide hA2;clear hA2 hown2 hgr2 hat2 hlt2
    clear hh
    refine hK.out _ _ (by first|exact hS7|exact hS5|exact hS3|exact hS0|exact zg hS5 _|exact zg hS3 _|exact zg hS0 _|exact zg (zg hS3 _) _) (fun hh=>?_)
    clear hK K
    try simp only[Act.put,ptA,ptB,ptC]
    refine zQ (k:=17) (by rfl) (by rfl) (by kernel_rfl) ?_
    simp only[List.drop_succ_cons,List.drop_zero]
    obtain⟨z0,z1,z2,z3⟩:=hS7
    clear hh hS3 hS5 hS0
    go_wp2
    go_roundw
    case rel=>
     have hlw:=HX.out.2.2.2.1.lt
     have hst:=HH.out.1.step2 (nr _) (fun h0=>by have:=HC.out.2.1 h0;omega) HA2.out
     exact⟨k+1,_,_,_,_,_,_,by omega,by go_num,hst.1,HH.out.2.1.trans hst.2⟩
    case measure=>simp[intOf];omega
  ·obtain rfl:k=N:=by omega
   have HH:=hide (ai hnew hbel);clear hnew hbel
   go_wp2
   go_ret
   have hn:=HH.out.1
   rw[HN.out] at hn
   exact⟨_,rfl,vR,vD,vs,us,gs,hs,rfl,hn,HH.out.2⟩
theorem zoe (w:World) (v:Value) (rows:List (List Rat)) (L:Nat) (h:RowsV w v rows L) (h0:0<rows.length) (hl:rows.length<=1073741824) (hrow:∀i,i<rows.length->0<(rows.getD i []).length/\(rows.getD i []).length<=1073741824) (hL:1<=L):
  Calls Tryz.prog 190 #[v] w (Ret (newR w rows L)):=by
 refine(zmm w v rows L h h0 hl (fun i hi=>(hrow i hi).2) hL).mono ?_
 rintro e w' ⟨_,rfl,vR,vD,vs,us,gs,hs,rfl,hn,hb⟩
 obtain⟨R,D,cR,cD,rR,rD,hm⟩:=hn.mat h0 rfl (zbH _) (fun i hi=>(hrow i hi).1)
 exact⟨_,rfl,w.heap.size,R,D,cR,cD,vs,us,rR,rD,gs,hs,rfl,hm,hb⟩
end Go.Proofs.YtpoahodnakhmiaaGreat
