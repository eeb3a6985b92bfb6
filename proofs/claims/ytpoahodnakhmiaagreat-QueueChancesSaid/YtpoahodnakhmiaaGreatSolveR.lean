import Derived.Test.YtpoahodnakhmiaaGreatRefE
import Derived.Laws.AppendOwnNone
namespace Go.Proofs.YtpoahodnakhmiaaGreat
set_option linter.unusedVariables false
set_option linter.unusedSimpArgs false
open Go.RowKit
theorem zbS {P:Program} {w:World} (t ty e:TypeId) (i:TypeInfo) (ht:P.underlying t=some (.slice e)) (hi:P.info? e=some i) (A:Option Addr) (c:Nat):
  (Builtin.append_ #[t,t] ty #[.slice none 0 0,.slice A 0 c]).run P w=.ok (.slice none 0 0) w:=by
 cases A
 ·simp[Builtin.append_,run_underlying ht,sizeOf,typeInfo,hi,Builtin.lenOf,Builtin.firstCells]
 ·simp[Builtin.append_,run_underlying ht,sizeOf,typeInfo,hi,Builtin.lenOf,Builtin.firstCells,loadCells,loadCellsFrom]
theorem zd1 {P:Program} {t e:TypeId} {sz bytes:Nat} (S:ElT P t e sz bytes) {w:World} {ops:Array Oper} {rest:List Oper} {o:Oper} {a:Act} {Q:Exit->Act->World->Prop} (hgd:o.guard=none) (s x:Operand)
  (ho:o.op=.call { callee:=.builtin .append,args:=#[s,x],argTypes:=#[t,t] })
  (hs:a.eval s=.slice none 0 0) (A:Option Addr) (c:Nat) (hx:a.eval x=.slice A 0 c)
  (h:wpList P ops Q rest (a.put o.dst (.slice none 0 0)) w):wpList P ops Q (o::rest) a w:=by
 obtain⟨z,hz0,hz1⟩:=S.hi
 obtain⟨i,hi,-,-,-⟩:=info_parts hz1
 refine wpList_plain hgd fun K hK=>?_
 have hrun:=zbS (P:=P) (w:=w) t o.type e i S.ht hi A c
 unfold Oper.wp
 simp[execOp,ho,resolve,invoke,builtin,hs,hx,hrun,Result.andThen]
 exact hK _ _ h
set_option maxRecDepth 1000000 in
set_option maxHeartbeats 4000000 in
theorem zkY (w:World) (v:Value) (wd L:Nat) (hv:QRows L w v []) (hw0:0<wd) (hwb:wd<=1000000000):
  Calls Tryz.prog 144 #[v,.int .i64 wd] w (Ret (fun v w'=>QRows L w' v []/\Below w.heap.size w w')):=by
 obtain⟨A,c,rfl,hc1,hc2,-⟩:=hv
 simp only[List.length_nil]
 have d1:decide (0<wd)=true:=decide_eq_true hw0
 go_enter Tryz.func144,Tryz.ntmps144
 go_wp2
 go_loopw [5,6,7] (fun s5 s6 s7 wr=>s5=.slice none 0 0/\s6=.int .i64 0/\Below w.heap.size w wr) (fun _ _ _ _=>0)
 case atStart=>exact⟨rfl,rfl,blr _ _⟩
 case round=>
  obtain⟨rfl,rfl,hbel⟩:=hrel
  have HB:=hide hbel;clear hbel
  go_wp2
  go_loopw [8,9] (fun s8 s9 wr2=>s8=.int .i64 0/\s9=.int .i64 0/\Below w.heap.size w wr2) (fun _ _ _=>0)
  case atStart=>exact⟨rfl,rfl,HB.out⟩
  case round=>
   obtain⟨rfl,rfl,hbel⟩:=hrel
   have HC:=hide hbel;clear hbel
   go_wp2
   go_ret
   exact⟨_,rfl,zx.nil _ _ _ _,HC.out⟩
theorem zij (w:World) (v:Value) (rows:List (List Rat)) (bs:List Rat) (wd:Nat) (hv:QRows 1423 w v (wideR rows bs)) (h:Sys wd rows bs):
  Calls Tryz.prog 144 #[v,.int .i64 (wd+1:Nat)] w (Ret (fun v w'=>QRows 1423 w' v ((refS rows bs wd).1.1.take (refS rows bs wd).2.length)/\Below w.heap.size w w')):=by
 have hw:=h.w6
 have hn:=h.n6
 by_cases h0:0<rows.length
 ·have:=zkP w v (wideR rows bs) (wd+1) 12801 rows.length hv (zH _ _) h0 (by omega) (zdQ bs h.row) (by omega) (by omega) (by omega) (by
   have:=h.refFit
   rw[zH] at this
   rw[zH]
   exact this)
  rw[zH] at this
  exact this
 ·have e:rows=[]:=List.eq_nil_of_length_eq_zero (by omega)
  subst e
  have e1:(refS [] bs wd).2=[]:=zcw (echN_out (wd+1) (wideR [] bs,idRows 0))
  rw[e1]
  exact zkY w v (wd+1) 1423 hv (by omega) (by omega)
def znZ (w:World) (rows:List (List Rat)) (bs:List Rat) (v:Value) (w':World):Prop:=
 Below w.heap.size w w'/\((denied rows bs/\v=.tuple #[.slice none 0 0,.int .i64 0])\/(¬denied rows bs/\¬oneS rows/\v=.tuple #[.slice none 0 0,.int .i64 2]) \/
  (¬denied rows bs/\oneS rows/\∃u,v=.tuple #[u,.int .i64 1]/\QRowE 1423 w' u (solX rows bs)))
theorem zgd {rows:List (List Rat)} {bs:List Rat} {k:Nat} (hk:k<rows.length):(wideR rows bs).take (k+1)=(wideR rows bs).take k++[rows.getD k []++[bs.getD k 0]]:=by
 rw[List.take_succ_eq_append_getElem (by rw[zH];exact hk)]
 have:=zcN rows bs k hk
 rw[List.getD_eq_getElem?_getD,List.getElem?_eq_getElem (by rw[zH];exact hk)] at this
 simp only[Option.getD_some] at this
 rw[this]
set_option maxRecDepth 1000000 in
set_option maxHeartbeats 8000000 in
theorem znk (w:World) (va vb:Value) (rows:List (List Rat)) (bs:List Rat) (wd:Nat) (ha:QRows 1423 w va rows) (hb:QRowE 1423 w vb bs) (h:Sys wd rows bs) (hwd:wd=(rows.getD 0 []).length):
  Calls Tryz.prog 99 #[va,vb] w (Ret (znZ w rows bs)):=by
 obtain⟨N,hN⟩:∃N,N=rows.length:=⟨_,rfl⟩
 obtain⟨A,c,rfl,hc1,hc2,-⟩:=id ha
 obtain⟨B,d,rfl,hd1,hd2,-⟩:=id hb
 unfold maxLen at hc2 hd2
 have hn6:=h.n6
 have hw6:=h.w6
 have hbl:=h.len
 rw[hbl] at hd1 ⊢
 rw[<-hN] at hc1 hd1 hn6 ⊢
 have HA:=hide (ai ha (ai hb (ai h hwd)))
 have HN:=hide hN
 clear ha hb h hwd hN hbl
 go_enter Tryz.func99,Tryz.ntmps99
 go_wp2_with fail
 refine(zk4 _ _ rows 1423 (by have:=HA.out.1;rwa[<-HN.out] at this)).mono ?_
 rintro e w1 ⟨_,rfl,rfl,rfl⟩
 rw[<-HA.out.2.2.2]
 go_wp2
 go_loopw [7,8,9] (fun s7 s8 s9 wr=>∃k:Nat,k<=N/\s8=.int .i64 k/\OwnG 25 1 (QRowE 1423) wr w.heap.size s7 ((wideR rows bs).take k)/\Below w.heap.size w wr) (fun _ s8 _ _=>N-(intOf s8).toNat)
 case atStart=>exact⟨0,Nat.zero_le _,rfl,OwnG.nil _ _ _ _ _,blr _ _⟩
 case round=>
  obtain⟨k,hk,rfl,hown,hbel⟩:=hrel
  have HO:=hide (ai hown hbel)
  obtain⟨Ab,cb,eb,hcb⟩:=hown.len
  have hlk:((wideR rows bs).take k).length=k:=by rw[List.length_take,zH,<-HN.out];omega
  rw[hlk] at eb
  subst eb
  have HLK:=hide hlk
  by_cases hkl:k<N
  ·have d1:decide (k<N)=true:=decide_eq_true hkl
   obtain⟨-,-,-,hat⟩:=zx.row_at (HA.out.1.below hbel)
   obtain⟨b,o,e,hat2⟩:=hat (by rw[<-HN.out];omega)
   obtain rfl:=e
   obtain⟨A1,c1,hcell,hr⟩:=hat2 k (by rw[<-HN.out];exact hkl)
   have hrl:(rows.getD k []).length=wd:=HA.out.2.2.1.row k (by rw[<-HN.out];exact hkl)
   rw[hrl] at hcell hr
   have hbq:=HA.out.2.1.below hbel
   rw[HA.out.2.2.1.len,<-HN.out] at hbq
   obtain⟨-,-,-,hatq⟩:=zx.q_at hbq
   obtain⟨b2,o2,e,hatq2⟩:=hatq (by rw[HA.out.2.2.1.len,<-HN.out];omega)
   obtain rfl:=e
   obtain⟨t,A3,n3,c3,A4,n4,c4,y0,y1,y2,y3,hq⟩:=hatq2 k (by rw[HA.out.2.2.1.len,<-HN.out];exact hkl)
   have HR:=hide (ai hr (ai hrl hq))
   clear hat hat2 hr hatq hatq2 hq hrl hbq hown hbel hlk
   by_cases hw0:0<wd
   ·go_wp2_with (first
     | (at_builtin;refine appL Tryz.qE (zap _ (by decide)) (zkQ _) _ rfl _ _ rfl wr.heap.size _ [] (rows.getD k []) rfl (OwnG.nil _ _ _ _ _) 55 _ rfl HR.out.1 (by rw[HR.out.2.1];exact hw0) (by rw[HR.out.2.1];simp;omega) (nr _) ?_;intro g5 c5 w5 hown5 hb5 hg5;
        rw[show ([]:List Rat).length+(rows.getD k []).length=wd by rw[HR.out.2.1];simp] at hown5 ⊢;
        rw[List.nil_append] at hown5;
        have H5:=hide (ai hown5 hb5);have l5:=zf y0;
        have z0:=(hb5.cell (p:=⟨b2,o2+k*4,none⟩) (by exact l5)).trans y0;have z1:=(hb5.cell (p:=⟨b2,o2+k*4+1,none⟩) (by exact l5)).trans y1;have z2:=(hb5.cell (p:=⟨b2,o2+k*4+2,none⟩) (by exact l5)).trans y2;have z3:=(hb5.cell (p:=⟨b2,o2+k*4+3,none⟩) (by exact l5)).trans y3;
        clear hown5 hb5 hg5 y0 y1 y2 y3)
     | (at_builtin;refine appG Tryz.qE (zap _ (by decide)) _ rfl _ _ rfl wr.heap.size _ (rows.getD k []) (bs.getD k 0) rfl (OwnG.below (zai _) H5.out.1 (za (blr _ _) _)) ⟨w5.heap.size,0,none⟩ _ rfl (.agg #[.bool t,.slice A3 n3 c3,.bool false,.slice A4 n4 c4]) (QV.below HR.out.2.2 (za H5.out.2 _)) rfl (zan _ _ _ _ _ _ rfl) (zbI _ _ _ _ _ _ _ _) (by rw[HR.out.2.1];omega) (by have:=H5.out.2.size;simp;omega) ?_;intro g6 c6 w6 hown6 hb6 hg6;
        rw[HR.out.2.1] at hown6 ⊢;
        have H6:=hide (ai hown6 (ai ((H5.out.2.trans (za (blr _ _) (.cells #[.bool t,.slice A3 n3 c3,.bool false,.slice A4 n4 c4] 55) |>.mono H5.out.2.size)).trans hb6) hg6.lt));
        clear hown6 hb6 hg6 z0 z1 z2 z3)
     | (at_builtin;refine appG Tryz.qrowE (zcI 1423 (by decide) (by decide)) _ rfl _ _ rfl w.heap.size _ ((wideR rows bs).take k) (rows.getD k []++[bs.getD k 0]) rfl (OwnG.below (zaD 1423) HO.out.1 (za H6.out.2.1 _)) ⟨w6.heap.size,0,none⟩ _ rfl (.slice (some ⟨g6,0,none⟩) (wd+1) c6) (by have hh:=zx.below (zai 1423) H6.out.1.lst (za (blr _ _) (.cells #[.slice (some ⟨g6,0,none⟩) (wd+1) c6] 25));exact hh) rfl (zaH _ _ rfl _ rfl) (fun c hc=>(by simp[Value.cells] at hc;rw[hc];rfl)) (by rw[HLK.out];omega) (by have h1:=HO.out.2.size;have h2:=H6.out.2.1.size;simp;omega) ?_;intro g7 c7 w7 hown7 hb7 hg7;rw[HLK.out] at hown7 ⊢;
        have H7:=hide (ai hown7 ((HO.out.2.trans ((za H6.out.2.1 (.cells #[.slice (some ⟨g6,0,none⟩) (wd+1) c6] 25)).mono HO.out.2.size)).trans hb7));clear hown7 hb7 hg7))
    case roundEnd=>exact⟨⟨k+1,by omega,by go_num,by rw[zgd (by rw[<-HN.out];exact hkl)];exact H7.out.1,H7.out.2⟩,by simp[intOf];omega⟩
   ·obtain rfl:wd=0:=by omega
    go_wp2_with (first
     | (at_builtin;refine zd1 Tryz.qE rfl _ _ rfl rfl _ _ rfl ?_;
        obtain⟨w5,hw5⟩:∃w5:World,w5=wr:=⟨_,rfl⟩;
        have hb5:Below wr.heap.size wr w5:=(by rw[hw5];exact blr _ _);
        have hown5:OwnG 55 4 (QE 1423) w5 wr.heap.size (.slice none 0 0) (rows.getD k []):=(by rw[List.eq_nil_of_length_eq_zero HR.out.2.1];exact OwnG.nil _ _ _ _ _);
        rw[<-hw5];
        have H5:=hide (ai hown5 hb5);have l5:=zf y0;
        have z0:=(hb5.cell (p:=⟨b2,o2+k*4,none⟩) (by exact l5)).trans y0;have z1:=(hb5.cell (p:=⟨b2,o2+k*4+1,none⟩) (by exact l5)).trans y1;have z2:=(hb5.cell (p:=⟨b2,o2+k*4+2,none⟩) (by exact l5)).trans y2;have z3:=(hb5.cell (p:=⟨b2,o2+k*4+3,none⟩) (by exact l5)).trans y3;
        clear hown5 hb5 hw5 y0 y1 y2 y3)
     | (at_builtin;refine appG Tryz.qE (zap _ (by decide)) _ rfl _ _ rfl wr.heap.size _ (rows.getD k []) (bs.getD k 0) rfl (OwnG.below (zai _) H5.out.1 (za (blr _ _) _)) ⟨w5.heap.size,0,none⟩ _ rfl (.agg #[.bool t,.slice A3 n3 c3,.bool false,.slice A4 n4 c4]) (QV.below HR.out.2.2 (za H5.out.2 _)) rfl (zan _ _ _ _ _ _ rfl) (zbI _ _ _ _ _ _ _ _) (by rw[HR.out.2.1];omega) (by have:=H5.out.2.size;simp;omega) ?_;intro g6 c6 w6 hown6 hb6 hg6;
        rw[HR.out.2.1] at hown6 ⊢;
        have H6:=hide (ai hown6 (ai ((H5.out.2.trans (za (blr _ _) (.cells #[.bool t,.slice A3 n3 c3,.bool false,.slice A4 n4 c4] 55) |>.mono H5.out.2.size)).trans hb6) hg6.lt));
        clear hown6 hb6 hg6 z0 z1 z2 z3)
     | (at_builtin;refine appG Tryz.qrowE (zcI 1423 (by decide) (by decide)) _ rfl _ _ rfl w.heap.size _ ((wideR rows bs).take k) (rows.getD k []++[bs.getD k 0]) rfl (OwnG.below (zaD 1423) HO.out.1 (za H6.out.2.1 _)) ⟨w6.heap.size,0,none⟩ _ rfl (.slice (some ⟨g6,0,none⟩) (0+1) c6) (by have hh:=zx.below (zai 1423) H6.out.1.lst (za (blr _ _) (.cells #[.slice (some ⟨g6,0,none⟩) (0+1) c6] 25));exact hh) rfl (zaH _ _ rfl _ rfl) (fun c hc=>(by simp[Value.cells] at hc;rw[hc];rfl)) (by rw[HLK.out];omega) (by have h1:=HO.out.2.size;have h2:=H6.out.2.1.size;simp;omega) ?_;intro g7 c7 w7 hown7 hb7 hg7;rw[HLK.out] at hown7 ⊢;
        have H7:=hide (ai hown7 ((HO.out.2.trans ((za H6.out.2.1 (.cells #[.slice (some ⟨g6,0,none⟩) (0+1) c6] 25)).mono HO.out.2.size)).trans hb7));clear hown7 hb7 hg7))
    all_goals exact⟨⟨k+1,by omega,by go_num,by rw[zgd (by rw[<-HN.out];exact hkl)];exact H7.out.1,H7.out.2⟩,by simp[intOf];omega⟩
  ·have d1:decide (k<N)=false:=decide_eq_false hkl
   have hall:(wideR rows bs).take k=wideR rows bs:=List.take_of_length_le (by rw[zH,<-HN.out];omega)
   have hq:=hown.lst
   rw[hall] at hq
   have HW:=hide (ai hq hbel)
   clear hall hq hown hbel hlk HLK
   go_wp2_with fail
   rw[show ((wd:Int)+1)=((wd+1:Nat):Int) by omega]
   refine(zij _ _ rows bs wd HW.out.1 HA.out.2.2.1).mono ?_
   rintro e wE ⟨ve,rfl,hve,hdE⟩
   obtain⟨M,hM⟩:∃M,M=(refS rows bs wd).2.length:=⟨_,rfl⟩
   have hrS:=zT (wd+1) (zcO (bs:=bs) HA.out.2.2.1.row)
   have hlS:(refS rows bs wd).1.1.length=rows.length:=by unfold refS;rw[echN_length];exact zH _ _
   have hMo:M<=rows.length:=by rw[hM];have:=echN_out (wd+1) (wideR rows bs,idRows rows.length);rw[show ((wideR rows bs,idRows rows.length):St).1.length=rows.length from zH _ _] at this;exact this
   have hI:=refI (bs:=bs) HA.out.2.2.1.row
   rw[<-hM] at hve
   have hlt:((refS rows bs wd).1.1.take M).length=M:=by rw[List.length_take,hlS];omega
   obtain⟨Ae,ce,rfl,hce1,hce2,-⟩:=id hve
   rw[hlt] at hve hce1 ⊢
   unfold maxLen at hce2
   have hget:∀i,i<M->((refS rows bs wd).1.1.take M).getD i []=(refS rows bs wd).1.1.getD i []:=by
    intro i hi
    simp only[List.getD_eq_getElem?_getD]
    rw[List.getElem?_take_of_lt hi]
   have hlen:∀i,i<M->((refS rows bs wd).1.1.getD i []).length=wd+1:=fun i hi=>hrS.row i (by show i<(refS rows bs wd).1.1.length;rw[hlS];omega)
   have HE:=hide (ai hve (ai (bnx HW.out.2 hdE) (ai hM (ai hlt (ai hget (ai hlen (ai hI (ai hlS hMo))))))))
   have hM6:M<=6:=by have:=HA.out.2.2.1.n6;omega
   clear hve hdE hM hlt hget hlen hI hrS hlS hMo
   go_wp2
   go_loopw [11,12] (fun s11 s12 wr2=>∃j:Nat,j<=wd/\s12=.int .i64 j/\OwnG 55 4 (QE 1423) wr2 wE.heap.size s11 (List.replicate j 0)/\Below wE.heap.size wE wr2) (fun _ s12 _=>wd-(intOf s12).toNat)
   case atStart=>exact⟨0,Nat.zero_le _,rfl,OwnG.nil _ _ _ _ _,blr _ _⟩
   case round=>
    obtain⟨j,hj,rfl,hown,hbel⟩:=hrel
    have HX:=hide (ai hown hbel)
    obtain⟨Ax,cx,ex,hcx1,hcx2⟩:=hown.len
    rw[List.length_replicate] at ex hcx1
    unfold maxLen at hcx2
    subst ex
    rename World=>wj
    by_cases hjl:j<wd
    ·have d2:decide (j<wd)=true:=decide_eq_true hjl
     clear hown hbel
     go_wp2_with fail
     refine(za4 _ 0 1 (by omega) (by omega) (by omega) (by omega) (by omega)).mono ?_
     rintro e w5 ⟨u,rfl,hq5,hd5⟩
     have hq0:QV w5 u 0 1423:=by
      rw[show Rat.divInt 0 1=(0:Rat) by simp] at hq5
      exact hq5.more (by omega)
     obtain⟨t,A3,n3,c3,A4,n4,c4,rfl,-⟩:=QV.parts hq0
     have H5:=hide (ai hq0 hd5)
     clear hq0 hq5 hd5
     go_wp2_with (at_builtin;refine appG Tryz.qE (zap 1423 (by decide)) _ rfl _ _ rfl wE.heap.size _ (List.replicate j 0) 0 rfl (OwnG.below (zai 1423) HX.out.1 (za H5.out.2 _)) ⟨w5.heap.size,0,none⟩ _ rfl (.agg #[.bool t,.slice A3 n3 c3,.bool false,.slice A4 n4 c4]) (QV.below H5.out.1 (za (blr _ _) _)) rfl (zan _ _ _ _ _ _ rfl) (zbI _ _ _ _ _ _ _ _) (by rw[List.length_replicate];omega) (by have h1:=HX.out.2.size;have h2:=H5.out.2.size;simp;omega) ?_;intro g6 c6 w6 hown6 hb6 hg6;rw[List.length_replicate] at hown6 ⊢;have H6:=hide (ai hown6 ((HX.out.2.trans ((za H5.out.2 (.cells #[.bool t,.slice A3 n3 c3,.bool false,.slice A4 n4 c4] 55)).mono HX.out.2.size)).trans hb6));clear hown6 hb6 hg6)
     case roundEnd=>exact⟨⟨j+1,by omega,by go_num,by rw[List.replicate_succ'];exact H6.out.1,H6.out.2⟩,by simp[intOf];omega⟩
    ·have d2:decide (j<wd)=false:=decide_eq_false hjl
     obtain rfl:j=wd:=by omega
     obtain⟨gx,hgx⟩:∃gx,0<j->Ax=some ⟨gx,0,none⟩/\wE.heap.size<=gx/\z9 wj gx (List.replicate j 0) 1423:=by
      by_cases h0:0<j
      ·obtain⟨g,c',e,h1,h2,h3,h4⟩:=hown.qrow (by rw[List.length_replicate];exact h0)
       injection e with e1 e2 e3
       exact⟨g,fun _=>⟨e1,h3,h4⟩⟩
      ·exact⟨0,fun h=>absurd h h0⟩
     have HG:=hide (ai hgx hbel)
     clear hown hbel hgx
     go_wp2
     go_loopw [13] (fun s13 wr=>∃i:Nat,i<=M/\s13=.int .i64 i/\(∀r,r<i->(refS rows bs j).2.getD r 0<j)/\(0<j->z9 wr gx (putE (fun i=>ent (refS rows bs j).1.1 i j) (refS rows bs j).2 i (List.replicate j 0)) 1423)/\Below wE.heap.size wE wr) (fun s13 _=>M-(intOf s13).toNat)
     case atStart=>exact⟨0,Nat.zero_le _,rfl,fun r h=>absurd h (Nat.not_lt_zero _),fun h=>(HG.out.1 h).2.2,HG.out.2⟩
     case round=>
      obtain⟨i,hi,rfl,hlow,hxr,hbel⟩:=hrel
      obtain⟨wo,rfl⟩:∃wo:World,wo=wr:=⟨_,rfl⟩
      by_cases hil:i<M
      ·have d3:decide (i<M)=true:=decide_eq_true hil
       obtain⟨-,-,-,hat⟩:=zx.row_at (HE.out.1.below hbel)
       obtain⟨bE,oE,e,hat2⟩:=hat (by rw[HE.out.2.2.2.1];omega)
       obtain rfl:=e
       obtain⟨Ar,cr,hcell,hr⟩:=hat2 i (by rw[HE.out.2.2.2.1];exact hil)
       rw[HE.out.2.2.2.2.1 i hil,HE.out.2.2.2.2.2.1 i hil] at hcell hr
       obtain⟨-,-,-,hatq⟩:=zx.q_at hr
       obtain⟨br,or,e,hatq2⟩:=hatq (by rw[HE.out.2.2.2.2.2.1 i hil];omega)
       obtain rfl:=e
       rw[HE.out.2.2.2.2.2.1 i hil] at hatq2
       obtain⟨K,hK⟩:∃K,K=(refS rows bs j).2.getD i 0:=⟨_,rfl⟩
       have hiM:i<(refS rows bs j).2.length:=by rw[<-HE.out.2.2.1];exact hil
       have hKj:K<=j:=by have:=HE.out.2.2.2.2.2.2.1.lt i hiM;omega
       have HR:=hide (ai hatq2 (ai hlow (ai hxr (ai hbel (ai hK hiM)))))
       clear hatq2 hlow hxr hbel hK hiM hat hat2 hr hatq
       go_wp2
       go_loopw [14] (fun s14 wr=>∃c:Nat,c<=K/\s14=.int .i64 c/\Below wo.heap.size wo wr) (fun s14 _=>K-(intOf s14).toNat)
       case atStart=>exact⟨0,Nat.zero_le _,rfl,blr _ _⟩
       case round=>
        obtain⟨c',hc',rfl,hbi⟩:=hrel
        have hcell2:=(hbi.cell (zf hcell)).trans hcell
        obtain⟨t,A3,n3,c3,A4,n4,c4,y0,y1,y2,y3,hq⟩:=HR.out.1 c' (by omega)
        have z0:=(hbi.cell (zf y0)).trans y0
        have z1:=(hbi.cell (zf y1)).trans y1
        have z2:=(hbi.cell (zf y2)).trans y2
        have z3:=(hbi.cell (zf y3)).trans y3
        have HQ:=hide (ai (hq.below hbi) hbi)
        clear hq hbi y0 y1 y2 y3
        by_cases hcK:c'<K
        ·have hz:((refS rows bs j).1.1.getD i []).getD c' 0=0:=HE.out.2.2.2.2.2.2.1.left i c' HR.out.2.2.2.2.2 (by rw[<-HR.out.2.2.2.2.1];exact hcK)
         have HZ:=hide hz;clear hz
         go_wp2_with fail
         refine(zdX _ _ _ _ HQ.out.1).mono ?_
         rintro e w1 ⟨_,rfl,rfl,hd1⟩
         rw[show sgnQ (((refS rows bs j).1.1.getD i []).getD c' 0)=0 by rw[HZ.out];rfl]
         have HD:=hide hd1;clear hd1
         go_wp2
         case roundEnd=>exact⟨⟨c'+1,by omega,by go_num,bnx HQ.out.2 HD.out⟩,by simp[intOf];omega⟩
        ·have hck:c'=K:=by omega
         have ho:((refS rows bs j).1.1.getD i []).getD c' 0=1:=by rw[hck,HR.out.2.2.2.2.1];exact HE.out.2.2.2.2.2.2.1.one i HR.out.2.2.2.2.2
         have HZ:=hide (ai ho hck);clear ho hck
         go_wp2_with fail
         refine(zdX _ _ _ _ HQ.out.1).mono ?_
         rintro e w1 ⟨_,rfl,rfl,hd1⟩
         rw[show sgnQ (((refS rows bs j).1.1.getD i []).getD c' 0)=1 by rw[HZ.out.1];first|rfl|decide]
         have hb1:=bnx HQ.out.2 hd1
         by_cases hKe:c'=j
         ·have hne:((c':Int) == (j:Int))=true:=by rw[hKe];simp
          have HK:=hide hKe;clear hKe
          have HD:=hide hb1;clear hb1 hd1
          go_wp2
          refine bodyPost_ret (v:=.tuple #[.slice none 0 0,.int .i64 0]) ?_ rfl ?_
          ·simp[results,Tryz.results99,go_sem]
          refine⟨_,rfl,HE.out.2.1.trans ((HR.out.2.2.2.1.trans (HD.out.mono HR.out.2.2.2.1.size)).mono HE.out.2.1.size),.inl ⟨?_,rfl⟩⟩
          refine Classical.byContradiction fun hno=>?_
          have:=((zdR HA.out.2.2.1 HA.out.2.2.2).2 hno).2.1 i HR.out.2.2.2.2.2
          rw[<-HR.out.2.2.2.2.1,<-HZ.out.2,HK.out] at this
          omega
         ·have hne:((c':Int) == (j:Int))=false:=by rw[beq_eq_false_iff_ne];omega
          have hcj:c'<j:=by have:=HZ.out.2;omega
          have h0j:0<j:=by omega
          obtain⟨ex,hgx1,-⟩:=HG.out.1 h0j
          obtain rfl:=ex
          have hpl:(putE (fun i=>ent (refS rows bs j).1.1 i j) (refS rows bs j).2 i (List.replicate j 0)).length=j:=by rw[zem,List.length_replicate]
          have hxr1:=(HR.out.2.2.1 h0j).below hb1
          obtain⟨s9,A5,n5,c5,A6,n6,c6,x0,x1,x2,x3,-⟩:=hxr1.2 c' (by rw[hpl];exact hcj)
          have f0:=hxr1.frozen (c'*4)
          have f1:=hxr1.frozen (c'*4+1)
          have f2:=hxr1.frozen (c'*4+2)
          have f3:=hxr1.frozen (c'*4+3)
          obtain⟨t7,A7,n7,c7,A8,n8,c8,y0,y1,y2,y3,hq⟩:=HR.out.1 j (by omega)
          have v0:=(hb1.cell (zf y0)).trans y0
          have v1:=(hb1.cell (zf y1)).trans y1
          have v2:=(hb1.cell (zf y2)).trans y2
          have v3:=(hb1.cell (zf y3)).trans y3
          have hcell3:=(hb1.cell (zf hcell)).trans hcell
          have HD:=hide (ai hb1 (ai hxr1 (ai (hq.below hb1) (ai hpl hgx1))))
          clear hb1 hxr1 hq hd1 hpl hgx1 hcell2 hcell z0 z1 z2 z3 y0 y1 y2 y3
          go_wp2
          case roundEnd=>
           obtain⟨hb1,hxr1,hq,hpl,hgx1⟩:=HD.out
           obtain⟨t1,t2,t3⟩:=hxr1.set4 (i:=c') (by rw[hpl];exact hcj) hq rfl
           refine⟨⟨i+1,by omega,by go_num,?_,fun _=>?_,?_⟩,by simp[intOf];omega⟩
           ·intro r hr
            by_cases e:r=i
            ·rw[e,<-HR.out.2.2.2.2.1,<-HZ.out.2];exact hcj
            ·exact HR.out.2.1 r (by omega)
           ·rw[putE,<-HR.out.2.2.2.2.1,<-HZ.out.2]
            exact t1
           ·exact only_below (HR.out.2.2.2.1.trans (hb1.mono HR.out.2.2.2.1.size)) t3 (by have h1:=HR.out.2.2.2.1.size;have h2:=hb1.size;omega) hgx1
      ·have d3:decide (i<M)=false:=decide_eq_false hil
       obtain rfl:i=M:=by omega
       have hno:¬denied rows bs:=by
        intro hd
        obtain⟨r,h1,h2⟩:=(zdR HA.out.2.2.1 HA.out.2.2.2).1 hd
        have:=hlow r (by rw[HE.out.2.2.1];exact h1)
        omega
       obtain⟨e1,-,e3⟩:=(zdR HA.out.2.2.1 HA.out.2.2.2).2 hno
       have hrk:=HA.out.2.2.1.rank_le
       rw[<-HA.out.2.2.2,<-e1,<-HE.out.2.2.1] at hrk
       rw[<-HE.out.2.2.1] at e3
       have hbW:Below w.heap.size w wo:=HE.out.2.1.trans (hbel.mono HE.out.2.1.size)
       have HF:=hide (ai hno (ai e1 (ai e3 (ai hbW hxr))))
       clear hno e1 e3 hbW hxr hbel hlow
       by_cases hone:i<j
       ·have d4:decide (i<j)=true:=decide_eq_true hone
        go_wp2
        refine bodyPost_ret (v:=.tuple #[.slice none 0 0,.int .i64 2]) ?_ rfl ?_
        ·simp[results,Tryz.results99,go_sem]
        refine⟨_,rfl,HF.out.2.2.2.1,.inr (.inl ⟨HF.out.1,fun ho=>?_,rfl⟩)⟩
        unfold oneS at ho
        rw[<-HA.out.2.2.2,<-HF.out.2.1,<-HE.out.2.2.1] at ho
        omega
       ·have d4:decide (i<j)=false:=decide_eq_false hone
        go_wp2
        refine bodyPost_ret (v:=.tuple #[.slice Ax j cx,.int .i64 1]) ?_ rfl ?_
        ·simp[results,Tryz.results99,go_sem]
        refine⟨_,rfl,HF.out.2.2.2.1,.inr (.inr ⟨HF.out.1,?_,_,rfl,?_⟩)⟩
        ·unfold oneS
         rw[<-HA.out.2.2.2,<-HF.out.2.1,<-HE.out.2.2.1]
         omega
        ·have hsl:(solX rows bs).length=j:=by rw[zat];exact HA.out.2.2.2.symm
         by_cases h0j:0<j
         ·obtain⟨ex,-,-⟩:=HG.out.1 h0j
          have:=HF.out.2.2.2.2 h0j
          rw[HF.out.2.2.1] at this
          have h2:=this.row (c:=cx) (by rw[hsl];exact hcx1) (by unfold maxLen;exact hcx2)
          rw[hsl] at h2
          rw[ex]
          exact h2
         ·refine⟨Ax,cx,by rw[hsl],by rw[hsl];exact hcx1,by unfold maxLen;exact hcx2,fun h=>?_⟩
          rw[hsl] at h
          exact absurd h h0j
end Go.Proofs.YtpoahodnakhmiaaGreat
