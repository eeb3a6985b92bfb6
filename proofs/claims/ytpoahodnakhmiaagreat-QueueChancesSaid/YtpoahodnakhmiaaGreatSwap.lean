import Derived.Test.YtpoahodnakhmiaaGreatTake
import Derived.BigRegion
import Derived.Deep.Cut
set_option maxRecDepth 100000
namespace Go.Proofs.YtpoahodnakhmiaaGreat
set_option linter.unusedVariables false
set_option linter.unusedSimpArgs false
open Go.RowKit
def dotN (ps ss:List Rat):Nat->Rat
 | 0=>0
 | k+1=>dotN ps ss k+ps.getD k 0*ss.getD k 0
theorem RowV.at_ {w:World} {A:Option Addr} {n c:Nat} {qs:List Rat} {L:Nat} (h:RowV w (.slice A n c) qs L):n=qs.length/\qs.length<=c/\c<=maxLen/\(0<qs.length->∃b o,A=some ⟨b,o,none⟩/\∀i,i<qs.length->At3 w b (o+i*3) (qs.getD i 0) L):=by
 obtain⟨A',c',e,h1,h2,h3⟩:=h
 injection e with e1 e2 e3
 subst e1 e2 e3
 exact⟨rfl,h1,h2,h3⟩
theorem zbL (w:World) (L:Nat):RowC (w.alloc (.cells #[.bool false,.slice none 0 0,.slice none 0 0] 43)) w.heap.size [0] L:=by
 have hh:=heap_alloc_new w (.cells #[.bool false,.slice none 0 0,.slice none 0 0] 43)
 refine⟨⟨_,hh⟩,fun i hi=>?_⟩
 obtain rfl:i=0:=by simpa using hi
 obtain⟨k0,k1,k2,_⟩:=box3 (zL w (.cells #[.bool false,.slice none 0 0,.slice none 0 0] 43))
 exact⟨none,0,0,none,0,0,k0,k1,k2,NatV.nil _ _,NatV.nil _ _⟩
set_option maxHeartbeats 4000000 in
theorem zmq (w:World) (va vb:Value) (ps ss:List Rat) (L:Nat) (ha:RowV w va ps L) (hb:RowV w vb ss L) (hL:L<=134217700) (hlen:ps.length<=ss.length)
  (hfit:∀k,k<=ps.length->FitQ L (dotN ps ss k)):
  Calls Tryz.prog 193 #[va,vb] w (Ret (ratR w (dotN ps ss ps.length) L)):=by
 have HA:=hide (ai ha (ai hb hfit))
 obtain⟨A1,c1,rfl,hc1,hm1,_⟩:=ha
 obtain⟨A2,c2,rfl,hc2,hm2,_⟩:=hb
 clear hfit
 unfold maxLen at hm1 hm2
 have hb0:Below w.heap.size w ((w.alloc (.cells #[.bool false,.slice none 0 0,.slice none 0 0] 43)).alloc (.cells #[.bool false,.slice none 0 0,.slice none 0 0] 43)):=((blr _ _).alloc (nr _) _).alloc (by simp) _
 go_enter Tryz.func193,Tryz.ntmps193
 go_wp2
 go_loopw [10] (fun s8 wr=>∃(k:Nat),k<=ps.length/\s8=.int .i64 k/\RowC wr (w.heap.size+1) [dotN ps ss k] L/\RowC wr w.heap.size [0] L/\Below w.heap.size w wr) (fun s8 _=>ps.length-(intOf s8).toNat)
 case atStart=>
  refine⟨0,Nat.zero_le _,rfl,?_,?_,hb0⟩
  ·have:=zbL (w.alloc (.cells #[.bool false,.slice none 0 0,.slice none 0 0] 43)) L
   rw[show (w.alloc (.cells #[.bool false,.slice none 0 0,.slice none 0 0] 43)).heap.size=w.heap.size+1 by simp] at this
   exact this
  ·exact(zbL w L).below ((blr _ _).alloc (nr _) _)
 case round=>
  obtain⟨k,hk,rfl,hacc,hres,hbel⟩:=hrel
  by_cases hkl:k<ps.length
  ·obtain⟨_,_,_,hcell⟩:=(HA.out.1.below hbel).at_
   obtain⟨g1,o1,rfl,hcl1⟩:=hcell (by omega)
   obtain⟨s,B1,m1,d1,B2,m2,d2,e0,e1,e2,hr⟩:=(hcl1 k hkl).rat
   obtain⟨_,_,_,hcell2⟩:=(HA.out.2.1.below hbel).at_
   obtain⟨g2,o2,rfl,hcl2⟩:=hcell2 (by omega)
   obtain⟨s3,B3,m3,d3,B4,m4,d4,e3,e4,e5,hr2⟩:=(hcl2 k (by omega)).rat
   obtain⟨s5,B5,m5,d5,B6,m6,d6,e6,e7,e8,hr3⟩:=(hacc.2 0 (by simp)).rat
   simp only[Nat.zero_mul,Nat.zero_add] at e6 e7 e8
   have hkb:k<ss.length:=by omega
   have HH:=hide (ai hacc (ai hres (ai hbel (ai hr (ai hr2 hr3)))));clear hacc hres hbel hr hr2 hr3 hcell hcell2 hcl1 hcl2
   go_wp2_with fail
   have hba:Below wr.heap.size wr (wr.alloc (.cells #[.bool s,.slice B1 m1 d1,.slice B2 m2 d2] 43)).drew:=((blr _ _).alloc (nr _) _).drew
   have hbx:Below (wr.heap.size+1) (wr.alloc (.cells #[.bool s,.slice B1 m1 d1,.slice B2 m2 d2] 43)) (wr.alloc (.cells #[.bool s,.slice B1 m1 d1,.slice B2 m2 d2] 43)).drew:=(zL _ _).drew
   have l1:=zf e6
   have l2:=zf e3
   simp only at l1 l2
   have p0:=(hba.cell (p:=⟨w.heap.size+1,0,none⟩) (by exact l1)).trans e6
   have p1:=(hba.cell (p:=⟨w.heap.size+1,1,none⟩) (by exact l1)).trans e7
   have p2:=(hba.cell (p:=⟨w.heap.size+1,2,none⟩) (by exact l1)).trans e8
   have y0:=(hba.cell (p:=⟨g2,o2+k*3,none⟩) (by exact l2)).trans e3
   have y1:=(hba.cell (p:=⟨g2,o2+k*3+1,none⟩) (by exact l2)).trans e4
   have y2:=(hba.cell (p:=⟨g2,o2+k*3+2,none⟩) (by exact l2)).trans e5
   obtain⟨k0,k1,k2,_,_,_,_⟩:=box3 hbx
   clear hbx e0 e1 e2 e3 e4 e5 e6 e7 e8
   go_region_law (first
    | (go_simp;go_at_call 73;refine(zcq _ _ _ (ps.getD k 0) (ss.getD k 0) L (HH.out.2.2.2.1.below hba) (HH.out.2.2.2.2.1.below hba) (by omega)).mono ?_;rintro e w1 ⟨u1,rfl,hu1,hd1⟩;have p0:=(hd1.cell (p:=⟨w.heap.size+1,0,none⟩) (by simp;omega)).trans p0;have p1:=(hd1.cell (p:=⟨w.heap.size+1,1,none⟩) (by simp;omega)).trans p1;have p2:=(hd1.cell (p:=⟨w.heap.size+1,2,none⟩) (by simp;omega)).trans p2)
    | (go_simp;go_at_call 97;refine(zgR _ _ _ (dotN ps ss k) (ps.getD k 0*ss.getD k 0) (2*L+4) (((HH.out.2.2.2.2.2.below hba).below hd1).more (by omega)) hu1 (by omega)).mono ?_;rintro e w2 ⟨u2,rfl,hu2,hd2⟩;have hb2:=bnx (bnx hba hd1) hd2;have hrow2:=HH.out.1.below hb2;replace hu2:=hu2.fit (L':=L) (HA.out.2.2 (k+1) (by omega));generalize hX:dotN ps ss k+ps.getD k 0*ss.getD k 0=X at hu2;
       obtain⟨s',B1',m1',d1',B2',m2',d2',e0',e1',e2',_⟩:=(hrow2.2 0 (by simp)).rat;
       simp only[Nat.zero_mul,Nat.zero_add] at e0' e1' e2';
       have f0:=hrow2.frozen 0;have f1:=hrow2.frozen 1;have f2:=hrow2.frozen 2;
       obtain⟨rn,rl,rfl,r1,r2⟩:=id hu2;obtain⟨A5,c5,xs5,rfl,_⟩:=r1.open_;obtain⟨A6,c6,xs6,rfl,_⟩:=r2.open_;
       have HU:=hide (ai hu2 (ai hrow2 (ai hb2 hX)));clear hu2 hrow2 hb2 r1 r2 hX p0 p1 p2 y0 y1 y2 k0 k1 k2))
   all_goals
    go_wp2
    go_roundw
    case rel=>
     obtain⟨hacc,hres,hbel,hr,_⟩:=HH.out
     obtain⟨hu,hrow2,hb2,hX⟩:=HU.out
     obtain⟨t1,t2,t3⟩:=hrow2.set3 (i:=0) (by simp) hu
     simp only[Nat.zero_mul,Nat.zero_add] at t1 t2 t3
     refine⟨k+1,by omega,by go_num,?_,?_,?_⟩
     ·rw[dotN,hX];exact t1
     ·exact(hres.below hb2).same t2 (t3.block _ (by have:=hb2.size;omega) (by intro e;injection e with e;omega))
     ·exact only_below (bnx hbel hb2) t3 (by have:=hbel.size;have:=hb2.size;omega) (by omega)
    case measure=>simp[intOf];omega
  ·obtain rfl:k=ps.length:=by omega
   obtain⟨s5,B5,m5,d5,B6,m6,d6,e6,e7,e8,hr3⟩:=(hacc.2 0 (by simp)).rat
   obtain⟨_,_,_,_,_,_,_,e9,e10,e11,_⟩:=(hres.2 0 (by simp)).rat
   simp only[Nat.zero_mul,Nat.zero_add] at e6 e7 e8 e9 e10 e11
   have f0:=hres.frozen 0
   have f1:=hres.frozen 1
   have f2:=hres.frozen 2
   have HH:=hide (ai hacc (ai hres (ai hbel hr3)));clear hacc hres hbel hr3
   go_wp2
   have hsz:=zf e9
   refine bodyPost_ret (v:=.agg #[.bool s5,.slice B5 m5 d5,.slice B6 m6 d6]) ?_ rfl ?_
   ·simp[results,Tryz.results193,go_sem,e9,e10,e11]
   have hr:=HH.out.2.2.2
   simp only[List.getD_cons_zero] at hr
   obtain⟨rn,rl,e,r1,r2⟩:=hr
   injection e with e
   simp only[Array.mk.injEq,List.cons.injEq,Value.bool.injEq,and_true] at e
   obtain⟨rfl,rfl,rfl⟩:=e
   exact⟨_,rfl,⟨_,_,rfl,r1.set3 e9 e10 e11,r2.set3 e9 e10 e11⟩,zm HH.out.2.2.1 (nr _) _ _ _⟩
def longQ (q:Rat):Bool:=decide (60<(decText (q.num.natAbs:Int)).length)||decide (60<(decText (q.den:Int)).length)
theorem zhG (w:World) (a:Value) (q:Rat) (L:Nat) (ha:RatV w a q L) (hL:L<=1073741800):
  Calls Tryz.prog 188 #[a] w (Ret (fun v w'=>v=.bool (longQ q)/\Below w.heap.size w w')):=by
 obtain⟨n1,l1,rfl,h1,g1⟩:=ha
 obtain⟨A1,c1,xs1,rfl,_⟩:=h1.open_
 obtain⟨A2,c2,xs2,rfl,_⟩:=g1.open_
 have z1:=h1.text_size (by omega)
 have hb0:Below w.heap.size w (w.alloc (.cells #[.bool (decide (q.num<0)),.slice A1 xs1.length c1,.slice A2 xs2.length c2] 43)):=(blr _ _).alloc (nr _) _
 have hs0:=zL w (.cells #[.bool (decide (q.num<0)),.slice A1 xs1.length c1,.slice A2 xs2.length c2] 43)
 obtain⟨b1,hs1⟩:∃s,s=decide (q.num<0):=⟨_,rfl⟩
 rw[<-hs1] at hb0 hs0 ⊢;clear hs1
 have HA:=hide (ai h1 g1);clear h1 g1
 rw[zK] at z1
 obtain⟨x,hx⟩:∃x,x=(q.num.natAbs:Int):=⟨_,rfl⟩
 have hlq:longQ q=(decide (60<(decText x).length)||decide (60<(decText (q.den:Int)).length)):=by rw[hx];rfl
 rw[hlq];clear hlq
 rw[<-hx] at HA z1;clear hx
 obtain⟨y,hy⟩:∃y,y=(q.den:Int):=⟨_,rfl⟩
 rw[<-hy] at HA ⊢;clear hy
 by_cases hd:60<(decText x).length
 ·have hdd:decide (60<(decText x).length)=true:=by simp[hd]
  go_enter Tryz.func188,Tryz.ntmps188
  go_wp2_with fail
  refine(zbZ _ _ x L (HA.out.1.below hb0) (by omega)).mono ?_
  rintro e w1 ⟨_,rfl,rfl,hd1⟩
  rw[show (str (decText x))=str (decText x) from rfl]
  have hsz:=zK (decText x)
  go_wp2
  go_ret
  exact⟨_,rfl,by simp[hd],bnx hb0 hd1⟩
 ·have hdd:decide (60<(decText x).length)=false:=by simp only[decide_eq_false_iff_not];exact hd
  have hD:=hide hdd;clear hdd
  go_enter Tryz.func188,Tryz.ntmps188
  go_wp2_with fail
  refine(zbZ _ _ x L (HA.out.1.below hb0) (by omega)).mono ?_
  rintro e w1 ⟨_,rfl,rfl,hd1⟩
  obtain⟨k0,k1,k2,f0,f1,f2,ks⟩:=box3 (zh hs0 hd1 (by simp))
  have hsz:=zK (decText x)
  have hdd:=hD.out
  have hb1:=bnx hb0 hd1
  go_wp2_with fail
  refine(zar _ _ _ _ (y-1) L (HA.out.2.below hb1) hL).mono ?_
  rintro e w2 ⟨u2,rfl,hu2,hd2⟩
  rw[show y-1+1=y by omega] at hu2
  have z2:=hu2.text_size (by omega)
  rw[zK] at z2
  have HU:=hide hu2;clear hu2
  go_wp2_with fail
  refine(zbZ _ _ y (L+2) HU.out (by omega)).mono ?_
  rintro e w3 ⟨_,rfl,rfl,hd3⟩
  have hsz2:=zK (decText y)
  clear k0 k1 k2 f0 f1 f2
  go_wp2
  go_ret
  refine⟨_,rfl,?_,bnx (bnx hb1 hd2) hd3⟩
  rw[hD.out,Bool.false_or]
  have h6:¬(60:Int)<((decText x).length:Int):=by omega
  rw[decide_eq_false h6,Bool.false_or]
  show Value.bool (decide ((60:Int)<((decText y).length:Int)))=Value.bool _
  congr 1
  rw[decide_eq_decide];omega
def anyB (p:Nat->Bool) (n:Nat):Bool:=(List.range n).any p
theorem zdf {p:Nat->Bool} {n k:Nat} (hk:k<n) (h:p k=true):anyB p n=true:=List.any_eq_true.2 ⟨k,List.mem_range.2 hk,h⟩
theorem zax {p:Nat->Bool} {n:Nat} (h:∀i,i<n->p i=false):anyB p n=false:=by
 rw[Bool.eq_false_iff]
 intro h1
 obtain⟨k,hk,h2⟩:=List.any_eq_true.1 h1
 rw[h k (List.mem_range.1 hk)] at h2
 cases h2
def zdg (w:World) (b:Bool) (v:Value) (w':World):Prop:=∃r:Int,v=.int .i64 r/\decide (0<=r)=b/\Below w.heap.size w w'
theorem znm (w:World) (va:Value) (qs:List Rat) (L:Nat) (ha:RowV w va qs L) (hL:L<=1073741800):
  Calls Tryz.prog 162 #[va,.func (.func 188) #[] #[]] w (Ret (zdg w (anyB (fun i=>longQ (qs.getD i 0)) qs.length))):=by
 have HA:=hide ha
 obtain⟨A1,c1,rfl,hc1,hm1,_⟩:=ha
 unfold maxLen at hm1
 go_enter Tryz.func162,Tryz.ntmps162
 go_wp2
 go_loopw [8] (fun s8 wr=>∃k:Nat,k<=qs.length/\s8=.int .i64 k/\(∀i,i<k->longQ (qs.getD i 0)=false)/\Below w.heap.size w wr) (fun s8 _=>qs.length-(intOf s8).toNat)
 case atStart=>exact⟨0,Nat.zero_le _,rfl,fun i hi=>by omega,blr _ _⟩
 case round=>
  obtain⟨k,hk,rfl,hno,hbel⟩:=hrel
  by_cases hkl:k<qs.length
  ·obtain⟨_,_,_,hcell⟩:=(HA.out.below hbel).at_
   obtain⟨g1,o1,rfl,hcl1⟩:=hcell (by omega)
   obtain⟨s,B1,m1,d1,B2,m2,d2,e0,e1,e2,hr⟩:=(hcl1 k hkl).rat
   have HH:=hide (ai hno (ai hbel hr));clear hno hbel hr hcell hcl1
   rcases hp:longQ (qs.getD k 0) with _|_
   ·have HP:=hide hp;clear hp
    go_wp2_with (go_at_call 188;refine(zhG _ _ (qs.getD k 0) L HH.out.2.2 hL).mono ?_;rintro e w1 ⟨_,rfl,rfl,hd1⟩;rw[HP.out])
    go_roundw
    case rel=>
     refine⟨k+1,by omega,by go_num,fun i hi=>?_,bnx HH.out.2.1 hd1⟩
     by_cases h:i<k
     ·exact HH.out.1 i h
     ·obtain rfl:i=k:=by omega
      exact HP.out
    case measure=>simp[intOf];omega
   ·have HP:=hide hp;clear hp
    go_wp2_with (go_at_call 188;refine(zhG _ _ (qs.getD k 0) L HH.out.2.2 hL).mono ?_;rintro e w1 ⟨_,rfl,rfl,hd1⟩;rw[HP.out])
    go_ret
    exact⟨_,rfl,k,rfl,by rw[zdf hkl HP.out];simp,bnx HH.out.2.1 hd1⟩
  ·obtain rfl:k=qs.length:=by omega
   have HH:=hide (ai hno hbel);clear hno hbel
   go_wp2
   go_ret
   exact⟨_,rfl,-1,rfl,by rw[zax HH.out.1];rfl,HH.out.2⟩
theorem zbw (w:World) (va:Value) (qs:List Rat) (L:Nat) (ha:RowV w va qs L) (hL:L<=1073741800):
  Calls Tryz.prog 114 #[va,.func (.func 188) #[] #[]] w (Ret (fun v w'=>v=.bool (anyB (fun i=>longQ (qs.getD i 0)) qs.length)/\Below w.heap.size w w')):=by
 have HA:=hide ha
 obtain⟨A1,c1,rfl,hc1,hm1,_⟩:=ha
 go_enter Tryz.func114,Tryz.ntmps114
 go_wp2_with fail
 refine(znm _ _ qs L HA.out hL).mono ?_
 rintro e w1 ⟨_,rfl,r,rfl,hr,hd1⟩
 have HR:=hide hr;clear hr
 go_wp2
 go_ret
 exact⟨_,rfl,by rw[<-HR.out];rfl,hd1⟩
def RV (w:World) (v:Value) (g:Nat) (qs:List Rat) (L:Nat):Prop:=
 ∃c,v=.slice (some ⟨g,0,none⟩) qs.length c/\qs.length<=c/\c<=maxLen/\RowC w g qs L
theorem RV.same {w w':World} {v:Value} {g:Nat} {qs:List Rat} {L:Nat} (h:RV w v g qs L) (hk:Keeps w w') (hb:w'.heap[g]?=w.heap[g]?):RV w' v g qs L:=by
 obtain⟨c,h1,h2,h3,h4⟩:=h;exact⟨c,h1,h2,h3,h4.same hk hb⟩
structure MatS (w:World) (base M R D cR cD:Nat) (vs us rR rD:List Value) (gs hs:List Nat) (rows done:List (List Rat)) (L:Nat):Prop where
 bM:base<=M
 bR:base<=R
 bD:base<=D
 hM:w.heap[M]?=some (.cells #[.slice (some ⟨R,0,none⟩) rows.length cR,.slice (some ⟨D,0,none⟩) rows.length cD] 211 (0,0))
 hR:w.heap[R]?=some (.cells (vs++rR).toArray 30 (0,0))
 hD:w.heap[D]?=some (.cells (us++rD).toArray 30 (0,0))
 hRD:R≠D
 n1:vs.length=rows.length
 n2:us.length=rows.length
 n3:done.length=rows.length
 n4:gs.length=rows.length
 n5:hs.length=rows.length
 c1:rows.length<=cR
 c2:cR<=maxLen
 c3:rows.length<=cD
 c4:cD<=maxLen
 rok:∀i,i<rows.length->base<=gs.getD i 0/\RV w (vs.getD i undef) (gs.getD i 0) (rows.getD i []) L
 dok:∀i,i<rows.length->base<=hs.getD i 0/\RV w (us.getD i undef) (hs.getD i 0) (done.getD i []) L
 dg:∀i j,i<rows.length->j<rows.length->i≠j->gs.getD i 0≠gs.getD j 0
 dh:∀i j,i<rows.length->j<rows.length->i≠j->hs.getD i 0≠hs.getD j 0
 dgh:∀i j,i<rows.length->j<rows.length->gs.getD i 0≠hs.getD j 0
def swapL {α:Type} (l:List α) (i k:Nat) (d:α):List α:=(l.set i (l.getD k d)).set k (l.getD i d)
def sw (i k j:Nat):Nat:=if j=k then i else if j=i then k else j
theorem zr {α:Type} (l:List α) (i k:Nat) (d:α):(swapL l i k d).length=l.length:=by simp[swapL]
theorem zI {α:Type} (l:List α) (i k j:Nat) (d:α) (hj:j<l.length):(swapL l i k d).getD j d=l.getD (sw i k j) d:=by
 unfold swapL sw
 by_cases h1:j=k
 ·subst h1;rw[if_pos rfl];simp[List.getD,hj]
 ·rw[if_neg h1]
  have e:((l.set i (l.getD k d)).set k (l.getD i d)).getD j d=(l.set i (l.getD k d)).getD j d:=by
   simp only[List.getD];rw[List.getElem?_set_ne (fun e=>h1 e.symm)]
  rw[e]
  by_cases h2:j=i
  ·subst h2;rw[if_pos rfl];simp[List.getD,hj]
  ·rw[if_neg h2];simp only[List.getD];rw[List.getElem?_set_ne (fun e=>h2 e.symm)]
theorem zaI {i k j n:Nat} (hi:i<n) (hk:k<n) (hj:j<n):sw i k j<n:=by
 unfold sw
 split
 ·exact hi
 ·split
  ·exact hk
  ·exact hj
theorem zhH {i k j l:Nat} (h:sw i k j=sw i k l):j=l:=by
 unfold sw at h
 split at h <;> split at h <;> (try split at h) <;> (try split at h) <;> omega
def VCel (w:World) (g:Nat) (e:TypeId) (vs rest:List Value):Prop:=w.heap[g]?=some (.cells (vs++rest).toArray e (0,0))
section
variable {w w':World} {g:Nat} {e:TypeId} {vs rest:List Value}
theorem VCel.lt (h:VCel w g e vs rest):g<w.heap.size:=lt_of_block h
theorem VCel.cell (h:VCel w g e vs rest) {j:Nat} (hj:j<vs.length):w.cell? ⟨g,j,none⟩=some (vs.getD j undef):=by
 unfold VCel at h
 simp only[World.cell?,h,List.getElem?_toArray,List.getElem?_append_left hj]
 simp[List.getD,List.getElem?_eq_getElem hj]
theorem VCel.frozen (h:VCel w g e vs rest) (j:Nat):w.frozen? ⟨g,j,none⟩=false:=by unfold VCel at h;simp[World.frozen?,h]
theorem VCel.set_ (h:VCel w g e vs rest) {i:Nat} (d:Value) (hi:i<vs.length):VCel (w.setCell ⟨g,i,none⟩ d) g e (vs.set i d) rest:=by
 unfold VCel at h ⊢
 simp[World.setCell,Array.getElem?_modify,h,List.set_append_left _ _ hi]
end
theorem zp (w:World) (g j:Nat) (v:Value):w.grownBy (w.setCell ⟨g,j,none⟩ v) (some g):=
 ⟨rfl,rfl,rfl,by simp[World.setCell],fun b hb hne=>by
  have e1:g≠b:=by intro e;exact hne (by rw[e])
  simp[World.setCell,Array.getElem?_modify,e1]⟩
theorem RV.slice {w:World} {v:Value} {g:Nat} {qs:List Rat} {L:Nat} (h:RV w v g qs L):∃c,v=.slice (some ⟨g,0,none⟩) qs.length c:=by
 obtain⟨c,h1,_⟩:=h;exact⟨c,h1⟩
theorem RV.sep {w:World} {v:Value} {g X:Nat} {qs:List Rat} {L:Nat} {e:TypeId} {cs:Array Value} (h:RV w v g qs L) (hX:w.heap[X]?=some (.cells cs e (0,0))) (he:e≠43):g≠X:=by
 obtain⟨c,_,_,_,⟨cs',h1⟩,_⟩:=h
 intro e1
 subst e1
 rw[h1] at hX
 injection hX with hX
 injection hX with _ h2 _
 exact he h2.symm
section
variable {w w':World} {base M R D cR cD:Nat} {vs us rR rD:List Value} {gs hs:List Nat} {rows done:List (List Rat)} {L:Nat}
theorem MatS.swap (h:MatS w base M R D cR cD vs us rR rD gs hs rows done L) {i k:Nat} (hi:i<rows.length) (hk:k<rows.length)
  (hR:w'.heap[R]?=some (.cells (swapL vs i k undef++rR).toArray 30 (0,0))) (hD:w'.heap[D]?=some (.cells (swapL us i k undef++rD).toArray 30 (0,0)))
  (hb:∀b,b<w.heap.size->b≠R->b≠D->w'.heap[b]?=w.heap[b]?) (hkp:Keeps w w'):
  MatS w' base M R D cR cD (swapL vs i k undef) (swapL us i k undef) rR rD (swapL gs i k 0) (swapL hs i k 0) (swapL rows i k []) (swapL done i k []) L:=by
 have hMR:M≠R:=by
  intro e;have h1:=h.hM;have h2:=h.hR;rw[e,h2] at h1;injection h1 with h1;injection h1 with _ h1 _;revert h1;decide
 have hMD:M≠D:=by
  intro e;have h1:=h.hM;have h2:=h.hD;rw[e,h2] at h1;injection h1 with h1;injection h1 with _ h1 _;revert h1;decide
 refine⟨h.bM,h.bR,h.bD,?_,hR,hD,h.hRD,?_,?_,?_,?_,?_,?_,h.c2,?_,h.c4,?_,?_,?_,?_,?_⟩
 ·rw[zr,hb M (lt_of_block h.hM) hMR hMD];exact h.hM
 ·rw[zr,zr];exact h.n1
 ·rw[zr,zr];exact h.n2
 ·rw[zr,zr];exact h.n3
 ·rw[zr,zr];exact h.n4
 ·rw[zr,zr];exact h.n5
 ·rw[zr];exact h.c1
 ·rw[zr];exact h.c3
 ·intro j hj
  rw[zr] at hj
  have hs:=zaI hi hk hj
  obtain⟨q1,q2⟩:=h.rok _ hs
  rw[zI _ _ _ _ _ (by rw[h.n4];exact hj),zI _ _ _ _ _ (by rw[h.n1];exact hj),zI _ _ _ _ _ hj]
  refine⟨q1,q2.same hkp (hb _ ?_ (q2.sep h.hR (by decide)) (q2.sep h.hD (by decide)))⟩
  obtain⟨_,_,_,_,q⟩:=q2;exact q.lt
 ·intro j hj
  rw[zr] at hj
  have hs:=zaI hi hk hj
  obtain⟨q1,q2⟩:=h.dok _ hs
  rw[zI _ _ _ _ _ (by rw[h.n5];exact hj),zI _ _ _ _ _ (by rw[h.n2];exact hj),zI _ _ _ _ _ (by rw[h.n3];exact hj)]
  refine⟨q1,q2.same hkp (hb _ ?_ (q2.sep h.hR (by decide)) (q2.sep h.hD (by decide)))⟩
  obtain⟨_,_,_,_,q⟩:=q2;exact q.lt
 ·intro a b ha hb2 hne
  rw[zr] at ha hb2
  rw[zI _ _ _ _ _ (by rw[h.n4];exact ha),zI _ _ _ _ _ (by rw[h.n4];exact hb2)]
  exact h.dg _ _ (zaI hi hk ha) (zaI hi hk hb2) (fun e=>hne (zhH e))
 ·intro a b ha hb2 hne
  rw[zr] at ha hb2
  rw[zI _ _ _ _ _ (by rw[h.n5];exact ha),zI _ _ _ _ _ (by rw[h.n5];exact hb2)]
  exact h.dh _ _ (zaI hi hk ha) (zaI hi hk hb2) (fun e=>hne (zhH e))
 ·intro a b ha hb2
  rw[zr] at ha hb2
  rw[zI _ _ _ _ _ (by rw[h.n4];exact ha),zI _ _ _ _ _ (by rw[h.n5];exact hb2)]
  exact h.dgh _ _ (zaI hi hk ha) (zaI hi hk hb2)
theorem MatS.below (h:MatS w base M R D cR cD vs us rR rD gs hs rows done L) (hb:Below w.heap.size w w'):MatS w' base M R D cR cD vs us rR rD gs hs rows done L:=by
 have hk:=Below.keeps hb
 refine⟨h.bM,h.bR,h.bD,(hb.block _ (lt_of_block h.hM)).trans h.hM,(hb.block _ (lt_of_block h.hR)).trans h.hR,(hb.block _ (lt_of_block h.hD)).trans h.hD,h.hRD,h.n1,h.n2,h.n3,h.n4,h.n5,h.c1,h.c2,h.c3,h.c4,?_,?_,h.dg,h.dh,h.dgh⟩
 ·intro i hi
  obtain⟨q1,q2⟩:=h.rok i hi
  refine⟨q1,q2.same hk (hb.block _ ?_)⟩
  obtain⟨_,_,_,_,q⟩:=q2;exact q.lt
 ·intro i hi
  obtain⟨q1,q2⟩:=h.dok i hi
  refine⟨q1,q2.same hk (hb.block _ ?_)⟩
  obtain⟨_,_,_,_,q⟩:=q2;exact q.lt
theorem MatS.row (h:MatS w base M R D cR cD vs us rR rD gs hs rows done L) {i:Nat} (hi:i<rows.length) {qs:List Rat} (hl:qs.length=(rows.getD i []).length)
  (hq:RowC w' (gs.getD i 0) qs L) (hk:Keeps w w') (hg:w.grownBy w' (some (gs.getD i 0))):MatS w' base M R D cR cD vs us rR rD gs hs (rows.set i qs) done L:=by
 obtain⟨q1,q2⟩:=h.rok i hi
 have hbk:∀b,b<w.heap.size->b≠gs.getD i 0->w'.heap[b]?=w.heap[b]?:=fun b hb hne=>hg.block b hb (by intro e;injection e with e;exact hne e)
 refine⟨h.bM,h.bR,h.bD,?_,?_,?_,h.hRD,?_,?_,?_,?_,?_,?_,h.c2,?_,h.c4,?_,?_,?_,?_,?_⟩
 ·rw[List.length_set,hbk M (lt_of_block h.hM) (q2.sep h.hM (by decide)).symm];exact h.hM
 ·rw[hbk R (lt_of_block h.hR) (q2.sep h.hR (by decide)).symm];exact h.hR
 ·rw[hbk D (lt_of_block h.hD) (q2.sep h.hD (by decide)).symm];exact h.hD
 ·rw[List.length_set];exact h.n1
 ·rw[List.length_set];exact h.n2
 ·rw[List.length_set];exact h.n3
 ·rw[List.length_set];exact h.n4
 ·rw[List.length_set];exact h.n5
 ·rw[List.length_set];exact h.c1
 ·rw[List.length_set];exact h.c3
 ·intro j hj
  rw[List.length_set] at hj
  obtain⟨p1,p2⟩:=h.rok j hj
  refine⟨p1,?_⟩
  by_cases e:i=j
  ·subst e
   rw[show (rows.set i qs).getD i []=qs by simp[List.getD,hi]]
   obtain⟨c,e1,e2,e3,e4⟩:=p2
   exact⟨c,by rw[e1,hl],by rw[hl];exact e2,e3,hq⟩
  ·rw[show (rows.set i qs).getD j []=rows.getD j [] by simp only[List.getD];rw[List.getElem?_set_ne e]]
   refine p2.same hk (hbk _ ?_ (h.dg j i hj hi (fun e'=>e e'.symm)))
   obtain⟨_,_,_,_,q⟩:=p2;exact q.lt
 ·intro j hj
  rw[List.length_set] at hj
  obtain⟨p1,p2⟩:=h.dok j hj
  refine⟨p1,p2.same hk (hbk _ ?_ (h.dgh i j hi hj).symm)⟩
  obtain⟨_,_,_,_,q⟩:=p2;exact q.lt
 ·intro a b ha hb;rw[List.length_set] at ha hb;exact h.dg a b ha hb
 ·intro a b ha hb;rw[List.length_set] at ha hb;exact h.dh a b ha hb
 ·intro a b ha hb;rw[List.length_set] at ha hb;exact h.dgh a b ha hb
theorem MatS.doneRow (h:MatS w base M R D cR cD vs us rR rD gs hs rows done L) {i:Nat} (hi:i<rows.length) {qs:List Rat} (hl:qs.length=(done.getD i []).length)
  (hq:RowC w' (hs.getD i 0) qs L) (hk:Keeps w w') (hg:w.grownBy w' (some (hs.getD i 0))):MatS w' base M R D cR cD vs us rR rD gs hs rows (done.set i qs) L:=by
 obtain⟨q1,q2⟩:=h.dok i hi
 have hbk:∀b,b<w.heap.size->b≠hs.getD i 0->w'.heap[b]?=w.heap[b]?:=fun b hb hne=>hg.block b hb (by intro e;injection e with e;exact hne e)
 refine⟨h.bM,h.bR,h.bD,?_,?_,?_,h.hRD,h.n1,h.n2,?_,h.n4,h.n5,h.c1,h.c2,h.c3,h.c4,?_,?_,h.dg,h.dh,h.dgh⟩
 ·rw[hbk M (lt_of_block h.hM) (q2.sep h.hM (by decide)).symm];exact h.hM
 ·rw[hbk R (lt_of_block h.hR) (q2.sep h.hR (by decide)).symm];exact h.hR
 ·rw[hbk D (lt_of_block h.hD) (q2.sep h.hD (by decide)).symm];exact h.hD
 ·rw[List.length_set];exact h.n3
 ·intro j hj
  obtain⟨p1,p2⟩:=h.rok j hj
  refine⟨p1,p2.same hk (hbk _ ?_ (h.dgh j i hj hi))⟩
  obtain⟨_,_,_,_,q⟩:=p2;exact q.lt
 ·intro j hj
  obtain⟨p1,p2⟩:=h.dok j hj
  refine⟨p1,?_⟩
  by_cases e:i=j
  ·subst e
   rw[show (done.set i qs).getD i []=qs by simp[List.getD,h.n3,hi]]
   obtain⟨c,e1,e2,e3,e4⟩:=p2
   exact⟨c,by rw[e1,hl],by rw[hl];exact e2,e3,hq⟩
  ·rw[show (done.set i qs).getD j []=done.getD j [] by simp only[List.getD];rw[List.getElem?_set_ne e]]
   refine p2.same hk (hbk _ ?_ (h.dh j i hj hi (fun e'=>e e'.symm)))
   obtain⟨_,_,_,_,q⟩:=p2;exact q.lt
theorem MatS.only (h:MatS w base M R D cR cD vs us rR rD gs hs rows done L) {r:Option Nat} {e:TypeId} (hg:w.grownBy w' r) (ht:∀b,r=some b->Typed w b e) (h1:e≠43) (h2:e≠30) (h3:e≠211) (h4:e≠tyOf .u32):
  MatS w' base M R D cR cD vs us rR rD gs hs rows done L:=by
 have hb:∀b f,Typed w b f->e≠f->w'.heap[b]?=w.heap[b]?:=fun b f hf hne=>hg.block b hf.lt (by intro e';exact(ht b e'.symm).ne hf hne rfl)
 have hk:Keeps w w':=fun b hf=>hb b _ hf h4
 refine⟨h.bM,h.bR,h.bD,(hb _ _ ⟨_,_,h.hM⟩ h3).trans h.hM,(hb _ _ ⟨_,_,h.hR⟩ h2).trans h.hR,(hb _ _ ⟨_,_,h.hD⟩ h2).trans h.hD,h.hRD,h.n1,h.n2,h.n3,h.n4,h.n5,h.c1,h.c2,h.c3,h.c4,?_,?_,h.dg,h.dh,h.dgh⟩
 ·intro i hi
  obtain⟨q1,q2⟩:=h.rok i hi
  refine⟨q1,q2.same hk (hb _ _ ?_ h1)⟩
  obtain⟨_,_,_,_,⟨cs,q⟩,_⟩:=q2;exact⟨cs,_,q⟩
 ·intro i hi
  obtain⟨q1,q2⟩:=h.dok i hi
  refine⟨q1,q2.same hk (hb _ _ ?_ h1)⟩
  obtain⟨_,_,_,_,⟨cs,q⟩,_⟩:=q2;exact⟨cs,_,q⟩
theorem MatS.le (h:MatS w base M R D cR cD vs us rR rD gs hs rows done L):base<=w.heap.size:=Nat.le_trans h.bM (Nat.le_of_lt (lt_of_block h.hM))
theorem MatS.rowAt (h:MatS w base M R D cR cD vs us rR rD gs hs rows done L) {i:Nat} (hi:i<rows.length):
  ∃g c,g=gs.getD i 0/\w.cell? ⟨R,i,none⟩=some (.slice (some ⟨g,0,none⟩) (rows.getD i []).length c)/\(rows.getD i []).length<=c/\c<=maxLen/\RowC w g (rows.getD i []) L/\base<=g:=by
 obtain⟨q1,c,q2,q3,q4,q5⟩:=h.rok i hi
 have vR:VCel w R 30 vs rR:=h.hR
 have:=vR.cell (j:=i) (by rw[h.n1];exact hi)
 exact⟨_,c,rfl,by rw[this,q2],q3,q4,q5,q1⟩
theorem MatS.doneAt (h:MatS w base M R D cR cD vs us rR rD gs hs rows done L) {i:Nat} (hi:i<rows.length):
  ∃g c,g=hs.getD i 0/\w.cell? ⟨D,i,none⟩=some (.slice (some ⟨g,0,none⟩) (done.getD i []).length c)/\(done.getD i []).length<=c/\c<=maxLen/\RowC w g (done.getD i []) L/\base<=g:=by
 obtain⟨q1,c,q2,q3,q4,q5⟩:=h.dok i hi
 have vD:VCel w D 30 us rD:=h.hD
 have:=vD.cell (j:=i) (by rw[h.n2];exact hi)
 exact⟨_,c,rfl,by rw[this,q2],q3,q4,q5,q1⟩
theorem MatS.m0 (h:MatS w base M R D cR cD vs us rR rD gs hs rows done L):w.cell? ⟨M,0,none⟩=some (.slice (some ⟨R,0,none⟩) rows.length cR):=by simp[World.cell?,h.hM]
theorem MatS.m1 (h:MatS w base M R D cR cD vs us rR rD gs hs rows done L):w.cell? ⟨M,1,none⟩=some (.slice (some ⟨D,0,none⟩) rows.length cD):=by simp[World.cell?,h.hM]
theorem OwnI.same {w w':World} {base:Nat} {e:TypeId} {k:IntKind} {v:Value} {xs:List Int} (h:OwnI w base e k v xs) (hb:∀b,Typed w b e->w'.heap[b]?=w.heap[b]?):OwnI w' base e k v xs:=by
 refine⟨h.1,?_⟩
 rcases h.2 with h2|⟨g,cap,cur,hv,hg,hh,r⟩
 ·exact .inl h2
 ·exact .inr ⟨g,cap,cur,hv,hg,(hb g ⟨_,_,hh⟩).trans hh,r⟩
theorem OwnI.typed {w:World} {base:Nat} {e:TypeId} {k:IntKind} {v:Value} {xs:List Int} (h:OwnI w base e k v xs):∀b,v.ownBlock=some b->Typed w b e:=by
 intro b hb
 rcases h.2 with ⟨h2,_⟩|⟨g,cap,cur,hv,hg,hh,r⟩
 ·subst h2;simp[Value.ownBlock] at hb
 ·subst hv;simp only[Value.ownBlock,Option.some.injEq] at hb;subst hb;exact⟨_,_,hh⟩
end
set_option maxHeartbeats 4000000 in
theorem zn0 (w:World) (base M R D cR cD:Nat) (vs us rR rD:List Value) (gs hs:List Nat) (rows done:List (List Rat)) (L i k:Nat) (h:MatS w base M R D cR cD vs us rR rD gs hs rows done L) (hi:i<rows.length) (hk:k<rows.length) (hn:rows.length<=17592186044416):
  Calls Tryz.prog 206 #[.pointer (some ⟨M,0,none⟩),.int .i64 i,.int .i64 k] w (Ret (fun v w'=>v=.tuple #[] /\
   MatS w' base M R D cR cD (swapL vs i k undef) (swapL us i k undef) rR rD (swapL gs i k 0) (swapL hs i k 0) (swapL rows i k []) (swapL done i k []) L/\Keeps w w'/\Below base w w'/\w'.heap.size=w.heap.size/\∀b,b<w.heap.size->b≠R->b≠D->w'.heap[b]?=w.heap[b]?)):=by
 have vR:VCel w R 30 vs rR:=h.hR
 have vD:VCel w D 30 us rD:=h.hD
 have m0:w.cell? ⟨M,0,none⟩=some (.slice (some ⟨R,0,none⟩) rows.length cR):=by simp[World.cell?,h.hM]
 have m1:w.cell? ⟨M,1,none⟩=some (.slice (some ⟨D,0,none⟩) rows.length cD):=by simp[World.cell?,h.hM]
 have hMR:¬M=R:=by
  intro e;have h1:=h.hM;have h2:=h.hR;rw[e,h2] at h1;injection h1 with h1;injection h1 with _ h1 _;revert h1;decide
 have hMD:¬M=D:=by
  intro e;have h1:=h.hM;have h2:=h.hD;rw[e,h2] at h1;injection h1 with h1;injection h1 with _ h1 _;revert h1;decide
 have hRD:¬R=D:=h.hRD
 have ri:=vR.cell (j:=i) (by rw[h.n1];exact hi)
 have rk:=vR.cell (j:=k) (by rw[h.n1];exact hk)
 have di:=vD.cell (j:=i) (by rw[h.n2];exact hi)
 have dk:=vD.cell (j:=k) (by rw[h.n2];exact hk)
 obtain⟨ci,ei⟩:=(h.rok i hi).2.slice
 obtain⟨ck,ek⟩:=(h.rok k hk).2.slice
 obtain⟨ci',ei'⟩:=(h.dok i hi).2.slice
 obtain⟨ck',ek'⟩:=(h.dok k hk).2.slice
 rw[ei] at ri
 rw[ek] at rk
 rw[ei'] at di
 rw[ek'] at dk
 have fi:=vR.frozen i
 have fk:=vR.frozen k
 have fi':=vD.frozen i
 have fk':=vD.frozen k
 have HH:=hide (ai h (ai vR (ai vD (ai ei (ai ek (ai ei' ek'))))));clear h vR vD ei ek ei' ek'
 obtain⟨n,hrn⟩:∃n,n=rows.length:=⟨_,rfl⟩
 rw[<-hrn] at m0 m1 hi hk hn
 generalize gs.getD i 0=gi at *
 generalize gs.getD k 0=gk at *
 generalize hs.getD i 0=hi2 at *
 generalize hs.getD k 0=hk2 at *
 generalize (rows.getD i []).length=li at *
 generalize (rows.getD k []).length=lk at *
 generalize (done.getD i []).length=li' at *
 generalize (done.getD k []).length=lk' at *
 obtain⟨z,hz⟩:∃z,(w.setCell ⟨R,i,none⟩ (.slice (some ⟨gk,0,none⟩) lk ck)).cell? ⟨R,k,none⟩=some z/\(∀d,z≠.int .u32 d):=by
  by_cases e:i=k
  ·subst e;exact⟨_,World.cell?_setCell_same _ _ _ ri,by intro d e;cases e⟩
  ·exact⟨_,(World.cell?_setCell_other _ _ _ _ (by intro e';injection e' with e1 e2;exact e e2)).trans rk,by intro d e;cases e⟩
 obtain⟨hz,hzn⟩:=hz
 go_enter Tryz.func206,Tryz.ntmps206
 go_wp2
 go_cut [0,1,2] from 6 (fun s0 s1 s2 w'=>s0=.pointer (some ⟨M,0,none⟩)/\s1=.int .i64 i/\s2=.int .i64 k/\w'=((w.setCell ⟨R,i,none⟩ (.slice (some ⟨gk,0,none⟩) lk ck)).setCell ⟨R,k,none⟩ (.slice (some ⟨gi,0,none⟩) li ci)).drew)
 case first=>
  go_region
  go_wp2
  go_meet
  exact⟨rfl,rfl,rfl,rfl⟩
 case rest=>
  obtain⟨rfl,rfl,rfl,hW1⟩:=hcut
  have hg1:w.grownBy wc (some R):=by rw[hW1];exact zd3 (zN (zp _ _ _ _) (zp _ _ _ _))
  have hv1:VCel wc R 30 (swapL vs i k undef) rR:=by
   obtain⟨h,vR,vD,ei,ek,ei',ek'⟩:=HH.out
   have:=(vR.set_ (i:=i) (.slice (some ⟨gk,0,none⟩) lk ck) (by rw[h.n1,<-hrn];exact hi)).set_ (i:=k) (.slice (some ⟨gi,0,none⟩) li ci) (by rw[List.length_set,h.n1,<-hrn];exact hk)
   rw[hW1];unfold swapL;rw[ek,ei];exact this
  have hkp1:Keeps w wc:=by
   exact Keeps.only hg1 ⟨_,_,HH.out.2.1⟩ (by decide)
  have hs1:wc.heap.size=w.heap.size:=by rw[hW1];simp[World.setCell,World.drew]
  have eM:wc.heap[M]?=w.heap[M]?:=hg1.block M (zf m0) (by intro e;injection e with e;exact hMR e)
  have eD:wc.heap[D]?=w.heap[D]?:=hg1.block D (zf di) (by intro e;injection e with e;exact hRD e.symm)
  replace m1:=(World.cell?_of_block (w:=w) (a:=⟨M,1,none⟩) eM).trans m1
  replace di:=(World.cell?_of_block (w:=w) (a:=⟨D,i,none⟩) eD).trans di
  replace dk:=(World.cell?_of_block (w:=w) (a:=⟨D,k,none⟩) eD).trans dk
  replace fi':=(World.frozen?_of_block (w:=w) (a:=⟨D,i,none⟩) eD).trans fi'
  replace fk':=(World.frozen?_of_block (w:=w) (a:=⟨D,k,none⟩) eD).trans fk'
  obtain⟨z2,hz2⟩:∃z,(wc.setCell ⟨D,i,none⟩ (.slice (some ⟨hk2,0,none⟩) lk' ck')).cell? ⟨D,k,none⟩=some z/\(∀d,z≠.int .u32 d):=by
   by_cases e:i=k
   ·subst e;exact⟨_,World.cell?_setCell_same _ _ _ di,by intro d e;cases e⟩
   ·exact⟨_,(World.cell?_setCell_other _ _ _ _ (by intro e';injection e' with e1 e2;exact e e2)).trans dk,by intro d e;cases e⟩
  obtain⟨hz2,hzn2⟩:=hz2
  have HW:=hide (ai hW1 (ai hg1 (ai hv1 (ai hkp1 (ai hs1 (ai eD hzn2))))))
  clear hW1 hg1 hv1 hkp1 hs1 eM eD m0 ri rk fi fk hz hzn hzn2
  go_wp2
  go_region
  go_wp2
  go_end0
  obtain⟨hW1,hg1,hv1,hkp1,hs1,eD,hzn2⟩:=HW.out
  obtain⟨h,vR,vD,ei,ek,ei',ek'⟩:=HH.out
  obtain⟨W2,hW2⟩:∃W2,W2=((wc.setCell ⟨D,i,none⟩ (.slice (some ⟨hk2,0,none⟩) lk' ck')).setCell ⟨D,k,none⟩ (.slice (some ⟨hi2,0,none⟩) li' ci')).drew:=⟨_,rfl⟩
  rw[<-hW2]
  have hg2:wc.grownBy W2 (some D):=by rw[hW2];exact zd3 (zN (zp _ _ _ _) (zp _ _ _ _))
  have vD1:VCel wc D 30 us rD:=by unfold VCel;rw[eD];exact vD
  have hv2:VCel W2 D 30 (swapL us i k undef) rD:=by
   have:=(vD1.set_ (i:=i) (.slice (some ⟨hk2,0,none⟩) lk' ck') (by rw[h.n2,<-hrn];exact hi)).set_ (i:=k) (.slice (some ⟨hi2,0,none⟩) li' ci') (by rw[List.length_set,h.n2,<-hrn];exact hk)
   rw[hW2];unfold swapL;rw[ek',ei'];exact this
  have hkp2:Keeps wc W2:=by
   exact Keeps.only hg2 ⟨_,_,vD1⟩ (by decide)
  have hs2:W2.heap.size=wc.heap.size:=by rw[hW2];simp[World.setCell,World.drew]
  have eR:W2.heap[R]?=wc.heap[R]?:=hg2.block R (by rw[hs1];exact vR.lt) (by intro e;injection e with e;exact hRD e)
  have hall:∀b,b<w.heap.size->b≠R->b≠D->W2.heap[b]?=w.heap[b]?:=by
   intro b hb hb1 hb2
   rw[hg2.block b (by rw[hs1];exact hb) (by intro e;injection e with e;exact hb2 e),hg1.block b hb (by intro e;injection e with e;exact hb1 e)]
  refine⟨_,rfl,rfl,h.swap (by rw[<-hrn];exact hi) (by rw[<-hrn];exact hk) (eR.trans hv1) hv2 hall (hkp1.trans hkp2),hkp1.trans hkp2,?_,by rw[hs2,hs1],hall⟩
  ·have hbs:base<=w.heap.size:=Nat.le_trans h.bR (Nat.le_of_lt vR.lt)
   exact only_below (only_below (blr _ _) hg1 hbs h.bR) hg2 (by rw[hs1];exact hbs) h.bD
end Go.Proofs.YtpoahodnakhmiaaGreat
