import Derived.Test.YtpoahodnakhmiaaGreatCalc2
import Derived.Test.YtpoahodnakhmiaaGreatSwap
set_option maxRecDepth 100000
namespace Go.Proofs.YtpoahodnakhmiaaGreat
set_option linter.unusedVariables false
set_option linter.unusedSimpArgs false
open Go.RowKit
def powN (q:Rat):Nat->Rat
 | 0=>1
 | n+1=>powN q n*q
theorem zeC (q:Rat) (a b:Nat):powN q (a+b)=powN q a*powN q b:=by
 induction b with
 | zero=>simp[powN]
 | succ b ih=>rw[<-Nat.add_assoc,powN,ih,powN,Rat.mul_assoc]
def BoxI (w:World) (g:Nat) (n:Int):Prop:=w.heap[g]?=some (.cells #[.int .i64 n] 3 (0,0))
theorem BoxI.cell {w:World} {g:Nat} {n:Int} (h:BoxI w g n):w.cell? ⟨g,0,none⟩=some (.int .i64 n):=by
 unfold BoxI at h;simp[World.cell?,h]
theorem BoxI.frozen {w:World} {g:Nat} {n:Int} (h:BoxI w g n):w.frozen? ⟨g,0,none⟩=false:=by
 unfold BoxI at h;simp[World.frozen?,h]
theorem BoxI.below {w w':World} {g:Nat} {n:Int} (h:BoxI w g n) (hb:Below w.heap.size w w'):BoxI w' g n:=
 (hb.block g (lt_of_block h)).trans h
theorem BoxI.keeps {w:World} {g:Nat} {n m:Int} (h:BoxI w g n):
  BoxI (w.setCell ⟨g,0,none⟩ (.int .i64 m)) g m/\Keeps w (w.setCell ⟨g,0,none⟩ (.int .i64 m))/\w.grownBy (w.setCell ⟨g,0,none⟩ (.int .i64 m)) (some g):=by
 have hg:w.grownBy (w.setCell ⟨g,0,none⟩ (.int .i64 m)) (some g):=
  ⟨rfl,rfl,rfl,by simp[World.setCell],fun b hb hne=>by
   have e1:g≠b:=by intro e;exact hne (by rw[e])
   simp[World.setCell,Array.getElem?_modify,e1]⟩
 unfold BoxI at *
 exact⟨by simp[World.setCell,Array.getElem?_modify,h],Keeps.only hg ⟨_,_,h⟩ (by decide),hg⟩
def TwoB (gn gr:Nat) (w w':World):Prop:=
 w'.os=w.os/\w'.tape=w.tape/\w'.output=w.output/\w.heap.size<=w'.heap.size/\∀b,b<w.heap.size->b≠gn->b≠gr->w'.heap[b]?=w.heap[b]?
theorem TwoB.refl (gn gr:Nat) (w:World):TwoB gn gr w w:=⟨rfl,rfl,rfl,nr _,fun _ _ _ _=>rfl⟩
theorem TwoB.next {gn gr:Nat} {w w1 w2:World} (h:TwoB gn gr w w1) (k:Below w1.heap.size w1 w2):TwoB gn gr w w2:=
 ⟨k.os.trans h.1,k.tape.trans h.2.1,k.output.trans h.2.2.1,Nat.le_trans h.2.2.2.1 k.size,fun b hb h1 h2=>(k.block b (by have:=h.2.2.2.1;omega)).trans (h.2.2.2.2 b hb h1 h2)⟩
theorem TwoB.put {gn gr g:Nat} {w w1 w2:World} (h:TwoB gn gr w w1) (k:w1.grownBy w2 (some g)) (hg:g=gn\/g=gr\/w.heap.size<=g):TwoB gn gr w w2:=by
 obtain⟨k1,k2,k3,k4,k5⟩:=k
 refine⟨k1.trans h.1,k2.trans h.2.1,k3.trans h.2.2.1,Nat.le_trans h.2.2.2.1 k4,fun b hb h1 h2=>(k5 b (by have:=h.2.2.2.1;omega) ?_).trans (h.2.2.2.2 b hb h1 h2)⟩
 intro e;injection e with e;subst e
 rcases hg with e|e|e
 ·exact h1 e
 ·exact h2 e
 ·omega
theorem TwoB.below {gn gr B:Nat} {w w':World} (h:TwoB gn gr w w') (h0:B<=w.heap.size) (h1:B<=gn) (h2:B<=gr):Below B w w':=
 ⟨h.1,h.2.1,h.2.2.1,h.2.2.2.1,fun b hb=>h.2.2.2.2 b (by omega) (by omega) (by omega)⟩
theorem TwoB.lt {gn gr:Nat} {w w':World} (h:TwoB gn gr w w'):w.heap.size<=w'.heap.size:=h.2.2.2.1
def zbi (w:World) (q:Rat) (L gn gr go gs:Nat) (m e k:Nat) (wr:World):Prop:=
 BoxI wr gn m/\RowC wr gr [powN q e] L/\RowC wr go [powN q k] L/\RowC wr gs [0] L/\TwoB gn gr w wr
theorem zbi.below {w:World} {q:Rat} {L gn gr go gs m e k:Nat} {wr wx:World} (h:zbi w q L gn gr go gs m e k wr) (hb:Below wr.heap.size wr wx):zbi w q L gn gr go gs m e k wx:=
 ⟨h.1.below hb,h.2.1.below hb,h.2.2.1.below hb,h.2.2.2.1.below hb,h.2.2.2.2.next hb⟩
theorem zbi.out {w:World} {q:Rat} {L gn gr go gs m e k k':Nat} {wr:World} (h:zbi w q L gn gr go gs m e k wr) (hne:gn≠go) (hn2:gr≠go) (hn3:gs≠go) (hgo:w.heap.size<=go)
  {A1 A2:Option Addr} {n1 c1 n2 c2:Nat} {s:Bool} (hq:RatV wr (.agg #[.bool s,.slice A1 n1 c1,.slice A2 n2 c2]) (powN q k') L):
  zbi w q L gn gr go gs m e k' (((wr.setCell ⟨go,0,none⟩ (.bool s)).setCell ⟨go,1,none⟩ (.slice A1 n1 c1)).setCell ⟨go,2,none⟩ (.slice A2 n2 c2)):=by
 obtain⟨h1,h2,h3,h4,h5⟩:=h
 obtain⟨t1,t2,t3⟩:=h3.set3 (i:=0) (by simp) hq
 simp only[Nat.zero_mul,Nat.zero_add] at t1 t2 t3
 exact⟨(t3.block _ (lt_of_block h1) (by intro e;injection e with e;omega)).trans h1,h2.same t2 (t3.block _ h2.lt (by intro e;injection e with e;omega)),t1,
  h4.same t2 (t3.block _ h4.lt (by intro e;injection e with e;omega)),h5.put t3 (Or.inr (Or.inr hgo))⟩
theorem zbi.base {w:World} {q:Rat} {L gn gr go gs m e e' k:Nat} {wr:World} (h:zbi w q L gn gr go gs m e k wr) (hne:gn≠gr) (hn2:gr≠go) (hn3:gs≠gr)
  {A1 A2:Option Addr} {n1 c1 n2 c2:Nat} {s:Bool} (hq:RatV wr (.agg #[.bool s,.slice A1 n1 c1,.slice A2 n2 c2]) (powN q e') L):
  zbi w q L gn gr go gs m e' k (((wr.setCell ⟨gr,0,none⟩ (.bool s)).setCell ⟨gr,1,none⟩ (.slice A1 n1 c1)).setCell ⟨gr,2,none⟩ (.slice A2 n2 c2)):=by
 obtain⟨h1,h2,h3,h4,h5⟩:=h
 obtain⟨t1,t2,t3⟩:=h2.set3 (i:=0) (by simp) hq
 simp only[Nat.zero_mul,Nat.zero_add] at t1 t2 t3
 exact⟨(t3.block _ (lt_of_block h1) (by intro e;injection e with e;omega)).trans h1,t1,h3.same t2 (t3.block _ h3.lt (by intro e;injection e with e;omega)),
  h4.same t2 (t3.block _ h4.lt (by intro e;injection e with e;omega)),h5.put t3 (Or.inr (Or.inl rfl))⟩
theorem zbi.exp {w:World} {q:Rat} {L gn gr go gs m m' e k:Nat} {wr:World} (h:zbi w q L gn gr go gs m e k wr) (hne:gn≠gr) (hn2:gn≠go) (hn3:gs≠gn):
  zbi w q L gn gr go gs m' e k (wr.setCell ⟨gn,0,none⟩ (.int .i64 m')):=by
 obtain⟨h1,h2,h3,h4,h5⟩:=h
 obtain⟨t1,t2,t3⟩:=h1.keeps (m:=m')
 exact⟨t1,h2.same t2 (t3.block _ h2.lt (by intro e;injection e with e;omega)),h3.same t2 (t3.block _ h3.lt (by intro e;injection e with e;omega)),
  h4.same t2 (t3.block _ h4.lt (by intro e;injection e with e;omega)),h5.put t3 (Or.inl rfl)⟩
theorem RowC.open1 {w:World} {g:Nat} {p:Rat} {L:Nat} (h:RowC w g [p] L):
  ∃s A1 n1 c1 A2 n2 c2,w.cell? ⟨g,0,none⟩=some (.bool s)/\w.cell? ⟨g,1,none⟩=some (.slice A1 n1 c1)/\w.cell? ⟨g,2,none⟩=some (.slice A2 n2 c2) /\
   w.frozen? ⟨g,0,none⟩=false/\w.frozen? ⟨g,1,none⟩=false/\w.frozen? ⟨g,2,none⟩=false/\RatV w (.agg #[.bool s,.slice A1 n1 c1,.slice A2 n2 c2]) p L:=by
 obtain⟨s5,B5,m5,d5,B6,m6,d6,e6,e7,e8,hr3⟩:=(h.2 0 (by simp)).rat
 simp only[Nat.zero_mul,Nat.zero_add] at e6 e7 e8
 exact⟨s5,B5,m5,d5,B6,m6,d6,e6,e7,e8,h.frozen 0,h.frozen 1,h.frozen 2,hr3⟩
theorem RatV.open3 {w:World} {v:Value} {q:Rat} {L:Nat} (h:RatV w v q L):∃s A1 n1 c1 A2 n2 c2,v=.agg #[.bool s,.slice A1 n1 c1,.slice A2 n2 c2]:=by
 obtain⟨n,l,rfl,h1,h2⟩:=h
 obtain⟨A1,c1,xs1,rfl,_⟩:=h1.open_
 obtain⟨A2,c2,xs2,rfl,_⟩:=h2.open_
 exact⟨_,_,_,_,_,_,_,rfl⟩
theorem ziA (w:World) {q:Rat} {L:Nat} {A1 A2:Option Addr} {n1 c1 n2 c2:Nat} {s:Bool} (hq:RatV w (.agg #[.bool s,.slice A1 n1 c1,.slice A2 n2 c2]) q L):
  RowC (w.alloc (.cells #[.bool s,.slice A1 n1 c1,.slice A2 n2 c2] 43)) w.heap.size [q] L:=by
 have hh:=heap_alloc_new w (.cells #[.bool s,.slice A1 n1 c1,.slice A2 n2 c2] 43)
 have hq2:=hq.below ((blr _ _).alloc (nr _) (.cells #[.bool s,.slice A1 n1 c1,.slice A2 n2 c2] 43))
 refine⟨⟨_,hh⟩,fun i hi=>?_⟩
 obtain rfl:i=0:=by simpa using hi
 obtain⟨k0,k1,k2,_⟩:=box3 (zL w (.cells #[.bool s,.slice A1 n1 c1,.slice A2 n2 c2] 43))
 obtain⟨n,l,e,h1,h2⟩:=hq2
 injection e with e
 simp only[Array.mk.injEq,List.cons.injEq,Value.bool.injEq,and_true] at e
 obtain⟨rfl,rfl,rfl⟩:=e
 exact⟨_,_,_,_,_,_,k0,k1,k2,h1,h2⟩
theorem zbi.res {w:World} {q:Rat} {L gn gr go m e k:Nat} {wr:World} (h:zbi w q L gn gr go w.heap.size m e k wr)
  {A1 A2:Option Addr} {n1 c1 n2 c2:Nat} {s:Bool} (hq:RatV wr (.agg #[.bool s,.slice A1 n1 c1,.slice A2 n2 c2]) (powN q k) L):
  RatV (((wr.setCell ⟨w.heap.size,0,none⟩ (.bool s)).setCell ⟨w.heap.size,1,none⟩ (.slice A1 n1 c1)).setCell ⟨w.heap.size,2,none⟩ (.slice A2 n2 c2)) (.agg #[.bool s,.slice A1 n1 c1,.slice A2 n2 c2]) (powN q k) L /\
  TwoB gn gr w (((wr.setCell ⟨w.heap.size,0,none⟩ (.bool s)).setCell ⟨w.heap.size,1,none⟩ (.slice A1 n1 c1)).setCell ⟨w.heap.size,2,none⟩ (.slice A2 n2 c2)):=by
 obtain⟨h1,h2,h3,h4,h5⟩:=h
 obtain⟨t1,t2,t3⟩:=h4.set3 (i:=0) (by simp) hq
 simp only[Nat.zero_mul,Nat.zero_add] at t1 t2 t3
 exact⟨hq.keeps t2,h5.put t3 (Or.inr (Or.inr (nr _)))⟩
theorem zbi.measure {w:World} {q:Rat} {L gn gr go gs m e k:Nat} {wr:World} (h:zbi w q L gn gr go gs m e k wr):(((wr.cell? ⟨gn,0,none⟩).map intOf).getD 0).toNat=m:=by
 rw[h.1.cell];simp[intOf]
set_option maxHeartbeats 4000000 in
theorem zmX (w:World) (q:Rat) (n L gn gr:Nat) (hn:BoxI w gn n) (hr:RowC w gr [q] L) (hn0:n<=1000) (hne:gn≠gr) (hL2:2<=L) (hL:L<=134217700)
  (hfit:∀k,k<=1000->FitQ L (powN q k)/\SmallQ (powN q k)):
  Calls Tryz.prog 79 #[.pointer (some ⟨gn,0,none⟩),.pointer (some ⟨gr,0,none⟩)] w (Ret (fun v w'=>RatV w' v (powN q n) L/\TwoB gn gr w w')):=by
 have HA:=hide (ai hn (ai hr hfit))
 have hl1:=lt_of_block hn
 have hl2:=hr.lt
 clear hfit hn hr
 have hb0:Below w.heap.size w (w.alloc (.cells #[.bool false,.slice none 0 0,.slice none 0 0] 43)):=(blr _ _).alloc (nr _) _
 go_enter Tryz.func79,Tryz.ntmps79
 go_wp2_with fail
 refine(zcu _ 1 (by omega) (by omega)).mono ?_
 rintro e w1 ⟨u0,rfl,hu0,hd0⟩
 have hb1:=bnx hb0 hd0
 have hs1:=zh (zL w (.cells #[.bool false,.slice none 0 0,.slice none 0 0] 43)) hd0 (by simp)
 obtain⟨k0,k1,k2,f0,f1,f2,hz⟩:=box3 hs1
 have hz0:=hd0.size
 simp only[World.size_alloc] at hz0
 obtain⟨n1,l1,rfl,h1,g1⟩:=id hu0
 obtain⟨A1,c1,xs1,rfl,_⟩:=h1.open_
 obtain⟨A2,c2,xs2,rfl,_⟩:=g1.open_
 obtain⟨s0,hs0⟩:∃s,s=decide (((1:Int):Rat).num<0):=⟨_,rfl⟩
 rw[<-hs0] at hu0
 rw[<-hs0]
 have HU:=hide (ai hu0 (ai hd0 (ai hb1 hs1)))
 clear h1 g1 hs0 hu0 hd0 hb1 hs1
 go_wp2
 have hlt:w.heap.size<w1.heap.size:=by omega
 go_loopw [] (fun wr=>∃(m k e:Nat),k+e*m=n/\e<=1000/\k<=1000/\1<=e/\zbi w q L gn gr w1.heap.size w.heap.size m e k wr) (fun wr=>((wr.cell? ⟨gn,0,none⟩).map intOf).getD 0 |>.toNat)
 case atStart=>
  obtain⟨hu0,hd0,hb1,hs1⟩:=HU.out
  obtain⟨hn,hr,hfit⟩:=HA.out
  refine⟨n,0,1,by omega,by omega,by omega,by omega,?_⟩
  have hba:Below w1.heap.size w1 (w1.alloc (.cells #[.bool s0,.slice A1 xs1.length c1,.slice A2 xs2.length c2] 43)):=(blr _ _).alloc (nr _) _
  have hrz:=(zbL w L).below (hd0.trans (hba.mono hd0.size))
  have hro:=ziA w1 (hu0.more (L':=L) hL2)
  have hbw:=bnx hb1 hba
  have hw:TwoB gn gr w (w1.alloc (.cells #[.bool s0,.slice A1 xs1.length c1,.slice A2 xs2.length c2] 43)):=(TwoB.refl gn gr w).next hbw
  refine⟨hn.below hbw,?_,?_,hrz,hw⟩
  ·rw[show powN q 1=q by simp[powN]];exact hr.below hbw
  ·exact hro
 case round=>
  obtain⟨m,k,e,hke,he,hk,he1,hp⟩:=hrel
  have hkn:k<=n:=by omega
  obtain⟨sr,Br,mr,dr,Cr,nr,er,r0,r1,r2,fr0,fr1,fr2,hr⟩:=hp.2.1.open1
  obtain⟨so,Bo,mo,od,Co,no,eo,o0,o1,o2,fo0,fo1,fo2,ho⟩:=hp.2.2.1.open1
  obtain⟨ss,Bs,ms,ds,Cs,ns,es,s0',s1',s2',fs0,fs1,fs2,hs⟩:=hp.2.2.2.1.open1
  have cm:=hp.1.cell
  have fm:=hp.1.frozen
  have HM:=hide hp.measure
  have HP:=hide (ai hp (ai hr (ai ho hs)))
  clear hp hr ho hs
  by_cases hm0:0<m
  ·have hdm:decide ((0:Int)<(m:Int))=true:=by apply decide_eq_true;omega
   have hem:e<=e*m:=Nat.le_mul_of_pos_right e hm0
   have hm9:m<=1000:=by
    have:=Nat.le_mul_of_pos_left m (show 0<e by omega)
    omega
   by_cases hodd:m%2=1
   ·have hd2:((m:Int)%2 == 1)=true:=by rw[beq_iff_eq];omega
    go_wp2_with fail
    refine(zcq _ _ _ (powN q k) (powN q e) L HP.out.2.2.1 HP.out.2.1 (by omega)).mono ?_
    rintro ee v1 ⟨u1,rfl,hu1,hd1⟩
    rw[<-zeC] at hu1
    go_wp2_with fail
    refine(zbB _ u1 (powN q (k+e)) (2*L+4) hu1 (by omega) (HA.out.2.2 _ (by omega)).2).mono ?_
    rintro ee v2 ⟨u2,rfl,hu2,hd2'⟩
    replace hu2:=hu2.fit (HA.out.2.2 (k+e) (by omega)).1
    have hbv:=bnx hd1 hd2'
    have hp2:=HP.out.1.below hbv
    obtain⟨t2,A5,m5,d5,A6,m6,d6,rfl⟩:=hu2.open3
    clear cm fm r0 r1 r2 fr0 fr1 fr2 o0 o1 o2 fo0 fo1 fo2 s0' s1' s2' fs0 fs1 fs2
    obtain⟨so,Bo,mo,od,Co,no,eo,o0,o1,o2,fo0,fo1,fo2,_⟩:=hp2.2.2.1.open1
    have hp3:=hp2.out (by omega) (by omega) (by omega) (by omega) hu2
    obtain⟨sr,Br,mr,dr,Cr,nr,er,r0,r1,r2,fr0,fr1,fr2,hr⟩:=hp3.2.1.open1
    have cm:=hp3.1.cell
    have fm:=hp3.1.frozen
    have HP3:=hide (ai hp3 hr)
    have hH:=hide (ai hu2 (ai hp2 hbv))
    clear hp3 hr hu2 hp2 hbv hu1 hd1 hd2' HP
    by_cases hbig:1<m
    ·have hd3:decide ((1:Int)<(m:Int))=true:=by apply decide_eq_true;omega
     have he2:e*2<=e*m:=Nat.mul_le_mul_left e (by omega)
     go_wp2_with fail
     refine(zcq _ _ _ (powN q e) (powN q e) L HP3.out.2 HP3.out.2 (by omega)).mono ?_
     rintro ee v3 ⟨u3,rfl,hu3,hd3'⟩
     rw[<-zeC] at hu3
     go_wp2_with fail
     refine(zbB _ u3 (powN q (e+e)) (2*L+4) hu3 (by omega) (HA.out.2.2 _ (by omega)).2).mono ?_
     rintro ee v4 ⟨u4,rfl,hu4,hd4'⟩
     replace hu4:=hu4.fit (HA.out.2.2 (e+e) (by omega)).1
     have hbv2:=bnx hd3' hd4'
     have hp4:=HP3.out.1.below hbv2
     obtain⟨t4,A7,m7,d7,A8,m8,d8,rfl⟩:=hu4.open3
     clear cm fm r0 r1 r2 fr0 fr1 fr2 o0 o1 o2 fo0 fo1 fo2
     obtain⟨sr,Br,mr,dr,Cr,nr,er,r0,r1,r2,fr0,fr1,fr2,_⟩:=hp4.2.1.open1
     have hp5:=hp4.base hne (by omega) (by omega) hu4
     have cm:=hp5.1.cell
     have fm:=hp5.1.frozen
     have HP5:=hide hp5
     have HU4:=hide (ai hu4 (ai hp4 hbv2))
     clear hp5 hu4 hp4 hbv2 hu3 hd3' hd4'
     go_wp2
     case roundEnd=>
      have hp6:=HP5.out.exp (m':=m / 2) hne (by omega) (by omega)
      rw[show (((m / 2:Nat):Int))=(m:Int) / 2 by omega] at hp6
      refine⟨⟨m / 2,k+e,e+e,?_,by omega,by omega,by omega,hp6⟩,?_⟩
      ·obtain⟨h,rfl⟩:∃h,m=2*h+1:=⟨m / 2,by omega⟩;rw[show (2*h+1) / 2=h by omega,Nat.add_mul];rw[Nat.mul_add,Nat.mul_one,<-Nat.mul_assoc,Nat.mul_comm e 2,Nat.mul_assoc,Nat.two_mul] at hke;omega
      ·rw[hp6.measure,HM.out];omega
    ·have hd3:decide ((1:Int)<(m:Int))=false:=by apply decide_eq_false;omega
     go_wp2
     case roundEnd=>
      have hp6:=HP3.out.1.exp (m':=m / 2) hne (by omega) (by omega)
      rw[show (((m / 2:Nat):Int))=(m:Int) / 2 by omega] at hp6
      obtain rfl:m=1:=by omega
      refine⟨⟨1 / 2,k+e,e,by omega,by omega,by omega,by omega,hp6⟩,?_⟩
      rw[hp6.measure,HM.out];omega
   ·have hd2:((m:Int)%2 == 1)=false:=by rw[beq_eq_false_iff_ne];omega
    have hd3:decide ((1:Int)<(m:Int))=true:=by apply decide_eq_true;omega
    have he2:e*2<=e*m:=Nat.mul_le_mul_left e (by omega)
    have HPB:=hide (ai HP.out.1 HP.out.2.1)
    go_wp2_with fail
    refine(zcq _ _ _ (powN q e) (powN q e) L HPB.out.2 HPB.out.2 (by omega)).mono ?_
    rintro ee v3 ⟨u3,rfl,hu3,hd3'⟩
    rw[<-zeC] at hu3
    go_wp2_with fail
    refine(zbB _ u3 (powN q (e+e)) (2*L+4) hu3 (by omega) (HA.out.2.2 _ (by omega)).2).mono ?_
    rintro ee v4 ⟨u4,rfl,hu4,hd4'⟩
    replace hu4:=hu4.fit (HA.out.2.2 (e+e) (by omega)).1
    have hbv2:=bnx hd3' hd4'
    have hp4:=HPB.out.1.below hbv2
    obtain⟨t4,A7,m7,d7,A8,m8,d8,rfl⟩:=hu4.open3
    clear cm fm r0 r1 r2 fr0 fr1 fr2 o0 o1 o2 fo0 fo1 fo2 s0' s1' s2' fs0 fs1 fs2
    obtain⟨sr,Br,mr,dr,Cr,nr,er,r0,r1,r2,fr0,fr1,fr2,_⟩:=hp4.2.1.open1
    have hp5:=hp4.base hne (by omega) (by omega) hu4
    have cm:=hp5.1.cell
    have fm:=hp5.1.frozen
    have HP5:=hide hp5
    have HU4:=hide (ai hu4 (ai hp4 hbv2))
    clear hp5 hu4 hp4 hbv2 hu3 hd3' hd4'
    go_wp2
    case roundEnd=>
     have hp6:=HP5.out.exp (m':=m / 2) hne (by omega) (by omega)
     rw[show (((m / 2:Nat):Int))=(m:Int) / 2 by omega] at hp6
     refine⟨⟨m / 2,k,e+e,?_,by omega,by omega,by omega,hp6⟩,?_⟩
     ·obtain⟨h,rfl⟩:∃h,m=2*h:=⟨m / 2,by omega⟩;rw[show (2*h) / 2=h by omega,Nat.add_mul];rw[<-Nat.mul_assoc,Nat.mul_comm e 2,Nat.mul_assoc,Nat.two_mul] at hke;omega
     ·rw[hp6.measure,HM.out];omega
  ·have hdm:decide ((0:Int)<(m:Int))=false:=by apply decide_eq_false;omega
   obtain rfl:m=0:=by omega
   go_wp2
   obtain⟨hp,hr,ho,hs⟩:=HP.out
   obtain⟨g1,g2⟩:=hp.res ho
   have hz9:=zf s0'
   refine bodyPost_ret (v:=.agg #[.bool so,.slice Bo mo od,.slice Co no eo]) ?_ rfl ?_
   ·simp[results,Tryz.results79,go_sem,s0',s1',s2',hz9]
   ·refine⟨_,rfl,?_,g2⟩
    obtain rfl:k=n:=by omega
    exact g1
theorem TwoB.set {gn gr:Nat} {w w1:World} (h:TwoB gn gr w w1) {p:Addr} (hp:w.heap.size<=p.block) (v:Value):TwoB gn gr w (w1.setCell p v):=by
 refine⟨h.1,h.2.1,h.2.2.1,by simpa[World.setCell] using h.2.2.2.1,fun b hb h1 h2=>?_⟩
 have e:¬p.block=b:=by omega
 have:=h.2.2.2.2 b hb h1 h2
 simp[World.setCell,Array.getElem?_modify,e,this]
theorem TwoB.from {gn gr:Nat} {w w0 w1:World} (hb:Below w.heap.size w w0) (h:TwoB gn gr w0 w1):TwoB gn gr w w1:=
 ⟨h.1.trans hb.os,h.2.1.trans hb.tape,h.2.2.1.trans hb.output,Nat.le_trans hb.size h.2.2.2.1,fun b hl h1 h2=>(h.2.2.2.2 b (by have:=hb.size;omega) h1 h2).trans (hb.block b hl)⟩
theorem znG {w w':World} {gn gr:Nat} {a0 b0 c0 a1:Value} {e e':TypeId} (h1:gn<w.heap.size) (h2:gr<w.heap.size)
  (h:TwoB gn gr ((w.alloc (.cells #[a0,b0,c0] e)).alloc (.cells #[a1] e')) w'):
  (w'.cell? ⟨w.heap.size,0,none⟩=some a0/\w'.cell? ⟨w.heap.size,1,none⟩=some b0/\w'.cell? ⟨w.heap.size,2,none⟩=some c0) /\
  w'.cell? ⟨w.heap.size+1,0,none⟩=some a1 /\
  (w'.frozen? ⟨w.heap.size,0,none⟩=false/\w'.frozen? ⟨w.heap.size,1,none⟩=false/\w'.frozen? ⟨w.heap.size,2,none⟩=false)/\w'.frozen? ⟨w.heap.size+1,0,none⟩=false/\w.heap.size+1<w'.heap.size:=by
 have s1:(w.alloc (.cells #[a0,b0,c0] e)).heap.size=w.heap.size+1:=by simp
 have h1:w'.heap[w.heap.size+1]?=some (.cells #[a1] e' (0,0)):=(h.2.2.2.2 _ (by simp) (by omega) (by omega)).trans (by rw[<-s1];exact heap_alloc_new _ _)
 have h0:w'.heap[w.heap.size]?=some (.cells #[a0,b0,c0] e (0,0)):=(h.2.2.2.2 _ (by simp;omega) (by omega) (by omega)).trans (by rw[Below.heap_alloc _ _ _ (by rw[s1];omega)];exact heap_alloc_new _ _)
 refine⟨⟨?_,?_,?_⟩,?_,⟨?_,?_,?_⟩,?_,?_⟩
 all_goals first
  | (simp[World.cell?,h0];done)
  | (simp[World.cell?,h1];done)
  | (simp[World.frozen?,h0];done)
  | (simp[World.frozen?,h1];done)
  | (have:=h.2.2.2.1;simp at this;omega)
theorem zh9 (w:World) (q:Rat) (n L gn gr:Nat) (hn:BoxI w gn n) (hr:RowC w gr [q] L) (hn0:n<=1000) (hne:gn≠gr) (hL2:2<=L) (hL:L<=134217700)
  (hfit:∀k,k<=1000->FitQ L (powN q k)/\SmallQ (powN q k)):
  Calls Tryz.prog 72 #[.func (.func 79) #[] #[.pointer (some ⟨gn,0,none⟩),.pointer (some ⟨gr,0,none⟩)]] w
   (Ret (fun v w'=>∃r,v=.tuple #[r,.int .i64 0]/\RatV w' r (powN q n) L/\TwoB gn gr w w')):=by
 have hmf:=hmf0 Tryz.prog
 have hl1:=lt_of_block hn
 have hl2:=hr.lt
 have HA:=hide (ai hn (ai hr hfit));clear hn hr hfit
 go_enter_defers Tryz.func72,Tryz.ntmps72
 go_wp2_with fail
 have hb0:Below w.heap.size w ((w.alloc (.cells #[.bool false,.slice none 0 0,.slice none 0 0] 43)).alloc (.cells #[.int .i64 0] 36)):=((blr _ _).alloc (nr _) _).alloc (by simp) _
 refine(zmX _ q n L gn gr (HA.out.1.below hb0) (HA.out.2.1.below hb0) hn0 hne hL2 hL HA.out.2.2).mono ?_
 rintro e w1 ⟨r,rfl,⟨n1,l1,rfl,h1,g1⟩,hd1⟩
 have hb1:=TwoB.from hb0 hd1
 obtain⟨⟨k0,k1,k2⟩,kE,⟨f0,f1,f2⟩,fE,hz⟩:=znG hl1 hl2 hd1
 obtain⟨A1,c1,xs1,rfl,_⟩:=h1.open_
 obtain⟨A2,c2,xs2,rfl,_⟩:=g1.open_
 obtain⟨s0,hs0⟩:∃s,s=decide ((powN q n).num<0):=⟨_,rfl⟩
 rw[<-hs0]
 have HD:=hide (ai hs0 (ai h1 (ai g1 hb1)));clear hs0 h1 g1 hb1 hd1
 go_wp2
 refine leaves_cons (f:=126) (args:=#[.pointer (some ⟨w.heap.size,0,none⟩),.pointer (some ⟨w.heap.size+1,0,none⟩)]) (by simp) (by simp[go_sem]) ?_
 refine(ze2 _ _ _).mono ?_
 rintro e u' w'' ⟨rfl,rfl,rfl⟩
 simp only[Leaves,settle]
 obtain⟨hs0,h1,g1,hb1⟩:=HD.out
 refine⟨.tuple #[.agg #[.bool s0,.slice A1 xs1.length c1,.slice A2 xs2.length c2],.int .i64 0],?_,_,rfl,_,rfl,⟨_,_,by rw[hs0],h1.setE k0 k1 k2 kE,g1.setE k0 k1 k2 kE⟩,(((hb1.set (by simp) _).set (by simp) _).set (by simp) _).set (by simp) _⟩
 simp[results,Tryz.results72,go_sem,k0,k1,k2,kE,hz]
def zcl (w:World) (q:Rat) (n:Int) (L:Nat) (wr:World):Prop:=
 RowC wr w.heap.size [q] L/\BoxI wr (w.heap.size+1) n/\wr.heap[w.heap.size+2]?=some (.cells #[.bool false,.slice none 0 0,.slice none 0 0] 43 (0,0))/\Below w.heap.size w wr
theorem zcl.start (w:World) {q:Rat} (n:Int) {L:Nat} {A1 A2:Option Addr} {n1 c1 n2 c2:Nat} {s:Bool} (hq:RatV w (.agg #[.bool s,.slice A1 n1 c1,.slice A2 n2 c2]) q L):
  zcl w q n L (((w.alloc (.cells #[.bool s,.slice A1 n1 c1,.slice A2 n2 c2] 43)).alloc (.cells #[.int .i64 n] 3)).alloc (.cells #[.bool false,.slice none 0 0,.slice none 0 0] 43)):=by
 refine⟨?_,zy (zu _ (by simp)) _,zu _ (by simp),(((blr _ _).alloc (nr _) _).alloc (by simp) _).alloc (by simp;omega) _⟩
 exact(ziA w hq).below (((blr _ _).alloc (nr _) _).alloc (by simp) _)
theorem zcl.below {w:World} {q:Rat} {n:Int} {L:Nat} {wr wx:World} (h:zcl w q n L wr) (hb:Below wr.heap.size wr wx):zcl w q n L wx:=
 ⟨h.1.below hb,h.2.1.below hb,at_later h.2.2.1 hb,bnx h.2.2.2 hb⟩
theorem zcl.put {w:World} {q q':Rat} {n n':Int} {L:Nat} {wr:World} (h:zcl w q n L wr) {A1 A2:Option Addr} {n1 c1 n2 c2:Nat} {s:Bool} (hq:RatV wr (.agg #[.bool s,.slice A1 n1 c1,.slice A2 n2 c2]) q' L):
  zcl w q' n' L ((((wr.setCell ⟨w.heap.size,0,none⟩ (.bool s)).setCell ⟨w.heap.size,1,none⟩ (.slice A1 n1 c1)).setCell ⟨w.heap.size,2,none⟩ (.slice A2 n2 c2)).setCell ⟨w.heap.size+1,0,none⟩ (.int .i64 n')):=by
 obtain⟨h1,h2,h3,h4⟩:=h
 obtain⟨t1,t2,t3⟩:=h1.set3 (i:=0) (by simp) hq
 simp only[Nat.zero_mul,Nat.zero_add] at t1 t2 t3
 have g2:BoxI (((wr.setCell ⟨w.heap.size,0,none⟩ (.bool s)).setCell ⟨w.heap.size,1,none⟩ (.slice A1 n1 c1)).setCell ⟨w.heap.size,2,none⟩ (.slice A2 n2 c2)) (w.heap.size+1) n:=
  (t3.block _ (lt_of_block h2) (by intro e;injection e with e;omega)).trans h2
 have g3:=(t3.block _ (lt_of_block h3) (by intro e;injection e with e;omega)).trans h3
 obtain⟨u1,u2,u3⟩:=g2.keeps (m:=n')
 exact⟨t1.same u2 (u3.block _ t1.lt (by intro e;injection e with e;omega)),u1,(u3.block _ (lt_of_block g3) (by intro e;injection e with e;omega)).trans g3,(zm h4 (nr _) _ _ _).setCell (by simp) _⟩
theorem zcl.done {w wr wx:World} {q p:Rat} {n:Int} {L L':Nat} (h:zcl w q n L wr) (ht:TwoB (w.heap.size+1) w.heap.size wr wx) {A1 A2:Option Addr} {n1 c1 n2 c2:Nat} {s:Bool} (hq:RatV wx (.agg #[.bool s,.slice A1 n1 c1,.slice A2 n2 c2]) p L'):
  RatV (((wx.setCell ⟨w.heap.size+2,0,none⟩ (.bool s)).setCell ⟨w.heap.size+2,1,none⟩ (.slice A1 n1 c1)).setCell ⟨w.heap.size+2,2,none⟩ (.slice A2 n2 c2)) (.agg #[.bool s,.slice A1 n1 c1,.slice A2 n2 c2]) p L' /\
  Below w.heap.size w (((wx.setCell ⟨w.heap.size+2,0,none⟩ (.bool s)).setCell ⟨w.heap.size+2,1,none⟩ (.slice A1 n1 c1)).setCell ⟨w.heap.size+2,2,none⟩ (.slice A2 n2 c2)):=by
 obtain⟨h1,h2,h3,h4⟩:=h
 have g3:=(ht.2.2.2.2 _ (lt_of_block h3) (by omega) (by omega)).trans h3
 have hb:Below w.heap.size w wx:=h4.trans (ht.below h4.size (by omega) (by omega))
 exact⟨hq.put3 g3,zm hb (by omega) _ _ _⟩
theorem zkg (w:World) (L:Nat):RatV w (.agg #[.bool false,.slice none 0 0,.slice none 0 0]) 0 L:=
 ⟨.slice none 0 0,.slice none 0 0,rfl,NatV.nil _ _,NatV.nil _ _⟩
set_option maxHeartbeats 4000000 in
theorem zok (w:World) (a:Value) (n:Int) (L:Nat) (ha:RatV w a 0 L) (hn:n<0) (hn2:-1000<=n):
  Calls Tryz.prog 24 #[a,.int .i64 n] w (Ret (fun v w'=>∃r,v=.tuple #[r,.int .i64 6]/\RatV w' r 0 L/\Below w.heap.size w w')):=by
 obtain⟨s,A1,n1,c1,A2,n2,c2,rfl⟩:=ha.open3
 have HA:=hide (ai ha (zcl.start w n ha));clear ha
 go_enter Tryz.func24,Tryz.ntmps24
 have hd1:decide (n < -1000)=false:=by apply decide_eq_false;omega
 have hd2:decide (1000<n)=false:=by apply decide_eq_false;omega
 have hd3:decide (n<0)=true:=by apply decide_eq_true;omega
 go_wp2_with fail
 refine(zbg _ _ 0 L (HA.out.1.below HA.out.2.2.2.2)).mono ?_
 rintro e w1 ⟨_,rfl,rfl,hd⟩
 rw[show decide ((0:Rat)=0)=true from rfl]
 have hp:=HA.out.2.below hd
 have HB:=hide hp
 obtain⟨k0,k1,k2⟩:=zk hp.2.2.1
 obtain⟨f0,f1,f2⟩:=zA hp.2.2.1
 have hz:=lt_of_block hp.2.2.1
 clear hp hd
 go_wp2
 refine bodyPost_ret (v:=.tuple #[.agg #[.bool false,.slice none 0 0,.slice none 0 0],.int .i64 6]) ?_ rfl ?_
 ·simp[results,Tryz.results24,go_sem,k0,k1,k2,hz]
 exact⟨_,rfl,_,rfl,zkg _ _,zm HB.out.2.2.2 (by omega) _ _ _⟩
set_option maxHeartbeats 4000000 in
theorem zkh (w:World) (a:Value) (q:Rat) (n:Nat) (L:Nat) (ha:RatV w a q L) (hn:n<=1000) (hL2:2<=L) (hL:L<=134217700)
  (hfit:∀k,k<=1000->FitQ L (powN q k)/\SmallQ (powN q k)):
  Calls Tryz.prog 24 #[a,.int .i64 n] w (Ret (doneR w (powN q n) L)):=by
 obtain⟨s,A1,n1,c1,A2,n2,c2,rfl⟩:=ha.open3
 have HA:=hide (ai ha (ai (zcl.start w n ha) hfit));clear ha hfit
 have hmf:=hmf0 Tryz.prog
 go_enter Tryz.func24,Tryz.ntmps24
 have hd1:decide ((n:Int) < -1000)=false:=by apply decide_eq_false;omega
 have hd2:decide ((1000:Int)<n)=false:=by apply decide_eq_false;omega
 have hd3:decide ((n:Int)<0)=false:=by apply decide_eq_false;omega
 go_wp2_with fail
 refine(zh9 _ q n L (w.heap.size+1) w.heap.size HA.out.2.1.2.1 HA.out.2.1.1 hn (by omega) hL2 hL HA.out.2.2).mono ?_
 rintro e w1 ⟨_,rfl,r,rfl,hr,ht⟩
 obtain⟨t,A3,n3,c3,A4,n4,c4,rfl⟩:=hr.open3
 have g3:=(ht.2.2.2.2 _ (lt_of_block HA.out.2.1.2.2.1) (by omega) (by omega)).trans HA.out.2.1.2.2.1
 obtain⟨k0,k1,k2⟩:=zk g3
 obtain⟨f0,f1,f2⟩:=zA g3
 have hz:=lt_of_block g3
 have HR:=hide (HA.out.2.1.done ht hr)
 clear ht hr g3
 go_wp2
 refine bodyPost_ret (v:=.tuple #[.agg #[.bool t,.slice A3 n3 c3,.slice A4 n4 c4],.int .i64 0]) ?_ rfl ?_
 ·simp[results,Tryz.results24,go_sem,k0,k1,k2,hz]
 exact⟨_,rfl,HR.out.2,Or.inl ⟨(HA.out.2.2 n hn).2,_,rfl,HR.out.1⟩⟩
end Go.Proofs.YtpoahodnakhmiaaGreat
