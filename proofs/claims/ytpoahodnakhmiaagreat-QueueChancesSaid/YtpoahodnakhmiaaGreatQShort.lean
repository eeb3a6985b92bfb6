import Derived.Test.YtpoahodnakhmiaaGreatSieg
set_option maxRecDepth 100000
namespace Go.Proofs.YtpoahodnakhmiaaGreat
set_option linter.unusedVariables false
set_option linter.unusedSimpArgs false
open Go.RowKit
theorem doneR.ok {w w':World} {q:Rat} {L:Nat} {v:Value} (h:doneR w q L v w') (hs:SmallQ q):∃r,v=.tuple #[r,.int .i64 0]/\RatV w' r q L/\Below w.heap.size w w':=by
 obtain⟨hb,h|h⟩:=h
 ·obtain⟨_,r,e,hr⟩:=h;exact⟨r,e,hr,hb⟩
 ·exact absurd hs h.1
theorem zc8 (w:World) (s:Bool) (A:Option Addr) (n c:Nat) (B:Option Addr) (m d:Nat):
  Calls Tryz.prog 119 #[.agg #[.bool s,.slice A n c,.slice B m d],.int .i64 0] w (Ret (fun v w'=>v=.agg #[.bool s,.slice A n c,.slice B m d]/\Below w.heap.size w w')):=by
 go_enter Tryz.func119,Tryz.ntmps119
 go_wp2
 have hb:Below w.heap.size w ((w.alloc (.cells #[.bool s,.slice A n c,.slice B m d] 43)).alloc (.cells #[.bool s,.slice A n c,.slice B m d] 43)):=((blr _ _).alloc (nr _) _).alloc (by simp) _
 refine bodyPost_ret (v:=.agg #[.bool s,.slice A n c,.slice B m d]) ?_ rfl ?_
 ·simp[results,Tryz.results119,go_sem]
 exact⟨_,rfl,rfl,hb⟩
def prodN (f:Nat->Rat):Nat->Rat
 | 0=>1
 | k+1=>prodN f k*f k
theorem zeE {w:World} {s:Bool} {A:Option Addr} {n c:Nat} {B:Option Addr} {m d:Nat} {q:Rat} {L:Nat} (h:RatV w (.agg #[.bool s,.slice A n c,.slice B m d]) q L):
  RowC (w.alloc (.cells #[.bool s,.slice A n c,.slice B m d] 43)) w.heap.size [q] L:=by
 have hh:=heap_alloc_new w (.cells #[.bool s,.slice A n c,.slice B m d] 43)
 refine⟨⟨_,hh⟩,fun i hi=>?_⟩
 obtain rfl:i=0:=by simpa using hi
 obtain⟨k0,k1,k2,_⟩:=box3 (zL w (.cells #[.bool s,.slice A n c,.slice B m d] 43))
 have hb:Below w.heap.size w (w.alloc (.cells #[.bool s,.slice A n c,.slice B m d] 43)):=(blr _ _).alloc (nr _) _
 obtain⟨rn,rl,e,r1,r2⟩:=h
 injection e with e
 simp only[Array.mk.injEq,List.cons.injEq,Value.bool.injEq,and_true] at e
 obtain⟨rfl,rfl,rfl⟩:=e
 exact⟨_,_,_,_,_,_,k0,k1,k2,r1.below hb,r2.below hb⟩
theorem zmn (w:World) (va:Value) (ps:List Rat) (L:Nat) (ha:RowV w va ps L) (hL:L<=3000) (hfit:∀k,k<=ps.length->FitQ L (sumN (fun i=>ps.getD i 0) k)):
  Calls Tryz.prog 83 #[va] w (Ret (ratR w (sumN (fun i=>ps.getD i 0) ps.length) L)):=by
 have HA:=hide (ai ha hfit)
 obtain⟨A1,c1,rfl,hc1,hm1,_⟩:=ha
 clear hfit
 unfold maxLen at hm1
 have hb0:Below w.heap.size w ((w.alloc (.cells #[.bool false,.slice none 0 0,.slice none 0 0] 43)).alloc (.cells #[.bool false,.slice none 0 0,.slice none 0 0] 43)):=((blr _ _).alloc (nr _) _).alloc (by simp) _
 go_enter Tryz.func83,Tryz.ntmps83
 go_wp2
 go_loopw [8] (fun s8 wr=>∃(k:Nat),k<=ps.length/\s8=.int .i64 k/\RowC wr (w.heap.size+1) [(sumN (fun i=>ps.getD i 0) k)] L/\RowC wr w.heap.size [0] L/\Below w.heap.size w wr) (fun s8 _=>ps.length-(intOf s8).toNat)
 case atStart=>
  refine⟨0,Nat.zero_le _,rfl,?_,?_,hb0⟩
  ·have:=zbL (w.alloc (.cells #[.bool false,.slice none 0 0,.slice none 0 0] 43)) L
   rw[show (w.alloc (.cells #[.bool false,.slice none 0 0,.slice none 0 0] 43)).heap.size=w.heap.size+1 by simp] at this
   exact this
  ·exact(zbL w L).below ((blr _ _).alloc (nr _) _)
 case round=>
  obtain⟨k,hk,rfl,hacc,hres,hbel⟩:=hrel
  by_cases hkl:k<ps.length
  ·obtain⟨_,_,_,hcell⟩:=(HA.out.1.below hbel).at_
   obtain⟨g1,o1,rfl,hcl1⟩:=hcell (by omega)
   obtain⟨s,B1,m1,d1,B2,m2,d2,e0,e1,e2,hr⟩:=(hcl1 k hkl).rat
   obtain⟨s5,B5,m5,d5,B6,m6,d6,e6,e7,e8,hr3⟩:=(hacc.2 0 (by simp)).rat
   simp only[Nat.zero_mul,Nat.zero_add] at e6 e7 e8
   have hba:Below wr.heap.size wr (wr.alloc (.cells #[.bool s,.slice B1 m1 d1,.slice B2 m2 d2] 43)):=(blr _ _).alloc (nr _) _
   have l1:=zf e6
   simp only at l1
   have p0:=(hba.cell (p:=⟨w.heap.size+1,0,none⟩) (by exact l1)).trans e6
   have p1:=(hba.cell (p:=⟨w.heap.size+1,1,none⟩) (by exact l1)).trans e7
   have p2:=(hba.cell (p:=⟨w.heap.size+1,2,none⟩) (by exact l1)).trans e8
   obtain⟨k0,k1,k2,_,_,_,_⟩:=box3 (zL wr (.cells #[.bool s,.slice B1 m1 d1,.slice B2 m2 d2] 43))
   have HH:=hide (ai hacc (ai hres (ai hbel (ai hr (ai hr3 hba)))));clear hacc hres hbel hr hr3 hcell hcl1 hba e6 e7 e8
   go_wp2_with fail
   refine(zoc _ _ _ (sumN (fun i=>ps.getD i 0) k) (ps.getD k 0) L (HH.out.2.2.2.2.1.below HH.out.2.2.2.2.2) (HH.out.2.2.2.1.below HH.out.2.2.2.2.2) (by omega)).mono ?_
   rintro e w1 ⟨v1,rfl,hdn⟩
   have hf:=HA.out.2 (k+1) (by omega)
   obtain⟨r,rfl,hr1,hd1⟩:=hdn.ok (by rw[show (sumN (fun i=>ps.getD i 0) k)+ps.getD k 0=(sumN (fun i=>ps.getD i 0) (k+1)) from rfl];exact hf.smallQ (by omega))
   replace hr1:RatV w1 r (sumN (fun i=>ps.getD i 0) (k+1)) L:=hr1.fit hf
   obtain⟨s7,B7,m7,d7,B8,m8,d8,rfl⟩:=hr1.shape
   have H1:=hide (ai hr1 (bnx HH.out.2.2.2.2.2 hd1))
   clear hr1 hd1 hdn p0 p1 p2 k0 k1 k2 hf
   go_wp2_with fail
   refine(zc8 _ _ _ _ _ _ _ _).mono ?_
   rintro e w2 ⟨_,rfl,rfl,hd2⟩
   have hb2:=bnx H1.out.2 hd2
   have hrow2:=HH.out.1.below hb2
   have hu2:=H1.out.1.below hd2
   obtain⟨s',B1',m1',d1',B2',m2',d2',e0',e1',e2',_⟩:=(hrow2.2 0 (by simp)).rat
   simp only[Nat.zero_mul,Nat.zero_add] at e0' e1' e2'
   have f0:=hrow2.frozen 0
   have f1:=hrow2.frozen 1
   have f2:=hrow2.frozen 2
   have HU:=hide (ai hu2 (ai hrow2 hb2))
   clear hu2 hrow2 hb2 hd2
   go_wp2
   go_roundw
   case rel=>
    obtain⟨hacc,hres,hbel,_⟩:=HH.out
    obtain⟨hu,hrow2,hb2⟩:=HU.out
    obtain⟨t1,t2,t3⟩:=hrow2.set3 (i:=0) (by simp) hu
    simp only[Nat.zero_mul,Nat.zero_add] at t1 t2 t3
    refine⟨k+1,by omega,by go_num,t1,?_,?_⟩
    ·exact(hres.below hb2).same t2 (t3.block _ (by have:=hb2.size;have:=lt_of_block hres.1.choose_spec;omega) (by intro e;injection e with e;omega))
    ·exact only_below (bnx hbel hb2) t3 (by have:=hbel.size;have:=hb2.size;omega) (by omega)
   case measure=>simp[intOf];omega
  ·obtain rfl:k=ps.length:=by omega
   obtain⟨s5,B5,m5,d5,B6,m6,d6,e6,e7,e8,hr3⟩:=(hacc.2 0 (by simp)).rat
   obtain⟨_,_,_,_,_,_,_,e9,e10,e11,_⟩:=(hres.2 0 (by simp)).rat
   simp only[Nat.zero_mul,Nat.zero_add] at e6 e7 e8 e9 e10 e11
   have f0:=hres.frozen 0
   have f1:=hres.frozen 1
   have f2:=hres.frozen 2
   have HH:=hide (ai hacc (ai hres (ai hbel hr3)));clear hacc hres hbel hr3
   go_wp2
   have hsz:=zf e9
   refine bodyPost_ret (v:=.agg #[.bool s5,.slice B5 m5 d5,.slice B6 m6 d6]) ?_ rfl ?_
   ·simp[results,Tryz.results83,go_sem,e9,e10,e11]
   have hr:=HH.out.2.2.2
   simp only[List.getD_cons_zero] at hr
   obtain⟨rn,rl,e,r1,r2⟩:=hr
   injection e with e
   simp only[Array.mk.injEq,List.cons.injEq,Value.bool.injEq,and_true] at e
   obtain⟨rfl,rfl,rfl⟩:=e
   exact⟨_,rfl,⟨_,_,rfl,r1.set3 e9 e10 e11,r2.set3 e9 e10 e11⟩,zm HH.out.2.2.1 (nr _) _ _ _⟩
theorem zcS (w:World) (va:Value) (ps:List Rat) (L:Nat) (ha:RowV w va ps L) (hL:L<=3000) (hL2:2<=L) (hfit:∀k,k<=ps.length->FitQ L (prodN (fun i=>ps.getD i 0) k)):
  Calls Tryz.prog 84 #[va] w (Ret (ratR w (prodN (fun i=>ps.getD i 0) ps.length) L)):=by
 have HA:=hide (ai ha hfit)
 obtain⟨A1,c1,rfl,hc1,hm1,_⟩:=ha
 clear hfit
 unfold maxLen at hm1
 have hb0:Below w.heap.size w (w.alloc (.cells #[.bool false,.slice none 0 0,.slice none 0 0] 43)):=(blr _ _).alloc (nr _) _
 have hz0:=zbL w L
 go_enter Tryz.func84,Tryz.ntmps84
 go_wp2_with fail
 refine(zcu _ 1 (by omega) (by omega)).mono ?_
 rintro e w0 ⟨v1,rfl,hv1,hd1⟩
 replace hv1:RatV w0 v1 1 L:=hv1.more hL2
 obtain⟨s1,B1,m1,d1,B2,m2,d2,rfl⟩:=hv1.shape
 have hgw:w.heap.size<w0.heap.size:=by have:=hd1.size;simp at this;omega
 have hacc0:=zeE hv1
 have hba:Below w0.heap.size w0 (w0.alloc (.cells #[.bool s1,.slice B1 m1 d1,.slice B2 m2 d2] 43)):=(blr _ _).alloc (nr _) _
 have hb1:=bnx (bnx hb0 hd1) hba
 have hz1:=(hz0.below hd1).below hba
 have H0:=hide (ai hacc0 (ai hz1 hb1))
 clear hv1 hd1 hba hb0 hz0 hacc0 hz1 hb1
 go_wp2
 go_loopw [9] (fun s8 wr=>∃(k:Nat),k<=ps.length/\s8=.int .i64 k/\RowC wr (w0.heap.size) [(prodN (fun i=>ps.getD i 0) k)] L/\RowC wr w.heap.size [0] L/\Below w.heap.size w wr) (fun s8 _=>ps.length-(intOf s8).toNat)
 case atStart=>
  exact⟨0,Nat.zero_le _,rfl,H0.out.1,H0.out.2.1,H0.out.2.2⟩
 case round=>
  obtain⟨k,hk,rfl,hacc,hres,hbel⟩:=hrel
  by_cases hkl:k<ps.length
  ·obtain⟨_,_,_,hcell⟩:=(HA.out.1.below hbel).at_
   obtain⟨g1,o1,rfl,hcl1⟩:=hcell (by omega)
   obtain⟨s,B1,m1,d1,B2,m2,d2,e0,e1,e2,hr⟩:=(hcl1 k hkl).rat
   obtain⟨s5,B5,m5,d5,B6,m6,d6,e6,e7,e8,hr3⟩:=(hacc.2 0 (by simp)).rat
   simp only[Nat.zero_mul,Nat.zero_add] at e6 e7 e8
   have hba:Below wr.heap.size wr (wr.alloc (.cells #[.bool s,.slice B1 m1 d1,.slice B2 m2 d2] 43)):=(blr _ _).alloc (nr _) _
   have l1:=zf e6
   simp only at l1
   have p0:=(hba.cell (p:=⟨w0.heap.size,0,none⟩) (by exact l1)).trans e6
   have p1:=(hba.cell (p:=⟨w0.heap.size,1,none⟩) (by exact l1)).trans e7
   have p2:=(hba.cell (p:=⟨w0.heap.size,2,none⟩) (by exact l1)).trans e8
   obtain⟨k0,k1,k2,_,_,_,_⟩:=box3 (zL wr (.cells #[.bool s,.slice B1 m1 d1,.slice B2 m2 d2] 43))
   have HH:=hide (ai hacc (ai hres (ai hbel (ai hr (ai hr3 hba)))));clear hacc hres hbel hr hr3 hcell hcl1 hba e6 e7 e8
   go_wp2_with fail
   refine(zod _ _ _ (prodN (fun i=>ps.getD i 0) k) (ps.getD k 0) L (HH.out.2.2.2.2.1.below HH.out.2.2.2.2.2) (HH.out.2.2.2.1.below HH.out.2.2.2.2.2) (by omega)).mono ?_
   rintro e w1 ⟨v1,rfl,hdn⟩
   have hf:=HA.out.2 (k+1) (by omega)
   obtain⟨r,rfl,hr1,hd1⟩:=hdn.ok (by rw[show (prodN (fun i=>ps.getD i 0) k)*ps.getD k 0=(prodN (fun i=>ps.getD i 0) (k+1)) from rfl];exact hf.smallQ (by omega))
   replace hr1:RatV w1 r (prodN (fun i=>ps.getD i 0) (k+1)) L:=hr1.fit hf
   obtain⟨s7,B7,m7,d7,B8,m8,d8,rfl⟩:=hr1.shape
   have H1:=hide (ai hr1 (bnx HH.out.2.2.2.2.2 hd1))
   clear hr1 hd1 hdn p0 p1 p2 k0 k1 k2 hf
   go_wp2_with fail
   refine(zc8 _ _ _ _ _ _ _ _).mono ?_
   rintro e w2 ⟨_,rfl,rfl,hd2⟩
   have hb2:=bnx H1.out.2 hd2
   have hrow2:=HH.out.1.below hb2
   have hu2:=H1.out.1.below hd2
   obtain⟨s',B1',m1',d1',B2',m2',d2',e0',e1',e2',_⟩:=(hrow2.2 0 (by simp)).rat
   simp only[Nat.zero_mul,Nat.zero_add] at e0' e1' e2'
   have f0:=hrow2.frozen 0
   have f1:=hrow2.frozen 1
   have f2:=hrow2.frozen 2
   have HU:=hide (ai hu2 (ai hrow2 hb2))
   clear hu2 hrow2 hb2 hd2
   go_wp2
   go_roundw
   case rel=>
    obtain⟨hacc,hres,hbel,_⟩:=HH.out
    obtain⟨hu,hrow2,hb2⟩:=HU.out
    obtain⟨t1,t2,t3⟩:=hrow2.set3 (i:=0) (by simp) hu
    simp only[Nat.zero_mul,Nat.zero_add] at t1 t2 t3
    refine⟨k+1,by omega,by go_num,t1,?_,?_⟩
    ·exact(hres.below hb2).same t2 (t3.block _ (by have:=hb2.size;have:=lt_of_block hres.1.choose_spec;omega) (by intro e;injection e with e;omega))
    ·exact only_below (bnx hbel hb2) t3 (by have:=hbel.size;have:=hb2.size;omega) (by omega)
   case measure=>simp[intOf];omega
  ·obtain rfl:k=ps.length:=by omega
   obtain⟨s5,B5,m5,d5,B6,m6,d6,e6,e7,e8,hr3⟩:=(hacc.2 0 (by simp)).rat
   obtain⟨_,_,_,_,_,_,_,e9,e10,e11,_⟩:=(hres.2 0 (by simp)).rat
   simp only[Nat.zero_mul,Nat.zero_add] at e6 e7 e8 e9 e10 e11
   have f0:=hres.frozen 0
   have f1:=hres.frozen 1
   have f2:=hres.frozen 2
   have HH:=hide (ai hacc (ai hres (ai hbel hr3)));clear hacc hres hbel hr3
   go_wp2
   have hsz:=zf e9
   refine bodyPost_ret (v:=.agg #[.bool s5,.slice B5 m5 d5,.slice B6 m6 d6]) ?_ rfl ?_
   ·simp[results,Tryz.results84,go_sem,e9,e10,e11]
   have hr:=HH.out.2.2.2
   simp only[List.getD_cons_zero] at hr
   obtain⟨rn,rl,e,r1,r2⟩:=hr
   injection e with e
   simp only[Array.mk.injEq,List.cons.injEq,Value.bool.injEq,and_true] at e
   obtain⟨rfl,rfl,rfl⟩:=e
   exact⟨_,rfl,⟨_,_,rfl,r1.set3 e9 e10 e11,r2.set3 e9 e10 e11⟩,zm HH.out.2.2.1 (nr _) _ _ _⟩
theorem zft (w:World) (a b:Value) (p q:Rat) (L M:Nat) (ha:RatV w a p L) (hb:RatV w b q L) (hL:L<=268435456) (hq:q≠0) (hf:FitQ M (p / q)) (hM:M<=3000):
  Calls Tryz.prog 86 #[a,b] w (Ret (ratR w (p / q) M)):=by
 have HA:=hide (ai ha hb)
 obtain⟨s1,A1,n1,c1,B1,m1,d1,rfl⟩:=ha.shape
 obtain⟨s2,A2,n2,c2,B2,m2,d2,rfl⟩:=hb.shape
 clear ha hb
 obtain⟨W,hW⟩:∃W,W=(((w.alloc (.cells #[.bool s1,.slice A1 n1 c1,.slice B1 m1 d1] 43)).alloc (.cells #[.bool s2,.slice A2 n2 c2,.slice B2 m2 d2] 43)).alloc (.cells #[.bool false,.slice none 0 0,.slice none 0 0] 43)):=⟨_,rfl⟩
 have hb0:Below w.heap.size w W:=by rw[hW];exact(((blr _ _).alloc (nr _) _).alloc (by simp) _).alloc (by simp;omega) _
 have hr:W.heap[w.heap.size+2]?=some (.cells #[.bool false,.slice none 0 0,.slice none 0 0] 43):=by rw[hW];exact zu _ (by simp)
 have H0:=hide (ai hb0 hr)
 have HL:=hide hW
 clear hW hb0 hr
 go_enter Tryz.func86,Tryz.ntmps86
 go_wp2_with fail
 rw[<-HL.out]
 refine(zn9 _ _ _ p q L (HA.out.1.below H0.out.1) (HA.out.2.below H0.out.1) hL hq).mono ?_
 rintro e w1 ⟨v1,rfl,hdn⟩
 obtain⟨r,rfl,hr1,hd1⟩:=hdn.ok (hf.smallQ hM)
 replace hr1:RatV w1 r (p / q) M:=hr1.fit hf
 obtain⟨s7,B7,m7,d7,B8,m8,d8,rfl⟩:=hr1.shape
 have H1:=hide (ai hr1 (ai (bnx H0.out.1 hd1) (at_later H0.out.2 hd1)))
 clear hr1 hd1 hdn
 go_wp2_with fail
 refine(zc8 _ _ _ _ _ _ _ _).mono ?_
 rintro e w2 ⟨_,rfl,rfl,hd2⟩
 have hr2:=at_later H1.out.2.2 hd2
 have hu2:=H1.out.1.below hd2
 obtain⟨x0,x1,x2⟩:=zk hr2
 obtain⟨f0,f1,f2⟩:=zA hr2
 have hlt:=lt_of_block hr2
 have HU:=hide (ai hu2 (bnx H1.out.2.1 hd2))
 clear hu2 hr2 hd2
 go_wp2
 refine bodyPost_ret (v:=.agg #[.bool s7,.slice B7 m7 d7,.slice B8 m8 d8]) ?_ rfl ?_
 ·simp[results,Tryz.results86,go_sem,x0,x1,x2,hlt]
 have hr:=HU.out.1
 obtain⟨rn,rl,e,r1,r2⟩:=hr
 injection e with e
 simp only[Array.mk.injEq,List.cons.injEq,Value.bool.injEq,and_true] at e
 obtain⟨rfl,rfl,rfl⟩:=e
 exact⟨_,rfl,⟨_,_,rfl,r1.set3 x0 x1 x2,r2.set3 x0 x1 x2⟩,zm HU.out.2 (by omega) _ _ _⟩
def shortQ (q:Rat):Bool:=decide ((decText (q.num.natAbs:Int)).length<=6)&&decide ((decText (q.den:Int)).length<=6)
theorem zdw (z:Int) (h:0<=z):ratText ((z:Int):Rat)=decText z:=by
 unfold ratText intText
 rw[Rat.num_intCast,Rat.den_intCast,if_neg (by omega),if_pos rfl,List.nil_append,List.append_nil,Int.natAbs_of_nonneg h]
theorem zm7 (z:Int):decide (sgnQ ((z:Int):Rat)<0)=decide (z<0):=by
 unfold sgnQ
 rw[Rat.num_intCast,decide_eq_decide]
 split
 ·omega
 ·split <;> omega
theorem zcn {w:World} {v:Value} {z:Int} {L:Nat} (h:RatV w v ((z:Int):Rat) L) (hz:0<=z) (hL:L<=1000000):(decText z).length<=100000000000:=by
 obtain⟨n1,l1,rfl,h1,_⟩:=h
 have:=h1.text_size (by omega)
 rw[zK,Rat.num_intCast,Int.natAbs_of_nonneg hz] at this
 omega
set_option maxHeartbeats 2000000 in
theorem zfZ (w:World) (a:Value) (q:Rat) (L:Nat) (ha:RatV w a q L) (hL:L<=100000):
  Calls Tryz.prog 116 #[a] w (Ret (fun v w'=>v=.bool (shortQ q)/\Below w.heap.size w w')):=by
 have HA:=hide ha
 obtain⟨s1,A1,n1,c1,B1,m1,d1,rfl⟩:=ha.shape
 clear ha
 obtain⟨W,hW⟩:∃W,W=w.alloc (.cells #[.bool s1,.slice A1 n1 c1,.slice B1 m1 d1] 43):=⟨_,rfl⟩
 have hb0:Below w.heap.size w W:=by rw[hW];exact(blr _ _).alloc (nr _) _
 have hr:W.heap[w.heap.size]?=some (.cells #[.bool s1,.slice A1 n1 c1,.slice B1 m1 d1] 43):=by rw[hW];exact zj _ _
 have H0:=hide (ai hb0 hr)
 have HL:=hide hW
 obtain⟨x0,x1,x2⟩:=zk hr
 clear hW hb0 hr
 go_enter Tryz.func116,Tryz.ntmps116
 go_wp2_with fail
 rw[<-HL.out]
 refine(zn7 _ _ q L (HA.out.below H0.out.1)).mono ?_
 rintro e w1 ⟨v1,rfl,hv1,hd1⟩
 obtain⟨s2,A2,n2,c2,B2,m2,d2,rfl⟩:=hv1.shape
 obtain⟨W1,hW1⟩:∃W1,W1=w1.alloc (.cells #[.bool s2,.slice A2 n2 c2,.slice B2 m2 d2] 43):=⟨_,rfl⟩
 have hb1:Below w1.heap.size w1 W1:=by rw[hW1];exact(blr _ _).alloc (nr _) _
 have hr1:W1.heap[w1.heap.size]?=some (.cells #[.bool s2,.slice A2 n2 c2,.slice B2 m2 d2] 43):=by rw[hW1];exact zj _ _
 have hbw:=bnx H0.out.1 (bnx hd1 hb1)
 have hrw:=at_later (at_later H0.out.2 hd1) hb1
 have hwg:w.heap.size<w1.heap.size:=by have:=lt_of_block (at_later H0.out.2 hd1);omega
 have hrow1:RowC W1 w1.heap.size [((q.num:Int):Rat)] L:=by rw[hW1];exact zeE hv1
 have H1:=hide (ai (hv1.below hb1) (ai hbw (ai hrw hrow1)))
 have HL1:=hide hW1
 obtain⟨y0,y1,y2⟩:=zk hr1
 clear hv1 hd1 hb1 hr1 hbw hrw hW1 x0 x1 x2
 go_wp2_with fail
 rw[<-HL1.out]
 refine(zce _ _ ((q.num:Int):Rat) L H1.out.1).mono ?_
 rintro e w2 ⟨_,rfl,rfl,hd2⟩
 have hsg:=zm7 q.num
 have hbw2:=bnx H1.out.2.1 hd2
 have hrw2:=at_later H1.out.2.2.1 hd2
 have hg2:=H1.out.2.2.2.below hd2
 clear hd2 y0 y1 y2
 obtain⟨sg,hsge⟩:∃sg,sg=sgnQ ((q.num:Int):Rat):=⟨_,rfl⟩
 rw[<-hsge] at hsg ⊢
 clear hsge
 obtain⟨z,hz⟩:∃z,z=q.num:=⟨_,rfl⟩
 obtain⟨y,hy⟩:∃y,y=(q.den:Int):=⟨_,rfl⟩
 have hsq:shortQ q=(decide ((decText (z.natAbs:Int)).length<=6)&&decide ((decText y).length<=6)):=by rw[hz,hy];rfl
 have hy0:0<=y:=by omega
 rw[<-hz] at hg2 hsg
 have HZ:=hide (ai hz (ai hy hsq))
 clear hsq hz hy
 by_cases hneg:z<0
 ·have hd0:decide (sg<0)=true:=by rw[hsg];simpa using hneg
  obtain⟨s3,B3,m3,d3,B4,m4,d4,y0,y1,y2,hq3⟩:=(hg2.2 0 (by simp)).rat
  simp only[Nat.zero_mul,Nat.zero_add] at y0 y1 y2
  have HG:=hide (ai hbw2 (ai hrw2 (ai hg2 hq3)))
  clear hbw2 hrw2 hg2 hq3
  go_wp2_with fail
  refine(zml _ _ ((z:Int):Rat) L HG.out.2.2.2).mono ?_
  rintro e w3 ⟨v3,rfl,hv3,hd3⟩
  rw[show -((z:Int):Rat)=(((z.natAbs:Int):Int):Rat) by rw[show (z.natAbs:Int)=-z by omega,Rat.intCast_neg]] at hv3
  obtain⟨s5,A5,n5,c5,B5,m5,d5,rfl⟩:=hv3.shape
  have hg3:=HG.out.2.2.1.below hd3
  have hrw3:=at_later HG.out.2.1 hd3
  have hbw3:=bnx HG.out.1 hd3
  obtain⟨s7,B7,m7,d7,B8,m8,d8,p0,p1,p2,_⟩:=(hg3.2 0 (by simp)).rat
  simp only[Nat.zero_mul,Nat.zero_add] at p0 p1 p2
  have f0:=hg3.frozen 0
  have f1:=hg3.frozen 1
  have f2:=hg3.frozen 2
  obtain⟨t1,t2,t3⟩:=hg3.set3 (i:=0) (by simp) hv3
  simp only[Nat.zero_mul,Nat.zero_add] at t1 t2 t3
  have hbw4:=only_below hbw3 t3 (by have:=lt_of_block hrw3;omega) (by omega)
  have hrw4:=(t3.block _ (by have:=lt_of_block hrw3;omega) (by intro e;injection e with e;omega)).trans hrw3
  obtain⟨W4,hW4⟩:∃W4,W4=((w3.setCell ⟨w1.heap.size,0,none⟩ (.bool s5)).setCell ⟨w1.heap.size,1,none⟩ (.slice A5 n5 c5)).setCell ⟨w1.heap.size,2,none⟩ (.slice B5 m5 d5):=⟨_,rfl⟩
  rw[<-hW4] at hbw4 hrw4 t1
  clear y0 y1 y2 hv3 hd3 hg3 hrw3 hbw3 t2 t3
  go_upto_region 4 with fail
  rw[<-hW4]
  clear p0 p1 p2 f0 f1 f2
  clear hW4
  obtain⟨s9,B9,m9,d9,B0,m0,d0,y0,y1,y2,hv9⟩:=(t1.2 0 (by simp)).rat
  simp only[Nat.zero_mul,Nat.zero_add] at y0 y1 y2
  replace hv9:RatV W4 (.agg #[.bool s9,.slice B9 m9 d9,.slice B0 m0 d0]) (((z.natAbs:Int):Int):Rat) L:=hv9
  have hsn:=zcn hv9 (by omega) (by omega)
  have HV:=hide hv9
  clear hv9 t1
  go_wp2_with fail
  refine(za9 _ _ _ L HV.out (by omega)).mono ?_
  rintro e w5 ⟨_,rfl,rfl,hd5⟩
  rw[zdw (z.natAbs:Int) (by omega)]
  have hsz:=zK (decText (z.natAbs:Int))
  have HU:=hide (ai hd5 (ai (bnx hbw4 hd5) (ai (at_later hrw4 hd5) trivial)))
  clear hd5 hbw4 hrw4
  clear y0 y1 y2
  by_cases h6:(decText (z.natAbs:Int)).length<=6
  ·have hl6:decide ((decText (z.natAbs:Int)).length<=6)=true:=by simpa using h6
   have hl7:decide (((str (decText (z.natAbs:Int))).size:Int)<=6)=true:=by rw[<-hl6,decide_eq_decide,zK];omega
   have HS:=hide hl6
   clear hl6 h6
   obtain⟨x0,x1,x2⟩:=zk HU.out.2.2.1
   clear hsz
   go_wp2_with fail
   refine(zmi _ _ q L (HA.out.below HU.out.2.1) (by omega)).mono ?_
   rintro e w6 ⟨v6,rfl,hv6,hd6⟩
   rw[<-HZ.out.2.1] at hv6
   obtain⟨s6,A6,n6,c6,B6,m6,d6,rfl⟩:=hv6.shape
   have hsy:=zcn hv6 hy0 (by omega)
   have H6:=hide (ai hv6 (bnx HU.out.2.1 hd6))
   clear hv6 hd6
   go_wp2_with fail
   refine(za9 _ _ _ (L+2) H6.out.1 (by omega)).mono ?_
   rintro e w7 ⟨_,rfl,rfl,hd7⟩
   rw[zdw y hy0]
   have hsz7:=zK (decText y)
   go_wp2
   go_ret
   refine⟨_,rfl,?_,bnx H6.out.2 hd7⟩
   rw[HZ.out.2.2,HS.out,Bool.true_and]
   show Value.bool (decide (((decText y).length:Int)<=6))=Value.bool _
   congr 1
   rw[decide_eq_decide];omega
  ·have hl6:decide ((decText (z.natAbs:Int)).length<=6)=false:=by simpa using h6
   have hl7:decide (((str (decText (z.natAbs:Int))).size:Int)<=6)=false:=by rw[<-hl6,decide_eq_decide,zK];omega
   have HS:=hide hl6
   clear hl6 h6
   obtain⟨x0,x1,x2⟩:=zk HU.out.2.2.1
   clear hsz
   go_wp2
   go_ret
   exact⟨_,rfl,by rw[HZ.out.2.2,HS.out,Bool.false_and];rfl,HU.out.2.1⟩
 ·have hd0:decide (sg<0)=false:=by rw[hsg];simpa using hneg
  rw[show ((z:Int):Rat)=(((z.natAbs:Int):Int):Rat) by rw[show (z.natAbs:Int)=z by omega]] at hg2
  have hbw4:=hbw2
  have hrw4:=hrw2
  have t1:=hg2
  clear hbw2 hrw2 hg2
  obtain⟨s9,B9,m9,d9,B0,m0,d0,y0,y1,y2,hv9⟩:=(t1.2 0 (by simp)).rat
  simp only[Nat.zero_mul,Nat.zero_add] at y0 y1 y2
  replace hv9:RatV w2 (.agg #[.bool s9,.slice B9 m9 d9,.slice B0 m0 d0]) (((z.natAbs:Int):Int):Rat) L:=hv9
  have hsn:=zcn hv9 (by omega) (by omega)
  have HV:=hide hv9
  clear hv9 t1
  go_wp2_with fail
  refine(za9 _ _ _ L HV.out (by omega)).mono ?_
  rintro e w5 ⟨_,rfl,rfl,hd5⟩
  rw[zdw (z.natAbs:Int) (by omega)]
  have hsz:=zK (decText (z.natAbs:Int))
  have HU:=hide (ai hd5 (ai (bnx hbw4 hd5) (ai (at_later hrw4 hd5) trivial)))
  clear hd5 hbw4 hrw4
  clear y0 y1 y2
  by_cases h6:(decText (z.natAbs:Int)).length<=6
  ·have hl6:decide ((decText (z.natAbs:Int)).length<=6)=true:=by simpa using h6
   have hl7:decide (((str (decText (z.natAbs:Int))).size:Int)<=6)=true:=by rw[<-hl6,decide_eq_decide,zK];omega
   have HS:=hide hl6
   clear hl6 h6
   obtain⟨x0,x1,x2⟩:=zk HU.out.2.2.1
   clear hsz
   go_wp2_with fail
   refine(zmi _ _ q L (HA.out.below HU.out.2.1) (by omega)).mono ?_
   rintro e w6 ⟨v6,rfl,hv6,hd6⟩
   rw[<-HZ.out.2.1] at hv6
   obtain⟨s6,A6,n6,c6,B6,m6,d6,rfl⟩:=hv6.shape
   have hsy:=zcn hv6 hy0 (by omega)
   have H6:=hide (ai hv6 (bnx HU.out.2.1 hd6))
   clear hv6 hd6
   go_wp2_with fail
   refine(za9 _ _ _ (L+2) H6.out.1 (by omega)).mono ?_
   rintro e w7 ⟨_,rfl,rfl,hd7⟩
   rw[zdw y hy0]
   have hsz7:=zK (decText y)
   go_wp2
   go_ret
   refine⟨_,rfl,?_,bnx H6.out.2 hd7⟩
   rw[HZ.out.2.2,HS.out,Bool.true_and]
   show Value.bool (decide (((decText y).length:Int)<=6))=Value.bool _
   congr 1
   rw[decide_eq_decide];omega
  ·have hl6:decide ((decText (z.natAbs:Int)).length<=6)=false:=by simpa using h6
   have hl7:decide (((str (decText (z.natAbs:Int))).size:Int)<=6)=false:=by rw[<-hl6,decide_eq_decide,zK];omega
   have HS:=hide hl6
   clear hl6 h6
   obtain⟨x0,x1,x2⟩:=zk HU.out.2.2.1
   clear hsz
   go_wp2
   go_ret
   exact⟨_,rfl,by rw[HZ.out.2.2,HS.out,Bool.false_and];rfl,HU.out.2.1⟩
def badR (q:Rat):Bool:=decide (sgnQ q<=0)||!shortQ q
theorem zkr (w:World) (a:Value) (q:Rat) (L:Nat) (ha:RatV w a q L) (hL:L<=100000):
  Calls Tryz.prog 115 #[a] w (Ret (fun v w'=>v=.bool (badR q)/\Below w.heap.size w w')):=by
 have HA:=hide ha
 obtain⟨s1,A1,n1,c1,B1,m1,d1,rfl⟩:=ha.shape
 clear ha
 obtain⟨W,hW⟩:∃W,W=w.alloc (.cells #[.bool s1,.slice A1 n1 c1,.slice B1 m1 d1] 43):=⟨_,rfl⟩
 have hb0:Below w.heap.size w W:=by rw[hW];exact(blr _ _).alloc (nr _) _
 have hr:W.heap[w.heap.size]?=some (.cells #[.bool s1,.slice A1 n1 c1,.slice B1 m1 d1] 43):=by rw[hW];exact zj _ _
 have H0:=hide (ai hb0 hr)
 have HL:=hide hW
 obtain⟨x0,x1,x2⟩:=zk hr
 clear hW hb0 hr
 by_cases h0:sgnQ q<=0
 ·obtain⟨sg,hsg⟩:∃sg,sg=sgnQ q:=⟨_,rfl⟩
  have hd0:decide (sg<=0)=true:=by rw[hsg];simpa using h0
  have HD:=hide (show decide (sgnQ q<=0)=true by rw[<-hsg];exact hd0)
  go_enter Tryz.func115,Tryz.ntmps115
  go_wp2_with fail
  rw[<-HL.out]
  refine(zce _ _ q L (HA.out.below H0.out.1)).mono ?_
  rintro e w1 ⟨_,rfl,rfl,hd1⟩
  rw[<-hsg]
  have hr1:=at_later H0.out.2 hd1
  obtain⟨y0,y1,y2⟩:=zk hr1
  have H1:=hide (bnx H0.out.1 hd1)
  clear hsg x0 x1 x2 hr1 hd1
  go_wp2
  go_ret
  exact⟨_,rfl,by unfold badR;rw[HD.out,Bool.true_or];rfl,H1.out⟩
 ·obtain⟨sg,hsg⟩:∃sg,sg=sgnQ q:=⟨_,rfl⟩
  have hd0:decide (sg<=0)=false:=by rw[hsg];simpa using h0
  have HD:=hide (show decide (sgnQ q<=0)=false by rw[<-hsg];exact hd0)
  go_enter Tryz.func115,Tryz.ntmps115
  go_wp2_with fail
  rw[<-HL.out]
  refine(zce _ _ q L (HA.out.below H0.out.1)).mono ?_
  rintro e w1 ⟨_,rfl,rfl,hd1⟩
  rw[<-hsg]
  have hr1:=at_later H0.out.2 hd1
  obtain⟨y0,y1,y2⟩:=zk hr1
  have H1:=hide (bnx H0.out.1 hd1)
  clear hsg x0 x1 x2 hr1 hd1
  go_wp2_with fail
  refine(zfZ _ _ q L (HA.out.below H1.out) hL).mono ?_
  rintro e w2 ⟨_,rfl,rfl,hd2⟩
  clear y0 y1 y2
  go_wp2
  go_ret
  exact⟨_,rfl,by unfold badR;rw[HD.out,Bool.false_or];rfl,bnx H1.out hd2⟩
theorem zjl (w:World) (va:Value) (qs:List Rat) (L:Nat) (ha:RowV w va qs L) (hL:L<=100000):
  Calls Tryz.prog 162 #[va,.func (.func 115) #[] #[]] w (Ret (zdg w (anyB (fun i=>badR (qs.getD i 0)) qs.length))):=by
 have HA:=hide ha
 obtain⟨A1,c1,rfl,hc1,hm1,_⟩:=ha
 unfold maxLen at hm1
 go_enter Tryz.func162,Tryz.ntmps162
 go_wp2
 go_loopw [8] (fun s8 wr=>∃k:Nat,k<=qs.length/\s8=.int .i64 k/\(∀i,i<k->badR (qs.getD i 0)=false)/\Below w.heap.size w wr) (fun s8 _=>qs.length-(intOf s8).toNat)
 case atStart=>exact⟨0,Nat.zero_le _,rfl,fun i hi=>by omega,blr _ _⟩
 case round=>
  obtain⟨k,hk,rfl,hno,hbel⟩:=hrel
  by_cases hkl:k<qs.length
  ·obtain⟨_,_,_,hcell⟩:=(HA.out.below hbel).at_
   obtain⟨g1,o1,rfl,hcl1⟩:=hcell (by omega)
   obtain⟨s,B1,m1,d1,B2,m2,d2,e0,e1,e2,hr⟩:=(hcl1 k hkl).rat
   have HH:=hide (ai hno (ai hbel hr));clear hno hbel hr hcell hcl1
   rcases hp:badR (qs.getD k 0) with _|_
   ·have HP:=hide hp;clear hp
    go_wp2_with (go_at_call 115;refine(zkr _ _ (qs.getD k 0) L HH.out.2.2 hL).mono ?_;rintro e w1 ⟨_,rfl,rfl,hd1⟩;rw[HP.out])
    go_roundw
    case rel=>
     refine⟨k+1,by omega,by go_num,fun i hi=>?_,bnx HH.out.2.1 hd1⟩
     by_cases h:i<k
     ·exact HH.out.1 i h
     ·obtain rfl:i=k:=by omega
      exact HP.out
    case measure=>simp[intOf];omega
   ·have HP:=hide hp;clear hp
    go_wp2_with (go_at_call 115;refine(zkr _ _ (qs.getD k 0) L HH.out.2.2 hL).mono ?_;rintro e w1 ⟨_,rfl,rfl,hd1⟩;rw[HP.out])
    go_ret
    exact⟨_,rfl,k,rfl,by rw[zdf hkl HP.out];simp,bnx HH.out.2.1 hd1⟩
  ·obtain rfl:k=qs.length:=by omega
   have HH:=hide (ai hno hbel);clear hno hbel
   go_wp2
   go_ret
   exact⟨_,rfl,-1,rfl,by rw[zax HH.out.1];rfl,HH.out.2⟩
theorem zgq (w:World) (va:Value) (qs:List Rat) (L:Nat) (ha:RowV w va qs L) (hL:L<=100000):
  Calls Tryz.prog 114 #[va,.func (.func 115) #[] #[]] w (Ret (fun v w'=>v=.bool (anyB (fun i=>badR (qs.getD i 0)) qs.length)/\Below w.heap.size w w')):=by
 have HA:=hide ha
 obtain⟨A1,c1,rfl,hc1,hm1,_⟩:=ha
 go_enter Tryz.func114,Tryz.ntmps114
 go_wp2_with fail
 refine(zjl _ _ qs L HA.out hL).mono ?_
 rintro e w1 ⟨_,rfl,r,rfl,hr,hd1⟩
 have HR:=hide hr;clear hr
 go_wp2
 go_ret
 exact⟨_,rfl,by rw[<-HR.out];rfl,hd1⟩
def badW (q:Rat):Bool:=decide (sgnQ q<0)||!shortQ q
theorem zks (w:World) (a:Value) (q:Rat) (L:Nat) (ha:RatV w a q L) (hL:L<=100000):
  Calls Tryz.prog 117 #[a] w (Ret (fun v w'=>v=.bool (badW q)/\Below w.heap.size w w')):=by
 have HA:=hide ha
 obtain⟨s1,A1,n1,c1,B1,m1,d1,rfl⟩:=ha.shape
 clear ha
 obtain⟨W,hW⟩:∃W,W=w.alloc (.cells #[.bool s1,.slice A1 n1 c1,.slice B1 m1 d1] 43):=⟨_,rfl⟩
 have hb0:Below w.heap.size w W:=by rw[hW];exact(blr _ _).alloc (nr _) _
 have hr:W.heap[w.heap.size]?=some (.cells #[.bool s1,.slice A1 n1 c1,.slice B1 m1 d1] 43):=by rw[hW];exact zj _ _
 have H0:=hide (ai hb0 hr)
 have HL:=hide hW
 obtain⟨x0,x1,x2⟩:=zk hr
 clear hW hb0 hr
 by_cases h0:sgnQ q<0
 ·obtain⟨sg,hsg⟩:∃sg,sg=sgnQ q:=⟨_,rfl⟩
  have hd0:decide (sg<0)=true:=by rw[hsg];simpa using h0
  have HD:=hide (show decide (sgnQ q<0)=true by rw[<-hsg];exact hd0)
  go_enter Tryz.func117,Tryz.ntmps117
  go_wp2_with fail
  rw[<-HL.out]
  refine(zce _ _ q L (HA.out.below H0.out.1)).mono ?_
  rintro e w1 ⟨_,rfl,rfl,hd1⟩
  rw[<-hsg]
  have hr1:=at_later H0.out.2 hd1
  obtain⟨y0,y1,y2⟩:=zk hr1
  have H1:=hide (bnx H0.out.1 hd1)
  clear hsg x0 x1 x2 hr1 hd1
  go_wp2
  go_ret
  exact⟨_,rfl,by unfold badW;rw[HD.out,Bool.true_or];rfl,H1.out⟩
 ·obtain⟨sg,hsg⟩:∃sg,sg=sgnQ q:=⟨_,rfl⟩
  have hd0:decide (sg<0)=false:=by rw[hsg];simpa using h0
  have HD:=hide (show decide (sgnQ q<0)=false by rw[<-hsg];exact hd0)
  go_enter Tryz.func117,Tryz.ntmps117
  go_wp2_with fail
  rw[<-HL.out]
  refine(zce _ _ q L (HA.out.below H0.out.1)).mono ?_
  rintro e w1 ⟨_,rfl,rfl,hd1⟩
  rw[<-hsg]
  have hr1:=at_later H0.out.2 hd1
  obtain⟨y0,y1,y2⟩:=zk hr1
  have H1:=hide (bnx H0.out.1 hd1)
  clear hsg x0 x1 x2 hr1 hd1
  go_wp2_with fail
  refine(zfZ _ _ q L (HA.out.below H1.out) hL).mono ?_
  rintro e w2 ⟨_,rfl,rfl,hd2⟩
  clear y0 y1 y2
  go_wp2
  go_ret
  exact⟨_,rfl,by unfold badW;rw[HD.out,Bool.false_or];rfl,bnx H1.out hd2⟩
theorem zjm (w:World) (va:Value) (qs:List Rat) (L:Nat) (ha:RowV w va qs L) (hL:L<=100000):
  Calls Tryz.prog 162 #[va,.func (.func 117) #[] #[]] w (Ret (zdg w (anyB (fun i=>badW (qs.getD i 0)) qs.length))):=by
 have HA:=hide ha
 obtain⟨A1,c1,rfl,hc1,hm1,_⟩:=ha
 unfold maxLen at hm1
 go_enter Tryz.func162,Tryz.ntmps162
 go_wp2
 go_loopw [8] (fun s8 wr=>∃k:Nat,k<=qs.length/\s8=.int .i64 k/\(∀i,i<k->badW (qs.getD i 0)=false)/\Below w.heap.size w wr) (fun s8 _=>qs.length-(intOf s8).toNat)
 case atStart=>exact⟨0,Nat.zero_le _,rfl,fun i hi=>by omega,blr _ _⟩
 case round=>
  obtain⟨k,hk,rfl,hno,hbel⟩:=hrel
  by_cases hkl:k<qs.length
  ·obtain⟨_,_,_,hcell⟩:=(HA.out.below hbel).at_
   obtain⟨g1,o1,rfl,hcl1⟩:=hcell (by omega)
   obtain⟨s,B1,m1,d1,B2,m2,d2,e0,e1,e2,hr⟩:=(hcl1 k hkl).rat
   have HH:=hide (ai hno (ai hbel hr));clear hno hbel hr hcell hcl1
   rcases hp:badW (qs.getD k 0) with _|_
   ·have HP:=hide hp;clear hp
    go_wp2_with (go_at_call 117;refine(zks _ _ (qs.getD k 0) L HH.out.2.2 hL).mono ?_;rintro e w1 ⟨_,rfl,rfl,hd1⟩;rw[HP.out])
    go_roundw
    case rel=>
     refine⟨k+1,by omega,by go_num,fun i hi=>?_,bnx HH.out.2.1 hd1⟩
     by_cases h:i<k
     ·exact HH.out.1 i h
     ·obtain rfl:i=k:=by omega
      exact HP.out
    case measure=>simp[intOf];omega
   ·have HP:=hide hp;clear hp
    go_wp2_with (go_at_call 117;refine(zks _ _ (qs.getD k 0) L HH.out.2.2 hL).mono ?_;rintro e w1 ⟨_,rfl,rfl,hd1⟩;rw[HP.out])
    go_ret
    exact⟨_,rfl,k,rfl,by rw[zdf hkl HP.out];simp,bnx HH.out.2.1 hd1⟩
  ·obtain rfl:k=qs.length:=by omega
   have HH:=hide (ai hno hbel);clear hno hbel
   go_wp2
   go_ret
   exact⟨_,rfl,-1,rfl,by rw[zax HH.out.1];rfl,HH.out.2⟩
theorem zgr (w:World) (va:Value) (qs:List Rat) (L:Nat) (ha:RowV w va qs L) (hL:L<=100000):
  Calls Tryz.prog 114 #[va,.func (.func 117) #[] #[]] w (Ret (fun v w'=>v=.bool (anyB (fun i=>badW (qs.getD i 0)) qs.length)/\Below w.heap.size w w')):=by
 have HA:=hide ha
 obtain⟨A1,c1,rfl,hc1,hm1,_⟩:=ha
 go_enter Tryz.func114,Tryz.ntmps114
 go_wp2_with fail
 refine(zjm _ _ qs L HA.out hL).mono ?_
 rintro e w1 ⟨_,rfl,r,rfl,hr,hd1⟩
 have HR:=hide hr;clear hr
 go_wp2
 go_ret
 exact⟨_,rfl,by rw[<-HR.out];rfl,hd1⟩
end Go.Proofs.YtpoahodnakhmiaaGreat
