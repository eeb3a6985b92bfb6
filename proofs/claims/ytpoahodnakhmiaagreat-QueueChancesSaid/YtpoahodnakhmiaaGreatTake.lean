import Derived.Test.YtpoahodnakhmiaaGreatText
import Derived.Deep.RegionLaw
import Derived.RegionCalls
set_option maxRecDepth 100000
namespace Go.Proofs.YtpoahodnakhmiaaGreat
set_option linter.unusedVariables false
set_option linter.unusedSimpArgs false
open Go.RowKit
def Keeps (w w':World):Prop:=∀b,Typed w b (tyOf .u32)->w'.heap[b]?=w.heap[b]?
theorem Keeps.refl (w:World):Keeps w w:=fun _ _=>rfl
theorem Keeps.trans {a b c:World} (h:Keeps a b) (g:Keeps b c):Keeps a c:=fun p e=>(g p (e.same (h p e))).trans (h p e)
theorem Below.keeps {w w':World} (h:Below w.heap.size w w'):Keeps w w':=fun b e=>h.block b e.lt
theorem Keeps.only {w w':World} {g:Nat} {e:TypeId} (hg:w.grownBy w' (some g)) (ht:Typed w g e) (he:e≠tyOf .u32):Keeps w w':=
 fun b h=>hg.block b h.lt (by intro e';injection e' with e';exact(h.ne ht (fun x=>he x.symm)) e')
theorem NatV.keeps {w w':World} {v:Value} {x:Int} {L:Nat} (h:NatV w v x L) (hk:Keeps w w'):NatV w' v x L:=by
 obtain⟨A,c,xs,rfl,h1,h2,h3,h4⟩:=h
 refine⟨A,c,xs,rfl,h1,h2,fun hx=>?_,h4⟩
 obtain⟨b,o,rfl,ht,hc⟩:=h3 hx
 exact⟨b,o,rfl,ht.same (hk b ht),fun j hj=>(World.cell?_of_block (w:=w) (hk b ht)).trans (hc j hj)⟩
theorem RatV.keeps {w w':World} {v:Value} {q:Rat} {L:Nat} (h:RatV w v q L) (hk:Keeps w w'):RatV w' v q L:=by
 obtain⟨n,l,rfl,h1,h2⟩:=h;exact⟨n,l,rfl,h1.keeps hk,h2.keeps hk⟩
theorem NatV.fit {w:World} {v:Value} {x:Int} {L L':Nat} (h:NatV w v x L) (hx:x<4294967296^L'):NatV w v x L':=by
 obtain⟨A,c,xs,rfl,h1,h2,h3,h4,h5,rfl,h7⟩:=h
 refine⟨A,c,xs,rfl,h1,h2,h3,h4,h5,rfl,?_⟩
 rcases Nat.lt_or_ge L' xs.length with hlt|hge
 ·have a:=zZ (B:=4294967296) (by omega) h4 h5 (by intro e;subst e;simp at hlt)
  have b:=zt (B:=4294967296) (by omega) (show L'<=xs.length-1 by omega)
  omega
 ·exact hge
def FitQ (L:Nat) (q:Rat):Prop:=(q.num.natAbs:Int)<4294967296^L/\(q.den:Int)<=4294967296^L
theorem RatV.fit {w:World} {v:Value} {q:Rat} {L L':Nat} (h:RatV w v q L) (hq:FitQ L' q):RatV w v q L':=by
 obtain⟨n,l,rfl,h1,h2⟩:=h
 exact⟨n,l,rfl,h1.fit hq.1,h2.fit (by have:=hq.2;omega)⟩
def At3 (w:World) (b o:Nat) (q:Rat) (L:Nat):Prop:=
 ∃A1 n1 c1 A2 n2 c2,w.cell? ⟨b,o,none⟩=some (.bool (decide (q.num<0)))/\w.cell? ⟨b,o+1,none⟩=some (.slice A1 n1 c1)/\w.cell? ⟨b,o+2,none⟩=some (.slice A2 n2 c2) /\
  NatV w (.slice A1 n1 c1) (q.num.natAbs:Int) L/\NatV w (.slice A2 n2 c2) ((q.den:Int)-1) L
theorem At3.rat {w:World} {b o:Nat} {q:Rat} {L:Nat} (h:At3 w b o q L):
  ∃s A1 n1 c1 A2 n2 c2,w.cell? ⟨b,o,none⟩=some (.bool s)/\w.cell? ⟨b,o+1,none⟩=some (.slice A1 n1 c1)/\w.cell? ⟨b,o+2,none⟩=some (.slice A2 n2 c2)/\RatV w (.agg #[.bool s,.slice A1 n1 c1,.slice A2 n2 c2]) q L:=by
 obtain⟨A1,n1,c1,A2,n2,c2,h0,h1,h2,g1,g2⟩:=h
 exact⟨_,A1,n1,c1,A2,n2,c2,h0,h1,h2,_,_,rfl,g1,g2⟩
theorem At3.same {w w':World} {b o:Nat} {q:Rat} {L:Nat} (h:At3 w b o q L) (hk:Keeps w w') (hb:w'.heap[b]?=w.heap[b]?):At3 w' b o q L:=by
 obtain⟨A1,n1,c1,A2,n2,c2,h0,h1,h2,g1,g2⟩:=h
 have e:∀j,w'.cell? ⟨b,j,none⟩=w.cell? ⟨b,j,none⟩:=fun j=>World.cell?_of_block (w:=w) hb
 exact⟨A1,n1,c1,A2,n2,c2,(e _).trans h0,(e _).trans h1,(e _).trans h2,g1.keeps hk,g2.keeps hk⟩
theorem At3.below {w w':World} {b o:Nat} {q:Rat} {L:Nat} (h:At3 w b o q L) (hb:Below w.heap.size w w'):At3 w' b o q L:=by
 refine h.same (Below.keeps hb) ?_
 obtain⟨A1,n1,c1,A2,n2,c2,h0,_⟩:=h
 exact hb.block b (zf h0)
theorem At3.fit {w:World} {b o:Nat} {q:Rat} {L L':Nat} (h:At3 w b o q L) (hq:FitQ L' q):At3 w b o q L':=by
 obtain⟨A1,n1,c1,A2,n2,c2,h0,h1,h2,g1,g2⟩:=h
 exact⟨A1,n1,c1,A2,n2,c2,h0,h1,h2,g1.fit hq.1,g2.fit (by have:=hq.2;omega)⟩
def RowV (w:World) (v:Value) (qs:List Rat) (L:Nat):Prop:=
 ∃A c,v=.slice A qs.length c/\qs.length<=c/\c<=maxLen/\(0<qs.length->∃b o,A=some ⟨b,o,none⟩/\∀i,i<qs.length->At3 w b (o+i*3) (qs.getD i 0) L)
theorem RowV.below {w w':World} {v:Value} {qs:List Rat} {L:Nat} (h:RowV w v qs L) (hb:Below w.heap.size w w'):RowV w' v qs L:=by
 obtain⟨A,c,rfl,h1,h2,h3⟩:=h
 refine⟨A,c,rfl,h1,h2,fun hx=>?_⟩
 obtain⟨b,o,rfl,hc⟩:=h3 hx
 exact⟨b,o,rfl,fun i hi=>(hc i hi).below hb⟩
def RowC (w:World) (g:Nat) (qs:List Rat) (L:Nat):Prop:=
 (∃cs,w.heap[g]?=some (.cells cs 43 (0,0)))/\∀i,i<qs.length->At3 w g (i*3) (qs.getD i 0) L
theorem RowC.lt {w:World} {g:Nat} {qs:List Rat} {L:Nat} (h:RowC w g qs L):g<w.heap.size:=by
 obtain⟨⟨cs,h⟩,_⟩:=h;exact lt_of_block h
theorem RowC.frozen {w:World} {g:Nat} {qs:List Rat} {L:Nat} (h:RowC w g qs L) (j:Nat):w.frozen? ⟨g,j,none⟩=false:=by
 obtain⟨⟨cs,h⟩,_⟩:=h;simp[World.frozen?,h]
theorem RowC.same {w w':World} {g:Nat} {qs:List Rat} {L:Nat} (h:RowC w g qs L) (hk:Keeps w w') (hb:w'.heap[g]?=w.heap[g]?):RowC w' g qs L:=by
 obtain⟨⟨cs,h0⟩,h1⟩:=h
 exact⟨⟨cs,hb.trans h0⟩,fun i hi=>(h1 i hi).same hk hb⟩
theorem RowC.below {w w':World} {g:Nat} {qs:List Rat} {L:Nat} (h:RowC w g qs L) (hb:Below w.heap.size w w'):RowC w' g qs L:=
 h.same (Below.keeps hb) (hb.block g h.lt)
theorem RowC.row {w:World} {g:Nat} {qs:List Rat} {L c:Nat} (h:RowC w g qs L) (hc:qs.length<=c) (hm:c<=maxLen):RowV w (.slice (some ⟨g,0,none⟩) qs.length c) qs L:=
 ⟨_,c,rfl,hc,hm,fun _=>⟨g,0,rfl,fun i hi=>by rw[Nat.zero_add];exact h.2 i hi⟩⟩
theorem RowC.set3 {w:World} {g:Nat} {qs:List Rat} {L:Nat} (h:RowC w g qs L) {i:Nat} (hi:i<qs.length) {q:Rat} {A1 A2:Option Addr} {n1 c1 n2 c2:Nat} {s:Bool}
  (hq:RatV w (.agg #[.bool s,.slice A1 n1 c1,.slice A2 n2 c2]) q L):
  RowC (((w.setCell ⟨g,i*3,none⟩ (.bool s)).setCell ⟨g,i*3+1,none⟩ (.slice A1 n1 c1)).setCell ⟨g,i*3+2,none⟩ (.slice A2 n2 c2)) g (qs.set i q) L /\
  Keeps w (((w.setCell ⟨g,i*3,none⟩ (.bool s)).setCell ⟨g,i*3+1,none⟩ (.slice A1 n1 c1)).setCell ⟨g,i*3+2,none⟩ (.slice A2 n2 c2)) /\
  w.grownBy (((w.setCell ⟨g,i*3,none⟩ (.bool s)).setCell ⟨g,i*3+1,none⟩ (.slice A1 n1 c1)).setCell ⟨g,i*3+2,none⟩ (.slice A2 n2 c2)) (some g):=by
 obtain⟨⟨cs,h0⟩,h1⟩:=h
 obtain⟨B1,m1,d1,B2,m2,d2,k0,k1,k2,_,_⟩:=h1 i hi
 have k1':(w.setCell ⟨g,i*3,none⟩ (.bool s)).cell? ⟨g,i*3+1,none⟩=some (.slice B1 m1 d1):=by
  rw[World.cell?_setCell_other _ _ _ _ (by intro e;injection e with e1 e2;omega)];exact k1
 have k2':((w.setCell ⟨g,i*3,none⟩ (.bool s)).setCell ⟨g,i*3+1,none⟩ (.slice A1 n1 c1)).cell? ⟨g,i*3+2,none⟩=some (.slice B2 m2 d2):=by
  rw[World.cell?_setCell_other _ _ _ _ (by intro e;injection e with e1 e2;omega),World.cell?_setCell_other _ _ _ _ (by intro e;injection e with e1 e2;omega)];exact k2
 have hgr:w.grownBy (((w.setCell ⟨g,i*3,none⟩ (.bool s)).setCell ⟨g,i*3+1,none⟩ (.slice A1 n1 c1)).setCell ⟨g,i*3+2,none⟩ (.slice A2 n2 c2)) (some g):=
  ⟨rfl,rfl,rfl,by simp[World.setCell],fun b hb hne=>by
   have e1:g≠b:=by intro e;exact hne (by rw[e])
   simp[World.setCell,Array.getElem?_modify,e1]⟩
 have hk:=Keeps.only hgr ⟨cs,_,h0⟩ (by decide)
 have hcl:∀(w:World) (j:Nat) (v:Value),(∃cs,w.heap[g]?=some (.cells cs 43 (0,0)))->∃cs,(w.setCell ⟨g,j,none⟩ v).heap[g]?=some (.cells cs 43 (0,0)):=by
  rintro w j v ⟨cs,h⟩
  exact⟨cs.setIfInBounds j v,by simp[World.setCell,Array.getElem?_modify,h]⟩
 refine⟨⟨hcl _ _ _ (hcl _ _ _ (hcl _ _ _ ⟨cs,h0⟩)),fun j hj=>?_⟩,hk,hgr⟩
 rw[List.length_set] at hj
 by_cases hij:i=j
 ·subst hij
  rw[show (qs.set i q).getD i 0=q by simp[List.getD,hi]]
  obtain⟨n,l,e,g1,g2⟩:=hq
  injection e with e
  simp only[Array.mk.injEq,List.cons.injEq,Value.bool.injEq,and_true] at e
  obtain⟨rfl,rfl,rfl⟩:=e
  refine⟨A1,n1,c1,A2,n2,c2,?_,?_,?_,g1.keeps hk,g2.keeps hk⟩
  ·rw[World.cell?_setCell_other _ _ _ _ (by intro e;injection e with e1 e2;omega),World.cell?_setCell_other _ _ _ _ (by intro e;injection e with e1 e2;omega)]
   exact World.cell?_setCell_same _ _ _ k0
  ·rw[World.cell?_setCell_other _ _ _ _ (by intro e;injection e with e1 e2;omega)]
   exact World.cell?_setCell_same _ _ _ k1'
  ·exact World.cell?_setCell_same _ _ _ k2'
 ·rw[show (qs.set i q).getD j 0=qs.getD j 0 by simp[List.getD,List.getElem?_set_ne hij]]
  obtain⟨D1,l1,f1,D2,l2,f2,u0,u1,u2,g1,g2⟩:=h1 j hj
  have e:∀r,r<3->(((w.setCell ⟨g,i*3,none⟩ (.bool s)).setCell ⟨g,i*3+1,none⟩ (.slice A1 n1 c1)).setCell ⟨g,i*3+2,none⟩ (.slice A2 n2 c2)).cell? ⟨g,j*3+r,none⟩=w.cell? ⟨g,j*3+r,none⟩:=by
   intro r hr
   rw[World.cell?_setCell_other _ _ _ _ (by intro e;injection e with e1 e2;omega),World.cell?_setCell_other _ _ _ _ (by intro e;injection e with e1 e2;omega),World.cell?_setCell_other _ _ _ _ (by intro e;injection e with e1 e2;omega)]
  exact⟨D1,l1,f1,D2,l2,f2,(e 0 (by omega)).trans u0,(e 1 (by omega)).trans u1,(e 2 (by omega)).trans u2,g1.keeps hk,g2.keeps hk⟩
def zfI (f:Nat->Rat->Rat) (qs zs:List Rat) (k:Nat):Prop:=
 zs.length=qs.length/\∀i,i<qs.length->zs.getD i 0=if i<k then f i (qs.getD i 0) else qs.getD i 0
theorem zgh (f:Nat->Rat->Rat) (qs:List Rat):zfI f qs qs 0:=⟨rfl,fun i hi=>by rw[if_neg (by omega)]⟩
theorem zgi {f:Nat->Rat->Rat} {qs zs:List Rat} {k:Nat} (h:zfI f qs zs k) (hk:k<qs.length):zfI f qs (zs.set k (f k (zs.getD k 0))) (k+1):=by
 obtain⟨h1,h2⟩:=h
 refine⟨by simp[h1],fun i hi=>?_⟩
 by_cases e:k=i
 ·subst e
  rw[show (zs.set k (f k (zs.getD k 0))).getD k 0=f k (zs.getD k 0) by simp[List.getD,h1,hk],h2 k hk,if_neg (by omega),if_pos (by omega)]
 ·rw[show (zs.set k (f k (zs.getD k 0))).getD i 0=zs.getD i 0 by simp[List.getD,List.getElem?_set_ne e],h2 i hi]
  by_cases c:i<k
  ·rw[if_pos c,if_pos (by omega)]
  ·rw[if_neg c,if_neg (by omega)]
theorem zhN {f:Nat->Rat->Rat} {qs zs:List Rat} {k:Nat} (h:zfI f qs zs k) (hk:qs.length<=k):zs=qs.mapIdx f:=by
 obtain⟨h1,h2⟩:=h
 apply List.ext_getElem (by simp[h1])
 intro i hi hi'
 have hx:i<qs.length:=by omega
 have:=h2 i hx
 rw[if_pos (by omega)] at this
 simpa[List.getD,hi,hx] using this
theorem zc1 {a b c:World} {r:Option Nat} (h:a.grownBy b r) (k:Below b.heap.size b c):a.grownBy c r:=
 ⟨k.os.trans h.os,k.tape.trans h.tape,k.output.trans h.output,Nat.le_trans h.size k.size,fun i hi hne=>(k.block i (Nat.lt_of_lt_of_le hi h.size)).trans (h.block i hi hne)⟩
theorem zdC {a b c:World} {r:Option Nat} (h:Below a.heap.size a b) (k:b.grownBy c r):a.grownBy c r:=
 ⟨k.os.trans h.os,k.tape.trans h.tape,k.output.trans h.output,Nat.le_trans h.size k.size,fun i hi hne=>(k.block i (Nat.lt_of_lt_of_le hi h.size) hne).trans (h.block i hi)⟩
theorem zd3 {w w':World} {r:Option Nat} (h:w.grownBy w' r):w.grownBy w'.drew r:=⟨h.os,h.tape,h.output,h.size,h.block⟩
theorem zk5 (v:Value) (w:World):(method 346 43 v "minikin/ratio.over").run Tryz.prog w=.ok (76,v) w:=by kernel_rfl
theorem zjw (v:Value) (w:World):(method 346 43 v "minikin/ratio.times").run Tryz.prog w=.ok (73,v) w:=by kernel_rfl
theorem zjx (v:Value) (w:World):(method 346 43 v "minikin/ratio.minus").run Tryz.prog w=.ok (70,v) w:=by kernel_rfl
theorem zeu (v:Value) (w:World):(method 346 43 v "minikin/ratio.isZero").run Tryz.prog w=.ok (75,v) w:=by kernel_rfl
theorem zeN (w:World) (g c:Nat) (qs:List Rat) (by_:Value) (q:Rat) (L:Nat) (hrow:RowC w g qs L) (hq:RatV w by_ q L) (hL:L<=268435456) (hq0:q≠0) (hc:qs.length<=c) (hm:c<=maxLen)
  (hfit:∀i,i<qs.length->FitQ L (qs.getD i 0 / q)):
  Calls Tryz.prog 194 #[.slice (some ⟨g,0,none⟩) qs.length c,by_] w (Ret (fun v w'=>v=.tuple #[]/\RowC w' g (qs.mapIdx fun _ x=>x / q) L/\Keeps w w'/\w.grownBy w' (some g))):=by
 unfold maxLen at hm
 have hmo:=zk5
 have HA:=hide (ai hrow (ai hq (ai hq0 hfit)))
 have hgl:=hrow.lt
 obtain⟨n1,l1,rfl,h1,g1⟩:=hq
 obtain⟨A1,c1,xs1,rfl,_⟩:=h1.open_
 obtain⟨A2,c2,xs2,rfl,_⟩:=g1.open_
 clear hrow h1 g1 hq0 hfit
 obtain⟨b1,hs1⟩:∃s,s=decide (q.num<0):=⟨_,rfl⟩
 rw[<-hs1] at HA
 rw[<-hs1]
 clear hs1
 go_enter Tryz.func194,Tryz.ntmps194
 go_wp2
 have hbw:Below w.heap.size w (w.alloc (.cells #[.bool b1,.slice A1 xs1.length c1,.slice A2 xs2.length c2] 43)):=(blr _ _).alloc (nr _) _
 go_loopw [8] (fun s8 wr=>∃(k:Nat) (zs:List Rat),k<=qs.length/\s8=.int .i64 k/\zfI (fun _ x=>x / q) qs zs k/\RowC wr g zs L/\Keeps w wr /\
  (w.alloc (.cells #[.bool b1,.slice A1 xs1.length c1,.slice A2 xs2.length c2] 43)).grownBy wr (some g)) (fun s8 _=>qs.length-(intOf s8).toNat)
 case atStart=>
  have hb0:Below w.heap.size w (w.alloc (.cells #[.bool b1,.slice A1 xs1.length c1,.slice A2 xs2.length c2] 43)):=(blr _ _).alloc (nr _) _
  exact⟨0,qs,Nat.zero_le _,rfl,zgh _ _,HA.out.1.below hb0,Below.keeps hb0,⟨rfl,rfl,rfl,nr _,fun _ _ _=>rfl⟩⟩
 case round=>
  obtain⟨k,zs,hk,rfl,hup,hrow,hkeep,hgr⟩:=hrel
  by_cases hkl:k<qs.length
  ·obtain⟨s,B1,m1,d1,B2,m2,d2,e0,e1,e2,hr⟩:=(hrow.2 k (by rw[hup.1];exact hkl)).rat
   have hbx:wr.heap[w.heap.size]?=some (.cells #[.bool b1,.slice A1 xs1.length c1,.slice A2 xs2.length c2] 43 (0,0)):=(hgr.block w.heap.size (by simp) (by intro e;injection e with e;omega)).trans (heap_alloc_new w _)
   have x0:wr.cell? ⟨w.heap.size,0,none⟩=some (.bool b1):=by simp[World.cell?,hbx]
   have x1:wr.cell? ⟨w.heap.size,1,none⟩=some (.slice A1 xs1.length c1):=by simp[World.cell?,hbx]
   have x2:wr.cell? ⟨w.heap.size,2,none⟩=some (.slice A2 xs2.length c2):=by simp[World.cell?,hbx]
   have hsz:w.heap.size<wr.heap.size:=lt_of_block hbx
   have HH:=hide (ai hup (ai hrow (ai hkeep (ai hgr hr))));clear hup hrow hkeep hgr hr hbx
   go_wp2_with fail
   have hba:Below wr.heap.size wr (wr.alloc (.cells #[.bool s,.slice B1 m1 d1,.slice B2 m2 d2] 43)):=(blr _ _).alloc (nr _) _
   refine(zj0 _ _ _ (zs.getD k 0) q L (HH.out.2.2.2.2.below hba) ((HA.out.2.1.keeps HH.out.2.2.1).below hba) hL HA.out.2.2.1).mono ?_
   rintro e w2 ⟨u2,rfl,hu,hd2⟩
   have hb2:=bnx hba hd2
   have hzk:zs.getD k 0=qs.getD k 0:=by have:=HH.out.1.2 k hkl;rw[if_neg (by omega)] at this;exact this
   replace hu:=hu.fit (by rw[hzk];exact HA.out.2.2.2 k hkl)
   have hrow2:=HH.out.2.1.below hb2
   obtain⟨s',B1',m1',d1',B2',m2',d2',e0',e1',e2',_⟩:=(hrow2.2 k (by rw[HH.out.1.1];exact hkl)).rat
   have f0:=hrow2.frozen (k*3)
   have f1:=hrow2.frozen (k*3+1)
   have f2:=hrow2.frozen (k*3+2)
   obtain⟨rn,rl,rfl,r1,r2⟩:=id hu
   obtain⟨A5,c5,xs5,rfl,_⟩:=r1.open_
   obtain⟨A6,c6,xs6,rfl,_⟩:=r2.open_
   have HU:=hide (ai hu (ai hrow2 (ai hb2 hzk)));clear hu hrow2 hb2 r1 r2 hzk
   go_wp2
   go_roundw
   case rel=>
    obtain⟨hup,hrow,hkeep,hgr,hr⟩:=HH.out
    obtain⟨hu,hrow2,hb2,hzk⟩:=HU.out
    obtain⟨t1,t2,t3⟩:=hrow2.set3 (i:=k) (by rw[hup.1];exact hkl) hu
    exact⟨k+1,_,by omega,by go_num,zgi hup hkl,t1,(hkeep.trans (Below.keeps hb2)).trans t2,zN (zc1 hgr hb2) t3⟩
   case measure=>simp[intOf];omega
  ·have HH:=hide (ai hup (ai hrow (ai hkeep hgr)));clear hup hrow hkeep hgr
   go_wp2
   go_end0
   obtain⟨hup,hrow,hkeep,hgr⟩:=HH.out
   have:=zhN hup (by omega)
   subst this
   exact⟨_,rfl,rfl,hrow,hkeep,zdC hbw hgr⟩
set_option maxHeartbeats 4000000 in
theorem zk6 (w:World) (g c:Nat) (qs:List Rat) (cv:Value) (q:Rat) (g2 c2:Nat) (fs:List Rat) (L:Nat) (hrow:RowC w g qs L) (hq:RatV w cv q L) (hfrom:RowC w g2 fs L) (hL:L<=134217700) (hne:g≠g2) (hlen:fs.length=qs.length) (hc:qs.length<=c) (hm:c<=maxLen)
  (hc2:fs.length<=c2) (hm2:c2<=maxLen) (hfit:∀i,i<qs.length->FitQ L (qs.getD i 0-q*fs.getD i 0)):
  Calls Tryz.prog 207 #[.slice (some ⟨g,0,none⟩) qs.length c,cv,.slice (some ⟨g2,0,none⟩) fs.length c2] w (Ret (fun v w'=>v=.tuple #[]/\RowC w' g (qs.mapIdx fun i x=>x-q*fs.getD i 0) L/\Keeps w w'/\w.grownBy w' (some g))):=by
 unfold maxLen at hm hm2
 have hmt:=zjw
 have hmm:=zjx
 have HA:=hide (ai hrow (ai hq (ai hfrom hfit)))
 have hgl:=hrow.lt
 have hgl2:=hfrom.lt
 obtain⟨n1,l1,rfl,h1,g1⟩:=hq
 obtain⟨A1,c1,xs1,rfl,_⟩:=h1.open_
 obtain⟨A2,c2',xs2,rfl,_⟩:=g1.open_
 clear hrow h1 g1 hfit hfrom
 obtain⟨b1,hs1⟩:∃s,s=decide (q.num<0):=⟨_,rfl⟩
 rw[<-hs1] at HA
 rw[<-hs1]
 clear hs1
 rw[hlen]
 rw[hlen] at hc2
 go_enter Tryz.func207,Tryz.ntmps207
 go_wp2
 have hbw:Below w.heap.size w (w.alloc (.cells #[.bool b1,.slice A1 xs1.length c1,.slice A2 xs2.length c2'] 43)):=(blr _ _).alloc (nr _) _
 go_loopw [10] (fun s8 wr=>∃(k:Nat) (zs:List Rat),k<=qs.length/\s8=.int .i64 k/\zfI (fun i x=>x-q*fs.getD i 0) qs zs k/\RowC wr g zs L/\Keeps w wr /\
  (w.alloc (.cells #[.bool b1,.slice A1 xs1.length c1,.slice A2 xs2.length c2'] 43)).grownBy wr (some g)) (fun s8 _=>qs.length-(intOf s8).toNat)
 case atStart=>
  exact⟨0,qs,Nat.zero_le _,rfl,zgh _ _,HA.out.1.below hbw,Below.keeps hbw,⟨rfl,rfl,rfl,nr _,fun _ _ _=>rfl⟩⟩
 case round=>
  obtain⟨k,zs,hk,rfl,hup,hrow,hkeep,hgr⟩:=hrel
  by_cases hkl:k<qs.length
  ·obtain⟨s,B1,m1,d1,B2,m2,d2,e0,e1,e2,hr⟩:=(hrow.2 k (by rw[hup.1];exact hkl)).rat
   have hfw:RowC wr g2 fs L:=(HA.out.2.2.1).same hkeep ((hgr.block g2 (by simp;omega) (by intro e;injection e with e;exact hne e.symm)).trans (Below.heap_alloc _ _ _ hgl2))
   obtain⟨s3,B3,m3,d3,B4,m4,d4,e3,e4,e5,hr2⟩:=(hfw.2 k (by rw[hlen];exact hkl)).rat
   have hbx:wr.heap[w.heap.size]?=some (.cells #[.bool b1,.slice A1 xs1.length c1,.slice A2 xs2.length c2'] 43 (0,0)):=(hgr.block w.heap.size (by simp) (by intro e;injection e with e;omega)).trans (heap_alloc_new w _)
   have hsz:w.heap.size<wr.heap.size:=lt_of_block hbx
   have hgs:g<wr.heap.size:=hrow.lt
   have x0:wr.cell? ⟨w.heap.size,0,none⟩=some (.bool b1):=by simp[World.cell?,hbx]
   have x1:wr.cell? ⟨w.heap.size,1,none⟩=some (.slice A1 xs1.length c1):=by simp[World.cell?,hbx]
   have x2:wr.cell? ⟨w.heap.size,2,none⟩=some (.slice A2 xs2.length c2'):=by simp[World.cell?,hbx]
   have HH:=hide (ai hup (ai hrow (ai hkeep (ai hgr (ai hr (ai hr2 hfw))))));clear hup hrow hkeep hgr hr hbx hr2 hfw
   go_wp2_with fail
   have hba:Below wr.heap.size wr (wr.alloc (.cells #[.bool s3,.slice B3 m3 d3,.slice B4 m4 d4] 43)).drew:=((blr _ _).alloc (nr _) _).drew
   have hbx:Below (wr.heap.size+1) (wr.alloc (.cells #[.bool s3,.slice B3 m3 d3,.slice B4 m4 d4] 43)) (wr.alloc (.cells #[.bool s3,.slice B3 m3 d3,.slice B4 m4 d4] 43)).drew:=(zL _ _).drew
   have hzk:zs.getD k 0=qs.getD k 0:=by have:=HH.out.1.2 k hkl;rw[if_neg (by omega)] at this;exact this
   have hrow0:=HH.out.2.1.below hba
   have HZ:=hide (ai hzk hrow0);clear hzk hrow0
   have p0:=(hba.cell (p:=⟨g,k*3,none⟩) (by exact hgs)).trans e0
   have p1:=(hba.cell (p:=⟨g,k*3+1,none⟩) (by exact hgs)).trans e1
   have p2:=(hba.cell (p:=⟨g,k*3+2,none⟩) (by exact hgs)).trans e2
   have y0:=(hba.cell (p:=⟨w.heap.size,0,none⟩) (by exact hsz)).trans x0
   have y1:=(hba.cell (p:=⟨w.heap.size,1,none⟩) (by exact hsz)).trans x1
   have y2:=(hba.cell (p:=⟨w.heap.size,2,none⟩) (by exact hsz)).trans x2
   obtain⟨k0,k1,k2,_,_,_,_⟩:=box3 hbx
   clear hbx e0 e1 e2 e3 e4 e5 x0 x1 x2
   go_region_law (first
    | (go_simp;go_at_call 73;refine(zcq _ _ _ q (fs.getD k 0) L ((HA.out.2.1.keeps HH.out.2.2.1).below hba) (HH.out.2.2.2.2.2.1.below hba) (by omega)).mono ?_;rintro e w1 ⟨u1,rfl,hu1,hd1⟩;have p0:=(hd1.cell (p:=⟨g,k*3,none⟩) (by simp;omega)).trans p0;have p1:=(hd1.cell (p:=⟨g,k*3+1,none⟩) (by simp;omega)).trans p1;have p2:=(hd1.cell (p:=⟨g,k*3+2,none⟩) (by simp;omega)).trans p2)
    | (go_simp;go_at_call 70;refine(zfl _ _ _ (zs.getD k 0) (q*fs.getD k 0) (2*L+4) (((HH.out.2.2.2.2.1.below hba).below hd1).more (by omega)) hu1 (by omega)).mono ?_;rintro e w2 ⟨u2,rfl,hu2,hd2⟩;have hb2:=bnx (bnx hba hd1) hd2;have hrow2:=HH.out.2.1.below hb2;replace hu2:=hu2.fit (L':=L) (by rw[HZ.out.1];exact HA.out.2.2.2 k hkl);generalize hX:zs.getD k 0-q*fs.getD k 0=X at hu2;
       obtain⟨s',B1',m1',d1',B2',m2',d2',e0',e1',e2',_⟩:=(hrow2.2 k (by rw[HH.out.1.1];exact hkl)).rat;
       have f0:=hrow2.frozen (k*3);have f1:=hrow2.frozen (k*3+1);have f2:=hrow2.frozen (k*3+2);
       obtain⟨rn,rl,rfl,r1,r2⟩:=id hu2;obtain⟨A5,c5,xs5,rfl,_⟩:=r1.open_;obtain⟨A6,c6,xs6,rfl,_⟩:=r2.open_;
       have HU:=hide (ai hu2 (ai hrow2 (ai hb2 hX)));clear hu2 hrow2 hb2 r1 r2 hX p0 p1 p2 y0 y1 y2 k0 k1 k2))
   all_goals
    go_wp2
    go_roundw
    case rel=>
     obtain⟨hup,hrow,hkeep,hgr,hr,_⟩:=HH.out
     obtain⟨hu,hrow2,hb2,hX⟩:=HU.out
     obtain⟨t1,t2,t3⟩:=hrow2.set3 (i:=k) (by rw[hup.1];exact hkl) hu
     exact⟨k+1,_,by omega,by go_num,by rw[<-hX] at t1 ⊢;exact zgi (f:=fun i x=>x-q*fs.getD i 0) hup hkl,t1,(hkeep.trans (Below.keeps hb2)).trans t2,zN (zc1 hgr hb2) t3⟩
    case measure=>simp[intOf];omega
  ·have HH:=hide (ai hup (ai hrow (ai hkeep hgr)));clear hup hrow hkeep hgr
   go_wp2
   go_end0
   obtain⟨hup,hrow,hkeep,hgr⟩:=HH.out
   have:=zhN hup (by omega)
   subst this
   exact⟨_,rfl,rfl,hrow,hkeep,zdC hbw hgr⟩
end Go.Proofs.YtpoahodnakhmiaaGreat
