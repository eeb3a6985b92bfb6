import Derived.Test.YtpoahodnakhmiaaGreatKept
import Derived.Laws.Pointers
import Derived.Deep.AppendLies
set_option maxRecDepth 100000
namespace Go.Proofs.YtpoahodnakhmiaaGreat
set_option linter.unusedVariables false
set_option linter.unusedSimpArgs false
open Go.RowKit
theorem ze2 (p q:Addr) (w:World):
  CallsD Tryz.prog 126 #[.pointer (some p),.pointer (some q)] .returning w fun e u' w'=>e=.returned (.tuple #[])/\u'=.returning/\w'=w:=by
 refine callsD_of_wpS Tryz.func126 rfl fun c₀ cs hu=>?_
 apply wpS_seq
 apply wpS_region
 simp[wpOpsS,go_sem,recoverD,hu,Tryz.ntmps126,Exit.thenS]
 refine wpS_of_wp ?_
 simp only[Array.replicate,List.replicate,List.setIfInBounds_toArray,Array.setIfInBounds,List.size_toArray,List.length_cons]
 go_wp2
 cases c₀
 simp_all [bodyPostS,results,Tryz.results126]
theorem zgU (B E:Nat) (a0:Bool) (A1 A2:Option Addr) (n1 c1 n2 c2:Nat) (x:Int) (older:List PanicEntry) (w:World) (hEB:¬E=B)
  (k0:w.cell? ⟨B,0,none⟩=some (.bool a0)) (k1:w.cell? ⟨B,1,none⟩=some (.slice A1 n1 c1)) (k2:w.cell? ⟨B,2,none⟩=some (.slice A2 n2 c2)) (kE:w.cell? ⟨E,0,none⟩=some (.int .i64 x))
  (f0:w.frozen? ⟨B,0,none⟩=false) (f1:w.frozen? ⟨B,1,none⟩=false) (f2:w.frozen? ⟨B,2,none⟩=false) (fE:w.frozen? ⟨E,0,none⟩=false):
  CallsD Tryz.prog 126 #[.pointer (some ⟨B,0,none⟩),.pointer (some ⟨E,0,none⟩)] (.panicking ({ v:=zc6,recovered:=false }::older)) w fun e u' w'=>
   e=.returned (.tuple #[])/\u'=.panicking ({ v:=zc6,recovered:=true }::older) /\
   ∃W,Below w.heap.size w W/\w'=((((W.setCell ⟨B,0,none⟩ (.bool false)).setCell ⟨B,1,none⟩ (.slice none 0 0)).setCell ⟨B,2,none⟩ (.slice none 0 0)).setCell ⟨E,0,none⟩ (.int .i64 11)).drew:=by
 refine callsD_of_wpS Tryz.func126 rfl fun c₀ cs hu=>?_
 unfold zc6 at *
 have HC:=hide (ai k0 (ai k1 (ai k2 (ai kE (ai f0 (ai f1 (ai f2 fE)))))))
 clear k0 k1 k2 kE f0 f1 f2 fE
 apply wpS_seq
 apply wpS_region
 simp[wpOpsS,go_sem,recoverD,hu,Tryz.ntmps126,Exit.thenS]
 refine wpS_of_wp ?_
 simp only[Array.replicate,List.replicate,List.setIfInBounds_toArray,Array.setIfInBounds,List.size_toArray,List.length_cons]
 have has:∀(v:Value) (w:World),(Instr.typeAssert (.iface 153 v) 20 153 true).run Tryz.prog w=.ok (.tuple #[v,.bool true]) w:=fun _ _=>by kernel_rfl
 go_wp2
 have s1:(w.alloc (Obj.cells #[Value.int IntKind.i64 11] 153)).heap.size=w.heap.size+1:=by simp
 have hbw:Below w.heap.size w ((w.alloc (Obj.cells #[Value.int IntKind.i64 11] 153)).alloc (Obj.cells #[Value.bool false,Value.slice none 0 0,Value.slice none 0 0] 43)):=((blr _ _).alloc (nr _) _).alloc (by simp) _
 have h1:((w.alloc (Obj.cells #[Value.int IntKind.i64 11] 153)).alloc (Obj.cells #[Value.bool false,Value.slice none 0 0,Value.slice none 0 0] 43)).heap[w.heap.size+1]?=some (Obj.cells #[Value.bool false,Value.slice none 0 0,Value.slice none 0 0] 43):=by rw[<-s1];exact heap_alloc_new _ _
 have h0:((w.alloc (Obj.cells #[Value.int IntKind.i64 11] 153)).alloc (Obj.cells #[Value.bool false,Value.slice none 0 0,Value.slice none 0 0] 43)).heap[w.heap.size]?=some (Obj.cells #[Value.int IntKind.i64 11] 153):=by
  rw[Below.heap_alloc _ _ _ (by rw[s1];omega)];exact heap_alloc_new _ _
 obtain⟨k0,k1,k2,kE,f0,f1,f2,fE⟩:=HC.out
 have lB:=zf k0
 have lE:=zf kE
 replace k0:=(hbw.cell (by exact lB)).trans k0
 replace k1:=(hbw.cell (by exact lB)).trans k1
 replace k2:=(hbw.cell (by exact lB)).trans k2
 replace kE:=(hbw.cell (by exact lE)).trans kE
 have hne:¬E=B:=hEB
 generalize ((w.alloc (Obj.cells #[Value.int IntKind.i64 11] 153)).alloc (Obj.cells #[Value.bool false,Value.slice none 0 0,Value.slice none 0 0] 43))=W at *
 have hb1:=hbw.drew
 have q0:W.cell? ⟨w.heap.size,0,none⟩=some (.int .i64 11):=by simp[World.cell?,h0]
 have q1:W.cell? ⟨w.heap.size+1,0,none⟩=some (.bool false):=by simp[World.cell?,h1]
 have q2:W.cell? ⟨w.heap.size+1,1,none⟩=some (.slice none 0 0):=by simp[World.cell?,h1]
 have q3:W.cell? ⟨w.heap.size+1,2,none⟩=some (.slice none 0 0):=by simp[World.cell?,h1]
 replace f0:=(hbw.frozen (by exact lB)).trans f0
 replace f1:=(hbw.frozen (by exact lB)).trans f1
 replace f2:=(hbw.frozen (by exact lB)).trans f2
 replace fE:=(hbw.frozen (by exact lE)).trans fE
 have n1:¬B=w.heap.size:=by intro e;simp at lB;omega
 have n2:¬E=w.heap.size:=by intro e;simp at lE;omega
 have n3:¬B=w.heap.size+1:=by intro e;simp at lB;omega
 have n4:¬E=w.heap.size+1:=by intro e;simp at lE;omega
 have HB:=hide (ai hbw hb1)
 clear hbw hb1 h0 h1 s1 lB lE
 generalize hN:w.heap.size=N at *
 go_region
 refine⟨rfl,_,rfl,_,results_none rfl _ _ _,rfl,rfl,W,by rw[hN];exact HB.out.1,rfl⟩
theorem zgV {w w':World} {a0 b0 c0 a1:Value} {e e':TypeId}
  (h:Below (w.heap.size+2) ((w.alloc (.cells #[a0,b0,c0] e)).alloc (.cells #[a1] e')) w'):
  (w'.cell? ⟨w.heap.size,0,none⟩=some a0/\w'.cell? ⟨w.heap.size,1,none⟩=some b0/\w'.cell? ⟨w.heap.size,2,none⟩=some c0) /\
  w'.cell? ⟨w.heap.size+1,0,none⟩=some a1 /\
  (w'.frozen? ⟨w.heap.size,0,none⟩=false/\w'.frozen? ⟨w.heap.size,1,none⟩=false/\w'.frozen? ⟨w.heap.size,2,none⟩=false)/\w'.frozen? ⟨w.heap.size+1,0,none⟩=false/\w.heap.size+1<w'.heap.size:=by
 have s1:(w.alloc (.cells #[a0,b0,c0] e)).heap.size=w.heap.size+1:=by simp
 have h1:w'.heap[w.heap.size+1]?=some (.cells #[a1] e' (0,0)):=(h.block _ (by omega)).trans (by rw[<-s1];exact heap_alloc_new _ _)
 have h0:w'.heap[w.heap.size]?=some (.cells #[a0,b0,c0] e (0,0)):=(h.block _ (by omega)).trans (by rw[Below.heap_alloc _ _ _ (by rw[s1];omega)];exact heap_alloc_new _ _)
 refine⟨⟨?_,?_,?_⟩,?_,⟨?_,?_,?_⟩,?_,?_⟩
 all_goals first
  | (simp[World.cell?,h0];done)
  | (simp[World.cell?,h1];done)
  | (simp[World.frozen?,h0];done)
  | (simp[World.frozen?,h1];done)
  | (have:=h.size;simp at this;omega)
theorem Arr.set1 {w:World} {A:Option Addr} {xs:List Int} (h:Arr w A .u32 xs) {E:Nat} {x:Int} {y:Value} (kE:w.cell? ⟨E,0,none⟩=some (.int .i64 x)):
  Arr (w.setCell ⟨E,0,none⟩ y) A .u32 xs:=by
 intro hx
 obtain⟨b',o,rfl,ht,hc⟩:=h hx
 refine⟨b',o,rfl,ht.setCell _ _,fun j hj=>?_⟩
 have hq:=hc j hj
 have n0:(⟨b',o+j,none⟩:Addr)≠⟨E,0,none⟩:=by intro e;rw[e,kE] at hq;cases hq
 rw[World.cell?_setCell_other _ _ _ _ n0.symm]
 exact hq
theorem NatV.setE {w:World} {v:Value} {x:Int} {L:Nat} (h:NatV w v x L) {B:Nat} {a b c y:Value} {a0:Bool} {A1 A2:Option Addr} {n1 c1 n2 c2:Nat} {z:Int} (k0:w.cell? ⟨B,0,none⟩=some (.bool a0)) (k1:w.cell? ⟨B,1,none⟩=some (.slice A1 n1 c1)) (k2:w.cell? ⟨B,2,none⟩=some (.slice A2 n2 c2)) (kE:w.cell? ⟨B+1,0,none⟩=some (.int .i64 z)):
  NatV ((((w.setCell ⟨B,0,none⟩ a).setCell ⟨B,1,none⟩ b).setCell ⟨B,2,none⟩ c).setCell ⟨B+1,0,none⟩ y) v x L:=by
 obtain⟨A,c',xs,rfl,g1,g2,g3,g4⟩:=h.set3 (a:=a) (b:=b) (c:=c) k0 k1 k2
 exact⟨A,c',xs,rfl,g1,g2,g3.set1 ((zi (by omega)).trans kE),g4⟩
theorem zdn {B0 B:Nat} {a w:World} (h:Below B0 a w) (hB:B0<=B) (hE:B0<=B+1) (x y z u:Value):
  Below B0 a ((((w.setCell ⟨B,0,none⟩ x).setCell ⟨B,1,none⟩ y).setCell ⟨B,2,none⟩ z).setCell ⟨B+1,0,none⟩ u):=
 (zm h hB x y z).setCell (by exact hE) _
def doneR (w:World) (q:Rat) (L:Nat) (v:Value) (w':World):Prop:=
 Below w.heap.size w w'/\((SmallQ q/\∃r,v=.tuple #[r,.int .i64 0]/\RatV w' r q L)\/(¬SmallQ q/\∃r,v=.tuple #[r,.int .i64 11]/\RatV w' r 0 L))
theorem zbh (w:World) (a:Value) (q:Rat) (L:Nat) (ha:RatV w a q L) (hL:L<=1073741800):
  Calls Tryz.prog 72 #[.func (.func 74) #[a] #[]] w (Ret (doneR w q L)):=by
 have hmf:=hmf0 Tryz.prog
 by_cases hs:SmallQ q
 ·have HA:=hide (ai ha hs);clear ha hs
  go_enter_defers Tryz.func72,Tryz.ntmps72
  go_wp2_with fail
  have hb0:Below w.heap.size w ((w.alloc (.cells #[.bool false,.slice none 0 0,.slice none 0 0] 43)).alloc (.cells #[.int .i64 0] 36)):=((blr _ _).alloc (nr _) _).alloc (by simp) _
  have hs0:Below (w.heap.size+2) ((w.alloc (.cells #[.bool false,.slice none 0 0,.slice none 0 0] 43)).alloc (.cells #[.int .i64 0] 36)) ((w.alloc (.cells #[.bool false,.slice none 0 0,.slice none 0 0] 43)).alloc (.cells #[.int .i64 0] 36)):=blr _ _
  refine(zbB _ a q L (HA.out.1.below hb0) hL HA.out.2).mono ?_
  rintro e w1 ⟨r,rfl,⟨n1,l1,rfl,h1,g1⟩,hd1⟩
  have hb1:=bnx hb0 hd1
  have hs1:=zh hs0 hd1 (by simp)
  obtain⟨⟨k0,k1,k2⟩,kE,⟨f0,f1,f2⟩,fE,hz⟩:=zgV hs1
  obtain⟨A1,c1,xs1,rfl,_⟩:=h1.open_
  obtain⟨A2,c2,xs2,rfl,_⟩:=g1.open_
  go_wp2
  refine leaves_cons (f:=126) (args:=#[.pointer (some ⟨w.heap.size,0,none⟩),.pointer (some ⟨w.heap.size+1,0,none⟩)]) (by simp) (by simp[go_sem]) ?_
  refine(ze2 _ _ _).mono ?_
  rintro e u' w'' ⟨rfl,rfl,rfl⟩
  simp only[Leaves,settle]
  refine⟨.tuple #[.agg #[.bool (decide (q.num<0)),.slice A1 xs1.length c1,.slice A2 xs2.length c2],.int .i64 0],?_,_,rfl,zdn hb1 (nr _) (by omega) _ _ _ _,Or.inl ⟨HA.out.2,_,rfl,⟨_,_,rfl,h1.setE k0 k1 k2 kE,g1.setE k0 k1 k2 kE⟩⟩⟩
  simp[results,Tryz.results72,go_sem,k0,k1,k2,kE,hz]
 ·have HA:=hide (ai ha hs);clear ha hs
  go_enter_defers Tryz.func72,Tryz.ntmps72
  go_wp2_with fail
  have hb0:Below w.heap.size w ((w.alloc (.cells #[.bool false,.slice none 0 0,.slice none 0 0] 43)).alloc (.cells #[.int .i64 0] 36)):=((blr _ _).alloc (nr _) _).alloc (by simp) _
  have hs0:Below (w.heap.size+2) ((w.alloc (.cells #[.bool false,.slice none 0 0,.slice none 0 0] 43)).alloc (.cells #[.int .i64 0] 36)) ((w.alloc (.cells #[.bool false,.slice none 0 0,.slice none 0 0] 43)).alloc (.cells #[.int .i64 0] 36)):=blr _ _
  refine(zh8 _ a q L (HA.out.1.below hb0) hL HA.out.2).mono ?_
  rintro e w1 ⟨rfl,hd1⟩
  have hb1:=bnx hb0 hd1
  have hs1:=zh hs0 hd1 (by simp)
  obtain⟨⟨k0,k1,k2⟩,kE,⟨f0,f1,f2⟩,fE,hz⟩:=zgV hs1
  refine leaves_cons (f:=126) (args:=#[.pointer (some ⟨w.heap.size,0,none⟩),.pointer (some ⟨w.heap.size+1,0,none⟩)]) (by simp) (by simp[go_sem]) ?_
  refine(zgU w.heap.size (w.heap.size+1) _ _ _ _ _ _ _ _ _ _ (by omega) k0 k1 k2 kE f0 f1 f2 fE).mono ?_
  rintro e u' w'' ⟨rfl,rfl,W,hW,rfl⟩
  have b0:=(hW.cell (p:=⟨w.heap.size,0,none⟩) (by simp;omega)).trans k0
  have b1:=(hW.cell (p:=⟨w.heap.size,1,none⟩) (by simp;omega)).trans k1
  have b2:=(hW.cell (p:=⟨w.heap.size,2,none⟩) (by simp;omega)).trans k2
  have bE:=(hW.cell (p:=⟨w.heap.size+1,0,none⟩) (by simp;omega)).trans kE
  have hbW:=(bnx hb1 hW)
  have hzW:=hW.size
  simp only[Leaves,settle,List.dropWhile]
  refine⟨.tuple #[.agg #[.bool false,.slice none 0 0,.slice none 0 0],.int .i64 11],?_,_,rfl,(zdn hbW (nr _) (by omega) _ _ _ _).drew,Or.inr ⟨HA.out.2,_,rfl,⟨.slice none 0 0,.slice none 0 0,rfl,NatV.nil _ _,NatV.nil _ _⟩⟩⟩
  simp[results,Tryz.results72,go_sem,b0,b1,b2,bE,hz]
theorem zoc (w:World) (a b:Value) (p q:Rat) (L:Nat) (ha:RatV w a p L) (hb:RatV w b q L) (hL:L<=268435456):
  Calls Tryz.prog 40 #[a,b] w (Ret (doneR w (p+q) (2*L+4))):=by
 have hmf:=hmf0 Tryz.prog
 have HA:=hide (ai ha hb)
 obtain⟨n1,l1,rfl,h1,g1⟩:=ha
 obtain⟨n2,l2,rfl,h2,g2⟩:=hb
 obtain⟨A1,c1,xs1,rfl,_⟩:=h1.open_
 obtain⟨A2,c2,xs2,rfl,_⟩:=g1.open_
 obtain⟨A3,c3,xs3,rfl,_⟩:=h2.open_
 obtain⟨A4,c4,xs4,rfl,_⟩:=g2.open_
 clear h1 g1 h2 g2
 obtain⟨b1,hs1⟩:∃s,s=decide (p.num<0):=⟨_,rfl⟩
 obtain⟨b2,hs2⟩:∃s,s=decide (q.num<0):=⟨_,rfl⟩
 rw[<-hs1,<-hs2] at HA
 rw[<-hs1,<-hs2]
 clear hs1 hs2
 have hb0:Below w.heap.size w (((w.alloc (.cells #[.bool b1,.slice A1 xs1.length c1,.slice A2 xs2.length c2] 43)).alloc (.cells #[.bool b2,.slice A3 xs3.length c3,.slice A4 xs4.length c4] 43)).alloc (.cells #[.bool false,.slice none 0 0,.slice none 0 0] 43)):=((((blr _ _).alloc (nr _) _).alloc (by simp) _).alloc (by simp;omega) _)
 have hs0:Below (w.heap.size+3) (((w.alloc (.cells #[.bool b1,.slice A1 xs1.length c1,.slice A2 xs2.length c2] 43)).alloc (.cells #[.bool b2,.slice A3 xs3.length c3,.slice A4 xs4.length c4] 43)).alloc (.cells #[.bool false,.slice none 0 0,.slice none 0 0] 43)) (((w.alloc (.cells #[.bool b1,.slice A1 xs1.length c1,.slice A2 xs2.length c2] 43)).alloc (.cells #[.bool b2,.slice A3 xs3.length c3,.slice A4 xs4.length c4] 43)).alloc (.cells #[.bool false,.slice none 0 0,.slice none 0 0] 43)):=(blr _ _)
 go_enter Tryz.func40,Tryz.ntmps40
 go_wp2_with fail
 refine(zgR _ _ _ p q L (HA.out.1.below hb0) (HA.out.2.below hb0) hL).mono ?_
 rintro e w1 ⟨u1,rfl,q1,hd1⟩
 have hs1:=zh hs0 hd1 (by simp)
 have hb1:=bnx hb0 hd1
 go_wp2_with fail
 refine(zbh _ u1 (p+q) (2*L+4) q1 (by omega)).mono ?_
 rintro e w2 ⟨_,rfl,hd2,⟨hq,u2,rfl,n1,l1,rfl,q2,p2⟩|⟨hq,u2,rfl,n1,l1,rfl,q2,p2⟩⟩
 ·have hs2:=zh hs1 hd2 (by simp)
  have hb2:=bnx hb1 hd2
  obtain⟨_,_,⟨m0,m1,m2⟩,⟨f0,f1,f2⟩,hz⟩:=zaE hs2
  obtain⟨Ae,ce,xe,rfl,_⟩:=q2.open_
  obtain⟨Af,cf,xf,rfl,_⟩:=p2.open_
  have HQ:=hide hq;clear hq
  go_wp2
  refine bodyPost_ret (v:=.tuple #[.agg #[.bool (decide ((p+q).num<0)),.slice Ae xe.length ce,.slice Af xf.length cf],.int .i64 0]) ?_ rfl ?_
  ·simp[results,Tryz.results40,go_sem,m0,m1,m2,hz]
  exact⟨_,rfl,zm hb2 (by omega) _ _ _,Or.inl ⟨HQ.out,_,rfl,_,_,rfl,q2.set3 m0 m1 m2,p2.set3 m0 m1 m2⟩⟩
 ·have hs2:=zh hs1 hd2 (by simp)
  have hb2:=bnx hb1 hd2
  obtain⟨_,_,⟨m0,m1,m2⟩,⟨f0,f1,f2⟩,hz⟩:=zaE hs2
  obtain⟨Ae,ce,xe,rfl,_⟩:=q2.open_
  obtain⟨Af,cf,xf,rfl,_⟩:=p2.open_
  have HQ:=hide hq;clear hq
  go_wp2
  refine bodyPost_ret (v:=.tuple #[.agg #[.bool (decide ((0:Rat).num<0)),.slice Ae xe.length ce,.slice Af xf.length cf],.int .i64 11]) ?_ rfl ?_
  ·simp[results,Tryz.results40,go_sem,m0,m1,m2,hz]
  exact⟨_,rfl,zm hb2 (by omega) _ _ _,Or.inr ⟨HQ.out,_,rfl,_,_,rfl,q2.set3 m0 m1 m2,p2.set3 m0 m1 m2⟩⟩
theorem zod (w:World) (a b:Value) (p q:Rat) (L:Nat) (ha:RatV w a p L) (hb:RatV w b q L) (hL:L<=268435456):
  Calls Tryz.prog 21 #[a,b] w (Ret (doneR w (p*q) (2*L+4))):=by
 have hmf:=hmf0 Tryz.prog
 have HA:=hide (ai ha hb)
 obtain⟨n1,l1,rfl,h1,g1⟩:=ha
 obtain⟨n2,l2,rfl,h2,g2⟩:=hb
 obtain⟨A1,c1,xs1,rfl,_⟩:=h1.open_
 obtain⟨A2,c2,xs2,rfl,_⟩:=g1.open_
 obtain⟨A3,c3,xs3,rfl,_⟩:=h2.open_
 obtain⟨A4,c4,xs4,rfl,_⟩:=g2.open_
 clear h1 g1 h2 g2
 obtain⟨b1,hs1⟩:∃s,s=decide (p.num<0):=⟨_,rfl⟩
 obtain⟨b2,hs2⟩:∃s,s=decide (q.num<0):=⟨_,rfl⟩
 rw[<-hs1,<-hs2] at HA
 rw[<-hs1,<-hs2]
 clear hs1 hs2
 have hb0:Below w.heap.size w (((w.alloc (.cells #[.bool b1,.slice A1 xs1.length c1,.slice A2 xs2.length c2] 43)).alloc (.cells #[.bool b2,.slice A3 xs3.length c3,.slice A4 xs4.length c4] 43)).alloc (.cells #[.bool false,.slice none 0 0,.slice none 0 0] 43)):=((((blr _ _).alloc (nr _) _).alloc (by simp) _).alloc (by simp;omega) _)
 have hs0:Below (w.heap.size+3) (((w.alloc (.cells #[.bool b1,.slice A1 xs1.length c1,.slice A2 xs2.length c2] 43)).alloc (.cells #[.bool b2,.slice A3 xs3.length c3,.slice A4 xs4.length c4] 43)).alloc (.cells #[.bool false,.slice none 0 0,.slice none 0 0] 43)) (((w.alloc (.cells #[.bool b1,.slice A1 xs1.length c1,.slice A2 xs2.length c2] 43)).alloc (.cells #[.bool b2,.slice A3 xs3.length c3,.slice A4 xs4.length c4] 43)).alloc (.cells #[.bool false,.slice none 0 0,.slice none 0 0] 43)):=(blr _ _)
 go_enter Tryz.func21,Tryz.ntmps21
 go_wp2_with fail
 refine(zcq _ _ _ p q L (HA.out.1.below hb0) (HA.out.2.below hb0) hL).mono ?_
 rintro e w1 ⟨u1,rfl,q1,hd1⟩
 have hs1:=zh hs0 hd1 (by simp)
 have hb1:=bnx hb0 hd1
 go_wp2_with fail
 refine(zbh _ u1 (p*q) (2*L+4) q1 (by omega)).mono ?_
 rintro e w2 ⟨_,rfl,hd2,⟨hq,u2,rfl,n1,l1,rfl,q2,p2⟩|⟨hq,u2,rfl,n1,l1,rfl,q2,p2⟩⟩
 ·have hs2:=zh hs1 hd2 (by simp)
  have hb2:=bnx hb1 hd2
  obtain⟨_,_,⟨m0,m1,m2⟩,⟨f0,f1,f2⟩,hz⟩:=zaE hs2
  obtain⟨Ae,ce,xe,rfl,_⟩:=q2.open_
  obtain⟨Af,cf,xf,rfl,_⟩:=p2.open_
  have HQ:=hide hq;clear hq
  go_wp2
  refine bodyPost_ret (v:=.tuple #[.agg #[.bool (decide ((p*q).num<0)),.slice Ae xe.length ce,.slice Af xf.length cf],.int .i64 0]) ?_ rfl ?_
  ·simp[results,Tryz.results21,go_sem,m0,m1,m2,hz]
  exact⟨_,rfl,zm hb2 (by omega) _ _ _,Or.inl ⟨HQ.out,_,rfl,_,_,rfl,q2.set3 m0 m1 m2,p2.set3 m0 m1 m2⟩⟩
 ·have hs2:=zh hs1 hd2 (by simp)
  have hb2:=bnx hb1 hd2
  obtain⟨_,_,⟨m0,m1,m2⟩,⟨f0,f1,f2⟩,hz⟩:=zaE hs2
  obtain⟨Ae,ce,xe,rfl,_⟩:=q2.open_
  obtain⟨Af,cf,xf,rfl,_⟩:=p2.open_
  have HQ:=hide hq;clear hq
  go_wp2
  refine bodyPost_ret (v:=.tuple #[.agg #[.bool (decide ((0:Rat).num<0)),.slice Ae xe.length ce,.slice Af xf.length cf],.int .i64 11]) ?_ rfl ?_
  ·simp[results,Tryz.results21,go_sem,m0,m1,m2,hz]
  exact⟨_,rfl,zm hb2 (by omega) _ _ _,Or.inr ⟨HQ.out,_,rfl,_,_,rfl,q2.set3 m0 m1 m2,p2.set3 m0 m1 m2⟩⟩
theorem app1x {P:Program} {t e:TypeId} {k:IntKind} {bytes:Nat} (S:zdj P t e k bytes) (w:World) {ops:Array Oper} {rest:List Oper} {o:Oper} {a:Act} {Q:Exit->Act->World->Prop} (hgd:o.guard=none) (s x:Operand)
  (ho:o.op=.call { callee:=.builtin .append,args:=#[s,x],argTypes:=#[t,t] })
  (base:Nat) (v:Value) (xs:List Int) (d:Int) (hs:a.eval s=v) (hown:OwnI w base e k v xs)
  (ad:Addr) (c:Nat) (hx:a.eval x=.slice (some ad) 1 c) (hcell:w.cell? ad=some (.int k d))
  (hlen:xs.length<=17592186044000) (hbase:base<=w.heap.size)
  (h:∀g c' w',OwnI w' base e k (.slice (some ⟨g,0,none⟩) (xs.length+1) c') (xs++[d])->xs.length+1<=c'->c'<=maxLen->Below base w w'->w.grownBy w' v.ownBlock->(v.ownBlock=some g\/g=w.heap.size)->g<w'.heap.size ->
   wpList P ops Q rest (a.put o.dst (.slice (some ⟨g,0,none⟩) (xs.length+1) c')) w'):wpList P ops Q (o::rest) a w:=by
 obtain⟨i,hi,hz,hsz,hby⟩:=info_parts S.hi
 have hb:=S.hb
 refine wpList_append_lies w hgd s x t ho base e i (.int k 0) 1 bytes S.ht hi hz hsz hby rfl (by decide) v xs.length (xs.map (Value.int k)) hs hown ad 1 c [.int k d] hx rfl ?_ ?_ (by omega) ?_ ?_ hbase w.heap.size rfl ?_
 ·intro j u hj
  match j,hj with
  | 0,hj=>simp at hj;subst hj;simpa[Addr.add] using hcell
 ·intro u hu;simp at hu;subst hu;rfl
 ·unfold maxLen;omega
 ·have:=Nat.mul_le_mul_left (xs.length+1) hb;omega
 ·intro g cap w' hown' hg hor hlt
  have hbl:Below base w w':=(blr _ _).grown hg hbase fun g hgv=>(hown.lt g hgv).1
  have hown2:OwnI w' base e k (.slice (some ⟨g,0,none⟩) (xs.length+1) cap) (xs++[d]):=by unfold OwnI;simpa using hown'
  rcases hown'.2 with ⟨_,h0⟩|⟨g',cap',cur,hv,_,_,hc,hm,_,_⟩
  ·omega
  ·injection hv with e1 e2 e3
   subst e3
   exact h g cap w' hown2 hc hm hbl hg hor hlt
theorem Arr.only {w w':World} {A:Option Addr} {k:IntKind} {xs:List Int} (h:Arr w A k xs) {r:Option Nat} (hg:w.grownBy w' r) (hne:∀b o,A=some ⟨b,o,none⟩->r≠some b):Arr w' A k xs:=by
 intro hx
 obtain⟨b,o,rfl,ht,hc⟩:=h hx
 have hbk:=hg.block b ht.lt (fun e=>hne b o rfl e.symm)
 refine⟨b,o,rfl,ht.same hbk,fun j hj=>?_⟩
 rw[<-hc j hj]
 exact World.cell?_of_block (w:=w) hbk
theorem NatV.only {w w':World} {b o n c:Nat} {x:Int} {L:Nat} (h:NatV w (.slice (some ⟨b,o,none⟩) n c) x L) {r:Option Nat} (hg:w.grownBy w' r) (hne:r≠some b):NatV w' (.slice (some ⟨b,o,none⟩) n c) x L:=by
 obtain⟨A,c',xs,e,h1,h2,h3,h4⟩:=h
 injection e with e1 e2 e3
 subst e1 e2 e3
 exact⟨_,_,xs,rfl,h1,h2,h3.only hg (by intro b' o' e;injection e with e;injection e with e1 e2;subst e1;exact hne),h4⟩
def Cel (w:World) (g:Nat) (e:TypeId) (k:IntKind) (xs:List Int) (rest:List Value):Prop:=w.heap[g]?=some (.cells (xs.map (Value.int k)++rest).toArray e (0,0))
section
variable {w w':World} {g:Nat} {e:TypeId} {k:IntKind} {xs:List Int} {rest:List Value}
theorem Cel.lt (h:Cel w g e k xs rest):g<w.heap.size:=lt_of_block h
theorem Cel.cell (h:Cel w g e k xs rest) {j:Nat} (hj:j<xs.length):w.cell? ⟨g,j,none⟩=some (.int k (xs.getD j 0)):=by
 unfold Cel at h
 have hj2:j<(xs.map (Value.int k)).length:=by simpa using hj
 simp only[World.cell?,h,List.getElem?_toArray,List.getElem?_append_left hj2,List.getElem?_map,List.getElem?_eq_getElem hj]
 simp[List.getD,List.getElem?_eq_getElem hj]
theorem Cel.frozen (h:Cel w g e k xs rest) (j:Nat):w.frozen? ⟨g,j,none⟩=false:=by unfold Cel at h;simp[World.frozen?,h]
theorem Cel.set_ (h:Cel w g e k xs rest) {i:Nat} (d:Int) (hi:i<xs.length):Cel (w.setCell ⟨g,i,none⟩ (.int k d)) g e k (xs.set i d) rest:=by
 unfold Cel at h ⊢
 have hj2:i<(xs.map (Value.int k)).length:=by simpa using hi
 simp[World.setCell,Array.getElem?_modify,h,List.map_set,List.set_append_left _ _ hj2]
theorem Cel.below {B:Nat} (h:Cel w g e k xs rest) (hb:Below B w w') (hg:g<B):Cel w' g e k xs rest:=(hb.block g hg).trans h
theorem Cel.drew (h:Cel w g e k xs rest):Cel w.drew g e k xs rest:=h
theorem Cel.arr (h:Cel w g e k xs rest) (he:e=tyOf k:=by rfl):Arr w (some ⟨g,0,none⟩) k xs:=fun _=>⟨g,0,rfl,⟨_,_,by rw[<-he];exact h⟩,fun j hj=>by rw[Nat.zero_add];exact h.cell hj⟩
end
theorem OwnI.cel {w:World} {base:Nat} {e:TypeId} {k:IntKind} {v:Value} {xs:List Int} (h:OwnI w base e k v xs) (h0:0<xs.length):
  ∃g c rest,v=.slice (some ⟨g,0,none⟩) xs.length c/\base<=g/\xs.length<=c/\c<=maxLen/\Cel w g e k xs rest:=by
 rcases h.2 with ⟨hv,h0⟩|⟨g,cap,cur,hv,hg,hh,hc,hm,hs,ht⟩
 ·omega
 ·refine⟨g,cap,cur.toList.drop xs.length,hv,hg,hc,hm,?_⟩
  unfold Cel
  rw[hh,<-ht,Nat.mul_one,List.take_append_drop]
def zdo (xs zs:List Int) (k:Nat):Prop:=
 zs.length=xs.length/\∀m,m<xs.length->zs.getD m 0=if m<k\/xs.length<=m+k then xs.getD (xs.length-1-m) 0 else xs.getD m 0
theorem zdp (xs:List Int):zdo xs xs 0:=⟨rfl,fun m hm=>by rw[if_neg (by omega)]⟩
theorem zdO {xs zs:List Int} {k:Nat} (h:zdo xs zs k) (hk:xs.length<=2*k+1):zs=xs.reverse:=by
 obtain⟨h1,h2⟩:=h
 apply List.ext_getElem (by simp[h1])
 intro i hi hi'
 have hx:i<xs.length:=by omega
 have:=h2 i hx
 rw[List.getElem_reverse]
 have e1:zs.getD i 0=zs[i]:=by simp[List.getD,hi]
 rw[e1] at this
 rw[this]
 split
 ·simp[List.getD,show xs.length-1-i<xs.length by omega]
 ·have:xs.length-1-i=i:=by omega
  simp[List.getD,hx,this]
theorem zdq {xs zs:List Int} {k:Nat} (h:zdo xs zs k) (hk:2*k+1<xs.length):
  zdo xs ((zs.set k (zs.getD (xs.length-1-k) 0)).set (xs.length-1-k) (zs.getD k 0)) (k+1):=by
 obtain⟨h1,h2⟩:=h
 refine⟨by simp[h1],fun m hm=>?_⟩
 have ha:=h2 k (by omega)
 have hb:=h2 (xs.length-1-k) (by omega)
 rw[if_neg (by omega)] at ha hb
 by_cases e1:m=xs.length-1-k
 ·subst e1
  rw[za0 (by simp[h1];omega),ha,if_pos (by omega)]
  rw[show xs.length-1-(xs.length-1-k)=k by omega]
 ·rw[zaZ (fun e=>e1 e.symm)]
  by_cases e2:m=k
  ·subst e2
   rw[za0 (by rw[h1];omega),hb,if_pos (by omega)]
  ·rw[zaZ (fun e=>e2 e.symm),h2 m hm]
   by_cases c:m<k\/xs.length<=m+k
   ·rw[if_pos c,if_pos (by omega)]
   ·rw[if_neg c,if_neg (by omega)]
theorem zj7 (w:World) (g c:Nat) (xs:List Int) (rest:List Value) (h0:0<xs.length) (hc:xs.length<=c) (hm:c<=maxLen) (h:Cel w g 5 .u8 xs rest):
  Calls Tryz.prog 178 #[.slice (some ⟨g,0,none⟩) xs.length c] w (Ret (fun v w'=>v=.tuple #[]/\Cel w' g 5 .u8 xs.reverse rest/\w.grownBy w' (some g)/\w'.heap.size=w.heap.size)):=by
 unfold maxLen at hm
 have HC:=hide h;clear h
 go_enter Tryz.func178,Tryz.ntmps178
 go_wp2
 go_loopw [2,3] (fun s2 s3 wr=>∃(k j:Nat) (zs:List Int),2*k<=xs.length/\k+j+1=xs.length/\s2=.int .i64 k/\s3=.int .i64 j/\zdo xs zs k/\Cel wr g 5 .u8 zs rest/\w.grownBy wr (some g)/\wr.heap.size=w.heap.size) (fun s2 _ _=>xs.length-(intOf s2).toNat)
 case atStart=>exact⟨0,xs.length-1,xs,by omega,by omega,rfl,by congr 1;omega,zdp xs,HC.out,⟨rfl,rfl,rfl,nr _,fun _ _ _=>rfl⟩,rfl⟩
 case round=>
  obtain⟨k,j,zs,hk,hj,rfl,rfl,hrev,hcel,hgr,hsz⟩:=hrel
  have hzl:=hrev.1
  by_cases hlt:k<j
  ·have ci:=hcel.cell (j:=k) (by omega)
   have cj:=hcel.cell (j:=j) (by omega)
   have fi:=hcel.frozen k
   have fj:=hcel.frozen j
   obtain⟨x,hx⟩:∃x,x=zs.getD k 0:=⟨_,rfl⟩
   obtain⟨y,hy⟩:∃y,y=zs.getD j 0:=⟨_,rfl⟩
   rw[<-hx] at ci
   rw[<-hy] at cj
   have hne:¬k=j:=by omega
   have hkl:k<xs.length:=by omega
   have hjl:j<xs.length:=by omega
   have HH:=hide (ai hrev (ai hx (ai hy (ai hcel (ai hgr hsz)))));clear hrev hx hy hcel hgr hsz
   go_wp2
   go_region
   go_wp2
   go_roundw
   case rel=>
    obtain⟨hrev,hx,hy,hcel,hgr,hsz⟩:=HH.out
    refine⟨k+1,j-1,(zs.set k y).set j x,by omega,by omega,by go_num,by go_num,?_,?_,?_,?_⟩
    ·have:=zdq hrev (by omega)
     rw[show xs.length-1-k=j by omega,<-hx,<-hy] at this
     exact this
    ·exact((hcel.set_ y (by omega)).set_ x (by simp;omega)).drew
    ·exact⟨hgr.os,hgr.tape,hgr.output,by simpa using hgr.size,fun b hb hne=>by
      have e1:g≠b:=by intro e;exact hne (by rw[e])
      have:=hgr.block b hb hne
      rw[<-this]
      simp[World.setCell,World.drew,Array.getElem?_modify,e1]⟩
    ·simpa using hsz
   case measure=>simp[intOf];omega
  ·have HH:=hide (ai hrev (ai hcel (ai hgr hsz)));clear hrev hcel hgr hsz
   go_wp2
   go_end0
   obtain⟨hrev,hcel,hgr,hsz⟩:=HH.out
   rw[zdO hrev (by omega)] at hcel
   exact⟨_,rfl,rfl,hcel,hgr,hsz⟩
def cellsL (us:List Value):List Value:=us.flatMap fun u=>u.cells.toList
theorem zdE {us:List Value} {sz:Nat} (h:∀u∈us,u.cells.size=sz):(cellsL us).length=us.length*sz:=by
 unfold cellsL
 induction us with
 | nil=>simp
 | cons u us ih=>
  rw[List.flatMap_cons,List.length_append,ih (fun x hx=>h x (List.mem_cons_of_mem _ hx)),Array.length_toList,h u (List.mem_cons_self ..),List.length_cons,Nat.succ_mul,Nat.add_comm]
theorem ze3 {us:List Value} {sz:Nat} (h:∀u∈us,u.cells.size=sz):∀(i:Nat) (u:Value),us[i]?=some u->∀j,j<sz->(cellsL us)[i*sz+j]?=some (u.cells.getD j undef):=by
 induction us with
 | nil=>intro i u hi;simp at hi
 | cons a us ih=>
  intro i u hi j hj
  have ha:=h a (List.mem_cons_self ..)
  unfold cellsL
  rw[List.flatMap_cons]
  cases i with
  | zero=>
   simp at hi
   subst hi
   rw[Nat.zero_mul,Nat.zero_add,List.getElem?_append_left (by rw[Array.length_toList];omega)]
   simp[Array.getD,show j<a.cells.size by omega]
  | succ i=>
   rw[List.getElem?_append_right (by rw[Array.length_toList,ha,Nat.succ_mul];omega),Array.length_toList,ha,show (i+1)*sz+j-sz=i*sz+j by rw[Nat.succ_mul];omega]
   exact ih (fun x hx=>h x (List.mem_cons_of_mem _ hx)) i u (by simpa using hi) j hj
theorem zck (us vs:List Value):cellsL (us++vs)=cellsL us++cellsL vs:=by unfold cellsL;rw[List.flatMap_append]
theorem ze4 (u:Value):cellsL [u]=u.cells.toList:=by simp[cellsL]
def ziy (w:World) (b o:Nat) (u:Value):Prop:=∀j,j<u.cells.size->w.cell? ⟨b,o+j,none⟩=some (u.cells.getD j undef)
def zx {α:Type} (T:TypeId) (sz:Nat) (R:World->Value->α->Prop) (w:World) (v:Value) (xs:List α):Prop:=
 ∃A c,v=.slice A xs.length c/\xs.length<=c/\c<=maxLen/\(0<xs.length->∃b o,A=some ⟨b,o,none⟩/\Typed w b T/\∀(i:Nat) (x:α),xs[i]?=some x->∃u,u.cells.size=sz/\ziy w b (o+i*sz) u/\R w u x)
def OwnG {α:Type} (T:TypeId) (sz:Nat) (R:World->Value->α->Prop) (w:World) (base:Nat) (v:Value) (xs:List α):Prop:=
 ∃us:List Value,us.length=xs.length/\w.ownsRow base T sz v xs.length (cellsL us)/\(∀u∈us,u.cells.size=sz)/\∀(i:Nat) (u:Value) (x:α),us[i]?=some u->xs[i]?=some x->R w u x
theorem OwnG.nil {α:Type} (T:TypeId) (sz:Nat) (R:World->Value->α->Prop) (w:World) (base:Nat):OwnG T sz R w base (.slice none 0 0) []:=
 ⟨[],rfl,by have:=World.ownsRow_nil w base T sz;simpa[cellsL] using this,fun u h=>by simp at h,fun i u x h=>by simp at h⟩
theorem OwnG.lst {α:Type} {T:TypeId} {sz:Nat} {R:World->Value->α->Prop} {w:World} {base:Nat} {v:Value} {xs:List α} (h:OwnG T sz R w base v xs):zx T sz R w v xs:=by
 obtain⟨us,hl,hown,hs,hR⟩:=h
 rcases hown.2 with ⟨hv,h0⟩|⟨g,cap,cur,hv,hbg,hg,hc,hm,hcs,ht⟩
 ·exact⟨none,0,by rw[hv,h0],by omega,by simp[maxLen],fun hx=>by omega⟩
 ·refine⟨_,cap,hv,hc,hm,fun _=>⟨g,0,rfl,⟨cur,_,hg⟩,fun i x hx=>?_⟩⟩
  have hi:i<us.length:=by rw[hl];exact(List.getElem?_eq_some_iff.1 hx).1
  have hu:us[i]?=some us[i]:=List.getElem?_eq_getElem hi
  refine⟨us[i],hs _ (List.getElem_mem hi),fun j hj=>?_,hR i _ x hu hx⟩
  rw[hs _ (List.getElem_mem hi)] at hj
  have e:=ze3 hs i _ hu j hj
  rw[<-ht] at e
  have hlt:i*sz+j<xs.length*sz:=by
   have:=Nat.mul_le_mul_right sz (show i+1<=xs.length by omega)
   rw[Nat.succ_mul] at this;omega
  rw[List.getElem?_take_of_lt hlt] at e
  show (w.cell? ⟨g,0+i*sz+j,none⟩)=_
  unfold World.cell?
  simp only[hg]
  simpa using e
theorem OwnG.len {α:Type} {T:TypeId} {sz:Nat} {R:World->Value->α->Prop} {w:World} {base:Nat} {v:Value} {xs:List α} (h:OwnG T sz R w base v xs):∃A c,v=.slice A xs.length c/\xs.length<=c/\c<=maxLen:=by
 obtain⟨A,c,e,h1,h2,_⟩:=h.lst
 exact⟨A,c,e,h1,h2⟩
theorem OwnG.lt {α:Type} {T:TypeId} {sz:Nat} {R:World->Value->α->Prop} {w:World} {base:Nat} {v:Value} {xs:List α} (h:OwnG T sz R w base v xs) (g:Nat) (hg:v.ownBlock=some g):base<=g/\g<w.heap.size/\Typed w g T:=by
 obtain⟨us,hl,hown,hs,hR⟩:=h
 have h1:=hown.lt g hg
 refine⟨h1.1,h1.2,?_⟩
 rcases hown.2 with ⟨hv,h0⟩|⟨g',cap,cur,hv,hbg,hgh,_⟩
 ·rw[hv] at hg;cases hg
 ·rw[hv] at hg
  obtain rfl:g'=g:=by injection hg
  exact⟨cur,_,hgh⟩
def Kp (T:TypeId) (w w':World):Prop:=∀b,b<w.heap.size->¬Typed w b T->w'.heap[b]?=w.heap[b]?
theorem Kp.typed {T e:TypeId} {w w':World} (h:Kp T w w') {b:Nat} (hb:Typed w b e) (hne:e≠T):w'.heap[b]?=w.heap[b]?:=
 h b hb.lt (fun g=>hb.ne g hne rfl)
def StB {α:Type} (R:World->Value->α->Prop):Prop:=∀w w' u x,Below w.heap.size w w'->R w u x->R w' u x
def StK {α:Type} (T:TypeId) (R:World->Value->α->Prop):Prop:=∀w w' u x,Kp T w w'->R w u x->R w' u x
theorem OwnG.turn {α:Type} {T:TypeId} {sz:Nat} {R R':World->Value->α->Prop} {w w':World} {base:Nat} {v:Value} {xs:List α} (h:OwnG T sz R w base v xs) (hR:∀u x,R w u x->R' w' u x)
  (hb:∀g,v.ownBlock=some g->w'.heap[g]?=w.heap[g]?):OwnG T sz R' w' base v xs:=by
 obtain⟨us,hl,hown,hs,h1⟩:=h
 refine⟨us,hl,⟨hown.1,?_⟩,hs,fun i u x hu hx=>hR u x (h1 i u x hu hx)⟩
 rcases hown.2 with h2|⟨g,cap,cur,hv,hg,hh,r⟩
 ·exact .inl h2
 ·exact .inr ⟨g,cap,cur,hv,hg,by rw[hb g (by rw[hv];rfl)];exact hh,r⟩
theorem OwnG.same {α:Type} {T:TypeId} {sz:Nat} {R:World->Value->α->Prop} {w w':World} {base:Nat} {v:Value} {xs:List α} (h:OwnG T sz R w base v xs) (hR:∀u x,R w u x->R w' u x)
  (hb:∀g,v.ownBlock=some g->w'.heap[g]?=w.heap[g]?):OwnG T sz R w' base v xs:=h.turn hR hb
theorem OwnG.below {α:Type} {T:TypeId} {sz:Nat} {R:World->Value->α->Prop} (hR:StB R) {w w':World} {base:Nat} {v:Value} {xs:List α} (h:OwnG T sz R w base v xs) (hb:Below w.heap.size w w'):OwnG T sz R w' base v xs:=
 h.same (fun u x=>hR w w' u x hb) (fun g hg=>hb.block g (h.lt g hg).2.1)
theorem OwnG.kp {α:Type} {T T':TypeId} {sz:Nat} {R:World->Value->α->Prop} (hR:StK T' R) {w w':World} {base:Nat} {v:Value} {xs:List α} (h:OwnG T sz R w base v xs) (hne:T≠T') (hk:Kp T' w w'):OwnG T sz R w' base v xs:=
 h.same (fun u x=>hR w w' u x hk) (fun g hg=>hk.typed (h.lt g hg).2.2 hne)
theorem zx.same {α:Type} {T:TypeId} {sz:Nat} {R:World->Value->α->Prop} {w w':World} {v:Value} {xs:List α} (h:zx T sz R w v xs) (hR:∀u x,R w u x->R w' u x)
  (hb:∀b o n c,v=.slice (some ⟨b,o,none⟩) n c->Typed w b T->w'.heap[b]?=w.heap[b]?):zx T sz R w' v xs:=by
 obtain⟨A,c,rfl,h1,h2,h3⟩:=h
 refine⟨A,c,rfl,h1,h2,fun hx=>?_⟩
 obtain⟨b,o,rfl,ht,hc⟩:=h3 hx
 have e:=hb b o _ _ rfl ht
 refine⟨b,o,rfl,ht.same e,fun i x hi=>?_⟩
 obtain⟨u,hs,hcu,hr⟩:=hc i x hi
 exact⟨u,hs,fun j hj=>(World.cell?_of_block (w:=w) e).trans (hcu j hj),hR u x hr⟩
theorem zx.below {α:Type} {T:TypeId} {sz:Nat} {R:World->Value->α->Prop} (hR:StB R) {w w':World} {v:Value} {xs:List α} (h:zx T sz R w v xs) (hb:Below w.heap.size w w'):zx T sz R w' v xs:=
 h.same (fun u x=>hR w w' u x hb) (fun b o n c _ ht=>hb.block b ht.lt)
theorem zx.kp {α:Type} {T T':TypeId} {sz:Nat} {R:World->Value->α->Prop} (hR:StK T' R) (hne:T≠T') {w w':World} {v:Value} {xs:List α} (h:zx T sz R w v xs) (hk:Kp T' w w'):zx T sz R w' v xs:=
 h.same (fun u x=>hR w w' u x hk) (fun b o n c _ ht=>hk.typed ht hne)
theorem zef {α:Type} {T:TypeId} {sz:Nat} {R:World->Value->α->Prop} (hR:StB R):StB (zx T sz R):=fun w w' u x hb h=>h.below hR hb
theorem zfm {α:Type} {T T':TypeId} {sz:Nat} {R:World->Value->α->Prop} (hR:StK T' R) (hne:T≠T'):StK T' (zx T sz R):=fun w w' u x hk h=>h.kp hR hne hk
theorem zx.imp {α:Type} {T:TypeId} {sz:Nat} {R R':World->Value->α->Prop} {w:World} {v:Value} {xs:List α} (h:zx T sz R w v xs) (hR:∀u x,x∈xs->R w u x->R' w u x):zx T sz R' w v xs:=by
 obtain⟨A,c,rfl,h1,h2,h3⟩:=h
 refine⟨A,c,rfl,h1,h2,fun hx=>?_⟩
 obtain⟨b,o,rfl,ht,hc⟩:=h3 hx
 exact⟨b,o,rfl,ht,fun i x hi=>by obtain⟨u,a1,a2,a3⟩:=hc i x hi;exact⟨u,a1,a2,hR u x (List.mem_of_getElem? hi) a3⟩⟩
theorem zx.nil {α:Type} (T:TypeId) (sz:Nat) (R:World->Value->α->Prop) (w:World):zx T sz R w (.slice none 0 0) []:=
 ⟨none,0,rfl,nr _,by simp[maxLen],fun h=>by simp at h⟩
structure ElT (P:Program) (t e:TypeId) (sz bytes:Nat):Prop where
 ht:P.underlying t=some (.slice e)
 hi:∃z,z.cells.size=sz/\(P.info? e).map (fun i=>(i.zero,i.size,i.bytes))=some (some z,sz,bytes)
 hs:0<sz
 hb:bytes<=128
structure zi7 (w w':World) (T:TypeId) (v:Value) (g:Nat):Prop where
 by_:w.grownBy w' v.ownBlock
 kp:Kp T w w'
 new:v.ownBlock=some g\/g=w.heap.size
 lt:g<w'.heap.size
theorem appG {P:Program} {t e:TypeId} {sz bytes:Nat} (S:ElT P t e sz bytes) {α:Type} {R:World->Value->α->Prop} (hRk:StK e R) (w:World) {ops:Array Oper} {rest:List Oper} {o:Oper} {a:Act} {Q:Exit->Act->World->Prop} (hgd:o.guard=none) (s x:Operand)
  (ho:o.op=.call { callee:=.builtin .append,args:=#[s,x],argTypes:=#[t,t] })
  (base:Nat) (v:Value) (xs:List α) (y:α) (hs:a.eval s=v) (hown:OwnG e sz R w base v xs)
  (ad:Addr) (c:Nat) (hx:a.eval x=.slice (some ad) 1 c) (u:Value) (hu:R w u y) (husz:u.cells.size=sz) (hcell:∀j,j<sz->w.cell? (ad.add j)=some (u.cells.getD j undef)) (hone:∀c∈u.cells.toList,c.oneCell'=true)
  (hlen:xs.length<=1000000000000) (hbase:base<=w.heap.size)
  (h:∀g c' w',OwnG e sz R w' base (.slice (some ⟨g,0,none⟩) (xs.length+1) c') (xs++[y])->Below base w w'->zi7 w w' e v g ->
   wpList P ops Q rest (a.put o.dst (.slice (some ⟨g,0,none⟩) (xs.length+1) c')) w'):wpList P ops Q (o::rest) a w:=by
 obtain⟨z,hz0,hz1⟩:=S.hi
 obtain⟨i,hi,hz,hsz,hby⟩:=info_parts hz1
 obtain⟨us,hl,hown1,husz1,hR⟩:=id hown
 have hb:=S.hb
 refine wpList_append_lies w hgd s x t ho base e i z sz bytes S.ht hi hz hsz hby hz0 S.hs v xs.length (cellsL us) hs hown1 ad 1 c u.cells.toList hx (by rw[Array.length_toList];omega) ?_ hone (by omega) ?_ ?_ hbase w.heap.size rfl ?_
 ·intro j d hj
  have hjl:j<sz:=by
   have:=(List.getElem?_eq_some_iff.1 hj).1
   rw[Array.length_toList] at this;omega
  rw[hcell j hjl]
  simp only[Array.getElem?_toList] at hj
  simp[Array.getD,show j<u.cells.size by omega] at hj ⊢
  exact hj
 ·unfold maxLen;omega
 ·have:=Nat.mul_le_mul_left (xs.length+1) hb;omega
 ·intro g cap w' hown' hg hor hlt
  have hbl:Below base w w':=(blr _ _).grown hg hbase fun g hgv=>(hown.lt g hgv).1
  have hkp:Kp e w w':=fun b hb hnt=>hg.block b hb (fun e'=>hnt (hown.lt b e'.symm).2.2)
  have hown2:OwnG e sz R w' base (.slice (some ⟨g,0,none⟩) (xs.length+1) cap) (xs++[y]):=by
   refine⟨us++[u],by simp[hl],?_,?_,?_⟩
   ·rw[zck,ze4,List.length_append,List.length_singleton];exact hown'
   ·intro d hd
    rcases List.mem_append.1 hd with hd|hd
    ·exact husz1 d hd
    ·rw[List.mem_singleton] at hd;rw[hd];exact husz
   ·intro j d y' hd hy'
    by_cases hj:j<us.length
    ·rw[List.getElem?_append_left hj] at hd
     rw[List.getElem?_append_left (by omega)] at hy'
     exact hRk w w' d y' hkp (hR j d y' hd hy')
    ·rw[List.getElem?_append_right (by omega)] at hd hy'
     have e1:j-us.length=0:=by have:=(List.getElem?_eq_some_iff.1 hd).1;simp at this;omega
     rw[e1] at hd
     rw[show j-xs.length=0 by omega] at hy'
     simp at hd hy'
     subst hd hy'
     exact hRk w w' u y hkp hu
  exact h g cap w' hown2 hbl ⟨hg,hkp,hor,hlt⟩
theorem za {w w':World} (h:Below w.heap.size w w') (o:Obj):Below w.heap.size w (w'.alloc o):=h.alloc h.size o
theorem zdP (w:World) (cs:Array Value) (e:TypeId) {B:Nat} (hB:w.heap.size=B) {u:Value} (hu:u.cells=cs) {sz:Nat} (hs:cs.size=sz) (j:Nat) (hj:j<sz):(w.alloc (.cells cs e)).cell? ((⟨B,0,none⟩:Addr).add j)=some (u.cells.getD j undef):=by
 subst hB
 have hh:=heap_alloc_new w (.cells cs e)
 have ea:(⟨w.heap.size,0,none⟩:Addr).add j=⟨w.heap.size,j,none⟩:=by unfold Addr.add;split <;> simp_all
 rw[ea,hu]
 unfold World.cell?
 simp only[hh]
 simp[Array.getD,show j<cs.size by omega]
theorem zaH (w:World) (x:Value) (hx:x.cells=#[x]) (e:TypeId) {B:Nat} (hB:w.heap.size=B) (j:Nat) (hj:j<1):(w.alloc (.cells #[x] e)).cell? ((⟨B,0,none⟩:Addr).add j)=some (x.cells.getD j undef):=
 zdP w #[x] e hB hx rfl j hj
theorem ze5 (w:World) (x y z:Value) (e:TypeId) {B:Nat} (hB:w.heap.size=B) (j:Nat) (hj:j<3):(w.alloc (.cells #[x,y,z] e)).cell? ((⟨B,0,none⟩:Addr).add j)=some ((Value.agg #[x,y,z]).cells.getD j undef):=
 zdP w #[x,y,z] e hB rfl rfl j hj
theorem zan (w:World) (x y z u:Value) (e:TypeId) {B:Nat} (hB:w.heap.size=B) (j:Nat) (hj:j<4):(w.alloc (.cells #[x,y,z,u] e)).cell? ((⟨B,0,none⟩:Addr).add j)=some ((Value.agg #[x,y,z,u]).cells.getD j undef):=
 zdP w #[x,y,z,u] e hB rfl rfl j hj
end Go.Proofs.YtpoahodnakhmiaaGreat
