import Derived.Test.YtpoahodnakhmiaaGreatEchIn
import Derived.WalkSpells
import Derived.Deep.AppendLies
namespace Go.Proofs.YtpoahodnakhmiaaGreat
set_option linter.unusedVariables false
set_option linter.unusedSimpArgs false
open Go.RowKit
def cellsAt (w:World) (b o n:Nat):List Value:=(List.range (n*3)).map fun j=>(w.cell? ⟨b,o+j,none⟩).getD undef
theorem zcV (w:World) (b o n j:Nat) (hj:j<n*3):(cellsAt w b o n)[j]?=some ((w.cell? ⟨b,o+j,none⟩).getD undef):=by
 simp[cellsAt,List.getElem?_map,List.getElem?_range,hj]
theorem zeB {w:World} {b o:Nat} {qs:List Rat} {L:Nat} (h:∀i,i<qs.length->At3 w b (o+i*3) (qs.getD i 0) L) {j:Nat} (hj:j<qs.length*3):
  ∃v,w.cell? ⟨b,o+j,none⟩=some v/\v.oneCell'=true:=by
 obtain⟨A1,n1,c1,A2,n2,c2,h0,h1,h2,_⟩:=h (j / 3) (by omega)
 rcases (show j%3=0\/j%3=1\/j%3=2 by omega) with e|e|e
 ·exact⟨_,by rw[show o+j=o+j / 3*3 by omega];exact h0,rfl⟩
 ·exact⟨_,by rw[show o+j=o+j / 3*3+1 by omega];exact h1,rfl⟩
 ·exact⟨_,by rw[show o+j=o+j / 3*3+2 by omega];exact h2,rfl⟩
theorem zi9 {w w':World} {b o g:Nat} {qs:List Rat} {L:Nat} (h:∀i,i<qs.length->At3 w b (o+i*3) (qs.getD i 0) L) (hk:Keeps w w') {cur:Array Value}
  (hg:w'.heap[g]?=some (.cells cur 43 (0,0))) (hc:cur.toList.take (qs.length*3)=cellsAt w b o qs.length):RowC w' g qs L:=by
 have hcell:∀j,j<qs.length*3->w'.cell? ⟨g,j,none⟩=w.cell? ⟨b,o+j,none⟩:=by
  intro j hj
  obtain⟨v,hv,_⟩:=zeB h hj
  have h1:=zcV w b o qs.length j hj
  rw[<-hc,List.getElem?_take,if_pos hj,hv] at h1
  have h2:cur[j]?=some v:=by simpa using h1
  rw[hv]
  simp[World.cell?,hg,h2]
 refine⟨⟨cur,hg⟩,fun i hi=>?_⟩
 obtain⟨A1,n1,c1,A2,n2,c2,h0,h1,h2,g1,g2⟩:=h i hi
 refine⟨A1,n1,c1,A2,n2,c2,?_,?_,?_,g1.keeps hk,g2.keeps hk⟩
 ·rw[hcell _ (by omega)];exact h0
 ·rw[hcell _ (by omega)];exact h1
 ·rw[hcell _ (by omega)];exact h2
theorem zfn:(Tryz.prog.info? 43).map (fun i=>(i.zero,i.size,i.bytes))=some (some (.agg #[.bool false,.slice none 0 0,.slice none 0 0]),3,56):=by kernel_rfl
theorem zmV (w:World) (v:Value) (qs:List Rat) (L:Nat) (h:RowV w v qs L) (h0:0<qs.length) (hl:qs.length<=1073741824):
  Calls Tryz.prog 205 #[v] w (Ret (fun u w'=>∃g,RV w' u g qs L/\w.heap.size<=g/\Below w.heap.size w w')):=by
 obtain⟨A,c,rfl,hc,hm,hx⟩:=h
 obtain⟨b,o,rfl,hat⟩:=hx h0
 have hbl:b<w.heap.size:=by
  obtain⟨_,_,_,_,_,_,e0,_⟩:=hat 0 h0
  exact zf e0
 have heq:∀w:World,(binOp .eql 30 (.slice (some ⟨b,o,none⟩) qs.length c) (.slice none 0 0)).run Tryz.prog w=.ok (.bool false) w:=fun w=>Lib.run_eql_slice_nil w _ _ _ _ _ _ _ Tryz.underlying30
 have hlc:(cellsAt w b o qs.length).length=qs.length*3:=by simp[cellsAt]
 have HH:=hide (ai hat (ai hlc (ai hc hm)));clear hat hlc hx hc hm
 go_enter Tryz.func205,Tryz.ntmps205
 have hb0:Below w.heap.size w (w.alloc (.cells #[] 43)):=(blr _ _).alloc (nr _) _
 have hown:(w.alloc (.cells #[] 43)).ownsRow w.heap.size 43 3 (.slice (some ⟨w.heap.size,0,none⟩) 0 0) 0 []:=⟨rfl,.inr ⟨w.heap.size,0,#[],rfl,nr _,heap_alloc_new w _,nr _,by simp[maxLen],rfl,rfl⟩⟩
 obtain⟨i,hi,hz,hsz,hby⟩:=info_parts zfn
 have HO:=hide hown;clear hown
 go_wp2_with (at_builtin;refine wpList_append_lies _ rfl _ _ 30 rfl w.heap.size 43 i (.agg #[.bool false,.slice none 0 0,.slice none 0 0]) 3 56 Tryz.underlying30 hi hz hsz hby rfl (by decide) _ 0 [] rfl HO.out ⟨b,o,none⟩ qs.length c (cellsAt w b o qs.length) rfl HH.out.2.1 ?_ ?_ h0 ?_ ?_ ?_ _ rfl ?_)
 ·intro j u hj
  have hjl:=(List.getElem?_eq_some_iff.1 hj).1
  rw[HH.out.2.1] at hjl
  rw[zcV _ _ _ _ _ hjl] at hj
  obtain⟨v,hv,_⟩:=zeB HH.out.1 hjl
  rw[hv] at hj
  rw[show (Addr.add ⟨b,o,none⟩ j)=⟨b,o+j,none⟩ by unfold Addr.add;split <;> simp_all]
  rw[hb0.cell (p:=⟨b,o+j,none⟩) hbl,hv,<-hj];rfl
 ·intro u hu
  obtain⟨j,hj⟩:=List.mem_iff_getElem?.1 hu
  have hjl:=(List.getElem?_eq_some_iff.1 hj).1
  rw[HH.out.2.1] at hjl
  rw[zcV _ _ _ _ _ hjl] at hj
  obtain⟨v,hv,h1⟩:=zeB HH.out.1 hjl
  rw[hv] at hj
  have hj:=Option.some.inj hj
  rw[<-hj];exact h1
 ·unfold maxLen;omega
 ·omega
 ·simp
 ·intro g cap w' hown' hg hor hlt
  have hk:Keeps w w':=by
   have h1:=Keeps.only hg (e:=43) ⟨_,_,heap_alloc_new w _⟩ (by decide)
   exact(Below.keeps hb0).trans h1
  have hb1:Below w.heap.size w w':=only_below hb0 hg (by simp) (nr _)
  have hown2:=hown'
  clear hown' hg hlt
  have HW:=hide (ai hk (ai hb1 (ai hown2 hor)));clear hk hb1 hown2 hor
  go_wp2
  go_ret
  obtain⟨hk,hb1,hown2,hor⟩:=HW.out
  rcases hown2.2 with ⟨_,h00⟩|⟨g',cap',cur,hv,hgb,hh,hcc,hmm,hss,htt⟩
  ·omega
  ·injection hv with e1 e2 e3
   injection e1 with e1
   injection e1 with e1
   subst e1 e3
   refine⟨_,rfl,g,⟨cap,by simp,by omega,hmm,zi9 HH.out.1 hk hh ?_⟩,hgb,hb1⟩
   exact htt
def RX (w:World) (v:Value) (g:Nat) (qs:List Rat) (L:Nat):Prop:=(∃A c,v=.slice A qs.length c)/\(0<qs.length->RV w v g qs L)
theorem zmW (w:World) (A:Option Addr) (c:Nat):
  Calls Tryz.prog 205 #[.slice A 0 c] w (Ret (fun u w'=>(∃A' c',u=.slice A' 0 c')/\Below w.heap.size w w')):=by
 have heq:∀w:World,(binOp .eql 30 (.slice A 0 c) (.slice none 0 0)).run Tryz.prog w=.ok (.bool A.isNone) w:=fun w=>Lib.run_eql_slice_nil w _ _ _ _ _ _ _ Tryz.underlying30
 cases A with
 | none=>
  go_enter Tryz.func205,Tryz.ntmps205
  go_wp2
  go_ret
  exact⟨_,rfl,⟨_,_,rfl⟩,blr _ _⟩
 | some a=>
  go_enter Tryz.func205,Tryz.ntmps205
  have hown:(w.alloc (.cells #[] 43)).ownsRow w.heap.size 43 3 (.slice (some ⟨w.heap.size,0,none⟩) 0 0) 0 []:=⟨rfl,.inr ⟨w.heap.size,0,#[],rfl,nr _,heap_alloc_new w _,nr _,by simp[maxLen],rfl,rfl⟩⟩
  obtain⟨i,hi,hz,hsz,hby⟩:=info_parts zfn
  have HO:=hide hown;clear hown
  go_wp2_with (at_builtin;refine wpList_append_own _ rfl _ _ 30 rfl w.heap.size 43 i (.agg #[.bool false,.slice none 0 0,.slice none 0 0]) 3 56 Tryz.underlying30 hi hz hsz hby rfl (by decide) _ 0 [] rfl HO.out a 0 c [] rfl rfl (fun j u h=>by simp at h) (fun u h=>by simp at h) (by simp[maxLen]) (by decide) (by simp) ?_;intro v' w' hown' hg' _)
  have hv:∃A' c',v'=.slice A' 0 c':=by
   rcases hown'.2 with ⟨h,_⟩|⟨g,cap,cur,h,_⟩
   ·exact⟨_,_,h⟩
   ·exact⟨_,_,h⟩
  have hb:Below w.heap.size w w':=((blr _ _).alloc (nr _) _).grown hg' (by simp) (fun k hk=>by
   have:w.heap.size=k:=by injection hk
   omega)
  have HB:=hide (ai hv hb)
  clear hown' hg' hv hb
  go_wp2
  refine bodyPost_ret (v:=v') ?_ rfl ?_
  ·simp[results,Tryz.results205,go_sem]
  exact⟨_,rfl,HB.out⟩
theorem ziz (w:World) (v:Value) (qs:List Rat) (L:Nat) (h:RowV w v qs L) (hl:qs.length<=1073741824):
  Calls Tryz.prog 205 #[v] w (Ret (fun u w'=>∃g,RX w' u g qs L/\(0<qs.length->w.heap.size<=g)/\Below w.heap.size w w')):=by
 by_cases h0:0<qs.length
 ·refine(zmV w v qs L h h0 hl).mono ?_
  rintro e w' ⟨u,rfl,g,h1,h2,h3⟩
  obtain⟨c,hc,_⟩:=id h1
  exact⟨_,rfl,g,⟨⟨_,c,hc⟩,fun _=>h1⟩,fun _=>h2,h3⟩
 ·obtain⟨A,c,rfl,_⟩:=h
  rw[show qs.length=0 by omega]
  refine(zmW w A c).mono ?_
  rintro e w' ⟨u,rfl,⟨A',c',hu⟩,h3⟩
  exact⟨_,rfl,0,⟨⟨A',c',by rw[hu,show qs.length=0 by omega]⟩,fun h=>absurd h h0⟩,fun h=>absurd h (by omega),h3⟩
structure zaB (w:World) (base M k:Nat) (vR vD:Value) (vs us:List Value) (gs hs:List Nat) (rows done:List (List Rat)) (L:Nat):Prop where
 bM:base<=M
 hM:w.heap[M]?=some (.cells #[vR,vD] 211 (0,0))
 oR:w.ownsRow base 30 1 vR k vs
 oD:w.ownsRow base 30 1 vD k us
 sep:∀b,vR.ownBlock=some b->vD.ownBlock≠some b
 n4:gs.length=k
 n5:hs.length=k
 rok:∀i,i<k->(0<(rows.getD i []).length->base<=gs.getD i 0)/\RX w (vs.getD i undef) (gs.getD i 0) (rows.getD i []) L
 dok:∀i,i<k->base<=hs.getD i 0/\RV w (us.getD i undef) (hs.getD i 0) (done.getD i []) L
 dg:∀i j,i<k->j<k->i≠j->0<(rows.getD i []).length->0<(rows.getD j []).length->gs.getD i 0≠gs.getD j 0
 dh:∀i j,i<k->j<k->i≠j->hs.getD i 0≠hs.getD j 0
 dgh:∀i j,i<k->j<k->0<(rows.getD i []).length->gs.getD i 0≠hs.getD j 0
theorem ownTyped {w:World} {base:Nat} {e:TypeId} {v:Value} {n:Nat} {xs:List Value} (h:w.ownsRow base e 1 v n xs):∀b,v.ownBlock=some b->Typed w b e:=by
 intro b hb
 rcases h.2 with ⟨h2,_⟩|⟨g,cap,cur,hv,hg,hh,r⟩
 ·subst h2;simp[Value.ownBlock] at hb
 ·subst hv;simp only[Value.ownBlock,Option.some.injEq] at hb;subst hb;exact⟨_,_,hh⟩
theorem zbO {w w':World} {base:Nat} {e:TypeId} {v:Value} {n:Nat} {xs:List Value} (h:w.ownsRow base e 1 v n xs) (hb:∀b,v.ownBlock=some b->w'.heap[b]?=w.heap[b]?):w'.ownsRow base e 1 v n xs:=by
 refine⟨h.1,?_⟩
 rcases h.2 with h2|⟨g,cap,cur,hv,hg,hh,r⟩
 ·exact .inl h2
 ·exact .inr ⟨g,cap,cur,hv,hg,(hb g (by rw[hv];rfl)).trans hh,r⟩
theorem zaq {w w':World} {base:Nat} {e:TypeId} {v:Value} {n:Nat} {xs:List Value} (h:w.ownsRow base e 1 v n xs) (hb:Below w.heap.size w w'):w'.ownsRow base e 1 v n xs:=
 zbO h fun b hv=>hb.block b (ownTyped h b hv).lt
theorem RV.lt {w:World} {v:Value} {g:Nat} {qs:List Rat} {L:Nat} (h:RV w v g qs L):g<w.heap.size:=by
 obtain⟨_,_,_,_,q⟩:=h;exact q.lt
theorem RV.typed {w:World} {v:Value} {g:Nat} {qs:List Rat} {L:Nat} (h:RV w v g qs L):Typed w g 43:=by
 obtain⟨_,_,_,_,⟨cs,q⟩,_⟩:=h;exact⟨cs,_,q⟩
theorem RV.below {w w':World} {v:Value} {g:Nat} {qs:List Rat} {L:Nat} (h:RV w v g qs L) (hb:Below w.heap.size w w'):RV w' v g qs L:=h.same (Below.keeps hb) (hb.block _ h.lt)
theorem RV.only {w w':World} {v:Value} {g:Nat} {qs:List Rat} {L:Nat} (h:RV w v g qs L) {r:Option Nat} {e:TypeId} (hg:w.grownBy w' r) (ht:∀b,r=some b->Typed w b e) (h1:e≠43) (h4:e≠tyOf .u32):RV w' v g qs L:=by
 have hb:∀b f,Typed w b f->e≠f->w'.heap[b]?=w.heap[b]?:=fun b f hf hne=>hg.block b hf.lt (by intro e';exact(ht b e'.symm).ne hf hne rfl)
 exact h.same (fun b hf=>hb b _ hf h4) (hb _ _ h.typed h1)
section
variable {w w':World} {base M k:Nat} {vR vD:Value} {vs us:List Value} {gs hs:List Nat} {rows done:List (List Rat)} {L:Nat}
theorem zaB.below (h:zaB w base M k vR vD vs us gs hs rows done L) (hb:Below w.heap.size w w'):zaB w' base M k vR vD vs us gs hs rows done L:=by
 refine⟨h.bM,(hb.block _ (lt_of_block h.hM)).trans h.hM,zaq h.oR hb,zaq h.oD hb,h.sep,h.n4,h.n5,?_,?_,h.dg,h.dh,h.dgh⟩
 ·intro i hi;obtain⟨q1,q2⟩:=h.rok i hi;exact⟨q1,q2.1,fun h0=>(q2.2 h0).below hb⟩
 ·intro i hi;obtain⟨q1,q2⟩:=h.dok i hi;exact⟨q1,q2.below hb⟩
theorem zaB.le (h:zaB w base M k vR vD vs us gs hs rows done L):base<=w.heap.size:=Nat.le_trans h.bM (Nat.le_of_lt (lt_of_block h.hM))
theorem zaB.m0 (h:zaB w base M k vR vD vs us gs hs rows done L):w.cell? ⟨M,0,none⟩=some vR:=by simp[World.cell?,h.hM]
theorem zaB.m1 (h:zaB w base M k vR vD vs us gs hs rows done L):w.cell? ⟨M,1,none⟩=some vD:=by simp[World.cell?,h.hM]
theorem zav {α:Type} (l:List α) (x d:α) (i:Nat):(l++[x]).getD i d=if i<l.length then l.getD i d else if i=l.length then x else d:=by
 simp only[List.getD]
 by_cases h:i<l.length
 ·rw[if_pos h,List.getElem?_append_left h]
 ·rw[if_neg h,List.getElem?_append_right (by omega)]
  by_cases h2:i=l.length
  ·subst h2;simp
  ·rw[if_neg h2,List.getElem?_eq_none (by simp;omega)];rfl
theorem zaB.step (h:zaB w base M k vR vD vs us gs hs rows done L) {w1 w2 w2' w3:World} {g g' r1 r2 c1 c2:Nat} {cv ov:Value} (hb1:Below w.heap.size w w1)
  (hc:RX w1 cv g (rows.getD k []) L) (hg:0<(rows.getD k []).length->w.heap.size<=g) (ho:RV w1 ov g' (done.getD k []) L) (hg':w.heap.size<=g') (hgg:0<(rows.getD k []).length->g≠g')
  (o1:w2.ownsRow base 30 1 (.slice (some ⟨r1,0,none⟩) (k+1) c1) (k+1) (vs++[cv])) (g1:w1.grownBy w2 vR.ownBlock) (hr1:vR.ownBlock=some r1\/r1=w1.heap.size)
  (hb2:Below w2.heap.size w2 w2')
  (o2:w3.ownsRow base 30 1 (.slice (some ⟨r2,0,none⟩) (k+1) c2) (k+1) (us++[ov])) (g2:w2'.grownBy w3 vD.ownBlock) (hr2:vD.ownBlock=some r2\/r2=w2'.heap.size):
  zaB ((w3.setCell ⟨M,0,none⟩ (.slice (some ⟨r1,0,none⟩) (k+1) c1)).setCell ⟨M,1,none⟩ (.slice (some ⟨r2,0,none⟩) (k+1) c2)) base M (k+1) (.slice (some ⟨r1,0,none⟩) (k+1) c1) (.slice (some ⟨r2,0,none⟩) (k+1) c2) (vs++[cv]) (us++[ov]) (gs++[g]) (hs++[g']) rows done L /\
  Below base w ((w3.setCell ⟨M,0,none⟩ (.slice (some ⟨r1,0,none⟩) (k+1) c1)).setCell ⟨M,1,none⟩ (.slice (some ⟨r2,0,none⟩) (k+1) c2)):=by
 have n1:vs.length=k:=by have:=h.oR.1;omega
 have n2:us.length=k:=by have:=h.oD.1;omega
 have h1:=h.below hb1
 have tM1:Typed w1 M 211:=⟨_,_,h1.hM⟩
 have s12:∀b f,Typed w1 b f->f≠30->w2.heap[b]?=w1.heap[b]?:=fun b f hf hne=>g1.block b hf.lt (by intro e';exact(ownTyped h1.oR b e'.symm).ne hf hne.symm rfl)
 have oD2:w2.ownsRow base 30 1 vD k us:=zbO h1.oD fun b hb=>g1.block b (ownTyped h1.oD b hb).lt (by intro e';exact h.sep b e'.symm hb)
 have oD2':=zaq oD2 hb2
 have s23:∀b f,Typed w2' b f->f≠30->w3.heap[b]?=w2'.heap[b]?:=fun b f hf hne=>g2.block b hf.lt (by intro e';exact(ownTyped oD2' b e'.symm).ne hf hne.symm rfl)
 have s13:∀b f,Typed w1 b f->f≠30->w3.heap[b]?=w1.heap[b]?:=by
  intro b f hf hne
  have e1:=s12 b f hf hne
  have t2:=hf.same e1
  have e2:=hb2.block b t2.lt
  have t3:=t2.same e2
  exact(s23 b f t3 hne).trans (e2.trans e1)
 have eM:=s13 M _ tM1 (by decide)
 have t1:Typed w2 r1 30:=ownTyped o1 r1 rfl
 have ner:r1≠r2:=by
  intro e
  subst e
  rcases hr2 with hr2|hr2
  ·rcases hr1 with hr1|hr1
   ·exact h.sep _ hr1 hr2
   ·have:=(ownTyped h1.oD _ hr2).lt;omega
  ·have:=t1.lt;have:=hb2.size;omega
 have e1r:w3.heap[r1]?=w2.heap[r1]?:=by
  have e2:=hb2.block r1 t1.lt
  have t2:=t1.same e2
  refine(g2.block r1 t2.lt ?_).trans e2
  intro e'
  rcases hr2 with hr2|hr2
  ·rw[hr2] at e';injection e' with e';exact ner e'
  ·rcases hr1 with hr1|hr1
   ·exact h.sep _ hr1 e'.symm
   ·have:=(ownTyped h1.oD _ e'.symm).lt;omega
 have o13:w3.ownsRow base 30 1 (.slice (some ⟨r1,0,none⟩) (k+1) c1) (k+1) (vs++[cv]):=zbO o1 fun b hb=>by
  simp only[Value.ownBlock,Option.some.injEq] at hb;subst hb;exact e1r
 obtain⟨w4,hw4⟩:∃w4,w4=(w3.setCell ⟨M,0,none⟩ (.slice (some ⟨r1,0,none⟩) (k+1) c1)).setCell ⟨M,1,none⟩ (.slice (some ⟨r2,0,none⟩) (k+1) c2):=⟨_,rfl⟩
 rw[<-hw4]
 have hg4:w3.grownBy w4 (some M):=by rw[hw4];exact zN (zp _ _ _ _) (zp _ _ _ _)
 have hM3:w3.heap[M]?=some (.cells #[vR,vD] 211 (0,0)):=eM.trans h1.hM
 have hM4:w4.heap[M]?=some (.cells #[.slice (some ⟨r1,0,none⟩) (k+1) c1,.slice (some ⟨r2,0,none⟩) (k+1) c2] 211 (0,0)):=by
  rw[hw4];simp[World.setCell,Array.getElem?_modify,hM3]
 have s34:∀b,Typed w3 b 30->w4.heap[b]?=w3.heap[b]?:=fun b hb=>hg4.block b hb.lt (by intro e';injection e' with e';exact(hb.ne ⟨_,_,hM3⟩ (by decide)) e')
 have rv:∀{v g qs},RV w1 v g qs L->RV w4 v g qs L:=by
  intro v g qs q
  have hk13:Keeps w1 w3:=fun b hb=>s13 b _ hb (by decide)
  have q3:RV w3 v g qs L:=q.same hk13 (s13 g _ q.typed (by decide))
  exact q3.only hg4 (e:=211) (fun b hb=>by injection hb with hb;rw[<-hb];exact⟨_,_,hM3⟩) (by decide) (by decide)
 have old:∀i,i<k->0<(rows.getD i []).length->gs.getD i 0<w.heap.size:=fun i hi h0=>((h.rok i hi).2.2 h0).lt
 have old':∀i,i<k->hs.getD i 0<w.heap.size:=fun i hi=>(h.dok i hi).2.lt
 constructor
 ·refine⟨h.bM,hM4,zbO o13 fun b hb=>s34 b (ownTyped o13 b hb),zbO o2 fun b hb=>s34 b (ownTyped o2 b hb),?_,by simp[h.n4],by simp[h.n5],?_,?_,?_,?_,?_⟩
  ·intro b hb hb'
   simp only[Value.ownBlock,Option.some.injEq] at hb hb'
   exact ner (hb.trans hb'.symm)
  ·intro i hi
   rw[zav,zav,n1,h.n4]
   by_cases e:i<k
   ·rw[if_pos e,if_pos e];obtain⟨q1,q2⟩:=h1.rok i e;exact⟨q1,q2.1,fun h0=>rv (q2.2 h0)⟩
   ·obtain rfl:i=k:=by omega
    rw[if_neg e,if_neg e,if_pos rfl,if_pos rfl];exact⟨fun h0=>Nat.le_trans h.le (hg h0),hc.1,fun h0=>rv (hc.2 h0)⟩
  ·intro i hi
   rw[zav,zav,n2,h.n5]
   by_cases e:i<k
   ·rw[if_pos e,if_pos e];obtain⟨q1,q2⟩:=h1.dok i e;exact⟨q1,rv q2⟩
   ·obtain rfl:i=k:=by omega
    rw[if_neg e,if_neg e,if_pos rfl,if_pos rfl];exact⟨Nat.le_trans h.le hg',rv ho⟩
  ·intro i j hi hj hne p1 p2
   rw[zav,zav,h.n4]
   by_cases e:i<k <;> by_cases e':j<k
   ·rw[if_pos e,if_pos e'];exact h.dg i j e e' hne p1 p2
   ·obtain rfl:j=k:=by omega
    rw[if_pos e,if_neg e',if_pos rfl];have:=old i e p1;have:=hg p2;omega
   ·obtain rfl:i=k:=by omega
    rw[if_neg e,if_pos rfl,if_pos e'];have:=old j e' p2;have:=hg p1;omega
   ·omega
  ·intro i j hi hj hne
   rw[zav,zav,h.n5]
   by_cases e:i<k <;> by_cases e':j<k
   ·rw[if_pos e,if_pos e'];exact h.dh i j e e' hne
   ·rw[if_pos e,if_neg e',if_pos (by omega)];have:=old' i e;omega
   ·rw[if_neg e,if_pos (by omega),if_pos e'];have:=old' j e';omega
   ·omega
  ·intro i j hi hj p1
   rw[zav,zav,h.n4,h.n5]
   by_cases e:i<k <;> by_cases e':j<k
   ·rw[if_pos e,if_pos e'];exact h.dgh i j e e' p1
   ·rw[if_pos e,if_neg e',if_pos (by omega)];have:=old i e p1;omega
   ·obtain rfl:i=k:=by omega
    rw[if_neg e,if_pos rfl,if_pos e'];have:=old' j e';have:=hg p1;omega
   ·obtain rfl:i=k:=by omega
    rw[if_neg e,if_pos rfl,if_neg e',if_pos (by omega)];exact hgg p1
 ·have bR:∀j,vR.ownBlock=some j->base<=j:=fun j hj=>by
   rcases h.oR.2 with ⟨h2,_⟩|⟨g,cap,cur,hv,hg,hh,r⟩
   ·rw[h2] at hj;simp[Value.ownBlock] at hj
   ·rw[hv] at hj;simp only[Value.ownBlock,Option.some.injEq] at hj;omega
  have bD:∀j,vD.ownBlock=some j->base<=j:=fun j hj=>by
   rcases h.oD.2 with ⟨h2,_⟩|⟨g,cap,cur,hv,hg,hh,r⟩
   ·rw[h2] at hj;simp[Value.ownBlock] at hj
   ·rw[hv] at hj;simp only[Value.ownBlock,Option.some.injEq] at hj;omega
  have b1:Below base w w1:=hb1.mono h.le
  have b2:=b1.grown g1 (Nat.le_trans h.le hb1.size) bR
  have b2':=b2.trans (hb2.mono (Nat.le_trans h.le b2.size))
  have b3:=b2'.grown g2 (Nat.le_trans h.le b2'.size) bD
  exact only_below b3 hg4 (Nat.le_trans h.le b3.size) h.bM
theorem zaV {w:World} {M:Nat} {a b:Value} {t:TypeId} (h:w.heap[M]?=some (.cells #[a,b] t (0,0))):
  w.cell? ⟨M,0,none⟩=some a/\w.cell? ⟨M,1,none⟩=some b/\w.frozen? ⟨M,0,none⟩=false/\w.frozen? ⟨M,1,none⟩=false:=by
 refine⟨?_,?_,?_,?_⟩
 ·simp[World.cell?,h]
 ·simp[World.cell?,h]
 ·simp[World.frozen?,h]
 ·simp[World.frozen?,h]
theorem zg {w:World} {M:Nat} {a b:Value} (h:w.cell? ⟨M,0,none⟩=some a/\w.cell? ⟨M,1,none⟩=some b/\w.frozen? ⟨M,0,none⟩=false/\w.frozen? ⟨M,1,none⟩=false) (o:Obj):
  (w.alloc o).cell? ⟨M,0,none⟩=some a/\(w.alloc o).cell? ⟨M,1,none⟩=some b/\(w.alloc o).frozen? ⟨M,0,none⟩=false/\(w.alloc o).frozen? ⟨M,1,none⟩=false:=by
 obtain⟨h0,h1,h2,h3⟩:=h
 have hb:Below w.heap.size w (w.alloc o):=(blr _ _).alloc (nr _) _
 have hl:M<w.heap.size:=zf h0
 exact⟨(hb.cell (by exact hl)).trans h0,(hb.cell (by exact hl)).trans h1,(hb.frozen (by exact hl)).trans h2,(hb.frozen (by exact hl)).trans h3⟩
theorem zB (w:World) (v:Value) (t:TypeId) {b:Nat} (hb:w.heap.size=b):(w.alloc (.cells #[v] t)).cell? ⟨b,0,none⟩=some v:=by
 subst hb;simp[World.cell?_alloc_new]
theorem za6 (w:World) (v:Value) (t:TypeId) (o:Obj) {b:Nat} (hb:w.heap.size=b):((w.alloc (.cells #[v] t)).alloc o).cell? ⟨b,0,none⟩=some v:=by
 have h:=zB w v t hb
 exact(((blr (w.alloc (.cells #[v] t)).heap.size _).alloc (nr _) o).cell (by exact zf h)).trans h
theorem zcP (w:World) (v:Value) (o:Obj) {b:Nat} (h:w.cell? ⟨b,0,none⟩=some v):(w.alloc o).cell? ⟨b,0,none⟩=some v:=
 (((blr w.heap.size _).alloc (nr _) o).cell (by exact zf h)).trans h
theorem zad {w:World} {v:Value} {b:Nat} (h:w.cell? ⟨b,0,none⟩=some v):∀j u,[v][j]?=some u->w.cell? ((⟨b,0,none⟩:Addr).add j)=some u:=by
 intro j u hj
 match j,hj with
 | 0,hj=>simp at hj;subst hj;simpa[Addr.add] using h
theorem zds {w w':World} {r:Option Nat} {n:Nat} (hg:w.grownBy w' r) (hr:∀b,r=some b->b<n):∀b v,w.cell? ⟨b,0,none⟩=some v->n<=b->w'.cell? ⟨b,0,none⟩=some v:=fun b v h hb=>
 (hg.cell_far ⟨b,0,none⟩ (by exact zf h) (by intro e;have:=hr b e.symm;omega)).trans h
def Ap1 (w w2:World) (base:Nat) (vR cv ov:Value) (vs:List Value) (g g' r1 c1 k:Nat) (row drow:List Rat) (L:Nat):Prop:=
 ∃w1,Below w.heap.size w w1/\RX w1 cv g row L/\(0<row.length->w.heap.size<=g)/\RV w1 ov g' drow L/\w1.grownBy w2 vR.ownBlock/\(vR.ownBlock=some r1\/r1=w1.heap.size)/\w2.ownsRow base 30 1 (.slice (some ⟨r1,0,none⟩) (k+1) c1) (k+1) (vs++[cv])
theorem zaB.ap1M (h:zaB w base M k vR vD vs us gs hs rows done L) {w2:World} {cv ov:Value} {g g' r1 c1:Nat} {row drow:List Rat} (a:Ap1 w w2 base vR cv ov vs g g' r1 c1 k row drow L):
  w2.heap[M]?=some (.cells #[vR,vD] 211 (0,0))/\w2.ownsRow base 30 1 vD k us/\w.heap.size<=w2.heap.size:=by
 obtain⟨w1,hb1,hc,hg,ho,g1,hr1,o1⟩:=a
 have h1:=h.below hb1
 refine⟨?_,zbO h1.oD fun b hb=>g1.block b (ownTyped h1.oD b hb).lt (by intro e';exact h.sep b e'.symm hb),Nat.le_trans hb1.size g1.size⟩
 rw[<-h1.hM]
 exact g1.block M (lt_of_block h1.hM) (by intro e';exact(ownTyped h1.oR M e'.symm).ne ⟨_,_,h1.hM⟩ (by decide) rfl)
def Ap2 (w w3:World) (base:Nat) (vR vD cv ov:Value) (vs us:List Value) (g g' r1 c1 r2 c2 k:Nat) (row drow:List Rat) (L:Nat):Prop:=
 ∃w2 w2',Ap1 w w2 base vR cv ov vs g g' r1 c1 k row drow L/\Below w2.heap.size w2 w2'/\w2'.grownBy w3 vD.ownBlock/\(vD.ownBlock=some r2\/r2=w2'.heap.size)/\w3.ownsRow base 30 1 (.slice (some ⟨r2,0,none⟩) (k+1) c2) (k+1) (us++[ov])
theorem zaB.ap2M (h:zaB w base M k vR vD vs us gs hs rows done L) {w3:World} {cv ov:Value} {g g' r1 c1 r2 c2:Nat} {row drow:List Rat} (a:Ap2 w w3 base vR vD cv ov vs us g g' r1 c1 r2 c2 k row drow L):
  w3.heap[M]?=some (.cells #[vR,vD] 211 (0,0)):=by
 obtain⟨w2,w2',a1,hb2,g2,hr2,o2⟩:=a
 obtain⟨hM,hO,_⟩:=h.ap1M a1
 have hM2:=(hb2.block _ (lt_of_block hM)).trans hM
 have hO2:=zaq hO hb2
 rw[<-hM2]
 exact g2.block M (lt_of_block hM2) (by intro e';exact(ownTyped hO2 M e'.symm).ne ⟨_,_,hM2⟩ (by decide) rfl)
theorem zaB.step2 (h:zaB w base M k vR vD vs us gs hs rows done L) {w3:World} {cv ov:Value} {g g' r1 c1 r2 c2:Nat} (hg':w.heap.size<=g') (hgg:0<(rows.getD k []).length->g≠g') (a:Ap2 w w3 base vR vD cv ov vs us g g' r1 c1 r2 c2 k (rows.getD k []) (done.getD k []) L):
  zaB ((w3.setCell ⟨M,0,none⟩ (.slice (some ⟨r1,0,none⟩) (k+1) c1)).setCell ⟨M,1,none⟩ (.slice (some ⟨r2,0,none⟩) (k+1) c2)) base M (k+1) (.slice (some ⟨r1,0,none⟩) (k+1) c1) (.slice (some ⟨r2,0,none⟩) (k+1) c2) (vs++[cv]) (us++[ov]) (gs++[g]) (hs++[g']) rows done L /\
  Below base w ((w3.setCell ⟨M,0,none⟩ (.slice (some ⟨r1,0,none⟩) (k+1) c1)).setCell ⟨M,1,none⟩ (.slice (some ⟨r2,0,none⟩) (k+1) c2)):=by
 obtain⟨w2,w2',⟨w1,hb1,hc,hg,ho,g1,hr1,o1⟩,hb2,g2,hr2,o2⟩:=a
 exact h.step hb1 hc hg ho hg' hgg o1 g1 hr1 hb2 o2 g2 hr2
def idRows (n:Nat):List (List Rat):=(List.range n).map fun i=>(List.replicate n 0).set i 1
theorem zbH (n:Nat):(idRows n).length=n:=by simp[idRows]
theorem zdt (n i:Nat) (hi:i<n):(idRows n).getD i []=(List.replicate n 0).set i 1:=by simp[idRows,List.getD,hi]
theorem zaB.mat (h:zaB w base M k vR vD vs us gs hs rows done L) (hk:0<k) (hr:rows.length=k) (hd:done.length=k) (hpos:∀i,i<k->0<(rows.getD i []).length):
  ∃R D cR cD rR rD,MatS w base M R D cR cD vs us rR rD gs hs rows done L:=by
 have n1:vs.length=k:=by have:=h.oR.1;omega
 have n2:us.length=k:=by have:=h.oD.1;omega
 rcases h.oR.2 with ⟨_,h0⟩|⟨R,cR,cur,hv,hg,hh,hc,hm,hs',ht⟩
 ·omega
 rcases h.oD.2 with ⟨_,h0⟩|⟨D,cD,cur',hv',hg',hh',hc',hm',hs'',ht'⟩
 ·omega
 subst hr
 refine⟨R,D,cR,cD,cur.toList.drop rows.length,cur'.toList.drop rows.length,h.bM,hg,hg',?_,?_,?_,?_,n1,n2,hd,h.n4,h.n5,hc,hm,hc',hm',fun i hi=>⟨(h.rok i hi).1 (hpos i hi),(h.rok i hi).2.2 (hpos i hi)⟩,h.dok,fun i j hi hj hne=>h.dg i j hi hj hne (hpos i hi) (hpos j hj),h.dh,fun i j hi hj=>h.dgh i j hi hj (hpos i hi)⟩
 ·rw[h.hM,hv,hv']
 ·rw[hh,<-ht,Nat.mul_one,List.take_append_drop]
 ·rw[hh',<-ht',Nat.mul_one,List.take_append_drop]
 ·intro e
  subst e
  exact h.sep R (by rw[hv];rfl) (by rw[hv'];rfl)
end
theorem zja (n:Nat):madeCells #[Value.bool false,.slice none 0 0,.slice none 0 0] (n*3)=((List.range (n*3)).map fun j=>if j%3=0 then Value.bool false else .slice none 0 0).toArray:=by
 apply Array.ext'
 simp only[madeCells,Array.toList_map,Array.toList_range]
 refine List.map_congr_left fun j _=>?_
 show #[Value.bool false,.slice none 0 0,.slice none 0 0][j%3]! = _
 rcases (show j%3=0\/j%3=1\/j%3=2 by omega) with e|e|e <;> rw[e] <;> rfl
theorem zcx (w:World) (n L:Nat):RowC (w.alloc (.cells (madeCells #[Value.bool false,.slice none 0 0,.slice none 0 0] (n*3)) 43)) w.heap.size (List.replicate n 0) L:=by
 have hh:=heap_alloc_new w (.cells (madeCells #[Value.bool false,.slice none 0 0,.slice none 0 0] (n*3)) 43)
 refine⟨⟨_,hh⟩,fun i hi=>?_⟩
 rw[List.length_replicate] at hi
 have e:(List.replicate n (0:Rat)).getD i 0=0:=by simp[List.getD,hi]
 rw[e]
 have hc:∀j,j<n*3->(w.alloc (.cells (madeCells #[Value.bool false,.slice none 0 0,.slice none 0 0] (n*3)) 43)).cell? ⟨w.heap.size,j,none⟩=some (if j%3=0 then Value.bool false else .slice none 0 0):=by
  intro j hj
  unfold World.cell?
  simp only[hh]
  rw[zja]
  simp[hj]
 refine⟨none,0,0,none,0,0,?_,?_,?_,NatV.nil _ _,NatV.nil _ _⟩
 ·rw[hc _ (by omega),if_pos (by omega)];rfl
 ·rw[hc _ (by omega),if_neg (by omega)]
 ·rw[hc _ (by omega),if_neg (by omega)]
theorem zcy (n:Nat) (hn:n<=1073741824) (w:World):
  (Instr.makeSlice 30 (.int .i64 (n:Int)) (.int .i64 (n:Int))).run Tryz.prog w=.ok (.slice (some ⟨w.heap.size,0,none⟩) n n) (w.alloc (.cells (madeCells #[Value.bool false,.slice none 0 0,.slice none 0 0] (n*3)) 43)):=by
 obtain⟨i,hi,hz,hsz,hby⟩:=info_parts zfn
 have hr:=run_make (P:=Tryz.prog) w 30 43 i _ Tryz.underlying30 hi hz .i64 .i64 n n (by omega) (by omega) (by rw[hby];omega) (by omega)
 simp only[Int.toNat_natCast,hsz] at hr
 exact hr
end Go.Proofs.YtpoahodnakhmiaaGreat
