import Derived.Test.YtpoahodnakhmiaaGreatMatQ
import Derived.Test.YtpoahodnakhmiaaGreatQStL
import Derived.Deep.Slices
set_option maxRecDepth 100000
namespace Go.Proofs.YtpoahodnakhmiaaGreat
set_option linter.unusedVariables false
set_option linter.unusedSimpArgs false
open Go.RowKit
theorem zx.news {α:Type} {T:TypeId} {sz:Nat} {R:World->Value->α->Prop} {w:World} {v:Value} {xs:List α} (h:zx T sz R w v xs) (h0:0<xs.length):
  ∃b o c us,v=.slice (some ⟨b,o,none⟩) xs.length c/\us.length=xs.length/\(∀u∈us,u.cells.size=sz)/\(∀(i:Nat) (u:Value) (x:α),us[i]?=some u->xs[i]?=some x->R w u x) /\
   ∀j u,(cellsL us)[j]?=some u->w.cell? ((⟨b,o,none⟩:Addr).add j)=some u:=by
 obtain⟨A,c,rfl,h1,h2,h3⟩:=h
 obtain⟨b,o,rfl,ht,hc⟩:=h3 h0
 have each:∀i,i<xs.length->∃u:Value,u.cells.size=sz/\ziy w b (o+i*sz) u/\∀x,xs[i]?=some x->R w u x:=by
  intro i hi
  obtain⟨u,a1,a2,a3⟩:=hc i _ (List.getElem?_eq_getElem hi)
  exact⟨u,a1,a2,fun x hx=>by rw[List.getElem?_eq_getElem hi] at hx;injection hx with hx;rw[<-hx];exact a3⟩
 obtain⟨U,hU⟩:=Deep.choose_lt each
 have hget:∀i u,((List.range xs.length).map U)[i]?=some u->i<xs.length/\u=U i:=by
  intro i u hu
  have hi:i<xs.length:=by have:=(List.getElem?_eq_some_iff.1 hu).1;simpa using this
  simp[hi] at hu
  exact⟨hi,hu.symm⟩
 have hsz:∀u∈(List.range xs.length).map U,u.cells.size=sz:=by
  intro u hu
  obtain⟨i,hi,rfl⟩:=List.mem_map.1 hu
  exact(hU i (List.mem_range.1 hi)).1
 refine⟨b,o,c,(List.range xs.length).map U,rfl,by simp,hsz,fun i u x hu hx=>?_,fun j u hj=>?_⟩
 ·obtain⟨hi,rfl⟩:=hget i u hu
  exact(hU i hi).2.2 x hx
 ·have hj1:j<(cellsL ((List.range xs.length).map U)).length:=(List.getElem?_eq_some_iff.1 hj).1
  rw[zdE hsz,List.length_map,List.length_range] at hj1
  have hs0:0<sz:=by
   rcases Nat.eq_zero_or_pos sz with h|h
   ·rw[h,Nat.mul_zero] at hj1;omega
   ·exact h
  have hi:j / sz<xs.length:=(Nat.div_lt_iff_lt_mul hs0).2 hj1
  have hr:j%sz<sz:=Nat.mod_lt _ hs0
  have he:j / sz*sz+j%sz=j:=by rw[Nat.mul_comm];exact Nat.div_add_mod j sz
  have e:=ze3 hsz (j / sz) (U (j / sz)) (by simp[hi]) (j%sz) hr
  rw[he,hj] at e
  have a1:=(hU _ hi).2.1 (j%sz) (by rw[(hU _ hi).1];exact hr)
  rw[Nat.add_assoc,he] at a1
  rw[e]
  have ea:(⟨b,o,none⟩:Addr).add j=⟨b,o+j,none⟩:=by unfold Addr.add;split <;> simp_all
  rw[ea];exact a1
theorem appL {P:Program} {t e:TypeId} {sz bytes:Nat} (S:ElT P t e sz bytes) {α:Type} {R:World->Value->α->Prop} (hRk:StK e R) (hR1:∀w u x,R w u x->∀c∈u.cells.toList,c.oneCell'=true) (w:World) {ops:Array Oper} {rest:List Oper} {o:Oper} {a:Act} {Q:Exit->Act->World->Prop} (hgd:o.guard=none) (s x:Operand)
  (ho:o.op=.call { callee:=.builtin .append,args:=#[s,x],argTypes:=#[t,t] })
  (base:Nat) (v:Value) (xs ys:List α) (hs:a.eval s=v) (hown:OwnG e sz R w base v xs)
  (T:TypeId) (v2:Value) (hx:a.eval x=v2) (hl2:zx T sz R w v2 ys) (hy0:0<ys.length)
  (hlen:xs.length+ys.length<=1000000000000) (hbase:base<=w.heap.size)
  (h:∀g c' w',OwnG e sz R w' base (.slice (some ⟨g,0,none⟩) (xs.length+ys.length) c') (xs++ys)->Below base w w'->zi7 w w' e v g ->
   wpList P ops Q rest (a.put o.dst (.slice (some ⟨g,0,none⟩) (xs.length+ys.length) c')) w'):wpList P ops Q (o::rest) a w:=by
 obtain⟨z,hz0,hz1⟩:=S.hi
 obtain⟨i,hi,hz,hsz,hby⟩:=info_parts hz1
 obtain⟨us,hl,hown1,husz1,hR⟩:=id hown
 obtain⟨b2,o2,c2,vs,rfl,hl3,hvs,hRv,hnew⟩:=hl2.news hy0
 have hb:=S.hb
 refine wpList_append_lies w hgd s x t ho base e i z sz bytes S.ht hi hz hsz hby hz0 S.hs v xs.length (cellsL us) hs hown1 _ ys.length c2 (cellsL vs) hx (by rw[zdE hvs,hl3]) hnew ?_ hy0 ?_ ?_ hbase w.heap.size rfl ?_
 ·intro c hc
  unfold cellsL at hc
  obtain⟨u,hu,hcu⟩:=List.mem_flatMap.1 hc
  obtain⟨j,hj,rfl⟩:=List.getElem_of_mem hu
  have hjy:j<ys.length:=by omega
  exact hR1 w _ _ (hRv j _ _ (List.getElem?_eq_getElem hj) (List.getElem?_eq_getElem hjy)) c hcu
 ·unfold maxLen;omega
 ·have:=Nat.mul_le_mul_left (xs.length+ys.length) hb;omega
 ·intro g cap w' hown' hg hor hlt
  have hbl:Below base w w':=(blr _ _).grown hg hbase fun g hgv=>(hown.lt g hgv).1
  have hkp:Kp e w w':=fun b hb hnt=>hg.block b hb (fun e'=>hnt (hown.lt b e'.symm).2.2)
  have hown2:OwnG e sz R w' base (.slice (some ⟨g,0,none⟩) (xs.length+ys.length) cap) (xs++ys):=by
   refine⟨us++vs,by simp[hl,hl3],?_,?_,?_⟩
   ·rw[zck,List.length_append];exact hown'
   ·intro d hd
    rcases List.mem_append.1 hd with hd|hd
    ·exact husz1 d hd
    ·exact hvs d hd
   ·intro j d y' hd hy'
    by_cases hj:j<us.length
    ·rw[List.getElem?_append_left hj] at hd
     rw[List.getElem?_append_left (by omega)] at hy'
     exact hRk w w' d y' hkp (hR j d y' hd hy')
    ·rw[List.getElem?_append_right (by omega)] at hd hy'
     rw[hl] at hd
     exact hRk w w' d y' hkp (hRv _ d y' hd hy')
  exact h g cap w' hown2 hbl ⟨hg,hkp,hor,hlt⟩
theorem zkQ (L:Nat) (w:World) (u:Value) (q:Rat) (h:QE L w u q):∀c∈u.cells.toList,c.oneCell'=true:=by
 obtain⟨s,A,n,c,B,m,d,rfl,-⟩:=QV.parts (show QV w u q L from h)
 exact zbI _ _ _ _ _ _ _ _
theorem OwnG.qrow {w:World} {base:Nat} {v:Value} {qs:List Rat} {L:Nat} (h:OwnG 55 4 (QE L) w base v qs) (h0:0<qs.length):
  ∃g c,v=.slice (some ⟨g,0,none⟩) qs.length c/\qs.length<=c/\c<=maxLen/\base<=g/\z9 w g qs L:=by
 have hl:=h.lst
 obtain⟨us,hl1,hown,hs,hR⟩:=h
 rcases hown.2 with ⟨hv,h1⟩|⟨g,cap,cur,hv,hbg,hg,hc,hm,hcs,ht⟩
 ·omega
 ·obtain⟨A,c,hv',_,_,h3⟩:=hl
  obtain⟨b,o,rfl,_,h4⟩:=h3 h0
  rw[hv] at hv'
  injection hv' with e1 e2 e3
  injection e1 with e1
  injection e1 with e1 e4
  subst e1 e4
  refine⟨g,cap,hv,hc,hm,hbg,⟨cur,hg⟩,fun i hi=>?_⟩
  obtain⟨u,a1,a2,a3⟩:=h4 i _ (List.getElem?_eq_getElem hi)
  obtain⟨s,A1,n1,c1,B1,m1,d1,rfl,-⟩:=QV.parts (show QV w u _ L from a3)
  have hj:=fun j (hj:j<4)=>a2 j (by rw[a1];exact hj)
  refine⟨s,A1,n1,c1,B1,m1,d1,?_,?_,?_,?_,?_⟩
  ·have:=hj 0 (by decide);rw[Nat.zero_add] at this;exact this
  ·have:=hj 1 (by decide);rw[Nat.zero_add] at this;exact this
  ·have:=hj 2 (by decide);rw[Nat.zero_add] at this;exact this
  ·have:=hj 3 (by decide);rw[Nat.zero_add] at this;exact this
  ·rw[show qs.getD i 0=qs[i] by simp[List.getD,hi]];exact a3
def RB (base L:Nat) (w:World) (u:Value) (x:List Rat×Nat):Prop:=
 ∃c,u=.slice (some ⟨x.2,0,none⟩) x.1.length c/\x.1.length<=c/\c<=maxLen/\base<=x.2/\z9 w x.2 x.1 L
theorem znU (base L:Nat):StB (RB base L):=by
 rintro w w' u x hb ⟨c,h1,h2,h3,h4,h5⟩
 exact⟨c,h1,h2,h3,h4,h5.below hb⟩
theorem znV (base L:Nat):StK 25 (RB base L):=by
 rintro w w' u x hk ⟨c,h1,h2,h3,h4,h5⟩
 exact⟨c,h1,h2,h3,h4,h5.same (fun b hb=>hk.typed hb (by decide)) (hk.typed h5.typed (by decide))⟩
theorem RB.cells {base L:Nat} {w:World} {u:Value} {x:List Rat×Nat} (h:RB base L w u x):u.cells=#[u]:=by
 obtain⟨c,rfl,_⟩:=h;rfl
theorem OwnG.matQ {w:World} {base L:Nat} {v:Value} {xs:List (List Rat×Nat)} (h:OwnG 25 1 (RB base L) w base v xs) (h0:0<xs.length)
  (hd:∀i j,i<xs.length->j<xs.length->i≠j->(xs.map (·.2)).getD i 0≠(xs.map (·.2)).getD j 0):
  ∃R cR vs rR,v=.slice (some ⟨R,0,none⟩) xs.length cR/\MatQ w base R cR vs rR (xs.map (·.2)) (xs.map (·.1)) L:=by
 obtain⟨us,hl1,hown,hs,hR⟩:=h
 rcases hown.2 with ⟨hv,h1⟩|⟨g,cap,cur,hv,hbg,hg,hc,hm,hcs,ht⟩
 ·omega
 ·have hRi:∀i (hi:i<xs.length),RB base L w (us.getD i undef) xs[i]:=by
   intro i hi
   have hu:us[i]?=some us[i]:=List.getElem?_eq_getElem (by omega)
   rw[show us.getD i undef=us[i] by simp[List.getD,hl1,hi]]
   exact hR i _ _ hu (List.getElem?_eq_getElem hi)
  have hcell:cellsL us=us:=by
   have hall:∀u∈us,u.cells=#[u]:=by
    intro u hu
    obtain⟨i,hi,rfl⟩:=List.getElem_of_mem hu
    have:=(hRi i (by omega)).cells
    rw[show us.getD i undef=us[i] by simp[List.getD,hi]] at this
    exact this
   clear hs hR hRi hl1 hown hg ht
   induction us with
   | nil=>rfl
   | cons u us ih=>
    unfold cellsL at ih ⊢
    rw[List.flatMap_cons,hall u (List.mem_cons_self ..),ih (fun x hx=>hall x (List.mem_cons_of_mem _ hx))]
    rfl
  rw[hcell,Nat.mul_one] at ht
  have hcur:(us++cur.toList.drop xs.length).toArray=cur:=by
   apply Array.toList_inj.1
   rw[<-ht]
   simp
  refine⟨g,cap,us,cur.toList.drop xs.length,hv,hbg,?_,?_,?_,?_,hm,?_,?_⟩
  ·unfold VCel;rw[hcur];exact hg
  ·rw[List.length_map];exact hl1
  ·rw[List.length_map,List.length_map]
  ·rw[List.length_map];exact hc
  ·intro i hi
   rw[List.length_map] at hi
   obtain⟨c,a1,a2,a3,a4,a5⟩:=hRi i hi
   have e1:(xs.map (·.2)).getD i 0=xs[i].2:=by simp[List.getD,hi]
   have e2:(xs.map (·.1)).getD i []=xs[i].1:=by simp[List.getD,hi]
   rw[e1,e2]
   exact⟨a4,⟨c,a1,a2,a3⟩,a5⟩
  ·intro i j hi hj hne
   rw[List.length_map] at hi hj
   exact hd i j hi hj hne
def stL:Nat->Nat->List (List Int)
 | 0,n=>[[(n:Int)]]
 | s+1,n=>(List.range (n+1)).flatMap fun k=>(stL s (n-k)).map fun r=>(k:Int)::r
def stP (s n k:Nat):List (List Int):=(List.range k).flatMap fun k=>(stL s (n-k)).map fun r=>(k:Int)::r
theorem zhs (s n k:Nat):stP s n (k+1)=stP s n k++(stL s (n-k)).map (fun r=>(k:Int)::r):=by
 unfold stP;rw[List.range_succ,List.flatMap_append];simp
theorem ziJ (s n:Nat):stP s n (n+1)=stL (s+1) n:=rfl
theorem zfx:∀(s n:Nat) (r:List Int),r∈stL s n->r.length=s+1
 | 0,n,r,h=>by simp[stL] at h;rw[h];rfl
 | s+1,n,r,h=>by
  simp only[stL,List.mem_flatMap,List.mem_map] at h
  obtain⟨k,-,r',h',rfl⟩:=h
  rw[List.length_cons,zfx s _ r' h']
theorem zfy (s n B:Nat) (h:∀k,(stL s (n-k)).length<=B):∀k,(stP s n k).length<=k*B
 | 0=>by simp[stP]
 | k+1=>by
  rw[zhs,List.length_append,List.length_map,Nat.succ_mul]
  have:=zfy s n B h k;have:=h k;omega
theorem zfz:∀(s n:Nat),n<=12->(stL s n).length<=13^s
 | 0,n,h=>by simp[stL]
 | s+1,n,h=>by
  rw[<-ziJ]
  have h1:=zfy s n (13^s) (fun k=>zfz s (n-k) (by omega)) (n+1)
  have h2:(n+1)*13^s<=13*13^s:=Nat.mul_le_mul_right _ (by omega)
  rw[Nat.pow_succ];omega
theorem zht (s n:Nat) (hs:s<=7) (hn:n<=12):(stL s n).length<=62748517:=by
 have h1:=zfz s n hn
 have h2:13^s<=13^7:=Nat.pow_le_pow_right (by omega) hs
 have h3:(13:Nat)^7=62748517:=by decide
 omega
theorem zl1 (s n k:Nat) (hs:s<=7) (hn:n<=12) (hk:k<=n+1):(stP s n k).length<=815730721:=by
 have h1:=zfy s n 62748517 (fun k=>zht s (n-k) hs (by omega)) k
 omega
def IntsT:World->Value->List Int->Prop:=zx 3 1 IntE
theorem zeI (T:TypeId):StK T IntE:=fun w w' u x hk h=>h
theorem za7:StB IntsT:=zef ziE
theorem zdZ {T:TypeId} (hT:3≠T):StK T IntsT:=zfm (zeI T) hT
theorem IntsT.ints {w:World} {v:Value} {xs:List Int} (h:IntsT w v xs):zao w v xs:=⟨_,h⟩
theorem Tryz.intE:ElT Tryz.prog 22 3 1 8:=⟨Tryz.underlying22,⟨.int .i64 0,rfl,by kernel_rfl⟩,by decide,by decide⟩
theorem Tryz.intsE:ElT Tryz.prog 23 22 1 24:=⟨Tryz.underlying23,⟨.slice none 0 0,rfl,by kernel_rfl⟩,by decide,by decide⟩
theorem ziK (w:World) (u:Value) (x:Int) (h:IntE w u x):∀c∈u.cells.toList,c.oneCell'=true:=by
 obtain⟨rfl,-⟩:=h
 intro c hc;simp[Value.cells] at hc;rw[hc];rfl
theorem zeJ {α:Type} {T:TypeId} {R:World->Value->α->Prop} (w:World) (u:Value) (x:α) (base:Nat) (hu:u.cells=#[u]) (hR:R (w.alloc (.cells #[u] T)) u x) (hb:base<=w.heap.size):
  OwnG T 1 R (w.alloc (.cells #[u] T)) base (.slice (some ⟨w.heap.size,0,none⟩) 1 1) [x]:=by
 refine⟨[u],rfl,?_,fun v hv=>?_,fun i v y hv hy=>?_⟩
 ·have:=World.ownsRow_lit (e:=T) (size:=1) w #[u] 1 hb (by simp[maxLen]) rfl
  simpa[cellsL,hu] using this
 ·simp at hv;rw[hv,hu];rfl
 ·have h0:i=0:=by
   rcases Nat.eq_zero_or_pos i with h|h
   ·exact h
   ·rw[List.getElem?_eq_none (by simp;omega)] at hv;cases hv
  subst h0
  simp at hv hy
  rw[<-hv,<-hy];exact hR
def Apart (u v:Value):Prop:=∀g,u.ownBlock=some g->v.ownBlock≠some g
set_option maxHeartbeats 8000000 in
theorem zhu:∀(s:Nat) (w:World) (n:Nat),s<=7->n<=12 ->
  Calls Tryz.prog 51 #[.int .i64 ((s:Int)+1),.int .i64 (n:Int)] w (Ret (fun v w'=>OwnG 22 1 IntsT w' w.heap.size v (stL s n)/\Below w.heap.size w w'))
 | 0,w,n,hs,hn=>by
  have b1:(((0:Nat):Int)+1 == 1)=true:=by decide
  have i1:IntE (w.alloc (.cells #[.int .i64 (n:Int)] 3)) (.int .i64 (n:Int)) (n:Int):=⟨rfl,by omega,by omega⟩
  have h1:=(zeJ (T:=3) w (.int .i64 (n:Int)) (n:Int) w.heap.size rfl i1 (nr _)).lst
  have hb1:Below w.heap.size w (w.alloc (.cells #[.int .i64 (n:Int)] 3)):=za (blr _ _) _
  have hb2:=za hb1 (.cells #[.slice (some ⟨w.heap.size,0,none⟩) 1 1] 22)
  have h2:=zeJ (T:=22) (R:=IntsT) (w.alloc (.cells #[.int .i64 (n:Int)] 3)) (.slice (some ⟨w.heap.size,0,none⟩) 1 1) [(n:Int)] w.heap.size rfl (za7 _ _ _ _ (za (blr _ _) _) h1) hb1.size
  have HR:=hide (ai h2 hb2)
  clear h1 h2 hb1 hb2 i1
  go_enter Tryz.func51,Tryz.ntmps51
  go_wp2
  refine bodyPost_ret (v:=.slice (some ⟨w.heap.size+1,0,none⟩) 1 1) ?_ rfl ?_
  ·simp[results,Tryz.results51,go_sem]
  refine⟨_,rfl,?_⟩
  simpa[stL] using HR.out
 | s+1,w,n,hs,hn=>by
  have ih:=fun w n hn=>zhu s w n (by omega) hn
  have IH:=hide ih
  clear ih
  have b0:((((s+1:Nat):Int)+1) == 1)=false:=by rw[beq_eq_false_iff_ne];omega
  have e0:IntKind.i64.wrap (((s+1:Nat):Int)+1-1)=(s:Int)+1:=by rw[show ((s+1:Nat):Int)+1-1=(s:Int)+1 by omega];exact IntWalk.i64_in _ (by omega)
  go_enter Tryz.func51,Tryz.ntmps51
  go_wp2_with fail
  go_loopw [5,6,7,8,9] (fun s5 s6 s7 s8 s9 wr=>∃k:Nat,k<=n+1/\s6=.int .i64 k/\OwnG 22 1 IntsT wr w.heap.size s5 (stP s n k)/\Below w.heap.size w wr) (fun _ s6 _ _ _ _=>n+1-(intOf s6).toNat)
  case atStart=>exact⟨0,Nat.zero_le _,rfl,OwnG.nil _ _ _ _ _,blr _ _⟩
  case round=>
   obtain⟨k,hk,rfl,hown,hbel⟩:=hrel
   obtain⟨wo,hwo⟩:∃wo,wo=wr:=⟨_,rfl⟩
   subst hwo
   by_cases hkn:k<=n
   ·have c1:(k:Int)<=(n:Int):=by omega
    have e1:IntKind.i64.wrap ((n:Int)-(k:Int))=((n-k:Nat):Int):=by rw[show (n:Int)-(k:Int)=((n-k:Nat):Int) by omega];exact IntWalk.i64_in _ (by omega)
    have HO:=hide (ai hown hbel)
    clear hown hbel
    go_wp2_with fail
    refine(IH.out wo (n-k) (by omega)).mono ?_
    rintro e w1 ⟨v1,rfl,hown1,hd1⟩
    obtain⟨A,c,rfl,hc1,hc2⟩:=hown1.len
    obtain⟨As,cs,rfl,hcs1,hcs2⟩:=HO.out.1.len
    have hap:Apart (.slice As (stP s n k).length cs) (.slice A (stL s (n-k)).length c):=fun g hg hg'=>by
     have h1:=HO.out.1.lt g hg
     have h2:=hown1.lt g hg'
     omega
    obtain⟨L,hL⟩:∃L,L=(stL s (n-k)).length:=⟨_,rfl⟩
    have hLm:L<=62748517:=by rw[hL];exact zht s _ (by omega) (by omega)
    have hpm:(stP s n k).length<=815730721:=zl1 s n k (by omega) hn hk
    have ho1:=HO.out.1.below za7 hd1
    have hbl1:=bnx HO.out.2 hd1
    have HI:=hide (ai hown1 (ai ho1 (ai hap hbl1)))
    have hw1:=hd1.size
    have hw0:=HO.out.2.size
    clear hown1 ho1 hap hbl1 hd1 HO
    rw[<-hL] at hc1 HI ⊢
    unfold maxLen at hc2 hcs2
    have HL:=hide (ai hL (ai hpm hLm))
    clear hL
    go_wp2_with fail
    go_loopw [5,8,9] (fun s5 s8 s9 wi=>∃i:Nat,i<=L/\s8=.int .i64 i/\OwnG 22 1 IntsT wi w.heap.size s5 (stP s n k++((stL s (n-k)).take i).map (fun r=>(k:Int)::r))/\OwnG 22 1 IntsT wi wo.heap.size (.slice A L c) (stL s (n-k))/\Apart s5 (.slice A L c)/\Below w.heap.size w wi) (fun _ s8 _ _=>L-(intOf s8).toNat)
    case atStart=>exact⟨0,Nat.zero_le _,rfl,by rw[List.take_zero,List.map_nil,List.append_nil];exact HI.out.2.1,HI.out.1,HI.out.2.2.1,HI.out.2.2.2⟩
    case round=>
     obtain⟨i,hi,rfl,hown,hrest,hap,hbel⟩:=hrel
     by_cases hiL:i<L
     ·have d1:(i:Int)<(L:Int):=by omega
      obtain⟨-,-,-,hat⟩:=hrest.lst.row_at
      obtain⟨b,o,eA,hat2⟩:=hat (by rw[<-HL.out.1];omega)
      obtain rfl:=eA
      obtain⟨A1,c1,hcell,hr⟩:=hat2 i (by rw[<-HL.out.1];exact hiL)
      have hlb:b<wr.heap.size:=zf hcell
      have hrl:((stL s (n-k)).getD i []).length=s+1:=zfx s (n-k) _ (by simp[List.getD,show i<(stL s (n-k)).length by rw[<-HL.out.1];exact hiL])
      obtain⟨r,hrr⟩:∃r,r=(stL s (n-k)).getD i []:=⟨_,rfl⟩
      rw[<-hrr] at hcell hr hrl
      rw[hrl] at hcell hr
      obtain⟨xs,hxs,hxl⟩:∃xs,xs=stP s n k++((stL s (n-k)).take i).map (fun r=>(k:Int)::r)/\xs.length<=900000000:=⟨_,rfl,by have:=HL.out.2;have:=List.length_take_le i (stL s (n-k));rw[List.length_append,List.length_map];omega⟩
      rw[<-hxs] at hown
      obtain⟨Ax,cx,es,-,-⟩:=hown.len
      subst es
      have hk9:IntE (wr.alloc (.cells #[.int .i64 (k:Int)] 3)) (.int .i64 (k:Int)) (k:Int):=⟨rfl,by omega,by omega⟩
      have hl1:=zeJ (T:=3) wr (.int .i64 (k:Int)) (k:Int) wr.heap.size rfl hk9 (nr _)
      have hr1:=za7 _ _ _ _ (za (blr _ _) (.cells #[.int .i64 (k:Int)] 3)) hr
      have hwr:=hbel.size
      have HX:=hide (ai hown (ai hrest (ai hap (ai hbel (ai hl1 (ai hr1 (ai hxs (ai hrr (ai hrl hxl)))))))))
      clear hown hrest hap hbel hl1 hr1 hxs hrr hr hat hat2 hk9
      go_wp2_with (first
       | (at_builtin;refine appL Tryz.intE (zeI _) ziK _ rfl _ _ rfl wr.heap.size _ [(k:Int)] r rfl HX.out.2.2.2.2.1 3 _ rfl HX.out.2.2.2.2.2.1 (by rw[HX.out.2.2.2.2.2.2.2.2.1];omega) (by rw[HX.out.2.2.2.2.2.2.2.2.1];simp;omega) (by simp) ?_;intro g5 c5 w5 hown5 hb5 hg5;
          have hb5':=(za (blr wr.heap.size wr) (.cells #[.int .i64 (k:Int)] 3)).trans hb5;
          have hl5:([(k:Int)]:List Int).length+r.length=s+2:=(by rw[HX.out.2.2.2.2.2.2.2.2.1];simp;omega);
          rw[hl5] at hown5 ⊢;
          have H5:=hide (ai hown5 hb5');clear hown5 hb5 hg5 hb5' hl5)
       | (at_builtin;refine appG Tryz.intsE (zdZ (by decide)) _ rfl _ _ rfl w.heap.size _ xs ((k:Int)::r) rfl (OwnG.below za7 HX.out.1 (za H5.out.2 _)) ⟨w5.heap.size,0,none⟩ _ rfl (.slice (some ⟨g5,0,none⟩) (s+2) c5) (za7 _ _ _ _ (za (blr _ _) _) (OwnG.lst H5.out.1)) rfl (zaH _ _ rfl _ rfl) (fun c hc=>(by simp[Value.cells] at hc;rw[hc];rfl)) (by have:=HX.out.2.2.2.2.2.2.2.2.2;omega) (by have:=H5.out.2.size;simp;omega) ?_;intro g6 c6 w6 hown6 hb6 hg6;
          have H6:=hide (ai hown6 (ai hb6 hg6));clear hown6 hb6 hg6))
      case roundEnd=>
       obtain⟨hown,hrest,hap,hbel,hl1,hr1,hxs,hrr,hrl2,hxl⟩:=HX.out
       have hb5:=za H5.out.2 (.cells #[.slice (some ⟨g5,0,none⟩) (s+2) c5] 22)
       have hrest5:=hrest.below za7 hb5
       have hrb:=(hrest5.lt b rfl).2.1
       refine⟨⟨i+1,by omega,by go_num,?_,?_,?_,?_⟩,by simp[intOf];omega⟩
       ·have h6:=H6.out.1
        rw[hxs] at h6
        have ht:(stL s (n-k)).take (i+1)=(stL s (n-k)).take i++[r]:=by
         rw[List.take_add_one,hrr]
         simp[List.getD,show i<(stL s (n-k)).length by rw[<-HL.out.1];exact hiL]
        rw[ht,List.map_append,<-List.append_assoc,hxs]
        exact h6
       ·refine hrest5.same (fun u x h=>zdZ (by decide) _ _ _ _ H6.out.2.2.kp h) (fun g hg=>H6.out.2.2.by_.block g ?_ (fun e=>?_))
        ·injection hg with hg;rw[<-hg];exact hrb
        ·exact hap g e.symm hg
       ·intro g hg hg'
        have hg:g6=g:=Option.some.inj hg
        have hg':b=g:=Option.some.inj hg'
        rcases H6.out.2.2.new with h|h
        ·exact hap g6 h (by show some b=some g6;rw[hg',<-hg])
        ·omega
       ·exact(hbel.trans (hb5.mono hwr)).trans H6.out.2.1
     ·obtain rfl:i=L:=by omega
      have d1:¬(i:Int)<(i:Int):=by omega
      rw[HL.out.1,List.take_length,<-zhs] at hown
      obtain⟨Ax,cx,es,-,-⟩:=hown.len
      subst es
      have HX:=hide (ai hown hbel)
      clear hown hbel hrest hap
      go_wp2_with fail
      go_roundw
      case rel=>
       repeat apply Exists.intro
       exact⟨show k+1<=n+1 by omega,by go_num,HX.out.1,HX.out.2⟩
      case measure=>simp[intOf];omega
   ·obtain rfl:k=n+1:=by omega
    have c1:¬(((n+1:Nat):Int)<=(n:Int)):=by omega
    rw[ziJ] at hown
    obtain⟨Ax,cx,es,-,-⟩:=hown.len
    subst es
    have HX:=hide (ai hown hbel)
    clear hown hbel
    go_wp2
    refine bodyPost_ret (v:=.slice Ax (stL (s+1) n).length cx) ?_ rfl ?_
    ·simp[results,Tryz.results51,go_sem]
    exact⟨_,rfl,HX.out⟩
noncomputable def refBody (n:Nat):Code:=zgM ((Tryz.f144.body.bind (zbr n)).getD .skip)
theorem KpI.trans {w w1 w2:World} (h:KpI w w1) (g:KpI w1 w2):KpI w w2:=fun b e=>(g b (e.same (h b e))).trans (h b e)
theorem zhv (rows:List (List Rat)) (a:Nat):rows.set a (rows.getD a [])=rows:=by
 by_cases h:a<rows.length
 ·rw[show rows.getD a []=rows[a] by simp[List.getD,h]];exact List.set_getElem_self h
 ·exact List.set_eq_of_length_le (by omega)
def RowI (w:World) (base R cR:Nat) (vs rR:List Value) (gs:List Nat) (rows:List (List Rat)) (new:List Rat) (L a B j:Nat) (w':World):Prop:=
 MatQ w' base R cR vs rR gs (rows.set a (mixL new (rows.getD a []) j)) L/\KpI w w'/\w'.heap[B]?=w.heap[B]?/\Below base w w'/\w.heap.size<=w'.heap.size
set_option maxRecDepth 1000000 in
set_option maxHeartbeats 4000000 in
theorem zkR (w:World) (base R cR:Nat) (vs rR:List Value) (gs:List Nat) (rows:List (List Rat)) (n wd a N B:Nat) (q:Rat) (s:Bool) (A2:Option Addr) (n2 c2':Nat) (B2:Option Addr) (m2 d2:Nat)
  (h:MatQ w base R cR vs rR gs rows (n / 9+1)) (hN:rows.length=N) (haN:a<N) (hwd:(rows.getD a []).length=wd) (hwb:wd<=1073741824) (hn:n<=1000000000) (hgB:gs.getD a 0≠B) (hRB:R≠B)
  (hB0:w.cell? ⟨B,0,none⟩=some (.bool s)) (hB1:w.cell? ⟨B,1,none⟩=some (.slice A2 n2 c2')) (hB2:w.cell? ⟨B,2,none⟩=some (.bool false)) (hB3:w.cell? ⟨B,3,none⟩=some (.slice B2 m2 d2))
  (hqB:QV w (.agg #[.bool s,.slice A2 n2 c2',.bool false,.slice B2 m2 d2]) q (n / 9+1)) (hq0:q≠0) (hfit:∀j,j<wd->FracQ n ((rows.getD a []).getD j 0 / q))
  (c0 c2 c3 c4 c6 c7 c9 c10 c11 c14 c15 c16 c17 c18 c19 c20 c21 c22 c23 c24 c25 c26 c27 c28 c29 c30 c31 c32 c33 c34 c35 c36 c37 c38 c39 c40 c41 c42 c43 c44 c45 c46 c47 c48 c49 c50 c51 c52 c53 c54 c55 c56 c57 c58 c59 c60 c61 c62 c63 c64 c65 c66 c67 c68 c69 c70 c71 c72 c73 c74 c75 c76 c77 c78 c79 c80 c81 c82 c83 c84 c85 c86 c87 c88 c89 c90 c91 c92 c93 c94 c95 c96 c97 c98 c99 c100 c101 c102 c103 c104 c105 c106 c107 c108 c109 c110 c111 c112 c113 c114 c115 c116 c117 c118 c119 c120 c121 c122 c123 c124 c125 c126 c127 c128 c129 c130 c131 c132 c133 c134 c135 c136 c137 c138 c139 c140 c141 c142 c143 c144 c145 c146 c147 c148 c149 c150 c151 c152 c153 c154 c155 c156 c157 c158 c159 c160 c161 c162 c163 c164 c165 c166 c167:Value) (Q:Exit->Act->World->Prop)
  (hexit:∀(u13 u88 u89 u90 u91 u92 u93 u94 u95 u96 u97 u98 u99 u100 u101 u102 u103 u104 u105 u106 u107:Value) (w':World),RowI w base R cR vs rR gs rows (divL (rows.getD a []) q) (n / 9+1) a B wd w'->Q (.exit 6) ⟨(c0::(.int .i64 wd:Value)::c2::c3::c4::(.slice (some ⟨R,0,none⟩) N cR:Value)::c6::c7::(.int .i64 a:Value)::c9::c10::c11::(.pointer (some ⟨B,0,none⟩):Value)::u13::c14::c15::c16::c17::c18::c19::c20::c21::c22::c23::c24::c25::c26::c27::c28::c29::c30::c31::c32::c33::c34::c35::c36::c37::c38::c39::c40::c41::c42::c43::c44::c45::c46::c47::c48::c49::c50::c51::c52::c53::c54::c55::c56::c57::c58::c59::c60::c61::c62::c63::c64::c65::c66::c67::c68::c69::c70::c71::c72::c73::c74::c75::c76::c77::c78::c79::c80::c81::c82::c83::c84::c85::c86::c87::u88::u89::u90::u91::u92::u93::u94::u95::u96::u97::u98::u99::u100::u101::u102::u103::u104::u105::u106::u107::c108::c109::c110::c111::c112::c113::c114::c115::c116::c117::c118::c119::c120::c121::c122::c123::c124::c125::c126::c127::c128::c129::c130::c131::c132::c133::c134::c135::c136::c137::c138::c139::c140::c141::c142::c143::c144::c145::c146::c147::c148::c149::c150::c151::c152::c153::c154::c155::c156::c157::c158::c159::c160::c161::c162::c163::c164::c165::c166::c167::[]).toArray,[]⟩ w'):
  Code.wp Tryz.prog (Code.loop (refBody 6)) Q ⟨(c0::(.int .i64 wd:Value)::c2::c3::c4::(.slice (some ⟨R,0,none⟩) N cR:Value)::c6::c7::(.int .i64 a:Value)::c9::c10::c11::(.pointer (some ⟨B,0,none⟩):Value)::(.int .i64 0:Value)::c14::c15::c16::c17::c18::c19::c20::c21::c22::c23::c24::c25::c26::c27::c28::c29::c30::c31::c32::c33::c34::c35::c36::c37::c38::c39::c40::c41::c42::c43::c44::c45::c46::c47::c48::c49::c50::c51::c52::c53::c54::c55::c56::c57::c58::c59::c60::c61::c62::c63::c64::c65::c66::c67::c68::c69::c70::c71::c72::c73::c74::c75::c76::c77::c78::c79::c80::c81::c82::c83::c84::c85::c86::c87::c88::c89::c90::c91::c92::c93::c94::c95::c96::c97::c98::c99::c100::c101::c102::c103::c104::c105::c106::c107::c108::c109::c110::c111::c112::c113::c114::c115::c116::c117::c118::c119::c120::c121::c122::c123::c124::c125::c126::c127::c128::c129::c130::c131::c132::c133::c134::c135::c136::c137::c138::c139::c140::c141::c142::c143::c144::c145::c146::c147::c148::c149::c150::c151::c152::c153::c154::c155::c156::c157::c158::c159::c160::c161::c162::c163::c164::c165::c166::c167::[]).toArray,[]⟩ w:=by
 conv=>arg 2;arg 1;whnf
 have HA:=hide (ai h (ai hN (ai hwd (ai hqB (ai hfit (ai hgB hRB))))))
 have HB:=hide (ai hB0 (ai hB1 (ai hB2 hB3)))
 have HE:=hide hexit
 have hlB:=zf hB0
 clear h hN hwd hqB hfit hgB hRB hexit hB0 hB1 hB2 hB3
 go_loopw [13] (fun s13 wr=>∃j:Nat,j<=wd/\s13=.int .i64 j/\RowI w base R cR vs rR gs rows (divL (rows.getD a []) q) (n / 9+1) a B j wr) (fun s13 _=>wd-(intOf s13).toNat)
 case atStart=>
  refine⟨0,Nat.zero_le _,rfl,?_,fun _ _=>rfl,rfl,blr _ _,nr _⟩
  rw[zfU,zhv]
  exact HA.out.1
 case round=>
  obtain⟨j,hj,rfl,hI⟩:=hrel
  by_cases hjl:j<wd
  ·have d1:decide (j<wd)=true:=decide_eq_true hjl
   obtain⟨hm,hk,hbk,hbel,hsz⟩:=hI
   have hlr:(rows.set a (mixL (divL (rows.getD a []) q) (rows.getD a []) j)).length=N:=(by rw[List.length_set];exact HA.out.2.1)
   have hdl:(divL (rows.getD a []) q).length=(rows.getD a []).length:=zak _ _
   have hra:(rows.set a (mixL (divL (rows.getD a []) q) (rows.getD a []) j)).getD a []=mixL (divL (rows.getD a []) q) (rows.getD a []) j:=(by simp[List.getD,HA.out.2.1,haN])
   obtain⟨g,cg,hg,r0,hc1,hc2,hrow,hbg⟩:=hm.rowAt (i:=a) (by rw[hlr];exact haN)
   rw[hra,zS hdl,HA.out.2.2.1] at r0 hc1
   rw[hra] at hrow
   obtain⟨s1,A1,n1,c1',B1,m1,d1',e0,e1,e2,e3,hqv⟩:=hrow.2 j (by rw[zS hdl,HA.out.2.2.1];exact hjl)
   rw[zdr hdl,if_neg (by omega)] at hqv
   have b0:=(World.cell?_of_block (w:=w) hbk).trans HB.out.1
   have b1:=(World.cell?_of_block (w:=w) hbk).trans HB.out.2.1
   have b2:=(World.cell?_of_block (w:=w) hbk).trans HB.out.2.2.1
   have b3:=(World.cell?_of_block (w:=w) hbk).trans HB.out.2.2.2
   have hqB:=HA.out.2.2.2.1.kpI hk
   have hov:=zc9 wr.drew _ _ _ _ _ (hqv.below (blr _ _).drew) (hqB.below (blr _ _).drew) (by omega) hq0
   have HO:=hide hov
   have HV:=hide (ai hm (ai hk (ai hbk (ai hbel (ai hsz (ai hg (ai hrow (ai hbg (ai hlr (ai hdl hra))))))))))
   have hS0:=ai r0 (ai e0 (ai e1 (ai e2 (ai e3 (ai b0 (ai b1 (ai b2 (ai b3 (ai (hrow.frozen (j*4)) (ai (hrow.frozen (j*4+1)) (ai (hrow.frozen (j*4+2)) (hrow.frozen (j*4+3)))))))))))))
   have hSk:∀w':World,Below wr.drew.heap.size wr.drew w'->w'.cell? ⟨R,a,none⟩=some (.slice (some ⟨g,0,none⟩) wd cg)/\w'.cell? ⟨g,j*4,none⟩=some (.bool s1)/\w'.cell? ⟨g,j*4+1,none⟩=some (.slice A1 n1 c1')/\w'.cell? ⟨g,j*4+2,none⟩=some (.bool false)/\w'.cell? ⟨g,j*4+3,none⟩=some (.slice B1 m1 d1')/\w'.cell? ⟨B,0,none⟩=some (.bool s)/\w'.cell? ⟨B,1,none⟩=some (.slice A2 n2 c2')/\w'.cell? ⟨B,2,none⟩=some (.bool false)/\w'.cell? ⟨B,3,none⟩=some (.slice B2 m2 d2)/\w'.frozen? ⟨g,j*4,none⟩=false/\w'.frozen? ⟨g,j*4+1,none⟩=false/\w'.frozen? ⟨g,j*4+2,none⟩=false/\w'.frozen? ⟨g,j*4+3,none⟩=false:=(by
    intro w' hb
    have e:∀b j v,wr.cell? ⟨b,j,none⟩=some v->w'.cell? ⟨b,j,none⟩=some v:=fun b j v hv=>(hb.cell (p:=⟨b,j,none⟩) (zf hv)).trans hv
    have ef:∀j,w'.frozen? ⟨g,j,none⟩=false:=fun j=>z9.frozen ((hrow.below (blr _ _).drew).below hb) j
    exact⟨e _ _ _ r0,e _ _ _ e0,e _ _ _ e1,e _ _ _ e2,e _ _ _ e3,e _ _ _ b0,e _ _ _ b1,e _ _ _ b2,e _ _ _ b3,ef _,ef _,ef _,ef _⟩)
   have HSk:=hide hSk
   clear hSk hov hm hk hbk hbel hsz hg hrow hbg hlr hdl hra hqv hqB hc1 hc2 r0 e0 e1 e2 e3 b0 b1 b2 b3
   go_wp2
   have hdr:Below wr.drew.heap.size wr.drew wr.drew:=blr _ _
   refine wp_region_noPanic ?_
   refine zv (fun w'=>w'.cell? ⟨R,a,none⟩=some (.slice (some ⟨g,0,none⟩) wd cg)/\w'.cell? ⟨g,j*4,none⟩=some (.bool s1)/\w'.cell? ⟨g,j*4+1,none⟩=some (.slice A1 n1 c1')/\w'.cell? ⟨g,j*4+2,none⟩=some (.bool false)/\w'.cell? ⟨g,j*4+3,none⟩=some (.slice B1 m1 d1')/\w'.cell? ⟨B,0,none⟩=some (.bool s)/\w'.cell? ⟨B,1,none⟩=some (.slice A2 n2 c2')/\w'.cell? ⟨B,2,none⟩=some (.bool false)/\w'.cell? ⟨B,3,none⟩=some (.slice B2 m2 d2)/\w'.frozen? ⟨g,j*4,none⟩=false/\w'.frozen? ⟨g,j*4+1,none⟩=false/\w'.frozen? ⟨g,j*4+2,none⟩=false/\w'.frozen? ⟨g,j*4+3,none⟩=false) [0,1,2,3,4,5,6,7,8,9,10,11,12,13,14] (by kernel_rfl) (HSk.out _ hdr) (fun hh=>?_)
   refine tt 0 hh 93 ?_
   try simp only[Act.put,ptA,ptB,ptC]
   refine tt 1 hh 94 ?_
   try simp only[Act.put,ptA,ptB,ptC]
   refine tt 2 hh 95 ?_
   try simp only[Act.put,ptA,ptB,ptC]
   refine tt 4 hh 97 ?_
   try simp only[Act.put,ptA,ptB,ptC]
   refine tt 5 hh 98 ?_
   try simp only[Act.put,ptA,ptB,ptC]
   refine tt 6 hh 99 ?_
   try simp only[Act.put,ptA,ptB,ptC]
   refine tt 7 hh 100 ?_
   try simp only[Act.put,ptA,ptB,ptC]
   refine tt 9 hh 102 ?_
   try simp only[Act.put,ptA,ptB,ptC]
   refine tt 3 hh 96 ?_
   try simp only[Act.put,ptA,ptB,ptC]
   refine tt 8 hh 101 ?_
   try simp only[Act.put,ptA,ptB,ptC]
   refine tt 10 hh 103 ?_
   try simp only[Act.put,ptA,ptB,ptC]
   refine tt 11 hh 104 ?_
   try simp only[Act.put,ptA,ptB,ptC]
   refine tt 12 hh 105 ?_
   try simp only[Act.put,ptA,ptB,ptC]
   refine zb (rs:=[13]) (by kernel_rfl) (by simp) ?_
   refine mem1 ?_
   refine zd rfl (fun K hK=>?_)
   go_simp
   go_at_call 89
   refine HO.out.mono ?_
   rintro e u1 ⟨_,rfl,hqv4,hd4⟩
   obtain⟨s4,A4,n4,c4',B4,m4,d4',rfl,-⟩:=QV.parts hqv4
   have H4:=hide (ai hqv4 hd4)
   clear hqv4 hd4
   go_wp2_with fail
   refine hK.out _ _ (HSk.out _ H4.out.2) (fun hh=>?_)
   clear hK K
   try simp only[Act.put,ptA,ptB,ptC]
   refine tt 14 hh 107 ?_
   try simp only[Act.put,ptA,ptB,ptC]
   refine zQ (k:=15) (by rfl) (by rfl) (by kernel_rfl) ?_
   simp only[List.drop_succ_cons,List.drop_zero]
   obtain⟨r0,e0,e1,e2,e3,b0,b1,b2,b3,f0,f1,f2,f3⟩:=HSk.out _ H4.out.2
   clear hh
   go_wp2_with fail
   refine NoPanic.normal ?_
   go_wp2
   case roundEnd=>
    obtain⟨hm,hk,hbk,hbel,hsz,hg,hrow,hbg,hlr,hdl,hra⟩:=HV.out
    have hb4:Below wr.heap.size wr u1:=(blr wr.heap.size wr).drew.trans H4.out.2
    have hq4:=H4.out.1.fit (HA.out.2.2.2.2.1 j hjl)
    obtain⟨t1,t2,t3⟩:=(hrow.below hb4).set4 (i:=j) (by rw[zS hdl,HA.out.2.2.1];exact hjl) hq4 rfl
    rw[<-zbm,zgX hdl (by rw[HA.out.2.2.1];exact hjl)] at t1
    have hm5:=(hm.below hb4).row (i:=a) (qs:=mixL (divL (rows.getD a []) q) (rows.getD a []) (j+1)) (by rw[hlr];exact haN) (by rw[hra,zS hdl,zS hdl]) (by rw[<-hg];exact t1) t2 (by rw[<-hg];exact t3)
    rw[List.set_set] at hm5
    have h1:=hb4.size
    have h2:=t3.size
    refine⟨⟨j+1,by omega,by go_num,hm5,(hk.trans (Below.kpI hb4)).trans t2,?_,only_below (hbel.trans (hb4.mono hm.le)) t3 (by have:=hm.le;omega) hbg,by omega⟩,by simp[intOf];omega⟩
    refine(t3.block B (by omega) ?_).trans ((hb4.block B (by omega)).trans hbk)
    intro e
    injection e with e
    exact HA.out.2.2.2.2.2.1 (by rw[<-hg,<-e])
  ·have d1:decide (j<wd)=false:=decide_eq_false hjl
   obtain rfl:j=wd:=by omega
   have HI:=hide hI;clear hI
   go_wp2
   exact HE.out _ _ _ _ _ _ _ _ _ _ _ _ _ _ _ _ _ _ _ _ _ _ HI.out
end Go.Proofs.YtpoahodnakhmiaaGreat
