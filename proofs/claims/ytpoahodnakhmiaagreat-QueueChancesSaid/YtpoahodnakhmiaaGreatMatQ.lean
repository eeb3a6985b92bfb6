import Derived.Test.YtpoahodnakhmiaaGreatQTry
namespace Go.Proofs.YtpoahodnakhmiaaGreat
set_option linter.unusedVariables false
set_option linter.unusedSimpArgs false
theorem zel {r r':List (List Rat)} {col:Nat} (hl:r.length=r'.length) (h:∀i,i<r.length->ent r i col=ent r' i col):∀f k,findK r col f k=findK r' col f k
 | 0,k=>rfl
 | f+1,k=>by
  rw[findK,findK]
  by_cases hk:k<r.length
  ·rw[h k hk,<-hl,zel hl h f (k+1)]
  ·rw[if_neg (fun e=>hk e.1),if_neg (fun e=>hk (by rw[hl];exact e.1))]
def wideR (rows:List (List Rat)) (bs:List Rat):List (List Rat):=(List.range rows.length).map fun i=>rows.getD i []++[bs.getD i 0]
theorem zH (rows:List (List Rat)) (bs:List Rat):(wideR rows bs).length=rows.length:=by simp[wideR]
theorem zcN (rows:List (List Rat)) (bs:List Rat) (i:Nat) (hi:i<rows.length):(wideR rows bs).getD i []=rows.getD i []++[bs.getD i 0]:=by
 unfold wideR;simp[List.getD,hi]
theorem zfT {wd:Nat} {rows:List (List Rat)} (bs:List Rat) (h:∀i,i<rows.length->(rows.getD i []).length=wd) (i j:Nat) (hi:i<rows.length):ent (wideR rows bs) i j=if j<wd then ent rows i j else if j=wd then bs.getD i 0 else 0:=by
 unfold ent
 rw[zcN _ _ _ hi,zav,h i hi]
theorem zdQ {wd:Nat} {rows:List (List Rat)} (bs:List Rat) (h:∀i,i<rows.length->(rows.getD i []).length=wd) (i:Nat) (hi:i<(wideR rows bs).length):((wideR rows bs).getD i []).length=wd+1:=by
 rw[zH] at hi
 rw[zcN _ _ _ hi,List.length_append,h i hi];rfl
structure zeg (wd:Nat) (bs:List Rat) (T U:St×List Nat):Prop where
 len:U.1.1.length=T.1.1.length
 out:U.2=T.2
 row:∀i j,i<T.1.1.length->j<wd->ent U.1.1 i j=ent T.1.1 i j
 last:∀i,i<T.1.1.length->ent U.1.1 i wd=dotL (T.1.2.getD i []) bs
theorem zeg.piv {wd col:Nat} {bs:List Rat} {T U:St×List Nat} (h:zeg wd bs T U) (hc:col<wd):pivK col U=pivK col T:=by
 unfold pivK
 rw[h.len,h.out]
 exact zel h.len (fun i hi=>h.row i col (by rw[<-h.len];exact hi) hc) _ _
theorem zeg.step {wd wU col:Nat} {bs:List Rat} {T U:St×List Nat} (h:zeg wd bs T U) (hc:col<wd) (hrT:Rect wd T.1) (hrU:Rect wU U.1) (hoT:T.2.length<=T.1.1.length):zeg wd bs (colS col T) (colS col U):=by
 have hp:=h.piv hc
 have hoU:U.2.length<=U.1.1.length:=by rw[h.len,h.out];exact hoT
 by_cases hn:pivK col T=T.1.1.length
 ·have hnU:pivK col U=U.1.1.length:=by rw[hp,hn,h.len]
  rw[zaX hn,zaX hnU];exact h
 ·have hnU:pivK col U≠U.1.1.length:=by rw[hp,h.len];exact hn
  obtain⟨p1,p2,p3⟩:=zaM hrT hoT hn
  have hlT:=zca col T
  have hlU:=zca col U
  rw[za5 hn] at hlT ⊢
  rw[za5 hnU] at hlU ⊢
  have eT:∀i j,i<T.1.1.length->_:=fun i j hi=>zb8 bs hrT hoT hn T.1.1.length (nr _) i j hi
  have eU:∀i j,i<U.1.1.length->_:=fun i j hi=>zb8 [] hrU hoU hnU U.1.1.length (nr _) i j hi
  have hs:∀i,i<T.1.1.length->sw T.2.length (pivK col T) i<T.1.1.length:=fun i hi=>zaI (by omega) p1 hi
  refine⟨by rw[hlU,hlT,h.len],?_,fun i j hi hj=>?_,fun i hi=>?_⟩
  ·show U.2++[col]=T.2++[col];rw[h.out]
  ·rw[hlT] at hi
   have hiU:i<U.1.1.length:=(by rw[h.len];exact hi)
   have a:=eT i (3*j) hi
   have b:=eU i (3*j) (by rw[h.len];exact hi)
   rw[zO,if_pos hi] at a
   rw[zO,if_pos hiU,h.out,hp] at b
   rw[h.len] at b
   simp only[zO] at a b
   show ent (clearN U.2.length col U.1.1.length (divS U.2.length col (swapS U.2.length (pivK col U) U.1))).1 i j=ent (clearN T.2.length col T.1.1.length (divS T.2.length col (swapS T.2.length (pivK col T) T.1))).1 i j
   rw[a,h.out,hp,h.len,b,h.row _ _ p1 hj,h.row _ _ p1 hc,h.row _ _ (hs i hi) hj,h.row _ _ (hs i hi) hc]
  ·rw[hlT] at hi
   have hiU:i<U.1.1.length:=(by rw[h.len];exact hi)
   have a:=eT i 2 hi
   have b:=eU i (3*wd) (by rw[h.len];exact hi)
   rw[zbX,if_pos hi] at a
   rw[zO,if_pos hiU,h.out,hp] at b
   rw[h.len] at b
   simp only[zO,zbX] at a b
   show ent (clearN U.2.length col U.1.1.length (divS U.2.length col (swapS U.2.length (pivK col U) U.1))).1 i wd=dotL ((clearN T.2.length col T.1.1.length (divS T.2.length col (swapS T.2.length (pivK col T) T.1))).2.getD i []) bs
   rw[a,h.out,hp,h.len,b,h.last _ p1,h.row _ _ p1 hc,h.last _ (hs i hi),h.row _ _ (hs i hi) hc]
theorem wideS {wd:Nat} {rows:List (List Rat)} {bs:List Rat} (h:∀i,i<rows.length->(rows.getD i []).length=wd):∀c,c<=wd->zeg wd bs (echN c (rows,idRows rows.length)) (echN c (wideR rows bs,idRows rows.length))
 | 0,_=>⟨zH _ _,rfl,fun i j hi hj=>by
   show ent (wideR rows bs) i j=ent rows i j
   rw[zfT bs h i j hi,if_pos hj],fun i hi=>by
   show ent (wideR rows bs) i wd=dotL ((idRows rows.length).getD i []) bs
   rw[zfT bs h i wd hi,if_neg (by omega),if_pos rfl,zdB rows.length i bs hi]⟩
 | c+1,hc=>by
  have hrU:Rect (wd+1) (wideR rows bs,idRows rows.length):=by
   have:=zU (zdQ bs h);rw[zH] at this;exact this
  exact(wideS h c (by omega)).step (by omega) (zT c (zU h)) (zT c hrU) (by rw[echN_length];exact echN_out c _)
def refS (rows:List (List Rat)) (bs:List Rat) (wd:Nat):St×List Nat:=echN (wd+1) (wideR rows bs,idRows rows.length)
theorem zcO {wd:Nat} {rows:List (List Rat)} {bs:List Rat} (h:∀i,i<rows.length->(rows.getD i []).length=wd):Rect (wd+1) (wideR rows bs,idRows rows.length):=by
 have:=zU (zdQ bs h);rw[zH] at this;exact this
theorem refI {wd:Nat} {rows:List (List Rat)} {bs:List Rat} (h:∀i,i<rows.length->(rows.getD i []).length=wd):zju (wd+1) (refS rows bs wd):=echI (zcO h) (wd+1)
theorem zj8 {wd:Nat} {rows:List (List Rat)} {bs:List Rat} (h:Sys wd rows bs) (h0:0<rows.length) (hno:¬denied rows bs):
  (refS rows bs wd).2=(solS rows).2/\∀i,i<rows.length->ent (refS rows bs wd).1.1 i wd=dotL ((solS rows).1.2.getD i []) bs:=by
 have hW:=wideS (bs:=bs) h.row wd (nr _)
 have hl:(echN wd (rows,idRows rows.length)).1.1.length=rows.length:=echN_length _ _
 have hrk:=zT wd (zU h.row)
 have hl2:(echN wd (rows,idRows rows.length)).1.2.length=rows.length:=by rw[hrk.len,hl]
 have ho:=echN_out wd (rows,idRows rows.length)
 have ho':(echN wd (rows,idRows rows.length)).2.length<=rows.length:=ho
 unfold denied at hno
 rw[h.solS_eq h0] at hno ⊢
 obtain⟨a,b,c⟩:=zbx (echN wd (rows,idRows rows.length)).1.2 bs rows.length (echN wd (rows,idRows rows.length)).2.length
 have hz:∀i,(echN wd (rows,idRows rows.length)).2.length<=i->i<rows.length->dotL ((echN wd (rows,idRows rows.length)).1.2.getD i []) bs=0:=fun i h1 h2=>b i h1 (by omega)
 have hp:pivK wd (echN wd (wideR rows bs,idRows rows.length))=(echN wd (wideR rows bs,idRows rows.length)).1.1.length:=by
  refine Classical.byContradiction fun hn=>?_
  have hoU:(echN wd (wideR rows bs,idRows rows.length)).2.length<=(echN wd (wideR rows bs,idRows rows.length)).1.1.length:=by rw[hW.len,hW.out,hl];exact ho'
  obtain⟨p1,p2,p3⟩:=zaM (zT wd (zcO h.row)) hoU hn
  rw[hW.len,hl] at p1
  rw[hW.out] at p2
  exact p3 (by rw[hW.last _ (by rw[hl];exact p1)];exact hz _ p2 p1)
 have he:refS rows bs wd=echN wd (wideR rows bs,idRows rows.length):=by unfold refS;rw[echN,zaX hp]
 rw[he]
 exact⟨hW.out,fun i hi=>hW.last i (by rw[hl];exact hi)⟩
theorem zi8 {wd:Nat} {rows:List (List Rat)} {bs:List Rat} (h:Sys wd rows bs) (hd:denied rows bs):(refS rows bs wd).2=(solS rows).2++[wd]:=by
 unfold denied at hd
 have h0:0<rows.length:=by omega
 have hW:=wideS (bs:=bs) h.row wd (nr _)
 have hl:(echN wd (rows,idRows rows.length)).1.1.length=rows.length:=echN_length _ _
 have hrk:=zT wd (zU h.row)
 have hl2:(echN wd (rows,idRows rows.length)).1.2.length=rows.length:=by rw[hrk.len,hl]
 have ho':(echN wd (rows,idRows rows.length)).2.length<=rows.length:=echN_out wd (rows,idRows rows.length)
 rw[h.solS_eq h0] at hd ⊢
 obtain⟨a,b,c⟩:=zbx (echN wd (rows,idRows rows.length)).1.2 bs rows.length (echN wd (rows,idRows rows.length)).2.length
 have hne:=c (by omega) (by omega)
 have hp:pivK wd (echN wd (wideR rows bs,idRows rows.length))≠(echN wd (wideR rows bs,idRows rows.length)).1.1.length:=by
  intro e
  unfold pivK at e
  rw[hW.out] at e
  have hall:=zd0 _ _ _ _ (by rw[hW.len,hl];omega) e _ a (by rw[hW.len,hl];exact hd)
  rw[hW.last _ (by rw[hl];exact hd)] at hall
  exact hne hall
 unfold refS
 rw[echN,za5 hp]
 show (echN wd (wideR rows bs,idRows rows.length)).2++[wd]=_
 rw[hW.out]
theorem Sys.sbW {wd:Nat} {rows:List (List Rat)} {bs:List Rat} (h:Sys wd rows bs):SB 319 [] (wideR rows bs,idRows rows.length):=by
 obtain⟨N,hN⟩:∃N,N=319:=⟨_,rfl⟩
 rw[<-hN]
 have HNN:=hide hN
 clear hN
 intro i hi
 replace hi:i<(wideR rows bs).length:=hi
 rw[zH] at hi
 have hF:∀{q:Rat},FracQ 12 q->q.num.natAbs<1000000000000/\q.den<1000000000000:=fun hq=>⟨by have:=hq.1;omega,by have:=hq.2;omega⟩
 obtain⟨m,h0,h1,h2⟩:=zfF 1000000000000 (by omega) (rows.getD i []++[bs.getD i 0]) (fun x hx=>by
  rcases List.mem_append.1 hx with hx|hx
  ·obtain⟨j,rfl⟩:=zhI hx;exact hF (h.small i j)
  ·rw[List.mem_singleton] at hx;subst hx;exact hF (h.smallB i))
 have hlen:(rows.getD i []++[bs.getD i 0]).length+1<=8:=by
  have:=h.row i hi
  have:=h.w6
  rw[List.length_append,List.length_singleton];omega
 have hp:=Nat.pow_le_pow_right (n:=1000000000000) (by omega) hlen
 have hq:1000000000000^8<2^N:=by
  obtain⟨a,b,ha,hb,hab⟩:∃a b,a=200/\b=119/\N=a+b:=⟨200,119,rfl,rfl,HNN.out⟩
  rw[hab,Nat.pow_add,ha,hb]
  decide +kernel
 refine⟨m,h0,by omega,fun j=>?_⟩
 unfold ex
 split
 ·have e:ent (wideR rows bs) i (j / 3)=(rows.getD i []++[bs.getD i 0]).getD (j / 3) 0:=by unfold ent;rw[zcN _ _ _ hi]
  by_cases hj:j / 3<(rows.getD i []++[bs.getD i 0]).length
  ·obtain⟨z,a,b⟩:=h2 _ (zhJ (j / 3) hj)
   exact⟨z,by show ent (wideR rows bs) i (j / 3)*_=_;rw[e];exact a,by omega⟩
  ·refine⟨0,?_,by rw[Int.natAbs_zero];exact Nat.pow_pos (by omega)⟩
   show ent (wideR rows bs) i (j / 3)*_=_
   rw[e,zb9 (by omega)];grind
 ·split
  ·show ∃z:Int,ent (idRows rows.length) i (j / 3)*_=_/\_
   rw[ent_id _ _ _ hi]
   by_cases hk:i=j / 3
   ·rw[if_pos hk];exact⟨m,by grind,by rw[Int.natAbs_natCast];omega⟩
   ·rw[if_neg hk];exact⟨0,by grind,by rw[Int.natAbs_zero];exact Nat.pow_pos (by omega)⟩
  ·show ∃z:Int,dotL ((idRows rows.length).getD i []) []*_=_/\_
   rw[zdB _ _ _ hi]
   exact⟨0,by rw[show ([]:List Rat).getD i 0=0 by simp];grind,by rw[Int.natAbs_zero];exact Nat.pow_pos (by omega)⟩
theorem bits7 (k:Nat) (hk:k<=7):bitsN 319 k<=40959:=Nat.le_trans (zdA 319 hk) (by decide)
theorem zj9 (n k:Nat):bitsN n (k+1)=2*bitsN n k+1:=by first|rfl|(simp[bitsN])
theorem Sys.refFit {wd:Nat} {rows:List (List Rat)} {bs:List Rat} (h:Sys wd rows bs):∀c,c<wd+1->∀k,k<=(wideR rows bs).length->pivK c (echN c (wideR rows bs,idRows (wideR rows bs).length))≠(wideR rows bs).length ->
  ∀i j,FracQ 12801 (ent (clearN (echN c (wideR rows bs,idRows (wideR rows bs).length)).2.length c k (divS (echN c (wideR rows bs,idRows (wideR rows bs).length)).2.length c (swapS (echN c (wideR rows bs,idRows (wideR rows bs).length)).2.length (pivK c (echN c (wideR rows bs,idRows (wideR rows bs).length))) (echN c (wideR rows bs,idRows (wideR rows bs).length)).1))).1 i j):=by
 intro c hc k hk hp i j
 rw[zH] at hk hp ⊢
 have hr:=zcO (bs:=bs) h.row
 have hl:(echN c (wideR rows bs,idRows rows.length)).1.1.length=rows.length:=by rw[echN_length];exact zH _ _
 have ho:(echN c (wideR rows bs,idRows rows.length)).2.length<=(echN c (wideR rows bs,idRows rows.length)).1.1.length:=by rw[echN_length];exact echN_out c _
 have hrk:=zT c hr
 have hw:=h.w6
 have hb:=zfD [] hrk ho (by rw[hl];exact hp) (zfe [] hr h.sbW c) k (by rw[hl];exact hk)
 have hb2:=hb.more (n':=40959) (by rw[<-zj9];exact bits7 _ (by omega))
 have hrc:=zbc k (a:=(echN c (wideR rows bs,idRows rows.length)).2.length) (col:=c) (zb3 (col:=c) (a:=(echN c (wideR rows bs,idRows rows.length)).2.length) (zbM (a:=(echN c (wideR rows bs,idRows rows.length)).2.length) (k:=pivK c (echN c (wideR rows bs,idRows rows.length))) hrk (by obtain⟨p1,p2,p3⟩:=zaM hrk ho (by rw[hl];exact hp);omega) (by obtain⟨p1,p2,p3⟩:=zaM hrk ho (by rw[hl];exact hp);exact p1)) (by rw[zX];obtain⟨p1,p2,p3⟩:=zaM hrk ho (by rw[hl];exact hp);omega)) (by rw[zaJ,zX,hl];exact hk)
 exact(hb2.fit hrc.len (L:=1280) (by omega) i j).1.frac
def putE (f:Nat->Rat) (out:List Nat):Nat->List Rat->List Rat
 | 0,x=>x
 | n+1,x=>(putE f out n x).set (out.getD n 0) (f n)
theorem zem (f:Nat->Rat) (out:List Nat) (x:List Rat):∀n,(putE f out n x).length=x.length
 | 0=>rfl
 | n+1=>by rw[putE,List.length_set,zem f out x n]
theorem zka (done:List (List Rat)) (bs:List Rat) (out:List Nat) (f:Nat->Rat) (x:List Rat):∀n,(∀i,i<n->f i=dotL (done.getD i []) bs)->putE f out n x=putX done bs out n x
 | 0,_=>rfl
 | n+1,h=>by rw[putE,putX,zka done bs out f x n (fun i hi=>h i (by omega)),h n (by omega)]
theorem zcw {l:List Nat} (h:l.length<=0):l=[]:=List.eq_nil_of_length_eq_zero (by omega)
theorem zdR {wd:Nat} {rows:List (List Rat)} {bs:List Rat} (h:Sys wd rows bs) (hw:wd=(rows.getD 0 []).length):
  (denied rows bs->∃r,r<(refS rows bs wd).2.length/\(refS rows bs wd).2.getD r 0=wd) /\
  (¬denied rows bs->(refS rows bs wd).2=(solS rows).2/\(∀r,r<(refS rows bs wd).2.length->(refS rows bs wd).2.getD r 0<wd) /\
   putE (fun i=>ent (refS rows bs wd).1.1 i wd) (refS rows bs wd).2 (refS rows bs wd).2.length (List.replicate wd 0)=solX rows bs):=by
 constructor
 ·intro hd
  rw[zi8 h hd]
  exact⟨(solS rows).2.length,by simp,by simp[List.getD]⟩
 ·intro hno
  by_cases h0:0<rows.length
  ·obtain⟨e1,e2⟩:=zj8 h h0 hno
   have hI:=echI (zU h.row) wd
   have es:=h.solS_eq h0
   refine⟨e1,fun r hr=>?_,?_⟩
   ·rw[e1,es] at hr ⊢
    exact hI.lt r hr
   ·rw[zka (solS rows).1.2 bs]
    ·unfold solX
     rw[e1,<-hw]
    ·intro i hi
     refine e2 i ?_
     rw[e1] at hi
     have:=echN_out (rows.getD 0 []).length (rows,idRows rows.length)
     unfold solS at hi
     exact Nat.lt_of_lt_of_le hi this
  ·have e:rows=[]:=List.eq_nil_of_length_eq_zero (by omega)
   subst e
   have hw0:wd=0:=hw
   subst hw0
   have e1:(refS [] bs 0).2=[]:=zcw (echN_out 1 (wideR [] bs,idRows 0))
   have e2:(solS []).2=[]:=zcw (echN_out 0 ([],idRows 0))
   rw[e1,e2]
   refine⟨rfl,fun r hr=>absurd hr (by simp),?_⟩
   refine(List.eq_nil_of_length_eq_zero ?_).symm
   rw[zat];rfl
open Go.RowKit
def KpI (w w':World):Prop:=∀b,Typed w b 3->w'.heap[b]?=w.heap[b]?
theorem Below.kpI {w w':World} (h:Below w.heap.size w w'):KpI w w':=fun b e=>h.block b e.lt
theorem KpI.only {w w':World} {g:Nat} {e:TypeId} (hg:w.grownBy w' (some g)) (ht:Typed w g e) (he:e≠3):KpI w w':=
 fun b h=>hg.block b h.lt (by intro e';injection e' with e';exact(h.ne ht (fun x=>he x.symm)) e')
theorem LimV.kpI {w w':World} {v:Value} {x:Int} {L:Nat} (h:LimV w v x L) (hk:KpI w w'):LimV w' v x L:=by
 obtain⟨A,c,xs,rfl,h1,h2,h3,h4⟩:=h
 refine⟨A,c,xs,rfl,h1,h2,fun hx=>?_,h4⟩
 obtain⟨b,o,rfl,ht,hc⟩:=h3 hx
 have e:=hk b ht
 exact⟨b,o,rfl,ht.same e,fun j hj=>(World.cell?_of_block (w:=w) e).trans (hc j hj)⟩
theorem QV.kpI {w w':World} {v:Value} {q:Rat} {L:Nat} (h:QV w v q L) (hk:KpI w w'):QV w' v q L:=by
 obtain⟨n,d,rfl,h1,h2⟩:=h
 exact⟨n,d,rfl,h1.kpI hk,h2.kpI hk⟩
def At4 (w:World) (b o:Nat) (q:Rat) (L:Nat):Prop:=
 ∃s A1 n1 c1 B1 m1 d1,w.cell? ⟨b,o,none⟩=some (.bool s)/\w.cell? ⟨b,o+1,none⟩=some (.slice A1 n1 c1)/\w.cell? ⟨b,o+2,none⟩=some (.bool false)/\w.cell? ⟨b,o+3,none⟩=some (.slice B1 m1 d1) /\
  QV w (.agg #[.bool s,.slice A1 n1 c1,.bool false,.slice B1 m1 d1]) q L
theorem At4.same {w w':World} {b o:Nat} {q:Rat} {L:Nat} (h:At4 w b o q L) (hk:KpI w w') (hb:w'.heap[b]?=w.heap[b]?):At4 w' b o q L:=by
 obtain⟨s,A1,n1,c1,B1,m1,d1,h0,h1,h2,h3,h4⟩:=h
 have e:∀j,w'.cell? ⟨b,j,none⟩=w.cell? ⟨b,j,none⟩:=fun j=>World.cell?_of_block (w:=w) hb
 exact⟨s,A1,n1,c1,B1,m1,d1,(e _).trans h0,(e _).trans h1,(e _).trans h2,(e _).trans h3,h4.kpI hk⟩
def z9 (w:World) (g:Nat) (qs:List Rat) (L:Nat):Prop:=
 (∃cs,w.heap[g]?=some (.cells cs 55 (0,0)))/\∀i,i<qs.length->At4 w g (i*4) (qs.getD i 0) L
theorem z9.lt {w:World} {g:Nat} {qs:List Rat} {L:Nat} (h:z9 w g qs L):g<w.heap.size:=by
 obtain⟨⟨cs,h⟩,_⟩:=h;exact lt_of_block h
theorem z9.typed {w:World} {g:Nat} {qs:List Rat} {L:Nat} (h:z9 w g qs L):Typed w g 55:=by
 obtain⟨⟨cs,h⟩,_⟩:=h;exact⟨_,_,h⟩
theorem z9.frozen {w:World} {g:Nat} {qs:List Rat} {L:Nat} (h:z9 w g qs L) (j:Nat):w.frozen? ⟨g,j,none⟩=false:=by
 obtain⟨⟨cs,h⟩,_⟩:=h;simp[World.frozen?,h]
theorem z9.same {w w':World} {g:Nat} {qs:List Rat} {L:Nat} (h:z9 w g qs L) (hk:KpI w w') (hb:w'.heap[g]?=w.heap[g]?):z9 w' g qs L:=by
 obtain⟨⟨cs,h0⟩,h1⟩:=h
 exact⟨⟨cs,hb.trans h0⟩,fun i hi=>(h1 i hi).same hk hb⟩
theorem z9.below {w w':World} {g:Nat} {qs:List Rat} {L:Nat} (h:z9 w g qs L) (hb:Below w.heap.size w w'):z9 w' g qs L:=
 h.same (Below.kpI hb) (hb.block g h.lt)
theorem z9.set4 {w:World} {g:Nat} {qs:List Rat} {L:Nat} (h:z9 w g qs L) {i:Nat} (hi:i<qs.length) {q:Rat} {A1 B1:Option Addr} {n1 c1 m1 d1:Nat} {s:Bool}
  (hq:QV w (.agg #[.bool s,.slice A1 n1 c1,.bool false,.slice B1 m1 d1]) q L) {w':World}
  (hw:w'=(((w.setCell ⟨g,i*4,none⟩ (.bool s)).setCell ⟨g,i*4+1,none⟩ (.slice A1 n1 c1)).setCell ⟨g,i*4+2,none⟩ (.bool false)).setCell ⟨g,i*4+3,none⟩ (.slice B1 m1 d1)):
  z9 w' g (qs.set i q) L/\KpI w w'/\w.grownBy w' (some g):=by
 obtain⟨⟨cs,h0⟩,h1⟩:=h
 obtain⟨s0,D1,l1,e1,D2,l2,e2,k0,k1,k2,k3,_⟩:=h1 i hi
 have hgr:w.grownBy w' (some g):=by
  rw[hw]
  exact zN (zN (zN (zp _ _ _ _) (zp _ _ _ _)) (zp _ _ _ _)) (zp _ _ _ _)
 have hk:=KpI.only hgr ⟨cs,_,h0⟩ (by decide)
 have hcl:∀(w:World) (j:Nat) (v:Value),(∃cs,w.heap[g]?=some (.cells cs 55 (0,0)))->∃cs,(w.setCell ⟨g,j,none⟩ v).heap[g]?=some (.cells cs 55 (0,0)):=by
  rintro w j v ⟨cs,h⟩
  exact⟨cs.setIfInBounds j v,by simp[World.setCell,Array.getElem?_modify,h]⟩
 have oth:∀j,(∀r,r<4->j≠i*4+r)->w'.cell? ⟨g,j,none⟩=w.cell? ⟨g,j,none⟩:=by
  intro j hj
  have a0:=hj 0 (by omega)
  have a1:=hj 1 (by omega)
  have a2:=hj 2 (by omega)
  have a3:=hj 3 (by omega)
  rw[hw]
  rw[World.cell?_setCell_other _ _ _ _ (by intro e;injection e with e1 e2;omega),World.cell?_setCell_other _ _ _ _ (by intro e;injection e with e1 e2;omega),World.cell?_setCell_other _ _ _ _ (by intro e;injection e with e1 e2;omega),World.cell?_setCell_other _ _ _ _ (by intro e;injection e with e1 e2;omega)]
 refine⟨⟨by rw[hw];exact hcl _ _ _ (hcl _ _ _ (hcl _ _ _ (hcl _ _ _ ⟨cs,h0⟩))),fun j hj=>?_⟩,hk,hgr⟩
 rw[List.length_set] at hj
 by_cases hij:i=j
 ·subst hij
  rw[show (qs.set i q).getD i 0=q by simp[List.getD,hi]]
  refine⟨s,A1,n1,c1,B1,m1,d1,?_,?_,?_,?_,hq.kpI hk⟩
  ·rw[hw,World.cell?_setCell_other _ _ _ _ (by intro e;injection e with e1 e2;omega),World.cell?_setCell_other _ _ _ _ (by intro e;injection e with e1 e2;omega),World.cell?_setCell_other _ _ _ _ (by intro e;injection e with e1 e2;omega)]
   exact World.cell?_setCell_same _ _ _ k0
  ·rw[hw,World.cell?_setCell_other _ _ _ _ (by intro e;injection e with e1 e2;omega),World.cell?_setCell_other _ _ _ _ (by intro e;injection e with e1 e2;omega)]
   refine World.cell?_setCell_same (u:=.slice D1 l1 e1) _ _ _ ?_
   rw[World.cell?_setCell_other _ _ _ _ (by intro e;injection e with e1 e2;omega)];exact k1
  ·rw[hw,World.cell?_setCell_other _ _ _ _ (by intro e;injection e with e1 e2;omega)]
   refine World.cell?_setCell_same (u:=.bool false) _ _ _ ?_
   rw[World.cell?_setCell_other _ _ _ _ (by intro e;injection e with e1 e2;omega),World.cell?_setCell_other _ _ _ _ (by intro e;injection e with e1 e2;omega)];exact k2
  ·rw[hw]
   refine World.cell?_setCell_same (u:=.slice D2 l2 e2) _ _ _ ?_
   rw[World.cell?_setCell_other _ _ _ _ (by intro e;injection e with e1 e2;omega),World.cell?_setCell_other _ _ _ _ (by intro e;injection e with e1 e2;omega),World.cell?_setCell_other _ _ _ _ (by intro e;injection e with e1 e2;omega)];exact k3
 ·rw[show (qs.set i q).getD j 0=qs.getD j 0 by simp[List.getD,List.getElem?_set_ne hij]]
  obtain⟨t,D3,l3,e3,D4,l4,e4,u0,u1,u2,u3,g4⟩:=h1 j hj
  exact⟨t,D3,l3,e3,D4,l4,e4,(oth _ (fun r hr=>by omega)).trans u0,(oth _ (fun r hr=>by omega)).trans u1,(oth _ (fun r hr=>by omega)).trans u2,(oth _ (fun r hr=>by omega)).trans u3,g4.kpI hk⟩
structure MatQ (w:World) (base R cR:Nat) (vs rR:List Value) (gs:List Nat) (rows:List (List Rat)) (L:Nat):Prop where
 bR:base<=R
 hR:VCel w R 25 vs rR
 n1:vs.length=rows.length
 n4:gs.length=rows.length
 c1:rows.length<=cR
 c2:cR<=maxLen
 rok:∀i,i<rows.length->base<=gs.getD i 0/\(∃c,vs.getD i undef=.slice (some ⟨gs.getD i 0,0,none⟩) (rows.getD i []).length c/\(rows.getD i []).length<=c/\c<=maxLen)/\z9 w (gs.getD i 0) (rows.getD i []) L
 dg:∀i j,i<rows.length->j<rows.length->i≠j->gs.getD i 0≠gs.getD j 0
section
variable {w w':World} {base R cR:Nat} {vs rR:List Value} {gs:List Nat} {rows:List (List Rat)} {L:Nat}
theorem MatQ.le (h:MatQ w base R cR vs rR gs rows L):base<=w.heap.size:=Nat.le_trans h.bR (Nat.le_of_lt h.hR.lt)
theorem MatQ.below (h:MatQ w base R cR vs rR gs rows L) (hb:Below w.heap.size w w'):MatQ w' base R cR vs rR gs rows L:=
 ⟨h.bR,(hb.block _ h.hR.lt).trans h.hR,h.n1,h.n4,h.c1,h.c2,fun i hi=>by obtain⟨q1,q2,q3⟩:=h.rok i hi;exact⟨q1,q2,q3.below hb⟩,h.dg⟩
theorem MatQ.rowAt (h:MatQ w base R cR vs rR gs rows L) {i:Nat} (hi:i<rows.length):
  ∃g c,g=gs.getD i 0/\w.cell? ⟨R,i,none⟩=some (.slice (some ⟨g,0,none⟩) (rows.getD i []).length c)/\(rows.getD i []).length<=c/\c<=maxLen/\z9 w g (rows.getD i []) L/\base<=g:=by
 obtain⟨q1,⟨c,q2,q3,q4⟩,q5⟩:=h.rok i hi
 have:=h.hR.cell (j:=i) (by rw[h.n1];exact hi)
 exact⟨_,c,rfl,by rw[this,q2],q3,q4,q5,q1⟩
theorem MatQ.sep (h:MatQ w base R cR vs rR gs rows L) {i:Nat} (hi:i<rows.length):gs.getD i 0≠R:=
 (h.rok i hi).2.2.typed.ne ⟨_,_,h.hR⟩ (by decide)
theorem MatQ.swap (h:MatQ w base R cR vs rR gs rows L) {i k:Nat} (hi:i<rows.length) (hk:k<rows.length)
  (hw:w'=(w.setCell ⟨R,k,none⟩ (vs.getD i undef)).setCell ⟨R,i,none⟩ (vs.getD k undef)):
  MatQ w' base R cR (swapL vs i k undef) rR (swapL gs i k 0) (swapL rows i k []) L/\w.grownBy w' (some R):=by
 have hgr:w.grownBy w' (some R):=by rw[hw];exact zN (zp _ _ _ _) (zp _ _ _ _)
 have hkp:KpI w w':=KpI.only hgr ⟨_,_,h.hR⟩ (by decide)
 have hv:VCel w' R 25 (swapL vs i k undef) rR:=by
  have h1:=(h.hR.set_ (i:=k) (vs.getD i undef) (by rw[h.n1];exact hk)).set_ (i:=i) (vs.getD k undef) (by rw[List.length_set,h.n1];exact hi)
  rw[<-hw] at h1
  have e:(vs.set k (vs.getD i undef)).set i (vs.getD k undef)=swapL vs i k undef:=by
   unfold swapL
   by_cases e:i=k
   ·subst e;simp[List.set_set]
   ·rw[List.set_comm _ _ (fun e'=>e e'.symm)]
  rwa[e] at h1
 refine⟨⟨h.bR,hv,?_,?_,?_,h.c2,?_,?_⟩,hgr⟩
 ·rw[zr,zr];exact h.n1
 ·rw[zr,zr];exact h.n4
 ·rw[zr];exact h.c1
 ·intro j hj
  rw[zr] at hj
  have hs:=zaI hi hk hj
  obtain⟨q1,q2,q3⟩:=h.rok _ hs
  rw[zI _ _ _ _ _ (by rw[h.n4];exact hj),zI _ _ _ _ _ (by rw[h.n1];exact hj),zI _ _ _ _ _ hj]
  exact⟨q1,q2,q3.same hkp (hgr.block _ q3.lt (by intro e;injection e with e;exact h.sep hs e))⟩
 ·intro a b ha hb2 hne
  rw[zr] at ha hb2
  rw[zI _ _ _ _ _ (by rw[h.n4];exact ha),zI _ _ _ _ _ (by rw[h.n4];exact hb2)]
  exact h.dg _ _ (zaI hi hk ha) (zaI hi hk hb2) (fun e=>hne (zhH e))
theorem MatQ.row (h:MatQ w base R cR vs rR gs rows L) {i:Nat} (hi:i<rows.length) {qs:List Rat} (hl:qs.length=(rows.getD i []).length)
  (hq:z9 w' (gs.getD i 0) qs L) (hk:KpI w w') (hg:w.grownBy w' (some (gs.getD i 0))):MatQ w' base R cR vs rR gs (rows.set i qs) L:=by
 have hbk:∀b,b<w.heap.size->b≠gs.getD i 0->w'.heap[b]?=w.heap[b]?:=fun b hb hne=>hg.block b hb (by intro e;injection e with e;exact hne e)
 refine⟨h.bR,(hbk R h.hR.lt (h.sep hi).symm).trans h.hR,?_,?_,?_,h.c2,?_,?_⟩
 ·rw[List.length_set];exact h.n1
 ·rw[List.length_set];exact h.n4
 ·rw[List.length_set];exact h.c1
 ·intro j hj
  rw[List.length_set] at hj
  obtain⟨q1,q2,q3⟩:=h.rok j hj
  by_cases e:i=j
  ·subst e
   rw[show (rows.set i qs).getD i []=qs by simp[List.getD,hj],hl]
   exact⟨q1,q2,hq⟩
  ·rw[show (rows.set i qs).getD j []=rows.getD j [] by simp[List.getD,List.getElem?_set_ne e]]
   exact⟨q1,q2,q3.same hk (hbk _ q3.lt (fun e'=>h.dg i j hi hj e e'.symm))⟩
 ·intro a b ha hb2 hne
  rw[List.length_set] at ha hb2
  exact h.dg a b ha hb2 hne
end
def mixL (new old:List Rat) (j:Nat):List Rat:=new.take j++old.drop j
theorem zS {new old:List Rat} (hl:new.length=old.length) (j:Nat):(mixL new old j).length=old.length:=by
 unfold mixL;rw[List.length_append,List.length_take,List.length_drop];omega
theorem zdr {new old:List Rat} (hl:new.length=old.length) (j i:Nat):(mixL new old j).getD i 0=if i<j then new.getD i 0 else old.getD i 0:=by
 unfold mixL
 by_cases h:i<j
 ·rw[if_pos h]
  by_cases hi:i<new.length
  ·simp only[List.getD_eq_getElem?_getD]
   rw[List.getElem?_append_left (by rw[List.length_take];omega),List.getElem?_take_of_lt h]
  ·rw[zb9 (by rw[List.length_append,List.length_take,List.length_drop];omega),zb9 (by omega)]
 ·rw[if_neg h]
  simp only[List.getD_eq_getElem?_getD]
  by_cases hj:j<=new.length
  ·rw[List.getElem?_append_right (by rw[List.length_take];omega),List.length_take,List.getElem?_drop,show j+(i-min j new.length)=i by omega]
  ·rw[List.getElem?_eq_none (by rw[List.length_append,List.length_take,List.length_drop];omega),List.getElem?_eq_none (by omega)]
theorem zfU (new old:List Rat):mixL new old 0=old:=by simp[mixL]
theorem zgW {new old:List Rat} (hl:new.length=old.length):mixL new old old.length=new:=by
 unfold mixL;rw[<-hl,List.take_length,hl,List.drop_length,List.append_nil]
theorem zlB {l l':List Rat} (hl:l.length=l'.length) (h:∀i,i<l.length->l.getD i 0=l'.getD i 0):l=l':=by
 refine List.ext_getElem hl fun i h1 h2=>?_
 have:=h i h1
 simpa[List.getD,h1,h2] using this
theorem zgX {new old:List Rat} (hl:new.length=old.length) {j:Nat} (hj:j<old.length):(mixL new old j).set j (new.getD j 0)=mixL new old (j+1):=by
 refine zlB (by rw[List.length_set,zS hl,zS hl]) fun i hi=>?_
 rw[List.length_set,zS hl] at hi
 rw[zP _ _ _ _ _ (by rw[zS hl];exact hj),zdr hl,zdr hl]
 by_cases e:j=i
 ·subst e;rw[if_pos rfl,if_pos (by omega)]
 ·rw[if_neg e]
  by_cases h:i<j
  ·rw[if_pos h,if_pos (by omega)]
  ·rw[if_neg h,if_neg (by omega)]
end Go.Proofs.YtpoahodnakhmiaaGreat
