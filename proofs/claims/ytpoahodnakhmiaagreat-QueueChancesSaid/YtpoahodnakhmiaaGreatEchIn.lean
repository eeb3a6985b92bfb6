import Derived.Test.YtpoahodnakhmiaaGreatSwap
namespace Go.Proofs.YtpoahodnakhmiaaGreat
set_option linter.unusedVariables false
set_option linter.unusedSimpArgs false
abbrev St:=List (List Rat)×List (List Rat)
def ent (l:List (List Rat)) (i j:Nat):Rat:=(l.getD i []).getD j 0
def findK (rows:List (List Rat)) (col:Nat):Nat->Nat->Nat
 | 0,k=>k
 | f+1,k=>if k<rows.length/\ent rows k col=0 then findK rows col f (k+1) else k
def divL (qs:List Rat) (q:Rat):List Rat:=qs.mapIdx fun _ x=>x / q
def takeL (qs:List Rat) (q:Rat) (fs:List Rat):List Rat:=qs.mapIdx fun i x=>x-q*fs.getD i 0
def swapS (a k:Nat) (S:St):St:=(swapL S.1 a k [],swapL S.2 a k [])
def divS (a col:Nat) (S:St):St:=(S.1.set a (divL (S.1.getD a []) (ent S.1 a col)),S.2.set a (divL (S.2.getD a []) (ent S.1 a col)))
def clearS (a col i:Nat) (S:St):St:=
 if i=a\/ent S.1 i col=0 then S else (S.1.set i (takeL (S.1.getD i []) (ent S.1 i col) (S.1.getD a [])),S.2.set i (takeL (S.2.getD i []) (ent S.1 i col) (S.2.getD a [])))
def clearN (a col:Nat):Nat->St->St
 | 0,S=>S
 | n+1,S=>clearS a col n (clearN a col n S)
def colS (col:Nat) (T:St×List Nat):St×List Nat:=
 if findK T.1.1 col T.1.1.length T.2.length=T.1.1.length then T
 else (clearN T.2.length col T.1.1.length (divS T.2.length col (swapS T.2.length (findK T.1.1 col T.1.1.length T.2.length) T.1)),T.2++[col])
def echN:Nat->St->St×List Nat
 | 0,S=>(S,[])
 | n+1,S=>colS n (echN n S)
structure Rect (wd:Nat) (S:St):Prop where
 len:S.2.length=S.1.length
 row:∀i,i<S.1.length->(S.1.getD i []).length=wd
 done:∀i,i<S.1.length->(S.2.getD i []).length=S.1.length
theorem zP {α:Type} (l:List α) (i j:Nat) (x d:α) (hi:i<l.length):(l.set i x).getD j d=if i=j then x else l.getD j d:=by
 by_cases h:i=j
 ·subst h;simp[List.getD,hi]
 ·rw[if_neg h];simp[List.getD,List.getElem?_set_ne h]
theorem zaR (qs:List Rat) (q:Rat) (fs:List Rat):(takeL qs q fs).length=qs.length:=by simp[takeL]
theorem zak (qs:List Rat) (q:Rat):(divL qs q).length=qs.length:=by simp[divL]
theorem zbM {wd a k:Nat} {S:St} (h:Rect wd S) (ha:a<S.1.length) (hk:k<S.1.length):Rect wd (swapS a k S):=by
 refine⟨by simp[swapS,zr,h.len],fun i hi=>?_,fun i hi=>?_⟩
 ·simp only[swapS,zr] at hi ⊢
  rw[zI _ _ _ _ _ hi]
  exact h.row _ (zaI ha hk hi)
 ·simp only[swapS,zr] at hi ⊢
  rw[zI _ _ _ _ _ (by rw[h.len];exact hi)]
  exact h.done _ (zaI ha hk hi)
theorem zgK {wd a:Nat} {S:St} (h:Rect wd S) (ha:a<S.1.length) {r d:List Rat} (hr:r.length=wd) (hd:d.length=S.1.length):Rect wd (S.1.set a r,S.2.set a d):=by
 refine⟨by simp[h.len],fun i hi=>?_,fun i hi=>?_⟩
 ·simp only[List.length_set] at hi ⊢
  rw[zP _ _ _ _ _ ha]
  split
  ·exact hr
  ·exact h.row i hi
 ·simp only[List.length_set] at hi ⊢
  rw[zP _ _ _ _ _ (by rw[h.len];exact ha)]
  split
  ·exact hd
  ·exact h.done i hi
theorem zb3 {wd a col:Nat} {S:St} (h:Rect wd S) (ha:a<S.1.length):Rect wd (divS a col S):=
 zgK h ha (by rw[zak];exact h.row a ha) (by rw[zak];exact h.done a ha)
theorem rect_clear {wd a col i:Nat} {S:St} (h:Rect wd S) (hi:i<S.1.length):Rect wd (clearS a col i S):=by
 unfold clearS
 split
 ·exact h
 ·exact zgK h hi (by rw[zaR];exact h.row i hi) (by rw[zaR];exact h.done i hi)
theorem zX (a k:Nat) (S:St):(swapS a k S).1.length=S.1.length:=by simp[swapS,zr]
theorem zaJ (a col:Nat) (S:St):(divS a col S).1.length=S.1.length:=by simp[divS]
theorem zgp (a col i:Nat) (S:St):(clearS a col i S).1.length=S.1.length:=by unfold clearS;split <;> simp
theorem clearN_length (a col:Nat):∀(n:Nat) (S:St),(clearN a col n S).1.length=S.1.length:=by
 intro n
 induction n with
 | zero=>intro S;rfl
 | succ n ih=>intro S;rw[clearN,zgp,ih]
theorem zbc {wd a col:Nat}:∀(n:Nat) {S:St},Rect wd S->n<=S.1.length->Rect wd (clearN a col n S):=by
 intro n
 induction n with
 | zero=>intro S h _;exact h
 | succ n ih=>intro S h hn;rw[clearN];exact rect_clear (ih h (by omega)) (by rw[clearN_length];omega)
theorem zbA (rows:List (List Rat)) (col:Nat):∀(f k:Nat),k<=rows.length->k<=findK rows col f k/\findK rows col f k<=rows.length:=by
 intro f
 induction f with
 | zero=>intro k hk;exact⟨nr _,hk⟩
 | succ f ih=>
  intro k hk
  unfold findK
  split
  ·rename_i h
   obtain⟨h1,h2⟩:=ih (k+1) h.1
   exact⟨by omega,h2⟩
  ·exact⟨nr _,hk⟩
theorem zls (rows:List (List Rat)) (col:Nat):∀(f k:Nat),rows.length<=k+f->findK rows col f k<rows.length->ent rows (findK rows col f k) col≠0:=by
 intro f
 induction f with
 | zero=>intro k hk h;simp only[findK] at h;omega
 | succ f ih=>
  intro k hk h
  unfold findK at h ⊢
  split at h
  ·rename_i hc;rw[if_pos hc];exact ih (k+1) (by omega) h
  ·rename_i hc;rw[if_neg hc];intro e;exact hc ⟨h,e⟩
theorem zeX (rows:List (List Rat)) (col f k:Nat) (h:k<rows.length) (he:ent rows k col=0):findK rows col (f+1) k=findK rows col f (k+1):=by
 rw[findK,if_pos ⟨h,he⟩]
theorem zbT (rows:List (List Rat)) (col f k:Nat) (h:¬(k<rows.length/\ent rows k col=0)):findK rows col f k=k:=by
 cases f with
 | zero=>rfl
 | succ f=>rw[findK,if_neg h]
theorem zaX {col:Nat} {T:St×List Nat} (h:findK T.1.1 col T.1.1.length T.2.length=T.1.1.length):colS col T=T:=by unfold colS;rw[if_pos h]
theorem za5 {col:Nat} {T:St×List Nat} (h:findK T.1.1 col T.1.1.length T.2.length≠T.1.1.length):
  colS col T=(clearN T.2.length col T.1.1.length (divS T.2.length col (swapS T.2.length (findK T.1.1 col T.1.1.length T.2.length) T.1)),T.2++[col]):=by unfold colS;rw[if_neg h]
theorem zca (col:Nat) (T:St×List Nat):(colS col T).1.1.length=T.1.1.length:=by
 unfold colS
 split
 ·rfl
 ·rw[clearN_length,zaJ,zX]
theorem echN_length:∀(n:Nat) (S:St),(echN n S).1.1.length=S.1.length:=by
 intro n
 induction n with
 | zero=>intro S;rfl
 | succ n ih=>intro S;rw[echN,zca,ih]
theorem zlt {col:Nat} {T:St×List Nat} (h:T.2.length<=T.1.1.length):(colS col T).2.length<=T.1.1.length:=by
 unfold colS
 split
 ·exact h
 ·rename_i hk
  have:=zbA T.1.1 col T.1.1.length T.2.length h
  simp;omega
theorem echN_out:∀(n:Nat) (S:St),(echN n S).2.length<=S.1.length:=by
 intro n
 induction n with
 | zero=>intro S;exact Nat.zero_le _
 | succ n ih=>
  intro S
  have:=zlt (col:=n) (T:=echN n S) (by rw[echN_length];exact ih S)
  rw[echN_length] at this
  exact this
theorem rect_colS {wd col:Nat} {T:St×List Nat} (h:Rect wd T.1) (ho:T.2.length<=T.1.1.length):Rect wd (colS col T).1:=by
 unfold colS
 split
 ·exact h
 ·rename_i hk
  have hr:=zbA T.1.1 col T.1.1.length T.2.length ho
  have h1:=zbM h (a:=T.2.length) (k:=findK T.1.1 col T.1.1.length T.2.length) (by omega) (by omega)
  have h2:=zb3 (col:=col) h1 (a:=T.2.length) (by rw[zX];omega)
  exact zbc _ h2 (by rw[zaJ,zX];exact nr _)
theorem zT {wd:Nat}:∀(n:Nat) {S:St},Rect wd S->Rect wd (echN n S).1:=by
 intro n
 induction n with
 | zero=>intro S h;exact h
 | succ n ih=>intro S h;rw[echN];exact rect_colS (ih h) (by rw[echN_length];exact echN_out n S)
def FitS (L:Nat) (S:St):Prop:=∀i j,FitQ L (ent S.1 i j)/\FitQ L (ent S.2 i j)
theorem zez (qs:List Rat) (q:Rat) (i:Nat) (hi:i<qs.length):(divL qs q).getD i 0=qs.getD i 0 / q:=by
 simp[divL,List.getD,hi]
theorem zdK (qs:List Rat) (q:Rat) (fs:List Rat) (i:Nat) (hi:i<qs.length):(takeL qs q fs).getD i 0=qs.getD i 0-q*fs.getD i 0:=by
 simp[takeL,List.getD,hi]
theorem zmL {L a col:Nat} {S:St} (h:FitS L (divS a col S)) (hl:S.2.length=S.1.length) (ha:a<S.1.length):
  (∀i,i<(S.1.getD a []).length->FitQ L ((S.1.getD a []).getD i 0 / ent S.1 a col))/\(∀i,i<(S.2.getD a []).length->FitQ L ((S.2.getD a []).getD i 0 / ent S.1 a col)):=by
 constructor
 ·intro i hi
  have:=(h a i).1
  unfold ent divS at this
  rw[zP _ _ _ _ _ ha,if_pos rfl,zez _ _ _ hi] at this
  exact this
 ·intro i hi
  have:=(h a i).2
  unfold ent divS at this
  rw[zP _ _ _ _ _ (by rw[hl];exact ha),if_pos rfl,zez _ _ _ hi] at this
  exact this
theorem zlu {L a col i:Nat} {S:St} (h:FitS L (clearS a col i S)) (hl:S.2.length=S.1.length) (hi:i<S.1.length) (hne:i≠a) (hz:ent S.1 i col≠0):
  (∀j,j<(S.1.getD i []).length->FitQ L ((S.1.getD i []).getD j 0-ent S.1 i col*(S.1.getD a []).getD j 0))/\(∀j,j<(S.2.getD i []).length->FitQ L ((S.2.getD i []).getD j 0-ent S.1 i col*(S.2.getD a []).getD j 0)):=by
 unfold clearS at h
 rw[if_neg (fun e=>e.elim hne hz)] at h
 constructor
 ·intro j hj
  have:=(h i j).1
  unfold ent at this
  rw[zP _ _ _ _ _ hi,if_pos rfl,zdK _ _ _ _ hj] at this
  exact this
 ·intro j hj
  have:=(h i j).2
  unfold ent at this
  rw[zP _ _ _ _ _ (by rw[hl];exact hi),if_pos rfl,zdK _ _ _ _ hj] at this
  exact this
def zgL (L cols:Nat) (S:St):Prop:=
 ∀n,n<cols->∀i,i<=S.1.length ->
  findK (echN n S).1.1 n S.1.length (echN n S).2.length≠S.1.length ->
  FitS L (clearN (echN n S).2.length n i (divS (echN n S).2.length n (swapS (echN n S).2.length (findK (echN n S).1.1 n S.1.length (echN n S).2.length) (echN n S).1)))
open Go.RowKit
def zbr (n:Nat):Code->Option Code
 | .block id c=>if id=n then some c else zbr n c
 | .seq a b=>match zbr n a with
  | some c=>some c
  | none=>zbr n b
 | .loop c=>zbr n c
 | .scope c=>zbr n c
 | .cond _ a b=>match zbr n a with
  | some c=>some c
  | none=>zbr n b
 | _=>none
def zgM:Code->Code
 | .loop c=>c
 | _=>.skip
noncomputable def clearBody:Code:=zgM ((Tryz.f191.body.bind (zbr 4)).getD .skip)
def zc5 (w:World) (base M R D cR cD:Nat) (vs us rR rD:List Value) (gs hs:List Nat) (S:St) (L a n k:Nat) (w':World):Prop:=
 MatS w' base M R D cR cD vs us rR rD gs hs (clearN a n k S).1 (clearN a n k S).2 L/\(∀b,Typed w b 3->w'.heap[b]?=w.heap[b]?)/\Below base w w'/\w.heap.size<=w'.heap.size
theorem zgN {wd:Nat} {S:St} (h:Rect wd S) {i:Nat} (hi:i<S.1.length):(S.1.getD i []).length=wd/\(S.2.getD i []).length=S.1.length:=⟨h.row i hi,h.done i hi⟩
set_option maxRecDepth 1000000 in
set_option maxHeartbeats 4000000 in
theorem zi4 (w:World) (base M R D cR cD:Nat) (vs us rR rD:List Value) (gs hs:List Nat) (S:St) (L wd a n N:Nat) (h:MatS w base M R D cR cD vs us rR rD gs hs S.1 S.2 L) (hrect:Rect wd S) (hN:S.1.length=N) (haN:a<N) (hnw:n<wd) (hwd:wd<=1073741824) (hNb:N<=1073741824)
  (hfit:∀i,i<=N->FitS L (clearN a n i S)) (hL:L<=134217700)
  (c1 c2 c3 c4 c5 c8 c9 c10 c11 c12 c13 c14 c15 c16 c17 c18 c19 c20 c21 c22 c23 c24 c25 c26 c27 c28 c29 c30 c31 c32 c33 c34 c35 c36 c37 c38 c39 c40 c41 c42 c43 c44 c45 c46 c47 c48 c49 c50 c51 c52 c53 c54 c55 c56 c57 c58 c59 c60 c61 c62 c63 c64 c65 c66 c67 c68 c69 c70 c71 c72 c73 c74 c75 c76 c77 c78 c79 c80 c81 c82 c83 c84 c87 c88 c89 c90 c91 c92 c93 c94 c95 c96 c97 c98 c99 c100 c101 c102 c103 c104 c105 c106 c107 c108 c109 c110 c111 c112 c113 c114 c115 c116 c117 c118 c119 c120 c121 c122 c123 c124 c125 c126 c127 c128 c129 c130 c131 c132 c133 c134 c135 c136 c137 c138 c139 c140 c141 c142 c143 c144 c145 c146:Value) (Q:Exit->Act->World->Prop)
  (hexit:∀(u10 u11 u86 u87 u88 u89 u90 u91 u92 u93 u94 u95 u96 u97 u98 u99 u100 u101 u102 u103 u104 u105 u106 u107 u108 u109 u110 u111 u112 u113 u114 u115 u116 u117 u118 u119 u120 u121 u122 u123 u124 u125 u126 u127 u128 u129 u130 u131 u132 u133 u134 u135 u136 u137 u138 u139 u140:Value) (w':World),zc5 w base M R D cR cD vs us rR rD gs hs S L a n N w'->Q (.exit 4) ⟨((.pointer (some ⟨M,0,none⟩):Value)::c1::c2::c3::c4::c5::(.int .i64 n:Value)::(.int .i64 a:Value)::c8::c9::u10::u11::c12::c13::c14::c15::c16::c17::c18::c19::c20::c21::c22::c23::c24::c25::c26::c27::c28::c29::c30::c31::c32::c33::c34::c35::c36::c37::c38::c39::c40::c41::c42::c43::c44::c45::c46::c47::c48::c49::c50::c51::c52::c53::c54::c55::c56::c57::c58::c59::c60::c61::c62::c63::c64::c65::c66::c67::c68::c69::c70::c71::c72::c73::c74::c75::c76::c77::c78::c79::c80::c81::c82::c83::c84::(.int .i64 N:Value)::u86::u87::u88::u89::u90::u91::u92::u93::u94::u95::u96::u97::u98::u99::u100::u101::u102::u103::u104::u105::u106::u107::u108::u109::u110::u111::u112::u113::u114::u115::u116::u117::u118::u119::u120::u121::u122::u123::u124::u125::u126::u127::u128::u129::u130::u131::u132::u133::u134::u135::u136::u137::u138::u139::u140::c141::c142::c143::c144::c145::c146::[]).toArray,[]⟩ w'):
  Code.wp Tryz.prog (Code.loop clearBody) Q ⟨((.pointer (some ⟨M,0,none⟩):Value)::c1::c2::c3::c4::c5::(.int .i64 n:Value)::(.int .i64 a:Value)::c8::c9::c10::c11::c12::c13::c14::c15::c16::c17::c18::c19::c20::c21::c22::c23::c24::c25::c26::c27::c28::c29::c30::c31::c32::c33::c34::c35::c36::c37::c38::c39::c40::c41::c42::c43::c44::c45::c46::c47::c48::c49::c50::c51::c52::c53::c54::c55::c56::c57::c58::c59::c60::c61::c62::c63::c64::c65::c66::c67::c68::c69::c70::c71::c72::c73::c74::c75::c76::c77::c78::c79::c80::c81::c82::c83::c84::(.int .i64 N:Value)::(.int .i64 0:Value)::c87::c88::c89::c90::c91::c92::c93::c94::c95::c96::c97::c98::c99::c100::c101::c102::c103::c104::c105::c106::c107::c108::c109::c110::c111::c112::c113::c114::c115::c116::c117::c118::c119::c120::c121::c122::c123::c124::c125::c126::c127::c128::c129::c130::c131::c132::c133::c134::c135::c136::c137::c138::c139::c140::c141::c142::c143::c144::c145::c146::[]).toArray,[]⟩ w:=by
 conv=>arg 2;arg 1;whnf
 have hmz:=zeu
 have HA:=hide (ai h (ai hrect (ai hfit hN)));clear h hrect hfit hN
 have HE:=hide hexit;clear hexit
 go_loopw [86] (fun s86 wr=>∃k:Nat,k<=N/\s86=.int .i64 k/\zc5 w base M R D cR cD vs us rR rD gs hs S L a n k wr) (fun s86 _=>N-(intOf s86).toNat)
 case atStart=>exact⟨0,Nat.zero_le _,rfl,HA.out.1,fun _ _=>rfl,blr _ _,nr _⟩
 case round=>
  obtain⟨k,hk,rfl,hI⟩:=hrel
  by_cases hkl:k<N
  ·have hT:∃T,T=clearN a n k S:=⟨_,rfl⟩
   obtain⟨T,hT⟩:=hT
   have hrk:Rect wd T:=by rw[hT];exact zbc k HA.out.2.1 (by rw[HA.out.2.2.2];omega)
   have hlk:T.1.length=N:=by rw[hT,clearN_length];exact HA.out.2.2.2
   have hfk:FitS L (clearS a n k T):=by rw[hT];exact HA.out.2.2.1 (k+1) (by omega)
   have hnx:clearN a n (k+1) S=clearS a n k T:=by rw[hT];rfl
   unfold zc5 at hI
   rw[<-hT] at hI
   obtain⟨hmat,hty,hbel,hsz⟩:=hI
   obtain⟨gk,ck,hgk,r0,hc1,hc2,hrow,hbg⟩:=hmat.rowAt (i:=k) (by rw[hlk];exact hkl)
   obtain⟨qk,qk'⟩:=zgN hrk (i:=k) (by rw[hlk];exact hkl)
   obtain⟨qa,qa'⟩:=zgN hrk (i:=a) (by rw[hlk];exact haN)
   rw[hlk] at qk' qa'
   rw[qk] at r0 hc1
   obtain⟨s2,B3,m3,d3,B4,m4,d4,e0,e1,e2,hq⟩:=(hrow.2 n (by rw[qk];omega)).rat
   have hm0:=hmat.m0
   rw[hlk] at hm0
   obtain⟨Wb,hWb⟩:∃Wb,Wb=wr.alloc (.cells #[.bool s2,.slice B3 m3 d3,.slice B4 m4 d4] 43):=⟨_,rfl⟩
   have hbb:Below wr.heap.size wr Wb:=by rw[hWb];exact(blr _ _).alloc (nr _) _
   have hbx:=box3 (zL wr (.cells #[.bool s2,.slice B3 m3 d3,.slice B4 m4 d4] 43))
   rw[<-hWb] at hbx
   obtain⟨x0,x1,x2,_,_,_,hszb⟩:=hbx
   have hTyb:Typed Wb wr.heap.size 43:=by rw[hWb];exact⟨_,_,heap_alloc_new wr _⟩
   have HX:=hide (ai hT (ai hrk (ai hlk (ai hfk (ai hnx (ai hmat (ai hty (ai hbel (ai hsz (ai hgk (ai hrow (ai hbg (ai qk (ai qk' (ai qa (ai qa' (ai hq (ai hWb (ai hbb (ai hTyb (ai hc1 hc2)))))))))))))))))))))
   clear hT hrk hlk hfk hnx hmat hty hbel hsz hgk hrow hbg qk qk' qa qa' hq hbb hTyb hc1 hc2 hWb hszb x0 x1 x2
   by_cases hka:k=a
   ·have hne:((k:Int) != (a:Int))=false:=by rw[hka];simp
    have HKA:=hide hka;clear hka
    go_wp2
    go_roundw
    case rel=>
     obtain⟨hT,hrk,hlk,hfk,hnx,hmat,hty,hbel,hsz,hgk,hrow,hbg,qk,qk',qa,qa',hq,hWb,hbb,hTyb,hc1,hc2⟩:=HX.out
     rw[<-hWb]
     refine⟨k+1,by omega,by go_num,?_⟩
     unfold zc5
     have e:clearS a n k T=T:=by unfold clearS;rw[if_pos (.inl HKA.out)]
     rw[hnx,e]
     exact⟨hmat.below hbb,fun b hb=>(hbb.block b (hb.same (hty b hb)).lt).trans (hty b hb),hbel.trans (hbb.mono hmat.le),by have:=hbb.size;omega⟩
    case measure=>simp[intOf];omega
   ·have hne:((k:Int) != (a:Int))=true:=by rw[bne_iff_ne];omega
    by_cases hz:ent T.1 k n=0
    ·go_wp2_with (go_at_call 75;refine(zbg _ _ _ L ((HX.out.2.2.2.2.2.2.2.2.2.2.2.2.2.2.2.2.1).below (by rw[<-HX.out.2.2.2.2.2.2.2.2.2.2.2.2.2.2.2.2.2.1];exact HX.out.2.2.2.2.2.2.2.2.2.2.2.2.2.2.2.2.2.2.1))).mono ?_;rintro e w1 ⟨_,rfl,rfl,hd1⟩;rw[show decide ((T.1.getD k []).getD n 0=0)=true from decide_eq_true hz])
     go_roundw
     case rel=>
      obtain⟨hT,hrk,hlk,hfk,hnx,hmat,hty,hbel,hsz,hgk,hrow,hbg,qk,qk',qa,qa',hq,hWb,hbb,hTyb,hc1,hc2⟩:=HX.out
      rw[<-hWb] at hd1
      have hb1:=bnx hbb hd1
      refine⟨k+1,by omega,by go_num,?_⟩
      unfold zc5
      have e:clearS a n k T=T:=by unfold clearS;rw[if_pos (.inr hz)]
      rw[hnx,e]
      exact⟨hmat.below hb1,fun b hb=>(hb1.block b (hb.same (hty b hb)).lt).trans (hty b hb),hbel.trans (hb1.mono hmat.le),by have:=hb1.size;omega⟩
     case measure=>simp[intOf];omega
    ·go_wp2_with (go_at_call 75;refine(zbg _ _ _ L ((HX.out.2.2.2.2.2.2.2.2.2.2.2.2.2.2.2.2.1).below (by rw[<-HX.out.2.2.2.2.2.2.2.2.2.2.2.2.2.2.2.2.2.1];exact HX.out.2.2.2.2.2.2.2.2.2.2.2.2.2.2.2.2.2.2.1))).mono ?_;rintro e w1 ⟨_,rfl,rfl,hd1⟩;rw[show decide ((T.1.getD k []).getD n 0=0)=false from decide_eq_false hz])
     obtain⟨hT,hrk,hlk,hfk,hnx,hmat,hty,hbel,hsz,hgk,hrow,hbg,qk,qk',qa,qa',hq,hWb,hbb,hTyb,hc1,hc2⟩:=HX.out
     rw[<-hWb] at hd1
     have hb1:=bnx hbb hd1
     have hbx:=box3 (zL wr (.cells #[.bool s2,.slice B3 m3 d3,.slice B4 m4 d4] 43))
     rw[<-hWb] at hbx
     obtain⟨x0,x1,x2,_,_,_,hszb⟩:=hbx
     have y0:=(hd1.cell (zf x0)).trans x0
     have y1:=(hd1.cell (zf x1)).trans x1
     have y2:=(hd1.cell (zf x2)).trans x2
     have hTy1:Typed w1 wr.heap.size 43:=hTyb.same (hd1.block _ hszb)
     have hmat1:=hmat.below hb1
     have hq1:=hq.below hb1
     have hty1:∀b,Typed w b 3->w1.heap[b]?=w.heap[b]?:=fun b hb=>(hb1.block b (hb.same (hty b hb)).lt).trans (hty b hb)
     have hbel1:=hbel.trans (hb1.mono hmat.le)
     have hsz1:w.heap.size<=w1.heap.size:=by have:=hb1.size;omega
     have hgkl:gk≠wr.heap.size:=by have:=hrow.lt;omega
     obtain⟨ga,ca,hga,ra0,hca1,hca2,hrowa,hbga⟩:=hmat1.rowAt (i:=a) (by rw[hlk];exact haN)
     obtain⟨gk',ck',hgk',rk',hck1',hck2',hrowk',hbgk'⟩:=hmat1.doneAt (i:=k) (by rw[hlk];exact hkl)
     obtain⟨ga',ca',hga',ra',hca1',hca2',hrowa',hbga'⟩:=hmat1.doneAt (i:=a) (by rw[hlk];exact haN)
     rw[qa] at ra0 hca1
     rw[qk'] at rk' hck1'
     rw[qa'] at ra' hca1'
     have hgne:gk≠ga:=by rw[hgk,hga];exact hmat1.dg k a (by rw[hlk];exact hkl) (by rw[hlk];exact haN) hka
     have hgne':gk'≠ga':=by rw[hgk',hga'];exact hmat1.dh k a (by rw[hlk];exact hkl) (by rw[hlk];exact haN) hka
     have hrow1:=hrow.below hb1
     have p0:=hmat1.m0
     have p1:=hmat1.m1
     rw[hlk] at p0 p1
     have rk1:=(hb1.cell (zf r0)).trans r0
     obtain⟨hft,hft'⟩:=zlu hfk hrk.len (by rw[hlk];exact hkl) hka hz
     have tR:∀{b e},Typed w1 b e->e≠43->gk≠b:=fun hb he=>Typed.ne ⟨_,_,hrow1.1.choose_spec⟩ hb he.symm
     have gM:gk≠M:=tR ⟨_,_,hmat1.hM⟩ (by decide)
     have gR:gk≠R:=tR ⟨_,_,hmat1.hR⟩ (by decide)
     have gD:gk≠D:=tR ⟨_,_,hmat1.hD⟩ (by decide)
     have hd:=(blr w1.heap.size w1).drew
     have ht:=zk6 w1.drew gk ck (T.1.getD k []) (.agg #[.bool s2,.slice B3 m3 d3,.slice B4 m4 d4]) (ent T.1 k n) ga ca (T.1.getD a []) L (hrow1.below hd) (hq1.below hd) (hrowa.below hd) hL hgne (by rw[qk,qa]) (by rw[qk];exact hc1) hc2 (by rw[qa];exact hca1) hca2 hft
     rw[qk,qa] at ht
     have hS0:=ai p0 (ai rk1 (ai ra0 (ai y0 (ai y1 y2))))
     have hSk:∀w':World,w1.drew.grownBy w' (some gk)->w'.cell? ⟨M,0,none⟩=some (.slice (some ⟨R,0,none⟩) N cR)/\w'.cell? ⟨R,k,none⟩=some (.slice (some ⟨gk,0,none⟩) wd ck)/\w'.cell? ⟨R,a,none⟩=some (.slice (some ⟨ga,0,none⟩) wd ca)/\w'.cell? ⟨wr.heap.size,0,none⟩=some (.bool s2)/\w'.cell? ⟨wr.heap.size,1,none⟩=some (.slice B3 m3 d3)/\w'.cell? ⟨wr.heap.size,2,none⟩=some (.slice B4 m4 d4):=by
      intro w' hg
      have e:∀b j v,w1.cell? ⟨b,j,none⟩=some v->gk≠b->w'.cell? ⟨b,j,none⟩=some v:=fun b j v hv hne=>(World.cell?_of_block (w:=w1.drew) (hg.block b (zf hv) (by intro e;injection e with e;exact hne e.symm))).trans hv
      exact⟨e _ _ _ p0 gM,e _ _ _ rk1 gR,e _ _ _ ra0 gR,e _ _ _ y0 hgkl,e _ _ _ y1 hgkl,e _ _ _ y2 hgkl⟩
     have HSk:=hide hSk;clear hSk
     have HT:=hide ht;clear ht
     have HV:=hide (ai hb1 (ai hTy1 (ai hmat1 (ai hq1 (ai hty1 (ai hbel1 (ai hsz1 (ai hgkl (ai hga (ai hgk' (ai hga' (ai hgne' (ai hrow1 (ai hft' (ai gM (ai gR (ai gD (ai hck1' (ai hck2' (ai hca1' hca2'))))))))))))))))))))
     have HP:=hide (ai p1 (ai rk' (ai ra' (ai y0 (ai y1 y2)))))
     clear hT hrk hlk hfk hnx hmat hty hbel hsz hgk hrow hbg qk qk' qa qa' hq hbb hTyb hc1 hc2 hWb hszb x0 x1 x2 hb1 hTy1 hmat1 hq1 hty1 hbel1 hsz1 hgkl hga hgk' hga' hgne hgne' hrow1 hft hft' gM gR gD hrowa hrowk' hrowa' hbga hbgk' hbga' hck1' hck2' hca1' hca2' hca1 hca2 tR hd hd1 r0 e0 e1 e2 hm0 p0 p1 rk1 ra0 rk' ra' y0 y1 y2
     go_wp2
     go_region_held3 (fun w'=>w'.cell? ⟨M,0,none⟩=some (.slice (some ⟨R,0,none⟩) N cR)/\w'.cell? ⟨R,k,none⟩=some (.slice (some ⟨gk,0,none⟩) wd ck)/\w'.cell? ⟨R,a,none⟩=some (.slice (some ⟨ga,0,none⟩) wd ca)/\w'.cell? ⟨wr.heap.size,0,none⟩=some (.bool s2)/\w'.cell? ⟨wr.heap.size,1,none⟩=some (.slice B3 m3 d3)/\w'.cell? ⟨wr.heap.size,2,none⟩=some (.slice B4 m4 d4))
      (first|(exact HSk.out _ hg4)|(exact hS0)|(go_keep;done))
      (first|(go_at_call 207;refine HT.out.mono ?_;rintro e w4 ⟨_,rfl,rfl,hrow4,hk4,hg4⟩))
     obtain⟨hT,hrk,hlk,hfk,hnx,hmat,hty,hbel,hsz,hgk,hrow,hbg,qk,qk',qa,qa',hq,hWb,hbb,hTyb,hc1,hc2⟩:=HX.out
     obtain⟨hb1,hTy1,hmat1,hq1,hty1,hbel1,hsz1,hgkl,hga,hgk',hga',hgne',hrow1,hft',gM,gR,gD,hck1',hck2',hca1',hca2'⟩:=HV.out
     obtain⟨p1,rk',ra',y0,y1,y2⟩:=HP.out
     have hd:=(blr w1.heap.size w1).drew
     have e4:∀b j v,w1.cell? ⟨b,j,none⟩=some v->gk≠b->w4.cell? ⟨b,j,none⟩=some v:=fun b j v hv hne=>(World.cell?_of_block (w:=w1.drew) (hg4.block b (zf hv) (by intro e;injection e with e;exact hne e.symm))).trans hv
     have p1:=e4 _ _ _ p1 gM
     have rk':=e4 _ _ _ rk' gD
     have ra':=e4 _ _ _ ra' gD
     have y0:=e4 _ _ _ y0 hgkl
     have y1:=e4 _ _ _ y1 hgkl
     have y2:=e4 _ _ _ y2 hgkl
     have hTy4:Typed w4 wr.heap.size 43:=hTy1.same (hg4.block _ hTy1.lt (by intro e;injection e with e;exact hgkl e.symm))
     have hm4:MatS w4 base M R D cR cD vs us rR rD gs hs (T.1.set k (takeL (T.1.getD k []) (ent T.1 k n) (T.1.getD a []))) T.2 L:=
      (hmat1.below hd).row (i:=k) (by rw[hlk];exact hkl) (by rw[zaR]) (by rw[<-hgk];exact hrow4) hk4 (by rw[<-hgk];exact hg4)
     have hq4:=(hq1.below hd).keeps hk4
     have hl4:(T.1.set k (takeL (T.1.getD k []) (ent T.1 k n) (T.1.getD a []))).length=N:=by rw[List.length_set,hlk]
     obtain⟨g5,c5,hg5e,v5,hv51,hv52,hrowk4,_⟩:=hm4.doneAt (i:=k) (by rw[hl4];exact hkl)
     obtain⟨g6,c6,hg6e,v6,hv61,hv62,hrowa4,_⟩:=hm4.doneAt (i:=a) (by rw[hl4];exact haN)
     rw[<-hgk'] at hg5e
     rw[<-hga'] at hg6e
     have hg5e:=hg5e.symm
     have hg6e:=hg6e.symm
     subst hg5e hg6e
     have hty4:∀b,Typed w b 3->w4.heap[b]?=w.heap[b]?:=by
      intro b hb
      have tb:=hb.same (hty1 b hb)
      exact(hg4.block b tb.lt (by intro e;injection e with e;exact(tb.ne ⟨_,_,hrow1.1.choose_spec⟩ (by decide)) e)).trans (hty1 b hb)
     have hbel4:Below base w w4:=only_below hbel1.drew hg4 hmat1.le hbg
     have hsz4:w.heap.size<=w4.heap.size:=by have h1:=hg4.size;have h2:w1.drew.heap.size=w1.heap.size:=rfl;omega
     have tR:∀{b e},Typed w4 b e->e≠43->gk'≠b:=fun hb he=>Typed.ne ⟨_,_,hrowk4.1.choose_spec⟩ hb he.symm
     have gM':gk'≠M:=tR ⟨_,_,hm4.hM⟩ (by decide)
     have gD':gk'≠D:=tR ⟨_,_,hm4.hD⟩ (by decide)
     have hgkl':gk'≠wr.heap.size:=by
      obtain⟨g7,c7,hg7e,_,_,_,hrow7,_⟩:=hmat.doneAt (i:=k) (by rw[hlk];exact hkl)
      have:=hrow7.lt
      rw[hgk',<-hg7e];omega
     have hd4:=(blr w4.heap.size w4).drew
     have ht:=zk6 w4.drew gk' ck' (T.2.getD k []) (.agg #[.bool s2,.slice B3 m3 d3,.slice B4 m4 d4]) (ent T.1 k n) ga' ca' (T.2.getD a []) L (hrowk4.below hd4) (hq4.below hd4) (hrowa4.below hd4) hL hgne' (by rw[qk',qa']) (by rw[qk'];exact hck1') hck2' (by rw[qa'];exact hca1') hca2' hft'
     rw[qk',qa'] at ht
     have hS0:=ai p1 (ai rk' (ai ra' (ai y0 (ai y1 y2))))
     have hSk:∀w':World,w4.drew.grownBy w' (some gk')->w'.cell? ⟨M,1,none⟩=some (.slice (some ⟨D,0,none⟩) N cD)/\w'.cell? ⟨D,k,none⟩=some (.slice (some ⟨gk',0,none⟩) N ck')/\w'.cell? ⟨D,a,none⟩=some (.slice (some ⟨ga',0,none⟩) N ca')/\w'.cell? ⟨wr.heap.size,0,none⟩=some (.bool s2)/\w'.cell? ⟨wr.heap.size,1,none⟩=some (.slice B3 m3 d3)/\w'.cell? ⟨wr.heap.size,2,none⟩=some (.slice B4 m4 d4):=by
      intro w' hg
      have e:∀b j v,w4.cell? ⟨b,j,none⟩=some v->gk'≠b->w'.cell? ⟨b,j,none⟩=some v:=fun b j v hv hne=>(World.cell?_of_block (w:=w4.drew) (hg.block b (zf hv) (by intro e;injection e with e;exact hne e.symm))).trans hv
      exact⟨e _ _ _ p1 gM',e _ _ _ rk' gD',e _ _ _ ra' gD',e _ _ _ y0 hgkl',e _ _ _ y1 hgkl',e _ _ _ y2 hgkl'⟩
     have HSk2:=hide hSk;clear hSk
     have HT2:=hide ht;clear ht
     have HW:=hide (ai hm4 (ai hty4 (ai hbel4 (ai hsz4 (ai hrowk4 (ai hl4 (ai hgk' (ai hbg hnx))))))))
     clear hm4 hty4 hbel4 hsz4 hrowk4 hl4 hTy4 hq4 hrow4 hk4 hg4 hS0 HSk HT HP e4 gM' gD' hgkl' tR hd4 hd v5 v6 hv51 hv52 hv61 hv62 hrowa4
     have hS4:=ai p1 (ai rk' (ai ra' (ai y0 (ai y1 y2))))
     clear hT hrk hlk hfk hnx hmat hty hbel hsz hgk hrow hbg qk qk' qa qa' hq hWb hbb hTyb hc1 hc2 hb1 hTy1 hmat1 hq1 hty1 hbel1 hsz1 hgkl hga hgk' hga' hgne' hrow1 hft' gM gR gD hck1' hck2' hca1' hca2' p1 rk' ra' y0 y1 y2
     go_wp2
     go_region_held3 (fun w'=>w'.cell? ⟨M,1,none⟩=some (.slice (some ⟨D,0,none⟩) N cD)/\w'.cell? ⟨D,k,none⟩=some (.slice (some ⟨gk',0,none⟩) N ck')/\w'.cell? ⟨D,a,none⟩=some (.slice (some ⟨ga',0,none⟩) N ca')/\w'.cell? ⟨wr.heap.size,0,none⟩=some (.bool s2)/\w'.cell? ⟨wr.heap.size,1,none⟩=some (.slice B3 m3 d3)/\w'.cell? ⟨wr.heap.size,2,none⟩=some (.slice B4 m4 d4))
      (first|(exact HSk2.out _ hg5)|(exact hS4)|(go_keep;done))
      (first|(go_at_call 207;refine HT2.out.mono ?_;rintro e w5 ⟨_,rfl,rfl,hrow5,hk5,hg5⟩))
     clear hS4
     go_wp2
     go_roundw
     case rel=>
      obtain⟨hm4,hty4,hbel4,hsz4,hrowk4,hl4,hgk',hbg,hnx⟩:=HW.out
      have hd4:=(blr w4.heap.size w4).drew
      refine⟨k+1,by omega,by go_num,?_⟩
      unfold zc5
      have e:clearS a n k T=(T.1.set k (takeL (T.1.getD k []) (ent T.1 k n) (T.1.getD a [])),T.2.set k (takeL (T.2.getD k []) (ent T.1 k n) (T.2.getD a []))):=by
       unfold clearS;rw[if_neg (fun e=>e.elim hka hz)]
      rw[hnx,e]
      have hm5:=(hm4.below hd4).doneRow (i:=k) (qs:=takeL (T.2.getD k []) (ent T.1 k n) (T.2.getD a [])) (by rw[hl4];exact hkl) (by rw[zaR]) (by rw[<-hgk'];exact hrow5) hk5 (by rw[<-hgk'];exact hg5)
      refine⟨hm5,?_,?_,?_⟩
      ·intro b hb
       have tb:=hb.same (hty4 b hb)
       exact(hg5.block b tb.lt (by intro e;injection e with e;exact(tb.ne ⟨_,_,hrowk4.1.choose_spec⟩ (by decide)) e)).trans (hty4 b hb)
      ·exact only_below hbel4.drew hg5 hm4.le (by rw[hgk'];exact(hm4.dok k (by rw[hl4];exact hkl)).1)
      ·have h1:=hg5.size;have h2:w4.drew.heap.size=w4.heap.size:=rfl;omega
     case measure=>simp[intOf];omega
  ·obtain rfl:k=N:=by omega
   have HI:=hide hI;clear hI
   go_wp2
   exact HE.out _ _ _ _ _ _ _ _ _ _ _ _ _ _ _ _ _ _ _ _ _ _ _ _ _ _ _ _ _ _ _ _ _ _ _ _ _ _ _ _ _ _ _ _ _ _ _ _ _ _ _ _ _ _ _ _ _ _ HI.out
end Go.Proofs.YtpoahodnakhmiaaGreat
