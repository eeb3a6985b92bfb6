import Derived.Test.YtpoahodnakhmiaaGreatQTry
namespace Go.Proofs.YtpoahodnakhmiaaGreat
set_option linter.unusedVariables false
set_option linter.unusedSimpArgs false
def absQ (x:Rat):Rat:=if 0<=x then x else -x
theorem zmb (x y:Rat):absQ (x+y)<=absQ x+absQ y:=by unfold absQ;grind
theorem zfK (x:Rat):0<=absQ x:=by unfold absQ;grind
theorem zk9 {x:Rat} (h:absQ x=0):x=0:=by unfold absQ at h;grind
theorem zmc (x y:Rat) (hy:0<=y):absQ (x*y)=absQ x*y:=by
 unfold absQ
 by_cases hx:0<=x
 ·rw[if_pos hx,if_pos (Rat.mul_nonneg hx hy)]
 ·rw[if_neg hx]
  by_cases h:0<=x*y
  ·rw[if_pos h]
   have:=Rat.mul_nonneg (a:=-x) (b:=y) (by grind) hy
   grind
  ·rw[if_neg h];grind
theorem ziU {f:Nat->Rat}:∀n,(∀k,k<n->0<=f k)->0<=sumN f n
 | 0,_=>by simp[sumN]
 | n+1,h=>by
  have h1:=ziU n (fun k hk=>h k (by omega))
  have h2:=h n (by omega)
  rw[sumN];grind
theorem zhP (f:Nat->Rat):∀n,absQ (sumN f n)<=sumN (fun k=>absQ (f k)) n
 | 0=>by simp[sumN,absQ]
 | n+1=>by
  have h1:=zhP f n
  have h2:=zmb (sumN f n) (f n)
  rw[sumN,sumN];grind
theorem zea (f:Nat->Nat->Rat) (n:Nat):∀m,sumN (fun j=>sumN (fun i=>f i j) n) m=sumN (fun i=>sumN (fun j=>f i j) m) n
 | 0=>by simp only[sumN];rw[zbn n (fun _ _=>rfl)]
 | m+1=>by
  simp only[sumN]
  rw[zea f n m,<-zcG]
theorem zeO {f:Nat->Rat}:∀n,(∀k,k<n->0<=f k)->sumN f n=0->∀k,k<n->f k=0
 | 0,_,_,k,hk=>by omega
 | n+1,h,e,k,hk=>by
  have h1:=ziU n (fun k hk=>h k (by omega))
  have h2:=h n (by omega)
  rw[sumN] at e
  by_cases ek:k=n
  ·subst ek;grind
  ·exact zeO n (fun k hk=>h k (by omega)) (by grind) k (by omega)
structure zab (n:Nat) (W:Nat->Nat->Rat):Prop where
 pos:0<n
 nn:∀i j,i<n->j<n->0<=W i j
 one:∀i,i<n->sumN (W i) n=1
 next:∀i,i<n->0<W i ((i+1)%n)
def Inv (n:Nat) (W:Nat->Nat->Rat) (e:Nat->Rat):Prop:=∀j,j<n->e j=sumN (fun i=>e i*W i j) n
theorem zab.total {n:Nat} {W:Nat->Nat->Rat} (h:zab n W) (e:Nat->Rat):sumN (fun j=>sumN (fun i=>e i*W i j) n) n=sumN e n:=by
 rw[zea]
 exact zaA n fun i hi=>by rw[zcH (fun j=>W i j) (e i),show sumN (fun j=>W i j) n=1 from h.one i hi];grind
theorem zab.close {n:Nat} {W:Nat->Nat->Rat} (h:zab n W) {e:Nat->Rat} (he:∀j,1<=j->j<n->e j=sumN (fun i=>e i*W i j) n):Inv n W e:=by
 intro j hj
 by_cases hj0:1<=j
 ·exact he j hj0 hj
 ·obtain rfl:j=0:=by omega
  have h1:=zaN e (fun j=>sumN (fun i=>e i*W i j) n) 1 n
  rw[h.total e,zaC n 0 hj (fun k hk hne=>by show e k-1*sumN _ n=0;rw[<-he k (by omega) hk];grind)] at h1
  show e 0=sumN _ n
  grind
theorem zab.abs {n:Nat} {W:Nat->Nat->Rat} (h:zab n W) {e:Nat->Rat} (he:Inv n W e):Inv n W (fun i=>absQ (e i)):=by
 have h1:∀j,j<n->absQ (e j)<=sumN (fun i=>absQ (e i)*W i j) n:=fun j hj=>by
  have a:=zhP (fun i=>e i*W i j) n
  rw[<-he j hj,zaA n (fun i hi=>zmc (e i) (W i j) (h.nn i j hi hj))] at a
  exact a
 have h2:=zaN (fun j=>sumN (fun i=>absQ (e i)*W i j) n) (fun j=>absQ (e j)) 1 n
 rw[h.total (fun i=>absQ (e i))] at h2
 have h3:=zeO (f:=fun j=>sumN (fun i=>absQ (e i)*W i j) n-1*absQ (e j)) n (fun j hj=>by have:=h1 j hj;show 0<=sumN (fun i=>absQ (e i)*W i j) n-1*absQ (e j);grind) (by rw[h2];grind)
 intro j hj
 have:=h3 j hj
 show absQ (e j)=sumN _ n
 grind
theorem Inv.sub {n:Nat} {W:Nat->Nat->Rat} {e f:Nat->Rat} (he:Inv n W e) (hf:Inv n W f) (c:Rat):Inv n W (fun i=>e i-c*f i):=by
 intro j hj
 show e j-c*f j=sumN (fun i=>(e i-c*f i)*W i j) n
 rw[he j hj,hf j hj,<-zaN]
 exact zaA n fun i _=>by grind
theorem zab.back {n:Nat} {W:Nat->Nat->Rat} (h:zab n W) {e:Nat->Rat} (he:Inv n W e) (h0:∀i,i<n->0<=e i) {i:Nat} (hi:i<n) (hz:e ((i+1)%n)=0):e i=0:=by
 have hj:(i+1)%n<n:=Nat.mod_lt _ h.pos
 have h1:=he _ hj
 rw[hz] at h1
 have h2:=zeO n (fun k hk=>Rat.mul_nonneg (h0 k hk) (h.nn k _ hk hj)) h1.symm i hi
 have h3:=h.next i hi
 rcases Rat.mul_eq_zero.1 h2 with h4|h4
 ·exact h4
 ·grind
theorem zab.down {n:Nat} {W:Nat->Nat->Rat} (h:zab n W) {e:Nat->Rat} (he:Inv n W e) (h0:∀i,i<n->0<=e i) {i:Nat} (hi:i<n) (hz:e i=0):∀t,t<=i->e (i-t)=0
 | 0,_=>hz
 | t+1,ht=>by
  have h1:=h.down he h0 hi hz t (by omega)
  exact h.back he h0 (by omega) (by rw[Nat.mod_eq_of_lt (by omega),show i-(t+1)+1=i-t by omega];exact h1)
theorem zab.zero {n:Nat} {W:Nat->Nat->Rat} (h:zab n W) {e:Nat->Rat} (he:Inv n W e) (hz:e 0=0) (i:Nat) (hi:i<n):e i=0:=by
 have ha:=h.abs he
 have hp:=h.pos
 have h0:∀i,i<n->0<=absQ (e i):=fun i _=>zfK _
 have h1:absQ (e (n-1))=0:=h.back (e:=fun i=>absQ (e i)) ha h0 (by omega) (by
  show absQ (e _)=0
  rw[show n-1+1=n by omega,Nat.mod_self,hz];rfl)
 have h2:=h.down (e:=fun i=>absQ (e i)) ha h0 (i:=n-1) (by omega) h1 (n-1-i) (by omega)
 rw[show n-1-(n-1-i)=i by omega] at h2
 exact zk9 h2
theorem zab.positive {n:Nat} {W:Nat->Nat->Rat} (h:zab n W) {e:Nat->Rat} (he:Inv n W e) (hz:e 0=1) (i:Nat) (hi:i<n):0<e i:=by
 have ha:=h.abs he
 have h0:∀i,i<n->0<=absQ (e i):=fun i _=>zfK _
 have h1:=h.zero (ha.sub he 1) (by show absQ (e 0)-1*e 0=0;rw[hz];decide +kernel) i hi
 have h2:=zfK (e i)
 refine Classical.byContradiction fun hn=>?_
 have h3:absQ (e i)=0:=by grind
 have h4:=h.down (e:=fun i=>absQ (e i)) ha h0 hi h3 i (nr _)
 rw[Nat.sub_self] at h4
 replace h4:absQ (e 0)=0:=h4
 rw[hz] at h4
 revert h4
 decide +kernel
theorem zgv {wd:Nat} {rows:List (List Rat)} {bs:List Rat} (h:Sys wd rows bs) (hl:rows.length=wd) (h0:0<wd)
  (hk:∀x:Nat->Rat,(∀i,i<wd->sumN (fun j=>ent rows i j*x j) wd=0)->∀j,j<wd->x j=0):oneS rows:=by
 unfold oneS
 rw[h.solS_eq (by omega),h.row 0 (by omega)]
 have hI:=echI (zU h.row) wd
 have hle:=h.rank_le
 rw[h.solS_eq (by omega),h.row 0 (by omega)] at hle
 have hlen:(echN wd (rows,idRows rows.length)).1.1.length=rows.length:=echN_length _ _
 refine Nat.le_antisymm hle (Nat.le_of_not_lt fun hlt=>?_)
 obtain⟨T,hT⟩:∃T,T=echN wd (rows,idRows rows.length):=⟨_,rfl⟩
 rw[<-hT] at hI hlt hlen hle
 obtain⟨c,hc,hout⟩:∃c,c<wd/\∀r,r<T.2.length->T.2.getD r 0≠c:=by
  refine Classical.byContradiction fun hn=>?_
  have hall:∀c,c<wd->∃r,r<T.2.length/\T.2.getD r 0=c:=fun c hc=>Classical.byContradiction fun h2=>hn ⟨c,hc,fun r hr e=>h2 ⟨r,hr,e⟩⟩
  have hch:∀c,∃r,c<wd->r<T.2.length/\T.2.getD r 0=c:=fun c=>by
   by_cases hc:c<wd
   ·obtain⟨r,a,b⟩:=hall c hc;exact⟨r,fun _=>⟨a,b⟩⟩
   ·exact⟨0,fun h=>absurd h hc⟩
  have hf:=Classical.skolem.1 hch
  obtain⟨f,hf⟩:=hf
  obtain⟨i,j,hij,hj,e⟩:=php (wd-1) f (fun i hi=>by have:=(hf i (by omega)).1;omega)
  have a:=(hf i (by omega)).2
  have b:=(hf j (by omega)).2
  rw[e] at a
  omega
 have hdec:∀j,∃x:Rat,(j=c->x=1)/\(∀r,r<T.2.length->T.2.getD r 0=j->x=-ent T.1.1 r c)/\(j≠c->(∀r,r<T.2.length->T.2.getD r 0≠j)->x=0):=fun j=>by
  by_cases hjc:j=c
  ·exact⟨1,fun _=>rfl,fun r hr e=>absurd (e.trans hjc) (hout r hr),fun h=>absurd hjc h⟩
  ·by_cases hr:∃r,r<T.2.length/\T.2.getD r 0=j
   ·obtain⟨r,hr,e⟩:=hr
    refine⟨-ent T.1.1 r c,fun h=>absurd h hjc,fun s hs e2=>?_,fun _ h=>absurd e (h r hr)⟩
    by_cases hrs:r<s
    ·have:=hI.mono r s hrs hs;omega
    ·by_cases hsr:s<r
     ·have:=hI.mono s r hsr hr;omega
     ·rw[show s=r by omega]
   ·exact⟨0,fun h=>absurd h hjc,fun s hs e2=>absurd ⟨s,hs,e2⟩ hr,fun _ _=>rfl⟩
 obtain⟨x,hx⟩:=Classical.skolem.1 hdec
 have hφ:Lin (fun f=>sumN (fun j=>f (3*j)*x j) wd):=by
  constructor
  ·intro f c
   show sumN (fun j=>f (3*j) / c*x j) wd=_
   rw[show (fun j=>f (3*j) / c*x j)=(fun j=>(f (3*j)*x j) / c) from by funext t;grind,zbK]
  ·intro f g c
   show sumN (fun j=>(f (3*j)-c*g (3*j))*x j) wd=_
   rw[show (fun j=>(f (3*j)-c*g (3*j))*x j)=(fun j=>(f (3*j)*x j)-c*(g (3*j)*x j)) from by funext t;grind,zaN]
 have hzero:∀i,i<rows.length->sumN (fun j=>ent T.1.1 i j*x j) wd=0:=by
  intro i hi
  by_cases hlow:i<T.2.length
  ·
   have hoc:=hout i hlow
   have hlt2:=hI.lt i hlow
   have e1:∀j,j<wd->ent T.1.1 i j*x j=(if j=T.2.getD i 0 then -ent T.1.1 i c else 0)+(if j=c then ent T.1.1 i c else 0):=by
    intro j hj
    by_cases hjc:j=c
    ·rw[if_neg (by rw[hjc];exact fun e=>hoc e.symm),if_pos hjc,(hx j).1 hjc,hjc];grind
    ·rw[if_neg hjc]
     by_cases hjo:j=T.2.getD i 0
     ·rw[if_pos hjo,(hx j).2.1 i hlow hjo.symm]
      have:=hI.one i hlow
      rw[<-hjo] at this
      rw[this];grind
     ·rw[if_neg hjo]
      by_cases hr:∃r,r<T.2.length/\T.2.getD r 0=j
      ·obtain⟨r,hr,e⟩:=hr
       have hri:i≠r:=fun e2=>hjo (by rw[e2];exact e.symm)
       have:=hI.alone r i hr (by omega) hri
       rw[e] at this
       rw[this];grind
      ·rw[(hx j).2.2 hjc (fun r hr e=>hr |> fun hr2=>absurd ⟨r,hr2,e⟩ ‹¬∃r,r<T.2.length/\T.2.getD r 0=j›)];grind
   rw[zaA wd e1,zcG,zaC wd (T.2.getD i 0) hlt2 (fun k hk hne=>by rw[if_neg hne]),if_pos rfl,zaC wd c hc (fun k hk hne=>by rw[if_neg hne]),if_pos rfl]
   grind
  ·exact zbn wd fun j hj=>by rw[hI.low i j (by omega) (by omega) hj];grind
 have hback:=(zde hφ [] (zU h.row) wd).2 (fun i hi=>by
  show sumN (fun j=>ex [] _ i (3*j)*x j) wd=0
  simp only[zO]
  rw[<-hT]
  exact hzero i hi)
 have:=hk x (fun i hi=>by
  have:=hback i (by show i<rows.length;omega)
  simp only[zO] at this
  exact this) c hc
 rw[(hx c).1 rfl] at this
 revert this
 decide +kernel
def rowsV (n:Nat) (W:Nat->Nat->Rat):List (List Rat):=(List.range n).map fun j=>(List.range n).map fun i=>if j=0 then (if i=j then 1 else 0) else (if i=j then 1 else 0)-W i j
def bsV (n:Nat):List Rat:=(List.replicate n 0).set 0 1
theorem zaf (n:Nat) (W:Nat->Nat->Rat):(rowsV n W).length=n:=by simp[rowsV]
theorem zbo (n:Nat) (W:Nat->Nat->Rat) (j:Nat) (hj:j<n):(rowsV n W).getD j []=(List.range n).map fun i=>if j=0 then (if i=j then 1 else 0) else (if i=j then 1 else 0)-W i j:=by
 unfold rowsV;simp[List.getD,hj]
theorem zgk (n:Nat) (W:Nat->Nat->Rat) (j i:Nat) (hj:j<n) (hi:i<n):ent (rowsV n W) j i=if j=0 then (if i=j then 1 else 0) else (if i=j then 1 else 0)-W i j:=by
 unfold ent;rw[zbo n W j hj];simp[List.getD,hi]
theorem zla (n:Nat) (W:Nat->Nat->Rat) (j i:Nat) (h:¬(j<n/\i<n)):ent (rowsV n W) j i=0:=by
 unfold ent
 by_cases hj:j<n
 ·rw[zbo n W j hj,zb9 (by simp;omega)]
 ·rw[show (rowsV n W).getD j []=[] by unfold rowsV;simp[List.getD,hj]];rfl
theorem zjA (n:Nat):(bsV n).length=n:=by simp[bsV]
theorem zfL (n:Nat) (hn:0<n) (i:Nat):(bsV n).getD i 0=if i=0 then 1 else 0:=by
 unfold bsV
 rw[zP _ _ _ _ _ (by simpa using hn)]
 by_cases h:i=0
 ·rw[if_pos h.symm,if_pos h]
 ·rw[if_neg (fun e=>h e.symm),if_neg h];simp only[List.getD,List.getElem?_replicate];split <;> rfl
theorem zcU {n:Nat} {W:Nat->Nat->Rat} (x:Nat->Rat) (j:Nat) (hj:j<n):sumN (fun i=>ent (rowsV n W) j i*x i) n=if j=0 then x 0 else x j-sumN (fun i=>x i*W i j) n:=by
 rw[zaA n (fun i hi=>by rw[zgk n W j i hj hi])]
 by_cases h0:j=0
 ·subst h0
  simp only[if_true]
  rw[zaC n 0 hj (fun k hk hne=>by rw[if_neg hne];grind)]
  simp
 ·simp only[if_neg h0]
  rw[show (fun k=>((if k=j then (1:Rat) else 0)-W k j)*x k)=(fun k=>(if k=j then x j else 0)-1*(x k*W k j)) from by funext k;by_cases e:k=j <;> simp[e] <;> grind,zaN,zaC n j hj (fun k hk hne=>by rw[if_neg hne]),if_pos rfl]
  grind
theorem zab.kernel {n:Nat} {W:Nat->Nat->Rat} (h:zab n W) (x:Nat->Rat) (hx:∀j,j<n->sumN (fun i=>ent (rowsV n W) j i*x i) n=0) (i:Nat) (hi:i<n):x i=0:=by
 have h1:Inv n W x:=h.close fun j h1 hj=>by
  have:=hx j hj
  rw[zcU x j hj,if_neg (by omega)] at this
  grind
 have h2:x 0=0:=by have:=hx 0 h.pos;rwa[zcU x 0 h.pos,if_pos rfl] at this
 exact h.zero h1 h2 i hi
theorem zlb {n:Nat} {W:Nat->Nat->Rat} (hn:n<=6) (h0:0<n) (hW:∀i j,i<n->j<n->FracQ 12 (W i j)/\FracQ 12 (1-W i j)/\FracQ 12 (0-W i j)):Sys n (rowsV n W) (bsV n):=by
 refine⟨by rw[zaf];exact hn,hn,fun i hi=>?_,by rw[zjA,zaf],fun i j=>?_,fun i=>?_⟩
 ·rw[zaf] at hi
  rw[zbo n W i hi];simp
 ·by_cases hij:i<n/\j<n
  ·rw[zgk n W i j hij.1 hij.2]
   split
   ·split <;> exact⟨by decide,by decide⟩
   ·split
    ·exact(hW j i hij.2 hij.1).2.1
    ·exact(hW j i hij.2 hij.1).2.2
  ·rw[zla n W i j hij];exact⟨by decide,by decide⟩
 ·rw[zfL n h0];split <;> exact⟨by decide,by decide⟩
def visV (n:Nat) (W:Nat->Nat->Rat):List Rat:=solX (rowsV n W) (bsV n)
theorem zbF (n:Nat) (W:Nat->Nat->Rat) (hn:0<n):(visV n W).length=n:=by unfold visV;rw[zat,zbo n W 0 hn];simp
theorem zab.one_sol {n:Nat} {W:Nat->Nat->Rat} (h:zab n W) (hs:Sys n (rowsV n W) (bsV n)):oneS (rowsV n W)/\¬denied (rowsV n W) (bsV n):=by
 have h1:oneS (rowsV n W):=zgv hs (zaf n W) h.pos (fun x hx=>h.kernel x hx)
 refine⟨h1,fun hd=>?_⟩
 unfold denied at hd
 unfold oneS at h1
 have hr:((rowsV n W).getD 0 []).length=n:=by rw[zbo n W 0 h.pos];simp
 have:=(zbx (solS (rowsV n W)).1.2 (bsV n) (rowsV n W).length (solS (rowsV n W)).2.length).1
 rw[h1,hr] at this
 rw[h1,hr,zaf] at hd
 rw[zaf] at this
 omega
theorem zab.sol {n:Nat} {W:Nat->Nat->Rat} (h:zab n W) (hs:Sys n (rowsV n W) (bsV n)):Inv n W (fun i=>(visV n W).getD i 0)/\(visV n W).getD 0 0=1:=by
 obtain⟨h1,hno⟩:=h.one_sol hs
 have hp:=h.pos
 have hl:=zaf n W
 have hr:((rowsV n W).getD 0 []).length=n:=by rw[zbo n W 0 h.pos];simp
 have h2:(echN n (rowsV n W,idRows (rowsV n W).length)).2.length=n:=by
  have:=h1;unfold oneS at this;rwa[hs.solS_eq (by omega),hr] at this
 have key:∀j,j<n->sumN (fun i=>ent (rowsV n W) j i*(visV n W).getD i 0) n=(bsV n).getD j 0:=fun j hj=>
  zfh hs.row (fun j=>(solX (rowsV n W) (bsV n)).getD j 0) h2 (fun j hj=>hs.solX_get (by omega) h1 j hj) (fun j hj1 hj2=>by omega) j (by omega)
 constructor
 ·refine h.close fun j h1 hj=>?_
  have:=key j hj
  rw[zcU _ j hj,if_neg (by omega),zfL n hp,if_neg (by omega)] at this
  grind
 ·have:=key 0 hp
  rwa[zcU _ 0 hp,if_pos rfl,zfL n hp,if_pos rfl] at this
theorem zab.vis_pos {n:Nat} {W:Nat->Nat->Rat} (h:zab n W) (hs:Sys n (rowsV n W) (bsV n)) (i:Nat) (hi:i<n):0<(visV n W).getD i 0:=
 h.positive (h.sol hs).1 (h.sol hs).2 i hi
theorem zab.only {n:Nat} {W:Nat->Nat->Rat} (h:zab n W) {e f:Nat->Rat} (he:Inv n W e) (hf:Inv n W f) (hz:f 0=1) (i:Nat) (hi:i<n):e i=e 0*f i:=by
 have:=h.zero (he.sub hf (e 0)) (by show e 0-e 0*f 0=0;rw[hz];grind) i hi
 replace this:e i-e 0*f i=0:=this
 grind
theorem zfM {wd:Nat} {rows:List (List Rat)} {bs:List Rat} (h:Sys wd rows bs) (hr0:0<rows.length) (h0:0<wd)
  (hk:∀x:Nat->Rat,(∀i,i<rows.length->sumN (fun j=>ent rows i j*x j) wd=0)->∀j,j<wd->x j=0):oneS rows:=by
 unfold oneS
 rw[h.solS_eq (by omega),h.row 0 (by omega)]
 have hI:=echI (zU h.row) wd
 have hle:=h.rank_le
 rw[h.solS_eq (by omega),h.row 0 (by omega)] at hle
 have hlen:(echN wd (rows,idRows rows.length)).1.1.length=rows.length:=echN_length _ _
 refine Nat.le_antisymm hle (Nat.le_of_not_lt fun hlt=>?_)
 obtain⟨T,hT⟩:∃T,T=echN wd (rows,idRows rows.length):=⟨_,rfl⟩
 rw[<-hT] at hI hlt hlen hle
 obtain⟨c,hc,hout⟩:∃c,c<wd/\∀r,r<T.2.length->T.2.getD r 0≠c:=by
  refine Classical.byContradiction fun hn=>?_
  have hall:∀c,c<wd->∃r,r<T.2.length/\T.2.getD r 0=c:=fun c hc=>Classical.byContradiction fun h2=>hn ⟨c,hc,fun r hr e=>h2 ⟨r,hr,e⟩⟩
  have hch:∀c,∃r,c<wd->r<T.2.length/\T.2.getD r 0=c:=fun c=>by
   by_cases hc:c<wd
   ·obtain⟨r,a,b⟩:=hall c hc;exact⟨r,fun _=>⟨a,b⟩⟩
   ·exact⟨0,fun h=>absurd h hc⟩
  have hf:=Classical.skolem.1 hch
  obtain⟨f,hf⟩:=hf
  obtain⟨i,j,hij,hj,e⟩:=php (wd-1) f (fun i hi=>by have:=(hf i (by omega)).1;omega)
  have a:=(hf i (by omega)).2
  have b:=(hf j (by omega)).2
  rw[e] at a
  omega
 have hdec:∀j,∃x:Rat,(j=c->x=1)/\(∀r,r<T.2.length->T.2.getD r 0=j->x=-ent T.1.1 r c)/\(j≠c->(∀r,r<T.2.length->T.2.getD r 0≠j)->x=0):=fun j=>by
  by_cases hjc:j=c
  ·exact⟨1,fun _=>rfl,fun r hr e=>absurd (e.trans hjc) (hout r hr),fun h=>absurd hjc h⟩
  ·by_cases hr:∃r,r<T.2.length/\T.2.getD r 0=j
   ·obtain⟨r,hr,e⟩:=hr
    refine⟨-ent T.1.1 r c,fun h=>absurd h hjc,fun s hs e2=>?_,fun _ h=>absurd e (h r hr)⟩
    by_cases hrs:r<s
    ·have:=hI.mono r s hrs hs;omega
    ·by_cases hsr:s<r
     ·have:=hI.mono s r hsr hr;omega
     ·rw[show s=r by omega]
   ·exact⟨0,fun h=>absurd h hjc,fun s hs e2=>absurd ⟨s,hs,e2⟩ hr,fun _ _=>rfl⟩
 obtain⟨x,hx⟩:=Classical.skolem.1 hdec
 have hφ:Lin (fun f=>sumN (fun j=>f (3*j)*x j) wd):=by
  constructor
  ·intro f c
   show sumN (fun j=>f (3*j) / c*x j) wd=_
   rw[show (fun j=>f (3*j) / c*x j)=(fun j=>(f (3*j)*x j) / c) from by funext t;grind,zbK]
  ·intro f g c
   show sumN (fun j=>(f (3*j)-c*g (3*j))*x j) wd=_
   rw[show (fun j=>(f (3*j)-c*g (3*j))*x j)=(fun j=>(f (3*j)*x j)-c*(g (3*j)*x j)) from by funext t;grind,zaN]
 have hzero:∀i,i<rows.length->sumN (fun j=>ent T.1.1 i j*x j) wd=0:=by
  intro i hi
  by_cases hlow:i<T.2.length
  ·
   have hoc:=hout i hlow
   have hlt2:=hI.lt i hlow
   have e1:∀j,j<wd->ent T.1.1 i j*x j=(if j=T.2.getD i 0 then -ent T.1.1 i c else 0)+(if j=c then ent T.1.1 i c else 0):=by
    intro j hj
    by_cases hjc:j=c
    ·rw[if_neg (by rw[hjc];exact fun e=>hoc e.symm),if_pos hjc,(hx j).1 hjc,hjc];grind
    ·rw[if_neg hjc]
     by_cases hjo:j=T.2.getD i 0
     ·rw[if_pos hjo,(hx j).2.1 i hlow hjo.symm]
      have:=hI.one i hlow
      rw[<-hjo] at this
      rw[this];grind
     ·rw[if_neg hjo]
      by_cases hr:∃r,r<T.2.length/\T.2.getD r 0=j
      ·obtain⟨r,hr,e⟩:=hr
       have hri:i≠r:=fun e2=>hjo (by rw[e2];exact e.symm)
       have:=hI.alone r i hr (by omega) hri
       rw[e] at this
       rw[this];grind
      ·rw[(hx j).2.2 hjc (fun r hr e=>hr |> fun hr2=>absurd ⟨r,hr2,e⟩ ‹¬∃r,r<T.2.length/\T.2.getD r 0=j›)];grind
   rw[zaA wd e1,zcG,zaC wd (T.2.getD i 0) hlt2 (fun k hk hne=>by rw[if_neg hne]),if_pos rfl,zaC wd c hc (fun k hk hne=>by rw[if_neg hne]),if_pos rfl]
   grind
  ·exact zbn wd fun j hj=>by rw[hI.low i j (by omega) (by omega) hj];grind
 have hback:=(zde hφ [] (zU h.row) wd).2 (fun i hi=>by
  show sumN (fun j=>ex [] _ i (3*j)*x j) wd=0
  simp only[zO]
  rw[<-hT]
  exact hzero i hi)
 have:=hk x (fun i hi=>by
  have:=hback i (by show i<rows.length;omega)
  simp only[zO] at this
  exact this) c hc
 rw[(hx c).1 rfl] at this
 revert this
 decide +kernel
def refV (n:Nat) (W:Nat->Nat->Rat):List (List Rat):=((List.range n).map fun j=>(List.range n).map fun i=>if i=j then W i j-1 else W i j)++[(List.range n).map fun i=>if i=0 then 1 else 0]
def refB (n:Nat):List Rat:=List.replicate n 0++[1]
theorem zaO (n:Nat) (W:Nat->Nat->Rat):(refV n W).length=n+1:=by simp[refV]
theorem zil (n:Nat):(refB n).length=n+1:=by simp[refB]
theorem zcK (n:Nat) (W:Nat->Nat->Rat) (j:Nat) (hj:j<n):(refV n W).getD j []=(List.range n).map fun i=>if i=j then W i j-1 else W i j:=by
 unfold refV;rw[List.getD_eq_getElem?_getD,List.getElem?_append_left (by simpa using hj)];simp[hj]
theorem zeb (n:Nat) (W:Nat->Nat->Rat):(refV n W).getD n []=(List.range n).map fun i=>if i=0 then 1 else 0:=by
 unfold refV;rw[List.getD_eq_getElem?_getD,List.getElem?_append_right (by simp)];simp
theorem zhQ (n:Nat) (W:Nat->Nat->Rat) (j i:Nat) (hj:j<n) (hi:i<n):ent (refV n W) j i=if i=j then W i j-1 else W i j:=by
 unfold ent;rw[zcK n W j hj];simp[List.getD,hi]
theorem zec (n:Nat) (W:Nat->Nat->Rat) (i:Nat) (hi:i<n):ent (refV n W) n i=if i=0 then 1 else 0:=by
 unfold ent;rw[zeb];simp[List.getD,hi]
theorem zmd (n:Nat) (W:Nat->Nat->Rat) (j i:Nat) (h:¬(j<n+1/\i<n)):ent (refV n W) j i=0:=by
 unfold ent
 by_cases hj:j<n+1
 ·have hi:¬i<n:=fun hi=>h ⟨hj,hi⟩
  by_cases hjn:j<n
  ·rw[zcK n W j hjn];simp[List.getD,hi]
  ·obtain rfl:j=n:=by omega
   rw[zeb];simp[List.getD,hi]
 ·rw[show (refV n W).getD j []=[] by rw[List.getD_eq_getElem?_getD,List.getElem?_eq_none (by rw[zaO];omega)];rfl]
  rfl
theorem zeP (n:Nat) (i:Nat):(refB n).getD i 0=if i=n then 1 else 0:=by
 unfold refB
 rw[List.getD_eq_getElem?_getD]
 by_cases h:i<n
 ·rw[List.getElem?_append_left (by simpa using h),if_neg (by omega)];simp[h]
 ·rw[List.getElem?_append_right (by simp;omega)]
  by_cases e:i=n
  ·subst e;simp
  ·rw[if_neg e,List.getElem?_eq_none (by simp;omega)];rfl
theorem zhR {n:Nat} {W:Nat->Nat->Rat} (x:Nat->Rat) (j:Nat) (hj:j<n):sumN (fun i=>ent (refV n W) j i*x i) n=sumN (fun i=>x i*W i j) n-x j:=by
 rw[zaA (g:=fun k=>(x k*W k j)-1*(if k=j then x j else 0)) n (fun k hk=>by
  rw[zhQ n W j k hj hk]
  by_cases e:k=j
  ·subst e;simp;grind
  ·simp[e];grind),zaN,zaC (f:=fun k=>if k=j then x j else 0) n j hj (fun k hk hne=>if_neg hne),if_pos rfl]
 grind
theorem zgl {n:Nat} {W:Nat->Nat->Rat} (x:Nat->Rat) (h0:0<n):sumN (fun i=>ent (refV n W) n i*x i) n=x 0:=by
 rw[zaC n 0 h0 (fun k hk hne=>by rw[zec n W k hk,if_neg hne];grind),zec n W 0 h0,if_pos rfl];grind
theorem zme {n:Nat} {W:Nat->Nat->Rat} (hn:n<=5) (h0:0<n) (hW:∀i j,i<n->j<n->FracQ 12 (W i j)/\FracQ 12 (W i j-1)):Sys n (refV n W) (refB n):=by
 refine⟨by rw[zaO];omega,by omega,fun i hi=>?_,by rw[zil,zaO],fun i j=>?_,fun i=>?_⟩
 ·rw[zaO] at hi
  by_cases hin:i<n
  ·rw[zcK n W i hin];simp
  ·obtain rfl:i=n:=by omega
   rw[zeb];simp
 ·by_cases hij:i<n+1/\j<n
  ·by_cases hin:i<n
   ·rw[zhQ n W i j hin hij.2]
    split
    ·exact(hW j i hij.2 hin).2
    ·exact(hW j i hij.2 hin).1
   ·obtain rfl:i=n:=by omega
    rw[zec _ W j hij.2];split <;> exact⟨by decide,by decide⟩
  ·rw[zmd n W i j hij];exact⟨by decide,by decide⟩
 ·rw[zeP n];split <;> exact⟨by decide,by decide⟩
theorem zab.ref_inv {n:Nat} {W:Nat->Nat->Rat} (h:zab n W) (x:Nat->Rat) (c:Rat) (hx:∀j,j<n+1->sumN (fun i=>ent (refV n W) j i*x i) n=if j=n then c else 0):Inv n W x/\x 0=c:=by
 refine⟨fun j hj=>?_,?_⟩
 ·have:=hx j (by omega)
  rw[zhR x j hj,if_neg (by omega)] at this
  grind
 ·have:=hx n (by omega)
  rwa[zgl x h.pos,if_pos rfl] at this
theorem zab.ref_one {n:Nat} {W:Nat->Nat->Rat} (h:zab n W) (hs:Sys n (refV n W) (refB n)):oneS (refV n W):=by
 refine zfM hs (by rw[zaO];omega) h.pos (fun x hx i hi=>?_)
 obtain⟨h1,h2⟩:=h.ref_inv x 0 (fun j hj=>by rw[hx j (by rw[zaO];exact hj)];split <;> rfl)
 exact h.zero h1 h2 i hi
theorem zlc {n:Nat} {rows:List (List Rat)} {bs ws:List Rat} (hw:(rows.getD 0 []).length=n) (x:Nat->Rat) (hx:∀i,i<rows.length->sumN (fun j=>ent rows i j*x j) n=bs.getD i 0):¬isDen rows bs ws:=by
 rintro⟨h1,h2,h3⟩
 have e1:dotL ws bs=sumN (fun i=>ws.getD i 0*bs.getD i 0) rows.length:=by
  unfold dotL;rw[h1]
  have:∀k,dotN ws bs k=sumN (fun i=>ws.getD i 0*bs.getD i 0) k:=fun k=>by
   induction k with
   | zero=>rfl
   | succ k ih=>rw[dotN,ih];rfl
  exact this _
 have e2:sumN (fun i=>ws.getD i 0*bs.getD i 0) rows.length=sumN (fun i=>sumN (fun j=>ws.getD i 0*ent rows i j*x j) n) rows.length:=zaA _ (fun i hi=>by
  rw[<-hx i hi]
  have:∀k,ws.getD i 0*sumN (fun j=>ent rows i j*x j) k=sumN (fun j=>ws.getD i 0*ent rows i j*x j) k:=fun k=>by
   induction k with
   | zero=>simp only[sumN];grind
   | succ k ih=>simp only[sumN];rw[<-ih];grind
  exact this n)
 rw[e1,e2,zea,zbn n (fun j hj=>by
  have:=h2 j (by omega)
  have e:∀k,sumN (fun i=>ws.getD i 0*ent rows i j*x j) k=sumN (colW rows ws j) k*x j:=fun k=>by
   induction k with
   | zero=>simp only[sumN];grind
   | succ k ih=>simp only[sumN];rw[ih];unfold colW;grind
  rw[e,this];grind)] at h3
 revert h3;decide
theorem zab.ref_vis {n:Nat} {W:Nat->Nat->Rat} (h:zab n W) (hp:Sys n (rowsV n W) (bsV n)) (hs:Sys n (refV n W) (refB n)):oneS (refV n W)/\¬denied (refV n W) (refB n)/\solX (refV n W) (refB n)=visV n W:=by
 have h0:=h.pos
 have hl:=zaO n W
 have hr:((refV n W).getD 0 []).length=n:=by rw[zcK n W 0 h0];simp
 have h1:=h.ref_one hs
 have hsol:=h.sol hp
 have hno:¬denied (refV n W) (refB n):=fun hd=>by
  refine zlc hr (fun i=>(visV n W).getD i 0) (fun i hi=>?_) (hs.denied hd).1
  rw[hl] at hi
  rw[zeP]
  by_cases hin:i<n
  ·rw[zhR _ i hin,if_neg (by omega)]
   have:=hsol.1 i hin
   grind
  ·obtain rfl:i=n:=by omega
   rw[zgl _ h0,if_pos rfl];exact hsol.2
 refine⟨h1,hno,?_⟩
 have h2:(echN n (refV n W,idRows (refV n W).length)).2.length=n:=by
  have:=h1;unfold oneS at this;rwa[hs.solS_eq (by omega),hr] at this
 have key:∀j,j<n+1->sumN (fun i=>ent (refV n W) j i*(solX (refV n W) (refB n)).getD i 0) n=(refB n).getD j 0:=fun j hj=>
  zfh hs.row (fun j=>(solX (refV n W) (refB n)).getD j 0) h2 (fun j hj=>hs.solX_get (by omega) h1 j hj) (fun j hj1 hj2=>by
   unfold denied at hno
   rw[hs.solS_eq (by omega)] at hno
   obtain⟨a,b,c⟩:=zbx (echN n (refV n W,idRows (refV n W).length)).1.2 (refB n) (refV n W).length (echN n (refV n W,idRows (refV n W).length)).2.length
   exact b j (by omega) (by omega)) j (by omega)
 obtain⟨hi,hz⟩:=h.ref_inv (fun i=>(solX (refV n W) (refB n)).getD i 0) 1 (fun j hj=>by rw[key j hj,zeP])
 have hlen:(solX (refV n W) (refB n)).length=n:=by rw[zat,hr]
 refine List.ext_getElem (by rw[hlen,zbF n W h0]) (fun i a b=>?_)
 have hin:i<n:=by omega
 have:=h.only hi hsol.1 hsol.2 i hin
 rw[hz] at this
 simp[List.getD,a,b] at this
 rw[this]
end Go.Proofs.YtpoahodnakhmiaaGreat
