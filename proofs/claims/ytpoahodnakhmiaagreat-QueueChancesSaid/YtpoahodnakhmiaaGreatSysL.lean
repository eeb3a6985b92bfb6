import Derived.Test.YtpoahodnakhmiaaGreatSieg
import Derived.Deep.QuietTactic
import Derived.BigQuiet
namespace Go.Proofs.YtpoahodnakhmiaaGreat
set_option linter.unusedVariables false
set_option linter.unusedSimpArgs false
theorem natp (a:Nat):(4294967296:Int)^a=((4294967296^a:Nat):Int):=by rw[Int.natCast_pow];rfl
theorem FitQ.mulA {a b:Nat} {p q:Rat} (hp:FitQ a p) (hq:FitQ b q):FitQ (a+b) (p*q):=by
 have hpd:=zG p
 have hqd:=zG q
 have e:p*q=Rat.divInt (p.num*q.num) (p.den*q.den):=by
  conv=>lhs;rw[<-Rat.num_divInt_den p,<-Rat.num_divInt_den q]
  exact Rat.divInt_mul_divInt _ _
 have h1:p.num.natAbs<4294967296^a:=by have:=hp.1;rw[natp] at this;omega
 have h2:q.num.natAbs<4294967296^b:=by have:=hq.1;rw[natp] at this;omega
 have h3:p.den<=4294967296^a:=by have:=hp.2;rw[natp] at this;omega
 have h4:q.den<=4294967296^b:=by have:=hq.2;rw[natp] at this;omega
 have g1:p.num.natAbs*q.num.natAbs<4294967296^a*4294967296^b:=Nat.mul_lt_mul'' h1 h2
 have g2:p.den*q.den<=4294967296^a*4294967296^b:=Nat.mul_le_mul h3 h4
 rw[<-Nat.pow_add] at g1 g2
 rw[e]
 refine zaG (Int.mul_pos hpd hqd) ?_ (by rw[natp,<-Int.natCast_mul];exact Int.ofNat_le.2 g2)
 rw[Int.natAbs_mul,natp]
 exact Int.ofNat_lt.2 g1
theorem FitQ.addA {a b:Nat} {p q:Rat} (hp:FitQ a p) (hq:FitQ b q):FitQ (a+b+1) (p+q):=by
 have hpd:=zG p
 have hqd:=zG q
 have e:p+q=Rat.divInt (p.num*q.den+q.num*p.den) (p.den*q.den):=by
  conv=>lhs;rw[<-Rat.num_divInt_den p,<-Rat.num_divInt_den q]
  exact Rat.divInt_add_divInt _ _ (by omega) (by omega)
 have h1:p.num.natAbs<4294967296^a:=by have:=hp.1;rw[natp] at this;omega
 have h2:q.num.natAbs<4294967296^b:=by have:=hq.1;rw[natp] at this;omega
 have h3:p.den<=4294967296^a:=by have:=hp.2;rw[natp] at this;omega
 have h4:q.den<=4294967296^b:=by have:=hq.2;rw[natp] at this;omega
 have g1:p.num.natAbs*q.den<=4294967296^a*4294967296^b:=Nat.mul_le_mul (by omega) h4
 have g2:q.num.natAbs*p.den<=4294967296^b*4294967296^a:=Nat.mul_le_mul (by omega) h3
 have g3:p.den*q.den<=4294967296^a*4294967296^b:=Nat.mul_le_mul h3 h4
 have g4:(0:Nat)<4294967296^(a+b):=Nat.pow_pos (by omega)
 rw[Nat.mul_comm (4294967296^b)] at g2
 rw[<-Nat.pow_add] at g1 g2 g3
 have g5:4294967296^(a+b+1)=4294967296^(a+b)*4294967296:=Nat.pow_succ _ _
 have t:=Int.natAbs_add_le (p.num*q.den) (q.num*p.den)
 rw[Int.natAbs_mul,Int.natAbs_mul,Int.natAbs_natCast,Int.natAbs_natCast] at t
 rw[e]
 refine zaG (Int.mul_pos hpd hqd) ?_ ?_
 ·have:(p.num*q.den+q.num*p.den).natAbs<4294967296^(a+b+1):=by omega
  rw[natp]
  exact Int.ofNat_lt.2 this
 ·have:p.den*q.den<=4294967296^(a+b+1):=by omega
  rw[natp,<-Int.natCast_mul]
  exact Int.ofNat_le.2 this
theorem zfF (D:Nat) (hD:1<=D):∀(l:List Rat),(∀x∈l,x.num.natAbs<D/\x.den<D) ->
  ∃m:Nat,0<m/\m<=D^(l.length+1)/\∀x∈l,∃z:Int,x*(m:Int)=z/\z.natAbs<=D^(l.length+1)
 | [],_=>⟨1,by omega,Nat.pow_pos hD,fun x hx=>by cases hx⟩
 | x::l,h=>by
  obtain⟨m,h0,h1,h2⟩:=zfF D hD l (fun y hy=>h y (List.mem_cons_of_mem _ hy))
  obtain⟨hn,hd⟩:=h x (List.mem_cons_self ..)
  have hx:x*((x.den:Int):Rat)=(x.num:Rat):=by
   have h1:=Rat.num_divInt_den x
   rw[Rat.divInt_eq_div] at h1
   have h2:=castZ (z:=(x.den:Int)) (by have:=x.den_pos;omega)
   grind
  have hp:D^((x::l).length+1)=D^(l.length+1)*D:=by rw[List.length_cons,Nat.pow_succ]
  have e2:(((x.den*m:Nat):Int):Rat)=((x.den:Int):Rat)*((m:Int):Rat):=by simp
  refine⟨x.den*m,Nat.mul_pos x.den_pos h0,?_,fun y hy=>?_⟩
  ·rw[hp,Nat.mul_comm];exact Nat.mul_le_mul h1 (by omega)
  ·rcases List.mem_cons.1 hy with rfl|hy
   ·refine⟨y.num*m,?_,?_⟩
    ·have e1:((y.num*m:Int):Rat)=(y.num:Rat)*((m:Int):Rat):=by simp
     rw[e1,e2];grind
    ·rw[Int.natAbs_mul,Int.natAbs_natCast,hp,Nat.mul_comm];exact Nat.mul_le_mul h1 (by omega)
   ·obtain⟨z,a,b⟩:=h2 y hy
    refine⟨z*x.den,?_,?_⟩
    ·have e1:((z*x.den:Int):Rat)=(z:Rat)*((x.den:Int):Rat):=by simp
     rw[e1,e2];grind
    ·rw[Int.natAbs_mul,Int.natAbs_natCast,hp];exact Nat.mul_le_mul b (by omega)
structure Sys (wd:Nat) (rows:List (List Rat)) (bs:List Rat):Prop where
 n6:rows.length<=6
 w6:wd<=6
 row:∀i,i<rows.length->(rows.getD i []).length=wd
 len:bs.length=rows.length
 small:∀i j,FracQ 12 (ent rows i j)
 smallB:∀i,FracQ 12 (bs.getD i 0)
theorem zhI {l:List Rat} {x:Rat} (h:x∈l):∃j,l.getD j 0=x:=by
 obtain⟨j,hj,e⟩:=List.mem_iff_getElem.1 h
 exact⟨j,by simp[List.getD,hj,e]⟩
theorem zhJ {l:List Rat} (j:Nat) (hj:j<l.length):l.getD j 0∈l:=by
 simp[List.getD,hj]
theorem Sys.sb {wd:Nat} {rows:List (List Rat)} {bs:List Rat} (h:Sys wd rows bs):SB 319 bs (rows,idRows rows.length):=by
 obtain⟨N,hN⟩:∃N,N=319:=⟨_,rfl⟩
 rw[<-hN]
 have HNN:=hide hN
 clear hN
 intro i hi
 replace hi:i<rows.length:=hi
 have hF:∀{q:Rat},FracQ 12 q->q.num.natAbs<1000000000000/\q.den<1000000000000:=fun hq=>⟨by have:=hq.1;omega,by have:=hq.2;omega⟩
 obtain⟨m,h0,h1,h2⟩:=zfF 1000000000000 (by omega) (rows.getD i []++[bs.getD i 0]) (fun x hx=>by
  rcases List.mem_append.1 hx with hx|hx
  ·obtain⟨j,rfl⟩:=zhI hx;exact hF (h.small i j)
  ·rw[List.mem_singleton] at hx;subst hx;exact hF (h.smallB i))
 have hlen:(rows.getD i []++[bs.getD i 0]).length+1<=8:=by
  have:=h.row i hi
  have:=h.w6
  rw[List.length_append,List.length_singleton];omega
 have hp:=Nat.pow_le_pow_right (n:=1000000000000) (by omega) hlen
 have hq:1000000000000^8<2^N:=by
  obtain⟨a,b,ha,hb,hab⟩:∃a b,a=200/\b=119/\N=a+b:=⟨200,119,rfl,rfl,HNN.out⟩
  rw[hab,Nat.pow_add,ha,hb]
  decide +kernel
 refine⟨m,h0,by omega,fun j=>?_⟩
 unfold ex
 split
 ·by_cases hj:j / 3<(rows.getD i []).length
  ·obtain⟨z,a,b⟩:=h2 _ (List.mem_append_left _ (zhJ (j / 3) hj))
   exact⟨z,a,by omega⟩
  ·refine⟨0,?_,by rw[Int.natAbs_zero];exact Nat.pow_pos (by omega)⟩
   have:ent rows i (j / 3)=0:=by unfold ent;simp only[List.getD_eq_getElem?_getD] at hj ⊢;rw[List.getElem?_eq_none (by omega)];rfl
   show ent rows i (j / 3)*_=_
   rw[this];grind
 ·split
  ·show ∃z:Int,ent (idRows rows.length) i (j / 3)*_=_/\_
   rw[ent_id _ _ _ hi]
   by_cases hk:i=j / 3
   ·rw[if_pos hk];exact⟨m,by grind,by rw[Int.natAbs_natCast];omega⟩
   ·rw[if_neg hk];exact⟨0,by grind,by rw[Int.natAbs_zero];exact Nat.pow_pos (by omega)⟩
  ·show ∃z:Int,dotL ((idRows rows.length).getD i []) bs*_=_/\_
   rw[zdB _ _ _ hi]
   obtain⟨z,a,b⟩:=h2 _ (List.mem_append_right _ (List.mem_singleton.2 rfl))
   exact⟨z,a,by omega⟩
theorem Sys.width {wd:Nat} {rows:List (List Rat)} {bs:List Rat} (h:Sys wd rows bs) (h0:0<rows.length):(rows.getD 0 []).length=wd:=h.row 0 h0
theorem Sys.solS_eq {wd:Nat} {rows:List (List Rat)} {bs:List Rat} (h:Sys wd rows bs) (h0:0<rows.length):solS rows=echN wd (rows,idRows rows.length):=by
 unfold solS;rw[h.width h0]
theorem zhK (k:Nat) (hk:k<=6):bitsN 319 k<=20479:=Nat.le_trans (zdA 319 hk) (by decide)
theorem Sys.sbK {wd:Nat} {rows:List (List Rat)} {bs:List Rat} (h:Sys wd rows bs) (k:Nat) (hk:k<=6):SB 20479 bs (echN k (rows,idRows rows.length)).1:=
 (zfe bs (zU h.row) h.sb k).more (zhK k hk)
theorem zhL {ps ss:List Rat} {a b:Nat} (h1:∀i,FitQ a (ps.getD i 0)) (h2:∀i,FitQ b (ss.getD i 0)):∀k,FitQ (k*(a+b+1)) (dotN ps ss k)
 | 0=>za1 _
 | k+1=>by
  rw[dotN]
  exact((zhL h1 h2 k).addA ((h1 k).mulA (h2 k))).more (by rw[Nat.succ_mul];omega)
theorem FracQ.fit2 {q:Rat} (h:FracQ 12 q):FitQ 2 q:=h.fit
theorem Sys.fit {wd:Nat} {rows:List (List Rat)} {bs:List Rat} (h:Sys wd rows bs) (h0:0<rows.length):zeL 4000 rows bs:=by
 have hk:=h.sbK wd h.w6
 have hl:(echN wd (rows,idRows rows.length)).1.1.length=rows.length:=echN_length _ _
 have hrk:=zT wd (zU h.row)
 refine⟨?_,?_,?_⟩
 ·rw[h.width h0]
  exact zl4 bs (zU h.row) h.sb (Nat.le_trans (zhK wd h.w6) (by omega))
 ·intro i hi k hk2
  rw[h.solS_eq h0]
  have hn:=h.n6
  have:=zhL (a:=640) (b:=2) (ps:=(echN wd (rows,idRows rows.length)).1.2.getD i []) (ss:=bs) (fun j=>(hk.fit (L:=640) hrk.len (by omega) i j).2) (fun j=>(h.smallB j).fit2) k
  refine this.more ?_
  have:k*(640+2+1)<=6*(640+2+1):=Nat.mul_le_mul_right _ (by omega)
  omega
 ·intro i hi j hne
  rw[h.solS_eq h0] at hne ⊢
  have hv:=(hk i (by rw[hl];exact hi)).div 2 (by rw[zbX];exact hne)
  have:=hv.fit (L:=640) (by omega) (3*j+1)
  rw[ex_done,zbX] at this
  exact this.more (by omega)
def znn (wd:Nat) (rows:List (List Rat)) (bs d:List Rat):Prop:=d.length=rows.length/\(∀j,j<wd->sumN (fun t=>d.getD t 0*ent rows t j) rows.length=0)/\dotL d bs=1
theorem zgu {wd:Nat} {rows:List (List Rat)} {bs:List Rat} (hrow:∀i,i<rows.length->(rows.getD i []).length=wd) (k:Nat) (hk:k<rows.length)
  (hr:(echN wd (rows,idRows rows.length)).2.length<=k) (hne:dotL ((echN wd (rows,idRows rows.length)).1.2.getD k []) bs≠0):
  znn wd rows bs (divL ((echN wd (rows,idRows rows.length)).1.2.getD k []) (dotL ((echN wd (rows,idRows rows.length)).1.2.getD k []) bs)):=by
 have hl:(echN wd (rows,idRows rows.length)).1.1.length=rows.length:=echN_length _ _
 have hrk:=zT wd (zU hrow)
 refine⟨?_,fun j hj=>?_,?_⟩
 ·rw[zak,hrk.done k (by rw[hl];exact hk),hl]
 ·have hc:=zl5 hrow wd k j hk
  rw[(echI (zU hrow) wd).low k j hr (by rw[hl];exact hk) hj] at hc
  rw[show (fun t=>(divL ((echN wd (rows,idRows rows.length)).1.2.getD k []) (dotL ((echN wd (rows,idRows rows.length)).1.2.getD k []) bs)).getD t 0*ent rows t j)=(fun t=>(ent (echN wd (rows,idRows rows.length)).1.2 k t*ent rows t j) / dotL ((echN wd (rows,idRows rows.length)).1.2.getD k []) bs) from by
   funext t;rw[zbm];unfold ent;grind,zbK,hc]
  grind
 ·rw[zhx];grind
theorem zhM {wd:Nat} {rows:List (List Rat)} (hrow:∀i,i<rows.length->(rows.getD i []).length=wd) (hall:(echN wd (rows,idRows rows.length)).2.length=wd):∀r,r<wd->(echN wd (rows,idRows rows.length)).2.getD r 0=r:=by
 have hI:=echI (zU hrow) wd
 have hge:∀r,r<wd->r<=(echN wd (rows,idRows rows.length)).2.getD r 0:=by
  intro r
  induction r with
  | zero=>intro _;omega
  | succ r ih=>intro hr;have:=hI.mono r (r+1) (by omega) (by omega);have:=ih (by omega);omega
 have hle:∀t,t<wd->(echN wd (rows,idRows rows.length)).2.getD (wd-1-t) 0<=wd-1-t:=by
  intro t
  induction t with
  | zero=>intro h;have:=hI.lt (wd-1-0) (by omega);omega
  | succ t ih=>intro h;have:=hI.mono (wd-1-(t+1)) (wd-1-t) (by omega) (by omega);have:=ih (by omega);omega
 intro r hr
 have a:=hge r hr
 have b:=hle (wd-1-r) (by omega)
 rw[show wd-1-(wd-1-r)=r by omega] at b
 omega
theorem zfh {wd:Nat} {rows:List (List Rat)} {bs:List Rat} (hrow:∀i,i<rows.length->(rows.getD i []).length=wd) (x:Nat->Rat)
  (hall:(echN wd (rows,idRows rows.length)).2.length=wd)
  (hx:∀i,i<wd->x i=dotL ((echN wd (rows,idRows rows.length)).1.2.getD i []) bs)
  (hno:∀i,wd<=i->i<rows.length->dotL ((echN wd (rows,idRows rows.length)).1.2.getD i []) bs=0) (i:Nat) (hi:i<rows.length):
  sumN (fun j=>ent rows i j*x j) wd=bs.getD i 0:=by
 have hl:(echN wd (rows,idRows rows.length)).1.1.length=rows.length:=echN_length _ _
 have hI:=echI (zU hrow) wd
 have hout:=zhM hrow hall
 have hφ:Lin (fun f=>sumN (fun j=>f (3*j)*x j) wd-f 2):=by
  constructor
  ·intro f c
   show sumN (fun j=>f (3*j) / c*x j) wd-f 2 / c=_
   rw[show (fun j=>f (3*j) / c*x j)=(fun j=>(f (3*j)*x j) / c) from by funext t;grind,zbK]
   grind
  ·intro f g c
   show sumN (fun j=>(f (3*j)-c*g (3*j))*x j) wd-(f 2-c*g 2)=_
   rw[show (fun j=>(f (3*j)-c*g (3*j))*x j)=(fun j=>(f (3*j)*x j)-c*(g (3*j)*x j)) from by funext t;grind,zaN]
   grind
 have h1:=(zde hφ bs (zU hrow) wd).2 (fun i hi=>by
  replace hi:i<rows.length:=hi
  show sumN (fun j=>ex bs _ i (3*j)*x j) wd-ex bs _ i 2=0
  rw[zbX]
  by_cases hlow:i<wd
  ·rw[zaC wd i hlow]
   ·have:=hI.one i (by omega)
    rw[hout i hlow] at this
    show ex bs _ i (3*i)*x i-_=0
    rw[zO,this,hx i hlow];grind
   ·intro j hj hne
    have:=hI.alone j i (by omega) (by rw[hl];exact hi) (by omega)
    rw[hout j hj] at this
    show ex bs _ i (3*j)*x j=0
    rw[zO,this];grind
  ·rw[hno i (by omega) hi,zbn]
   ·grind
   ·intro j hj
    have:=hI.low i j (by omega) (by rw[hl];exact hi) hj
    show ex bs _ i (3*j)*x j=0
    rw[zO,this];grind) i hi
 simp only[zO,zbX] at h1
 have e:dotL ((idRows rows.length).getD i []) bs=bs.getD i 0:=zdB _ _ _ hi
 change sumN (fun j=>ent rows i j*x j) wd-dotL ((idRows rows.length).getD i []) bs=0 at h1
 rw[e] at h1
 grind
open Go.RowKit
def zeM (L:Nat) (w:World) (u:Value) (q:Rat):Prop:=RatV w u q L
def QE (L:Nat) (w:World) (u:Value) (q:Rat):Prop:=QV w u q L
theorem Kp.keeps {T:TypeId} {w w':World} (h:Kp T w w') (hT:190≠T):Keeps w w':=fun b hb=>h.typed hb hT
theorem LimV.kp {T:TypeId} {w w':World} {v:Value} {x:Int} {L:Nat} (h:LimV w v x L) (hk:Kp T w w') (hT:3≠T):LimV w' v x L:=by
 obtain⟨A,c,xs,rfl,h1,h2,h3,h4⟩:=h
 refine⟨A,c,xs,rfl,h1,h2,fun hx=>?_,h4⟩
 obtain⟨b,o,rfl,ht,hc⟩:=h3 hx
 have e:=hk.typed (e:=3) ht hT
 exact⟨b,o,rfl,ht.same e,fun j hj=>(World.cell?_of_block (w:=w) e).trans (hc j hj)⟩
theorem zei (L:Nat):StB (zeM L):=fun w w' u x hb h=>RatV.below h hb
theorem zfG {T:TypeId} (L:Nat) (hT:190≠T):StK T (zeM L):=fun w w' u x hk h=>RatV.keeps h (hk.keeps hT)
theorem zai (L:Nat):StB (QE L):=fun w w' u x hb h=>QV.below h hb
theorem zap {T:TypeId} (L:Nat) (hT:3≠T):StK T (QE L):=by
 rintro w w' u x hk ⟨n,d,rfl,h1,h2⟩
 exact⟨n,d,rfl,h1.kp hk hT,h2.kp hk hT⟩
theorem Tryz.ratE:ElT Tryz.prog 30 43 3 56:=⟨Tryz.underlying30,⟨.agg #[.bool false,.slice none 0 0,.slice none 0 0],rfl,by kernel_rfl⟩,by decide,by decide⟩
theorem Tryz.qE:ElT Tryz.prog 25 55 4 64:=⟨Tryz.underlying25,⟨.agg #[.bool false,.slice none 0 0,.bool false,.slice none 0 0],rfl,by kernel_rfl⟩,by decide,by decide⟩
theorem zx.rowV {w:World} {v:Value} {qs:List Rat} {L:Nat} (h:zx 43 3 (zeM L) w v qs):RowV w v qs L:=by
 obtain⟨A,c,rfl,h1,h2,h3⟩:=h
 refine⟨A,c,rfl,h1,h2,fun hx=>?_⟩
 obtain⟨b,o,rfl,ht,hc⟩:=h3 hx
 refine⟨b,o,rfl,fun i hi=>?_⟩
 obtain⟨u,hs,hcu,n,l,rfl,g1,g2⟩:=hc i (qs.getD i 0) (by simp[List.getD,hi])
 obtain⟨A1,n1,c1,e1⟩:∃A1 n1 c1,n=.slice A1 n1 c1:=by obtain⟨A1,c1,xs,e,_⟩:=g1;exact⟨_,_,_,e⟩
 obtain⟨A2,n2,c2,e2⟩:∃A1 n1 c1,l=.slice A1 n1 c1:=by obtain⟨A1,c1,xs,e,_⟩:=g2;exact⟨_,_,_,e⟩
 subst e1 e2
 exact⟨A1,n1,c1,A2,n2,c2,hcu 0 (by rw[hs];decide),hcu 1 (by rw[hs];decide),hcu 2 (by rw[hs];decide),g1,g2⟩
noncomputable def fracOf (most:Nat) (s:ByteArray):Rat:=Classical.epsilon (zcc most (zcs s))
theorem zk2 (most:Nat) (s:ByteArray):zcc most (zcs s) (fracOf most s):=by
 refine Classical.epsilon_spec (p:=zcc most (zcs s)) ?_
 by_cases h:∃p:Rat,zcs s=ratText p/\(zcs s).length<=most
 ·obtain⟨p,h1,h2⟩:=h;exact⟨p,Or.inl ⟨h1,h2⟩⟩
 ·exact⟨1,Or.inr ⟨h,rfl⟩⟩
theorem zcc.eq {most:Nat} {s:ByteArray} {q:Rat} (h:zcc most (zcs s) q):q=fracOf most s:=h.one (zk2 most s)
theorem ziR (s:Bool) (A:Option Addr) (n c:Nat) (B:Option Addr) (m d:Nat):∀x∈(Value.agg #[.bool s,.slice A n c,.slice B m d]).cells.toList,x.oneCell'=true:=by
 intro x hx
 simp[Value.cells] at hx
 rcases hx with rfl|rfl|rfl <;> rfl
theorem zbI (s:Bool) (A:Option Addr) (n c:Nat) (t:Bool) (B:Option Addr) (m d:Nat):∀x∈(Value.agg #[.bool s,.slice A n c,.bool t,.slice B m d]).cells.toList,x.oneCell'=true:=by
 intro x hx
 simp[Value.cells] at hx
 rcases hx with rfl|rfl|rfl|rfl <;> rfl
def zcm (L:Nat):World->Value->List Rat->Prop:=zx 43 3 (zeM L)
def QRowE (L:Nat):World->Value->List Rat->Prop:=zx 55 4 (QE L)
theorem zfH (L:Nat):StB (zcm L):=zef (zei L)
theorem zaD (L:Nat):StB (QRowE L):=zef (zai L)
theorem zct {T:TypeId} (L:Nat) (hT:190≠T) (hT2:43≠T):StK T (zcm L):=zfm (zfG L hT) hT2
theorem zcI {T:TypeId} (L:Nat) (hT:3≠T) (hT2:55≠T):StK T (QRowE L):=zfm (zap L hT) hT2
theorem Tryz.rowE:ElT Tryz.prog 31 30 1 24:=⟨Tryz.underlying31,⟨.slice none 0 0,rfl,by kernel_rfl⟩,by decide,by decide⟩
theorem Tryz.qrowE:ElT Tryz.prog 26 25 1 24:=⟨Tryz.underlying26,⟨.slice none 0 0,rfl,by kernel_rfl⟩,by decide,by decide⟩
theorem zd2 (A:Option Addr) (n c:Nat):∀x∈(Value.slice A n c).cells.toList,x.oneCell'=true:=by
 intro x hx
 simp[Value.cells] at hx
 subst hx;rfl
def colW (rows:List (List Rat)) (ws:List Rat) (j t:Nat):Rat:=ws.getD t 0*ent rows t j
def isDen (rows:List (List Rat)) (bs ws:List Rat):Prop:=
 ws.length=rows.length/\(∀j,j<(rows.getD 0 []).length->sumN (colW rows ws j) rows.length=0)/\dotL ws bs=1
theorem BoxQ.put4 {w:World} {g:Nat} {q q':Rat} {L L':Nat} (h:BoxQ w g q L) {t:Bool} {A B:Option Addr} {n c m d:Nat} (hq:QV w (.agg #[.bool t,.slice A n c,.bool false,.slice B m d]) q' L'):
  BoxQ ((((w.setCell ⟨g,0,none⟩ (.bool t)).setCell ⟨g,1,none⟩ (.slice A n c)).setCell ⟨g,2,none⟩ (.bool false)).setCell ⟨g,3,none⟩ (.slice B m d)) g q' L':=by
 obtain⟨t0,A0,n0,c0,B0,m0,d0,h1,_⟩:=h
 obtain⟨x,y,e,h2,h3⟩:=hq
 exact⟨t,A,n,c,B,m,d,by simp[World.setCell,Array.getElem?_modify,h1],x,y,e,zbk h2 h1 (by decide),zbk h3 h1 (by decide)⟩
theorem zx.q_at {w:World} {A:Option Addr} {n c:Nat} {qs:List Rat} {L:Nat} (h:QRowE L w (.slice A n c) qs):n=qs.length/\qs.length<=c/\c<=maxLen/\(0<qs.length->∃b o,A=some ⟨b,o,none⟩/\∀k,k<qs.length ->
  ∃s A1 n1 c1 B1 m1 d1,w.cell? ⟨b,o+k*4,none⟩=some (.bool s)/\w.cell? ⟨b,o+k*4+1,none⟩=some (.slice A1 n1 c1)/\w.cell? ⟨b,o+k*4+2,none⟩=some (.bool false)/\w.cell? ⟨b,o+k*4+3,none⟩=some (.slice B1 m1 d1) /\
   QV w (.agg #[.bool s,.slice A1 n1 c1,.bool false,.slice B1 m1 d1]) (qs.getD k 0) L):=by
 obtain⟨A',c',e,h1,h2,h3⟩:=h
 injection e with e1 e2 e3
 subst e1 e2 e3
 refine⟨rfl,h1,h2,fun hx=>?_⟩
 obtain⟨b,o,rfl,ht,hc⟩:=h3 hx
 refine⟨b,o,rfl,fun k hk=>?_⟩
 obtain⟨u,hs,hcu,hq⟩:=hc k (qs.getD k 0) (by simp[List.getD,hk])
 replace hq:QV w u (qs.getD k 0) L:=hq
 obtain⟨s,A1,n1,c1,B1,m1,d1,rfl,_⟩:=hq.parts
 exact⟨s,A1,n1,c1,B1,m1,d1,hcu 0 (by rw[hs];decide),hcu 1 (by rw[hs];decide),hcu 2 (by rw[hs];decide),hcu 3 (by rw[hs];decide),hq⟩
theorem zx.row_at {α:Type} {T T':TypeId} {sz:Nat} {R:World->Value->α->Prop} {w:World} {A:Option Addr} {n c:Nat} {rows:List (List α)} (h:zx T 1 (zx T' sz R) w (.slice A n c) rows):n=rows.length/\rows.length<=c/\c<=maxLen/\(0<rows.length->∃b o,A=some ⟨b,o,none⟩/\∀k,k<rows.length ->
  ∃A1 c1,w.cell? ⟨b,o+k,none⟩=some (.slice A1 (rows.getD k []).length c1)/\zx T' sz R w (.slice A1 (rows.getD k []).length c1) (rows.getD k [])):=by
 obtain⟨A',c',e,h1,h2,h3⟩:=h
 injection e with e1 e2 e3
 subst e1 e2 e3
 refine⟨rfl,h1,h2,fun hx=>?_⟩
 obtain⟨b,o,rfl,ht,hc⟩:=h3 hx
 refine⟨b,o,rfl,fun k hk=>?_⟩
 obtain⟨u,hs,hcu,hq⟩:=hc k (rows.getD k []) (by simp[List.getD,hk])
 obtain⟨A1,c1,rfl,_⟩:=id hq
 have:=hcu 0 (by rw[hs];decide)
 rw[Nat.mul_one,Nat.add_zero] at this
 exact⟨A1,c1,this,hq⟩
def QRows (L:Nat):World->Value->List (List Rat)->Prop:=zx 25 1 (QRowE L)
theorem zk3 (L:Nat):StB (QRows L):=zef (zaD L)
theorem QRows.below {w w':World} {v:Value} {rows:List (List Rat)} {L:Nat} (h:QRows L w v rows) (hb:Below w.heap.size w w'):QRows L w' v rows:=zk3 L _ _ _ _ hb h
theorem QRowE.below {w w':World} {v:Value} {qs:List Rat} {L:Nat} (h:QRowE L w v qs) (hb:Below w.heap.size w w'):QRowE L w' v qs:=zaD L _ _ _ _ hb h
theorem ziS {x:Rat} (h:x≠0):sgnQ x≠0:=by
 have hn:x.num≠0:=fun e=>h (Rat.num_eq_zero.1 e)
 unfold sgnQ
 split
 ·omega
 ·rw[if_pos (by omega)];omega
theorem zk4 (w:World) (v:Value) (rows:List (List Rat)) (L:Nat) (h:QRows L w v rows):
  Calls Tryz.prog 143 #[v] w (Ret (fun v w'=>v=.int .i64 ((rows.getD 0 []).length:Nat)/\w=w')):=by
 obtain⟨A,c,rfl,hc,hm,_⟩:=id h
 obtain⟨-,-,-,hat⟩:=zx.row_at h
 unfold maxLen at hm
 by_cases h0:0<rows.length
 ·obtain⟨b,o,rfl,hat2⟩:=hat h0
  obtain⟨A1,c1,hc1,hr⟩:=hat2 0 h0
  obtain⟨_,hr1,hr2,_⟩:=zx.q_at hr
  unfold maxLen at hr2
  rw[Nat.add_zero] at hc1
  have hne:((rows.length:Int) == 0)=false:=by rw[beq_eq_false_iff_ne];omega
  clear hat hat2 hr
  go_enter Tryz.func143,Tryz.ntmps143
  go_wp2
  go_ret
  exact⟨_,rfl,rfl,rfl⟩
 ·obtain⟨n,hn⟩:∃n,n=rows.length:=⟨_,rfl⟩
  have hn0:n=0:=by omega
  rw[<-hn]
  subst hn0
  have hz:(rows.getD 0 []).length=0:=by rw[List.eq_nil_of_length_eq_zero hn.symm];rfl
  rw[hz]
  clear hat h hc hn hz h0
  go_enter Tryz.func143,Tryz.ntmps143
  go_wp2
  go_ret
  exact⟨_,rfl,rfl,rfl⟩
theorem FracQ.lift {n n':Nat} {q:Rat} (h:FracQ n q) (hn:n<=n'):FracQ n' q:=by
 have:=zt (B:=10) (by omega) hn
 exact⟨by have:=h.1;omega,by have:=h.2;omega⟩
theorem FracQ.long {q:Rat} (h:FracQ 60 q):longQ q=false:=by
 unfold longQ
 have h1:(decText (q.num.natAbs:Int)).length<=60:=by
  by_cases e:(q.num.natAbs:Int)=0
  ·rw[e];decide
  ·exact zc2 (by omega) h.1
 have h2:(decText (q.den:Int)).length<=60:=zc2 (by have:=q.den_pos;omega) h.2
 simp;omega
theorem nat10 (a:Nat):(10:Int)^a=((10^a:Nat):Int):=by rw[Int.natCast_pow];rfl
theorem FitQ.frac {L:Nat} {q:Rat} (h:FitQ L q):FracQ (10*L+1) q:=by
 have h1:(4294967296:Nat)^L<=10000000000^L:=Nat.pow_le_pow_left (by omega) L
 have h2:(10:Nat)^(10*L+1)=10000000000^L*10:=by rw[Nat.pow_succ,Nat.pow_mul]
 have h3:(0:Nat)<10000000000^L:=Nat.pow_pos (by omega)
 obtain⟨a,b⟩:=h
 rw[natp] at a b
 unfold FracQ
 rw[nat10]
 generalize (4294967296:Nat)^L=X at *
 generalize (10000000000:Nat)^L=Y at *
 generalize (10:Nat)^(10*L+1)=Z at *
 constructor <;> omega
theorem zeM.rows {w:World} {v:Value} {rows:List (List Rat)} {L:Nat} (h:zx 30 1 (zcm L) w v rows):RowsV w v rows L:=by
 obtain⟨A,c,rfl,h1,h2,h3⟩:=h
 refine⟨A,c,rfl,h1,h2,fun hx=>?_⟩
 obtain⟨b,o,rfl,ht,hc⟩:=h3 hx
 refine⟨b,o,rfl,fun i hi=>?_⟩
 obtain⟨u,hs,hcu,hr⟩:=hc i (rows.getD i []) (by simp[List.getD,hi])
 obtain⟨A1,c1,rfl,_⟩:=id hr
 have:=hcu 0 (by rw[hs];decide)
 rw[Nat.mul_one,Nat.add_zero] at this
 exact⟨_,this,zx.rowV hr⟩
theorem zcm.more {w:World} {v:Value} {qs:List Rat} {L L':Nat} (h:zcm L w v qs) (hL:L<=L'):zcm L' w v qs:=zx.imp h fun u x _ hr=>RatV.more hr hL
theorem RowsE.more {w:World} {v:Value} {rows:List (List Rat)} {L L':Nat} (h:zx 30 1 (zcm L) w v rows) (hL:L<=L'):zx 30 1 (zcm L') w v rows:=zx.imp h fun u x _ hr=>zcm.more hr hL
theorem Sys.wd_eq {wd:Nat} {rows:List (List Rat)} {bs:List Rat} (h:Sys wd rows bs) (i:Nat) (hi:i<rows.length):(rows.getD i []).length=(rows.getD 0 []).length:=by
 rw[h.row i hi,h.row 0 (by omega)]
theorem Sys.wd_le {wd:Nat} {rows:List (List Rat)} {bs:List Rat} (h:Sys wd rows bs):(rows.getD 0 []).length<=6:=by
 by_cases h0:0<rows.length
 ·rw[h.row 0 h0];exact h.w6
 ·rw[List.eq_nil_of_length_eq_zero (show rows.length=0 by omega)];simp
theorem Sys.check {wd:Nat} {rows:List (List Rat)} {bs:List Rat} (h:Sys wd rows bs):zeU rows bs=0:=by
 unfold zeU
 have a:=h.n6
 have b:=h.wd_le
 rw[if_neg (by omega),if_neg,if_neg]
 ·rintro(e|e)
  ·rw[zax (fun i _=>((h.smallB i).lift (by omega)).long)] at e;cases e
  ·rw[zax (fun i hi=>by unfold longB;exact zax fun j _=>((h.small i j).lift (by omega)).long)] at e;cases e
 ·rintro(e|e)
  ·exact e h.len
  ·rw[zax (fun i hi=>by unfold shapeB;exact decide_eq_false (by rw[h.wd_eq i hi];simp))] at e;cases e
theorem zbx (done:List (List Rat)) (bs:List Rat):∀(f k:Nat),k<=denyK done bs f k/\(∀i,k<=i->i<denyK done bs f k->dotL (done.getD i []) bs=0)/\(done.length<=k+f->denyK done bs f k<done.length->dotL (done.getD (denyK done bs f k) []) bs≠0)
 | 0,k=>⟨nr _,fun i h1 h2=>by rw[denyK] at h2;omega,fun h1 h2=>by rw[denyK] at h2;omega⟩
 | f+1,k=>by
  by_cases h:k<done.length/\dotL (done.getD k []) bs=0
  ·rw[zff _ _ _ _ h.1 h.2]
   obtain⟨h1,h2,h3⟩:=zbx done bs f (k+1)
   refine⟨by omega,fun i g1 g2=>?_,fun g1 g2=>h3 (by omega) g2⟩
   by_cases e:i=k
   ·rw[e];exact h.2
   ·exact h2 i (by omega) g2
  ·rw[zco _ _ _ _ h]
   exact⟨nr _,fun i h1 h2=>by omega,fun h1 h2 h3=>h ⟨h2,h3⟩⟩
theorem Sys.denied {wd:Nat} {rows:List (List Rat)} {bs:List Rat} (h:Sys wd rows bs) (hd:denied rows bs):isDen rows bs (zfB rows bs)/\∀j,FitQ 640 ((zfB rows bs).getD j 0):=by
 unfold Go.Proofs.YtpoahodnakhmiaaGreat.denied at hd
 have h0:0<rows.length:=by omega
 have hrk:=zT wd (zU h.row)
 have hl:(echN wd (rows,idRows rows.length)).1.1.length=rows.length:=echN_length _ _
 have hl2:(echN wd (rows,idRows rows.length)).1.2.length=rows.length:=by rw[hrk.len,hl]
 unfold zfB
 rw[h.solS_eq h0] at hd ⊢
 obtain⟨h1,h2,h3⟩:=zbx (echN wd (rows,idRows rows.length)).1.2 bs rows.length (echN wd (rows,idRows rows.length)).2.length
 have hne:=h3 (by omega) (by omega)
 obtain⟨k,hk⟩:∃k,k=denyK (echN wd (rows,idRows rows.length)).1.2 bs rows.length (echN wd (rows,idRows rows.length)).2.length:=⟨_,rfl⟩
 rw[<-hk] at hd h1 hne ⊢
 obtain⟨g1,g2,g3⟩:=zgu h.row k hd h1 hne
 refine⟨⟨g1,fun j hj=>?_,g3⟩,fun j=>?_⟩
 ·rw[h.row 0 h0] at hj
  exact g2 j hj
 ·have hv:=((h.sbK wd h.w6) k (by rw[hl];exact hd)).div 2 (by rw[zbX];exact hne)
  have:=hv.fit (L:=640) (by omega) (3*j+1)
  rw[ex_done,zbX] at this
  rw[zbm]
  exact this
theorem zb9 {l:List Rat} {k:Nat} (h:l.length<=k):l.getD k 0=0:=by
 rw[List.getD,List.getElem?_eq_none h];rfl
end Go.Proofs.YtpoahodnakhmiaaGreat
