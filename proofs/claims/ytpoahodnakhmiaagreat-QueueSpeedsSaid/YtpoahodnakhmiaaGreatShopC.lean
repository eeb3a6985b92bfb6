import Derived.Test.YtpoahodnakhmiaaGreatVisR
namespace Go.Proofs.YtpoahodnakhmiaaGreat
set_option linter.unusedVariables false
set_option linter.unusedSimpArgs false
def gN (l:Nat->Rat):Nat->Nat->Rat
 | _,0=>1
 | 0,_+1=>0
 | s+1,k+1=>gN l s (k+1)+l s*gN l (s+1) k
theorem zaf (l:Nat->Rat) (s:Nat):gN l s 0=1:=by cases s <;> simp only[gN]
theorem zbw (l:Nat->Rat) (k:Nat):gN l 0 (k+1)=0:=by simp only[gN]
theorem zax (l:Nat->Rat) (s k:Nat):gN l (s+1) (k+1)=gN l s (k+1)+l s*gN l (s+1) k:=by rw[gN]
theorem zjz {l:Nat->Rat}:∀(s:Nat),(∀i,i<s->0<=l i)->∀k,0<=gN l s k
 | 0,_,0=>by rw[zaf];decide
 | 0,_,k+1=>by rw[zbw];decide
 | s+1,_,0=>by rw[zaf];decide
 | s+1,h,k+1=>by
  rw[zax]
  have h1:=zjz s (fun i hi=>h i (by omega)) (k+1)
  have h2:=Rat.mul_nonneg (h s (by omega)) (zjz (s+1) h k)
  grind
theorem zkX {l:Nat->Rat}:∀(s:Nat),0<s->(∀i,i<s->0<l i)->∀k,0<gN l s k
 | 0,h0,_,_=>by omega
 | s+1,_,_,0=>by rw[zaf];decide
 | s+1,_,h,k+1=>by
  rw[zax]
  have h1:=zjz (l:=l) s (fun i hi=>by have:=h i (by omega);grind) (k+1)
  have h2:=Rat.mul_pos (h s (by omega)) (zkX (s+1) (by omega) h k)
  grind
def pwQ (q:Rat):Nat->Rat
 | 0=>1
 | k+1=>pwQ q k*q
theorem zhx (z:Int):∀k,pwQ (z:Rat) k=((z^k:Int):Rat)
 | 0=>by simp[pwQ]
 | k+1=>by simp only[pwQ];rw[zhx z k,Int.pow_succ,Rat.intCast_mul]
def gZ (z:Nat->Nat):Nat->Nat->Nat
 | _,0=>1
 | 0,_+1=>0
 | s+1,k+1=>gZ z s (k+1)+z s*gZ z (s+1) k
theorem zhy {l:Nat->Rat} {z:Nat->Nat} {D:Nat}:∀(s:Nat),(∀i,i<s->l i*((D:Int):Rat)=((z i:Int):Rat))->∀k,gN l s k*pwQ ((D:Int):Rat) k=((gZ z s k:Int):Rat)
 | 0,_,0=>by simp[gN,gZ,pwQ]
 | 0,_,k+1=>by simp[gN,gZ]
 | s+1,_,0=>by simp[gN,gZ,pwQ]
 | s+1,h,k+1=>by
  have h1:=zhy s (fun i hi=>h i (by omega)) (k+1)
  have h2:=zhy (s+1) h k
  have h3:=h s (by omega)
  rw[zax,gZ,Int.natCast_add,Int.natCast_mul,Rat.intCast_add,Rat.intCast_mul,<-h1,<-h2,<-h3]
  simp only[pwQ]
  grind
theorem zjA {z:Nat->Nat} {B:Nat}:∀(s:Nat),(∀i,i<s->z i<=B)->∀k,gZ z s k<=(s*B)^k
 | 0,_,0=>by simp[gZ]
 | 0,_,k+1=>by simp[gZ]
 | s+1,_,0=>by simp[gZ]
 | s+1,h,k+1=>by
  have h1:=zjA s (fun i hi=>h i (by omega)) (k+1)
  have h2:=zjA (s+1) h k
  have h3:=h s (by omega)
  rw[gZ]
  have h4:(s*B)^(k+1)<=((s+1)*B)^k*(s*B):=by rw[Nat.pow_succ];exact Nat.mul_le_mul_right _ (Nat.pow_le_pow_left (Nat.mul_le_mul_right _ (by omega)) k)
  have h5:z s*gZ z (s+1) k<=B*((s+1)*B)^k:=Nat.mul_le_mul h3 h2
  rw[Nat.pow_succ,Nat.succ_mul s B,Nat.mul_add]
  rw[Nat.mul_comm B,Nat.succ_mul s B] at h5
  rw[Nat.succ_mul s B] at h4
  omega
theorem zhz {L:Nat} {q:Rat} {a b:Int} (hb:b≠0) (e:q*(b:Rat)=(a:Rat)) (h1:a.natAbs<4294967296^L) (h2:b.natAbs<=4294967296^L):FitQ L q:=by
 have hb2:=castZ hb
 by_cases hp:0<b
 ·have e2:q=Rat.divInt a b:=by rw[Rat.divInt_eq_div];grind
  rw[e2]
  exact zaE hp (by rw[natp];omega) (by rw[natp];omega)
 ·have hn:=castZ (z:=-b) (by omega)
  have e2:q=Rat.divInt (-a) (-b):=by
   rw[Rat.divInt_eq_div]
   have e3:((-b:Int):Rat)=-(b:Rat):=by simp
   have e4:((-a:Int):Rat)=-(a:Rat):=by simp
   rw[e3,e4];grind
  rw[e2]
  exact zaE (by omega) (by rw[natp,Int.natAbs_neg];omega) (by rw[natp];omega)
def aN (l:Nat->Rat) (s i:Nat):Nat->Rat
 | 0=>0
 | n+1=>l i*(gN l s n+aN l s i n)
def bN (l:Nat->Rat) (s i n:Nat):Nat->Rat
 | 0=>0
 | k+1=>bN l s i n k+pwQ (l i) (k+1)*gN l s (n-(k+1))
theorem zhA (l:Nat->Rat) (s i n:Nat):∀k,bN l s i (n+1) (k+1)=l i*(gN l s n+bN l s i n k)
 | 0=>by simp only[bN,pwQ,Nat.zero_add,Nat.add_sub_cancel];grind
 | k+1=>by
  rw[bN,zhA l s i n k,bN,show n+1-(k+1+1)=n-(k+1) by omega]
  simp only[pwQ]
  grind
theorem zhB (l:Nat->Rat) (s i:Nat):∀n,bN l s i n n=aN l s i n
 | 0=>rfl
 | n+1=>by rw[zhA,aN,zhB l s i n]
theorem ziK (l:Nat->Rat) (s i:Nat):∀n,aN l (s+1) i (n+1)=aN l s i (n+1)+l s*aN l (s+1) i n
 | 0=>by simp only[aN,zaf];grind
 | n+1=>by
  have ih:=ziK l s i n
  rw[show aN l (s+1) i (n+1+1)=l i*(gN l (s+1) (n+1)+aN l (s+1) i (n+1)) from rfl,show aN l s i (n+1+1)=l i*(gN l s (n+1)+aN l s i (n+1)) from rfl,zax]
  have e:aN l (s+1) i (n+1)=l i*(gN l (s+1) n+aN l (s+1) i n):=rfl
  grind
theorem zhC (l:Nat->Rat):∀(s n:Nat),sumN (fun i=>aN l s i n) s=((n:Int):Rat)*gN l s n
 | 0,0=>by simp[sumN]
 | 0,n+1=>by rw[zbw];simp only[sumN];grind
 | s+1,0=>by rw[zbp (f:=fun i=>aN l (s+1) i 0) (s+1) (fun i _=>rfl)];simp
 | s+1,n+1=>by
  have ih1:=zhC l s (n+1)
  have ih2:=zhC l (s+1) n
  rw[sumN] at ih2 ⊢
  rw[zay s (fun i _=>ziK l s i n),zcR,zcS,ih1,zax,aN]
  have e:(((n+1:Nat):Int):Rat)=((n:Int):Rat)+1:=by rw[Int.natCast_add,Rat.intCast_add];rfl
  rw[e]
  grind
def sumM (f:Nat->Nat):Nat->Nat
 | 0=>0
 | k+1=>sumM f k+f k
theorem zfM {f:Nat->Nat} {B:Nat}:∀k,(∀r,r<k->f r<=B)->sumM f k<=k*B
 | 0,_=>by simp[sumM]
 | k+1,h=>by
  have h1:=zfM k (fun r hr=>h r (by omega))
  have h2:=h k (by omega)
  rw[sumM,Nat.succ_mul];omega
theorem ziL {f:Nat->Nat} (c:Nat):∀k,c<k->f c<=sumM f k
 | k+1,h=>by
  rw[sumM]
  by_cases e:c=k
  ·subst e;omega
  ·have:=ziL (f:=f) c k (by omega);omega
theorem zgj (f:Nat->Nat):∀k,((sumM f k:Int):Rat)=sumN (fun i=>((f i:Int):Rat)) k
 | 0=>rfl
 | k+1=>by rw[sumM,sumN,<-zgj f k,Int.natCast_add,Rat.intCast_add]
structure zE (n:Nat) (a b:Nat->Nat) (c:Nat->Nat->Nat):Prop where
 pos:0<n
 n6:n<=6
 ra:∀i,1<=a i/\a i<=9
 rb:∀i,1<=b i/\b i<=3
 cw:∀i j,i<n->j<n->c i j<=4
 next:∀i,i<n->1<=c i ((i+1)%n)
def sumC (n:Nat) (c:Nat->Nat->Nat) (i:Nat):Nat:=sumM (c i) n
def rateT (a b:Nat->Nat) (i:Nat):Rat:=((a i:Int):Rat) / ((b i:Int):Rat)
def wayT (n:Nat) (c:Nat->Nat->Nat) (i j:Nat):Rat:=((c i j:Int):Rat) / ((sumC n c i:Int):Rat)
theorem za7 {a:Nat} (h:0<a):0<((a:Int):Rat):=by exact_mod_cast h
theorem znb (a:Nat):0<=((a:Int):Rat):=by exact_mod_cast Int.natCast_nonneg a
theorem zcP {p q:Rat} (hp:0<p) (hq:0<q):0<p / q:=by rw[Rat.div_def];exact Rat.mul_pos hp (Rat.inv_pos.2 hq)
theorem znc {p q:Rat} (hp:0<=p) (hq:0<q):0<=p / q:=by rw[Rat.div_def];have:=Rat.inv_pos.2 hq;exact Rat.mul_nonneg hp (by grind)
theorem zij {a:Nat} {n d:Int} (hd:0<d) (h1:(n.natAbs:Int)<10^a) (h2:d<10^a):FracQ a (Rat.divInt n d):=by
 obtain⟨x,y⟩:=zdT n d hd
 exact⟨by omega,by omega⟩
theorem zfN (a b:Int):(a:Rat) / (b:Rat)=Rat.divInt a b:=(Rat.divInt_eq_div a b).symm
theorem zcQ {n:Nat} {a b:Int} (hb:0<b) (h1:(a.natAbs:Int)<10^n) (h2:b<10^n):FracQ n ((a:Rat) / (b:Rat)):=by rw[zfN];exact zij hb h1 h2
namespace zE
variable {n:Nat} {a b:Nat->Nat} {c:Nat->Nat->Nat}
theorem sum_le (h:zE n a b c) (i:Nat) (hi:i<n):sumC n c i<=24:=by
 have h1:=zfM (f:=c i) n (fun j hj=>h.cw i j hi hj)
 have h2:=h.n6
 unfold sumC
 omega
theorem sum_ge (h:zE n a b c) (i:Nat) (hi:i<n):1<=sumC n c i:=by
 have h1:=h.next i hi
 have h2:=ziL (f:=c i) ((i+1)%n) n (Nat.mod_lt _ h.pos)
 unfold sumC
 omega
theorem way_mul (h:zE n a b c) (i j:Nat) (hi:i<n):wayT n c i j*((sumC n c i:Int):Rat)=((c i j:Int):Rat):=by
 have:=castZ (z:=(sumC n c i:Int)) (by have:=h.sum_ge i hi;omega)
 unfold wayT
 grind
theorem ring (h:zE n a b c):zaa n (wayT n c):=by
 refine⟨h.pos,fun i j hi hj=>znc (znb _) (za7 (by have:=h.sum_ge i hi;omega)),fun i hi=>?_,fun i hi=>zcP (za7 (by have:=h.next i hi;omega)) (za7 (by have:=h.sum_ge i hi;omega))⟩
 have h1:=castZ (z:=(sumC n c i:Int)) (by have:=h.sum_ge i hi;omega)
 have h2:=zbJ (fun j=>((c i j:Int):Rat)) ((sumC n c i:Int):Rat) n
 rw[<-zgj] at h2
 show sumN (fun j=>((c i j:Int):Rat) / ((sumC n c i:Int):Rat)) n=1
 rw[h2]
 show ((sumC n c i:Int):Rat) / _=1
 grind
theorem way_small (h:zE n a b c) (i j:Nat) (hi:i<n) (hj:j<n):FracQ 6 (wayT n c i j):=by
 have h1:=h.sum_ge i hi
 have h2:=h.sum_le i hi
 have h3:=h.cw i j hi hj
 exact zcQ (by omega) (by omega) (by omega)
theorem way_sys (h:zE n a b c) (i j:Nat) (hi:i<n) (hj:j<n):FracQ 12 (wayT n c i j)/\FracQ 12 (1-wayT n c i j)/\FracQ 12 (0-wayT n c i j):=by
 have h1:=h.sum_ge i hi
 have h2:=h.sum_le i hi
 have h3:=h.cw i j hi hj
 have h4:=castZ (z:=(sumC n c i:Int)) (by omega)
 refine⟨(h.way_small i j hi hj).lift (by omega),?_,?_⟩
 ·have e:1-wayT n c i j=(((sumC n c i:Int)-(c i j:Int):Int):Rat) / ((sumC n c i:Int):Rat):=by
   unfold wayT;rw[Rat.intCast_sub];grind
  rw[e]
  exact zcQ (by omega) (by omega) (by omega)
 ·have e:0-wayT n c i j=((-(c i j:Int):Int):Rat) / ((sumC n c i:Int):Rat):=by
   unfold wayT;rw[Rat.intCast_neg];grind
  rw[e]
  exact zcQ (by omega) (by omega) (by omega)
theorem rate_pos (h:zE n a b c) (i:Nat):0<rateT a b i:=zcP (za7 (by have:=h.ra i;omega)) (za7 (by have:=h.rb i;omega))
theorem rate_small (h:zE n a b c) (i:Nat):FracQ 6 (rateT a b i):=by
 have h1:=h.ra i
 have h2:=h.rb i
 exact zcQ (by omega) (by omega) (by omega)
theorem sys (h:zE n a b c):Sys n (rowsV n (wayT n c)) (bsV n):=zlf h.n6 h.pos (fun i j hi hj=>h.way_sys i j hi hj)
def load (n:Nat) (a b:Nat->Nat) (c:Nat->Nat->Nat) (i:Nat):Rat:=(visV n (wayT n c)).getD i 0 / rateT a b i
theorem load_pos (h:zE n a b c) (i:Nat) (hi:i<n):0<load n a b c i:=zcP (h.ring.vis_pos h.sys i hi) (h.rate_pos i)
end zE
structure zog (n:Nat) (l:Nat->Rat) (D:Nat) (z:Nat->Nat):Prop where
 d0:0<D
 d1:D<2^59
 eq:∀i,i<n->l i*((D:Int):Rat)=((z i:Int):Rat)
 lt:∀i,i<n->z i<2^59
theorem zgk (f:Nat->Int):∀k,((sumZ f k:Int):Rat)=sumN (fun i=>((f i:Int):Rat)) k
 | 0=>rfl
 | k+1=>by rw[sumZ,sumN,<-zgk f k,Rat.intCast_add]
theorem zE.loads {n:Nat} {a b:Nat->Nat} {c:Nat->Nat->Nat} (h:zE n a b c):∃D z,zog n (zE.load n a b c) D z:=by
 obtain⟨m,hm⟩:∃m,n=m+1:=⟨n-1,by have:=h.pos;omega⟩
 have hn6:=h.n6
 have hC:∀r s,r<=m->s<m->(((c r (s+1):Nat):Int)-(if r=s+1 then ((sumC n c r:Nat):Int) else 0)).natAbs<=24:=fun r s hr hs=>by
  have h1:=h.cw r (s+1) (by omega) (by omega)
  have h2:=h.sum_le r (by omega)
  split <;> omega
 obtain⟨y,⟨r0,hr0,hy0⟩,hyX,hyC⟩:=znT m 24 ((2*((m+1)*24))^m) (fun r s=>((c r (s+1):Nat):Int)-(if r=s+1 then ((sumC n c r:Nat):Int) else 0)) hC (zik m 24 (by omega))
 have hX:(2*((m+1)*24))^m<2^41:=by
  have h1:(2*((m+1)*24))^m<=288^m:=Nat.pow_le_pow_left (by omega) m
  have h2:288^m<=288^5:=Nat.pow_le_pow_right (by omega) (by omega)
  have h3:288^5<2^41:=by decide
  omega
 obtain⟨X,hXe⟩:∃X,X=(2*((m+1)*24))^m:=⟨_,rfl⟩
 rw[<-hXe] at hyX hX
 clear hXe
 have hinv:Inv n (wayT n c) (fun i=>((y i*(sumC n c i:Int):Int):Rat)):=by
  refine h.ring.close fun j h1 hj=>?_
  have h2:=hyC (j-1) (by omega)
  have e3:=zfR (f:=fun r=>y r*(((c r (j-1+1):Nat):Int)-(if r=j-1+1 then ((sumC n c r:Nat):Int) else 0))) (g:=fun r=>y r*(c r j:Int)-(if r=j then y j*(sumC n c j:Int) else 0)) (m+1) (fun r hr=>by
   show y r*(((c r (j-1+1):Nat):Int)-(if r=j-1+1 then ((sumC n c r:Nat):Int) else 0))=y r*(c r j:Int)-(if r=j then y j*(sumC n c j:Int) else 0)
   rw[show j-1+1=j by omega,Int.mul_sub]
   congr 1
   by_cases e:r=j
   ·subst e;rw[if_pos rfl,if_pos rfl]
   ·rw[if_neg e,if_neg e,Int.mul_zero])
  have e1:=zeV (fun r=>y r*(c r j:Int)) (fun r=>if r=j then y j*(sumC n c j:Int) else 0) (m+1)
  have e2:sumZ (fun r=>if r=j then y j*(sumC n c j:Int) else 0) (m+1)=y j*(sumC n c j:Int):=by
   rw[zl9 (m+1) j (by omega) (fun k hk hne=>by show (if k=j then _ else _)=_;rw[if_neg hne])]
   show (if j=j then _ else _)=_
   rw[if_pos rfl]
  rw[e3,e1,e2] at h2
  have h3:=zgk (fun r=>y r*(c r j:Int)) (m+1)
  show ((y j*(sumC n c j:Int):Int):Rat)=_
  rw[show y j*(sumC n c j:Int)=sumZ (fun r=>y r*(c r j:Int)) (m+1) by omega,h3,<-hm]
  refine zay n fun i hi=>?_
  have:=h.way_mul i j hi
  rw[Rat.intCast_mul,Rat.intCast_mul,<-this]
  grind
 have hv:=(h.ring.sol h.sys).1
 have hv0:=(h.ring.sol h.sys).2
 have honly:=fun i hi=>h.ring.only hinv hv hv0 i hi
 have hs0:=h.sum_ge 0 h.pos
 have hy00:y 0≠0:=by
  intro e0
  have h1:=honly r0 (by omega)
  have h2:=h.sum_ge r0 (by omega)
  replace h1:((y r0*(sumC n c r0:Int):Int):Rat)=((y 0*(sumC n c 0:Int):Int):Rat)*(visV n (wayT n c)).getD r0 0:=h1
  have h3:((y r0*(sumC n c r0:Int):Int):Rat)=0:=by
   rw[h1,e0,Int.zero_mul];simp
  exact castZ (Int.mul_ne_zero hy0 (by omega)) h3
 have hpos:∀i,i<n->(visV n (wayT n c)).getD i 0*(((y 0).natAbs*sumC n c 0:Nat):Int)=(((y i).natAbs*sumC n c i:Nat):Int):=fun i hi=>by
  have h1:=honly i hi
  replace h1:((y i*(sumC n c i:Int):Int):Rat)=((y 0*(sumC n c 0:Int):Int):Rat)*(visV n (wayT n c)).getD i 0:=h1
  have h2:=h.ring.vis_pos h.sys i hi
  have h3:=h.sum_ge i hi
  have p0:=za7 (a:=sumC n c 0) (by omega)
  have pi:=za7 (a:=sumC n c i) (by omega)
  rw[Rat.intCast_mul,Rat.intCast_mul] at h1
  rw[Int.natCast_mul,Int.natCast_mul,Rat.intCast_mul,Rat.intCast_mul]
  by_cases hs:0<=y 0
  ·have hi0:0<=y i:=by
    refine Classical.byContradiction fun hn=>?_
    have q1:(y i:Rat)<0:=by exact_mod_cast (show y i<0 by omega)
    have q2:(0:Rat)<=(y 0:Rat):=by exact_mod_cast hs
    have q3:=Rat.mul_nonneg (Rat.mul_nonneg q2 (Rat.le_of_lt p0)) (Rat.le_of_lt h2)
    have q4:=Rat.mul_pos (show 0 < -(y i:Rat) by grind) pi
    grind
   rw[Int.natAbs_of_nonneg hs,Int.natAbs_of_nonneg hi0]
   grind
  ·have hi0:y i<=0:=by
    refine Classical.byContradiction fun hn=>?_
    have q1:0<(y i:Rat):=by exact_mod_cast (show 0<y i by omega)
    have q2:(y 0:Rat)<0:=by exact_mod_cast (show y 0<0 by omega)
    have q3:=Rat.mul_nonneg (Rat.mul_nonneg (show 0<=-(y 0:Rat) by grind) (Rat.le_of_lt p0)) (Rat.le_of_lt h2)
    have q4:=Rat.mul_pos q1 pi
    grind
   rw[show ((y 0).natAbs:Int)=-y 0 by omega,show ((y i).natAbs:Int)=-y i by omega,Rat.intCast_neg,Rat.intCast_neg]
   grind
 refine⟨(y 0).natAbs*sumC n c 0*2520,fun i=>(y i).natAbs*sumC n c i*(b i*(2520 / a i)),?_,?_,fun i hi=>?_,fun i hi=>?_⟩
 ·exact Nat.mul_pos (Nat.mul_pos (by omega) (by omega)) (by omega)
 ·have h1:=hyX 0
  have h2:=h.sum_le 0 h.pos
  have h3:(y 0).natAbs*sumC n c 0<=X*24:=Nat.mul_le_mul h1 h2
  omega
 ·have h1:=hpos i hi
  have ha:=h.ra i
  have hb:=h.rb i
  have hd:a i*(2520 / a i)=2520:=by
   obtain⟨k,hk⟩:∃k,k=a i:=⟨_,rfl⟩
   rw[<-hk] at ha ⊢
   rcases (show k=1\/k=2\/k=3\/k=4\/k=5\/k=6\/k=7\/k=8\/k=9 by omega) with e|e|e|e|e|e|e|e|e <;> subst e <;> rfl
  have hd2:((a i:Int):Rat)*((2520 / a i:Nat):Int)=((2520:Nat):Int):=by rw[<-hd,Int.natCast_mul,Rat.intCast_mul,hd]
  have pa:=castZ (z:=(a i:Int)) (by omega)
  have pb:=castZ (z:=(b i:Int)) (by omega)
  show zE.load n a b c i*_=_
  unfold zE.load rateT
  rw[Int.natCast_mul ((y 0).natAbs*sumC n c 0) 2520,Rat.intCast_mul,Int.natCast_mul ((y i).natAbs*sumC n c i),Rat.intCast_mul,<-h1,Int.natCast_mul (b i),Rat.intCast_mul,<-hd2]
  grind
 ·have h1:=hyX i
  have h2:=h.sum_le i hi
  have h3:(y i).natAbs*sumC n c i<=X*24:=Nat.mul_le_mul h1 h2
  have h4:b i*(2520 / a i)<=3*2520:=Nat.mul_le_mul (h.rb i).2 (Nat.div_le_self _ _)
  have h5:=Nat.mul_le_mul h3 h4
  omega
end Go.Proofs.YtpoahodnakhmiaaGreat
