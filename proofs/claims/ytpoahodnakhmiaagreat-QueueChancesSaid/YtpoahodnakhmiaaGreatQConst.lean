import Derived.Test.YtpoahodnakhmiaaGreatQOpen
import Derived.Test.YtpoahodnakhmiaaGreatPow
set_option maxRecDepth 100000
namespace Go.Proofs.YtpoahodnakhmiaaGreat
set_option linter.unusedVariables false
set_option linter.unusedSimpArgs false
def gN (l:Nat->Rat):Nat->Nat->Rat
 | _,0=>1
 | 0,_+1=>0
 | s+1,k+1=>gN l s (k+1)+l s*gN l (s+1) k
theorem zae (l:Nat->Rat) (s:Nat):gN l s 0=1:=by cases s <;> simp only[gN]
theorem zbs (l:Nat->Rat) (k:Nat):gN l 0 (k+1)=0:=by simp only[gN]
theorem zay (l:Nat->Rat) (s k:Nat):gN l (s+1) (k+1)=gN l s (k+1)+l s*gN l (s+1) k:=by rw[gN]
theorem zjg {l:Nat->Rat}:∀(s:Nat),(∀i,i<s->0<=l i)->∀k,0<=gN l s k
 | 0,_,0=>by rw[zae];decide
 | 0,_,k+1=>by rw[zbs];decide
 | s+1,_,0=>by rw[zae];decide
 | s+1,h,k+1=>by
  rw[zay]
  have h1:=zjg s (fun i hi=>h i (by omega)) (k+1)
  have h2:=Rat.mul_nonneg (h s (by omega)) (zjg (s+1) h k)
  grind
theorem zkm {l:Nat->Rat}:∀(s:Nat),0<s->(∀i,i<s->0<l i)->∀k,0<gN l s k
 | 0,h0,_,_=>by omega
 | s+1,_,_,0=>by rw[zae];decide
 | s+1,_,h,k+1=>by
  rw[zay]
  have h1:=zjg (l:=l) s (fun i hi=>by have:=h i (by omega);grind) (k+1)
  have h2:=Rat.mul_pos (h s (by omega)) (zkm (s+1) (by omega) h k)
  grind
def pwQ (q:Rat):Nat->Rat
 | 0=>1
 | k+1=>pwQ q k*q
theorem zg5 (z:Int):∀k,pwQ (z:Rat) k=((z^k:Int):Rat)
 | 0=>by simp[pwQ]
 | k+1=>by simp only[pwQ];rw[zg5 z k,Int.pow_succ,Rat.intCast_mul]
def gZ (z:Nat->Nat):Nat->Nat->Nat
 | _,0=>1
 | 0,_+1=>0
 | s+1,k+1=>gZ z s (k+1)+z s*gZ z (s+1) k
theorem zg6 {l:Nat->Rat} {z:Nat->Nat} {D:Nat}:∀(s:Nat),(∀i,i<s->l i*((D:Int):Rat)=((z i:Int):Rat))->∀k,gN l s k*pwQ ((D:Int):Rat) k=((gZ z s k:Int):Rat)
 | 0,_,0=>by simp[gN,gZ,pwQ]
 | 0,_,k+1=>by simp[gN,gZ]
 | s+1,_,0=>by simp[gN,gZ,pwQ]
 | s+1,h,k+1=>by
  have h1:=zg6 s (fun i hi=>h i (by omega)) (k+1)
  have h2:=zg6 (s+1) h k
  have h3:=h s (by omega)
  rw[zay,gZ,Int.natCast_add,Int.natCast_mul,Rat.intCast_add,Rat.intCast_mul,<-h1,<-h2,<-h3]
  simp only[pwQ]
  grind
theorem zjh {z:Nat->Nat} {B:Nat}:∀(s:Nat),(∀i,i<s->z i<=B)->∀k,gZ z s k<=(s*B)^k
 | 0,_,0=>by simp[gZ]
 | 0,_,k+1=>by simp[gZ]
 | s+1,_,0=>by simp[gZ]
 | s+1,h,k+1=>by
  have h1:=zjh s (fun i hi=>h i (by omega)) (k+1)
  have h2:=zjh (s+1) h k
  have h3:=h s (by omega)
  rw[gZ]
  have h4:(s*B)^(k+1)<=((s+1)*B)^k*(s*B):=by rw[Nat.pow_succ];exact Nat.mul_le_mul_right _ (Nat.pow_le_pow_left (Nat.mul_le_mul_right _ (by omega)) k)
  have h5:z s*gZ z (s+1) k<=B*((s+1)*B)^k:=Nat.mul_le_mul h3 h2
  rw[Nat.pow_succ,Nat.succ_mul s B,Nat.mul_add]
  rw[Nat.mul_comm B,Nat.succ_mul s B] at h5
  rw[Nat.succ_mul s B] at h4
  omega
theorem zg7 {L:Nat} {q:Rat} {a b:Int} (hb:b≠0) (e:q*(b:Rat)=(a:Rat)) (h1:a.natAbs<4294967296^L) (h2:b.natAbs<=4294967296^L):FitQ L q:=by
 have hb2:=castZ hb
 by_cases hp:0<b
 ·have e2:q=Rat.divInt a b:=by rw[Rat.divInt_eq_div];grind
  rw[e2]
  exact zaG hp (by rw[natp];omega) (by rw[natp];omega)
 ·have hn:=castZ (z:=-b) (by omega)
  have e2:q=Rat.divInt (-a) (-b):=by
   rw[Rat.divInt_eq_div]
   have e3:((-b:Int):Rat)=-(b:Rat):=by simp
   have e4:((-a:Int):Rat)=-(a:Rat):=by simp
   rw[e3,e4];grind
  rw[e2]
  exact zaG (by omega) (by rw[natp,Int.natAbs_neg];omega) (by rw[natp];omega)
def aN (l:Nat->Rat) (s i:Nat):Nat->Rat
 | 0=>0
 | n+1=>l i*(gN l s n+aN l s i n)
def bN (l:Nat->Rat) (s i n:Nat):Nat->Rat
 | 0=>0
 | k+1=>bN l s i n k+pwQ (l i) (k+1)*gN l s (n-(k+1))
theorem zg8 (l:Nat->Rat) (s i n:Nat):∀k,bN l s i (n+1) (k+1)=l i*(gN l s n+bN l s i n k)
 | 0=>by simp only[bN,pwQ,Nat.zero_add,Nat.add_sub_cancel];grind
 | k+1=>by
  rw[bN,zg8 l s i n k,bN,show n+1-(k+1+1)=n-(k+1) by omega]
  simp only[pwQ]
  grind
theorem zkn (l:Nat->Rat) (s i:Nat):∀n,bN l s i n n=aN l s i n
 | 0=>rfl
 | n+1=>by rw[zg8,aN,zkn l s i n]
theorem ziC (l:Nat->Rat) (s i:Nat):∀n,aN l (s+1) i (n+1)=aN l s i (n+1)+l s*aN l (s+1) i n
 | 0=>by simp only[aN,zae];grind
 | n+1=>by
  have ih:=ziC l s i n
  rw[show aN l (s+1) i (n+1+1)=l i*(gN l (s+1) (n+1)+aN l (s+1) i (n+1)) from rfl,show aN l s i (n+1+1)=l i*(gN l s (n+1)+aN l s i (n+1)) from rfl,zay]
  have e:aN l (s+1) i (n+1)=l i*(gN l (s+1) n+aN l (s+1) i n):=rfl
  grind
theorem zg9 (l:Nat->Rat):∀(s n:Nat),sumN (fun i=>aN l s i n) s=((n:Int):Rat)*gN l s n
 | 0,0=>by simp[sumN]
 | 0,n+1=>by rw[zbs];simp only[sumN];grind
 | s+1,0=>by rw[zbn (f:=fun i=>aN l (s+1) i 0) (s+1) (fun i _=>rfl)];simp
 | s+1,n+1=>by
  have ih1:=zg9 l s (n+1)
  have ih2:=zg9 l (s+1) n
  rw[sumN] at ih2 ⊢
  rw[zaA s (fun i _=>ziC l s i n),zcG,zcH,ih1,zay,aN]
  have e:(((n+1:Nat):Int):Rat)=((n:Int):Rat)+1:=by rw[Int.natCast_add,Rat.intCast_add];rfl
  rw[e]
  grind
def sumM (f:Nat->Nat):Nat->Nat
 | 0=>0
 | k+1=>sumM f k+f k
theorem zfq {f:Nat->Nat} {B:Nat}:∀k,(∀r,r<k->f r<=B)->sumM f k<=k*B
 | 0,_=>by simp[sumM]
 | k+1,h=>by
  have h1:=zfq k (fun r hr=>h r (by omega))
  have h2:=h k (by omega)
  rw[sumM,Nat.succ_mul];omega
theorem ziD {f:Nat->Nat} (c:Nat):∀k,c<k->f c<=sumM f k
 | k+1,h=>by
  rw[sumM]
  by_cases e:c=k
  ·subst e;omega
  ·have:=ziD (f:=f) c k (by omega);omega
theorem zfW (f:Nat->Nat):∀k,((sumM f k:Int):Rat)=sumN (fun i=>((f i:Int):Rat)) k
 | 0=>rfl
 | k+1=>by rw[sumM,sumN,<-zfW f k,Int.natCast_add,Rat.intCast_add]
structure zD (n:Nat) (a b:Nat->Nat) (c:Nat->Nat->Nat):Prop where
 pos:0<n
 n6:n<=6
 ra:∀i,1<=a i/\a i<=9
 rb:∀i,1<=b i/\b i<=3
 cw:∀i j,i<n->j<n->c i j<=4
 next:∀i,i<n->1<=c i ((i+1)%n)
def sumC (n:Nat) (c:Nat->Nat->Nat) (i:Nat):Nat:=sumM (c i) n
def rateT (a b:Nat->Nat) (i:Nat):Rat:=((a i:Int):Rat) / ((b i:Int):Rat)
def wayT (n:Nat) (c:Nat->Nat->Nat) (i j:Nat):Rat:=((c i j:Int):Rat) / ((sumC n c i:Int):Rat)
theorem za8 {a:Nat} (h:0<a):0<((a:Int):Rat):=by exact_mod_cast h
theorem zm1 (a:Nat):0<=((a:Int):Rat):=by exact_mod_cast Int.natCast_nonneg a
theorem zdu {p q:Rat} (hp:0<p) (hq:0<q):0<p / q:=by rw[Rat.div_def];exact Rat.mul_pos hp (Rat.inv_pos.2 hq)
theorem zm2 {p q:Rat} (hp:0<=p) (hq:0<q):0<=p / q:=by rw[Rat.div_def];have:=Rat.inv_pos.2 hq;exact Rat.mul_nonneg hp (by grind)
theorem zia {a:Nat} {n d:Int} (hd:0<d) (h1:(n.natAbs:Int)<10^a) (h2:d<10^a):FracQ a (Rat.divInt n d):=by
 obtain⟨x,y⟩:=zdI n d hd
 exact⟨by omega,by omega⟩
theorem zfr (a b:Int):(a:Rat) / (b:Rat)=Rat.divInt a b:=(Rat.divInt_eq_div a b).symm
theorem zcA {n:Nat} {a b:Int} (hb:0<b) (h1:(a.natAbs:Int)<10^n) (h2:b<10^n):FracQ n ((a:Rat) / (b:Rat)):=by rw[zfr];exact zia hb h1 h2
namespace zD
variable {n:Nat} {a b:Nat->Nat} {c:Nat->Nat->Nat}
theorem sum_le (h:zD n a b c) (i:Nat) (hi:i<n):sumC n c i<=24:=by
 have h1:=zfq (f:=c i) n (fun j hj=>h.cw i j hi hj)
 have h2:=h.n6
 unfold sumC
 omega
theorem sum_ge (h:zD n a b c) (i:Nat) (hi:i<n):1<=sumC n c i:=by
 have h1:=h.next i hi
 have h2:=ziD (f:=c i) ((i+1)%n) n (Nat.mod_lt _ h.pos)
 unfold sumC
 omega
theorem way_mul (h:zD n a b c) (i j:Nat) (hi:i<n):wayT n c i j*((sumC n c i:Int):Rat)=((c i j:Int):Rat):=by
 have:=castZ (z:=(sumC n c i:Int)) (by have:=h.sum_ge i hi;omega)
 unfold wayT
 grind
theorem ring (h:zD n a b c):zab n (wayT n c):=by
 refine⟨h.pos,fun i j hi hj=>zm2 (zm1 _) (za8 (by have:=h.sum_ge i hi;omega)),fun i hi=>?_,fun i hi=>zdu (za8 (by have:=h.next i hi;omega)) (za8 (by have:=h.sum_ge i hi;omega))⟩
 have h1:=castZ (z:=(sumC n c i:Int)) (by have:=h.sum_ge i hi;omega)
 have h2:=zbK (fun j=>((c i j:Int):Rat)) ((sumC n c i:Int):Rat) n
 rw[<-zfW] at h2
 show sumN (fun j=>((c i j:Int):Rat) / ((sumC n c i:Int):Rat)) n=1
 rw[h2]
 show ((sumC n c i:Int):Rat) / _=1
 grind
theorem way_small (h:zD n a b c) (i j:Nat) (hi:i<n) (hj:j<n):FracQ 6 (wayT n c i j):=by
 have h1:=h.sum_ge i hi
 have h2:=h.sum_le i hi
 have h3:=h.cw i j hi hj
 exact zcA (by omega) (by omega) (by omega)
theorem way_sys (h:zD n a b c) (i j:Nat) (hi:i<n) (hj:j<n):FracQ 12 (wayT n c i j)/\FracQ 12 (1-wayT n c i j)/\FracQ 12 (0-wayT n c i j):=by
 have h1:=h.sum_ge i hi
 have h2:=h.sum_le i hi
 have h3:=h.cw i j hi hj
 have h4:=castZ (z:=(sumC n c i:Int)) (by omega)
 refine⟨(h.way_small i j hi hj).lift (by omega),?_,?_⟩
 ·have e:1-wayT n c i j=(((sumC n c i:Int)-(c i j:Int):Int):Rat) / ((sumC n c i:Int):Rat):=by
   unfold wayT;rw[Rat.intCast_sub];grind
  rw[e]
  exact zcA (by omega) (by omega) (by omega)
 ·have e:0-wayT n c i j=((-(c i j:Int):Int):Rat) / ((sumC n c i:Int):Rat):=by
   unfold wayT;rw[Rat.intCast_neg];grind
  rw[e]
  exact zcA (by omega) (by omega) (by omega)
theorem rate_pos (h:zD n a b c) (i:Nat):0<rateT a b i:=zdu (za8 (by have:=h.ra i;omega)) (za8 (by have:=h.rb i;omega))
theorem rate_small (h:zD n a b c) (i:Nat):FracQ 6 (rateT a b i):=by
 have h1:=h.ra i
 have h2:=h.rb i
 exact zcA (by omega) (by omega) (by omega)
theorem sys (h:zD n a b c):Sys n (rowsV n (wayT n c)) (bsV n):=zlb h.n6 h.pos (fun i j hi hj=>h.way_sys i j hi hj)
def load (n:Nat) (a b:Nat->Nat) (c:Nat->Nat->Nat) (i:Nat):Rat:=(visV n (wayT n c)).getD i 0 / rateT a b i
theorem load_pos (h:zD n a b c) (i:Nat) (hi:i<n):0<load n a b c i:=zdu (h.ring.vis_pos h.sys i hi) (h.rate_pos i)
end zD
structure zog (n:Nat) (l:Nat->Rat) (D:Nat) (z:Nat->Nat):Prop where
 d0:0<D
 d1:D<2^59
 eq:∀i,i<n->l i*((D:Int):Rat)=((z i:Int):Rat)
 lt:∀i,i<n->z i<2^59
theorem zfX (f:Nat->Int):∀k,((sumZ f k:Int):Rat)=sumN (fun i=>((f i:Int):Rat)) k
 | 0=>rfl
 | k+1=>by rw[sumZ,sumN,<-zfX f k,Rat.intCast_add]
theorem zD.loads {n:Nat} {a b:Nat->Nat} {c:Nat->Nat->Nat} (h:zD n a b c):∃D z,zog n (zD.load n a b c) D z:=by
 obtain⟨m,hm⟩:∃m,n=m+1:=⟨n-1,by have:=h.pos;omega⟩
 have hn6:=h.n6
 have hC:∀r s,r<=m->s<m->(((c r (s+1):Nat):Int)-(if r=s+1 then ((sumC n c r:Nat):Int) else 0)).natAbs<=24:=fun r s hr hs=>by
  have h1:=h.cw r (s+1) (by omega) (by omega)
  have h2:=h.sum_le r (by omega)
  split <;> omega
 obtain⟨y,⟨r0,hr0,hy0⟩,hyX,hyC⟩:=znY m 24 ((2*((m+1)*24))^m) (fun r s=>((c r (s+1):Nat):Int)-(if r=s+1 then ((sumC n c r:Nat):Int) else 0)) hC (zii m 24 (by omega))
 have hX:(2*((m+1)*24))^m<2^41:=by
  have h1:(2*((m+1)*24))^m<=288^m:=Nat.pow_le_pow_left (by omega) m
  have h2:288^m<=288^5:=Nat.pow_le_pow_right (by omega) (by omega)
  have h3:288^5<2^41:=by decide
  omega
 obtain⟨X,hXe⟩:∃X,X=(2*((m+1)*24))^m:=⟨_,rfl⟩
 rw[<-hXe] at hyX hX
 clear hXe
 have hinv:Inv n (wayT n c) (fun i=>((y i*(sumC n c i:Int):Int):Rat)):=by
  refine h.ring.close fun j h1 hj=>?_
  have h2:=hyC (j-1) (by omega)
  have e3:=zfE (f:=fun r=>y r*(((c r (j-1+1):Nat):Int)-(if r=j-1+1 then ((sumC n c r:Nat):Int) else 0))) (g:=fun r=>y r*(c r j:Int)-(if r=j then y j*(sumC n c j:Int) else 0)) (m+1) (fun r hr=>by
   show y r*(((c r (j-1+1):Nat):Int)-(if r=j-1+1 then ((sumC n c r:Nat):Int) else 0))=y r*(c r j:Int)-(if r=j then y j*(sumC n c j:Int) else 0)
   rw[show j-1+1=j by omega,Int.mul_sub]
   congr 1
   by_cases e:r=j
   ·subst e;rw[if_pos rfl,if_pos rfl]
   ·rw[if_neg e,if_neg e,Int.mul_zero])
  have e1:=zeK (fun r=>y r*(c r j:Int)) (fun r=>if r=j then y j*(sumC n c j:Int) else 0) (m+1)
  have e2:sumZ (fun r=>if r=j then y j*(sumC n c j:Int) else 0) (m+1)=y j*(sumC n c j:Int):=by
   rw[zl6 (m+1) j (by omega) (fun k hk hne=>by show (if k=j then _ else _)=_;rw[if_neg hne])]
   show (if j=j then _ else _)=_
   rw[if_pos rfl]
  rw[e3,e1,e2] at h2
  have h3:=zfX (fun r=>y r*(c r j:Int)) (m+1)
  show ((y j*(sumC n c j:Int):Int):Rat)=_
  rw[show y j*(sumC n c j:Int)=sumZ (fun r=>y r*(c r j:Int)) (m+1) by omega,h3,<-hm]
  refine zaA n fun i hi=>?_
  have:=h.way_mul i j hi
  rw[Rat.intCast_mul,Rat.intCast_mul,<-this]
  grind
 have hv:=(h.ring.sol h.sys).1
 have hv0:=(h.ring.sol h.sys).2
 have honly:=fun i hi=>h.ring.only hinv hv hv0 i hi
 have hs0:=h.sum_ge 0 h.pos
 have hy00:y 0≠0:=by
  intro e0
  have h1:=honly r0 (by omega)
  have h2:=h.sum_ge r0 (by omega)
  replace h1:((y r0*(sumC n c r0:Int):Int):Rat)=((y 0*(sumC n c 0:Int):Int):Rat)*(visV n (wayT n c)).getD r0 0:=h1
  have h3:((y r0*(sumC n c r0:Int):Int):Rat)=0:=by
   rw[h1,e0,Int.zero_mul];simp
  exact castZ (Int.mul_ne_zero hy0 (by omega)) h3
 have hpos:∀i,i<n->(visV n (wayT n c)).getD i 0*(((y 0).natAbs*sumC n c 0:Nat):Int)=(((y i).natAbs*sumC n c i:Nat):Int):=fun i hi=>by
  have h1:=honly i hi
  replace h1:((y i*(sumC n c i:Int):Int):Rat)=((y 0*(sumC n c 0:Int):Int):Rat)*(visV n (wayT n c)).getD i 0:=h1
  have h2:=h.ring.vis_pos h.sys i hi
  have h3:=h.sum_ge i hi
  have p0:=za8 (a:=sumC n c 0) (by omega)
  have pi:=za8 (a:=sumC n c i) (by omega)
  rw[Rat.intCast_mul,Rat.intCast_mul] at h1
  rw[Int.natCast_mul,Int.natCast_mul,Rat.intCast_mul,Rat.intCast_mul]
  by_cases hs:0<=y 0
  ·have hi0:0<=y i:=by
    refine Classical.byContradiction fun hn=>?_
    have q1:(y i:Rat)<0:=by exact_mod_cast (show y i<0 by omega)
    have q2:(0:Rat)<=(y 0:Rat):=by exact_mod_cast hs
    have q3:=Rat.mul_nonneg (Rat.mul_nonneg q2 (Rat.le_of_lt p0)) (Rat.le_of_lt h2)
    have q4:=Rat.mul_pos (show 0 < -(y i:Rat) by grind) pi
    grind
   rw[Int.natAbs_of_nonneg hs,Int.natAbs_of_nonneg hi0]
   grind
  ·have hi0:y i<=0:=by
    refine Classical.byContradiction fun hn=>?_
    have q1:0<(y i:Rat):=by exact_mod_cast (show 0<y i by omega)
    have q2:(y 0:Rat)<0:=by exact_mod_cast (show y 0<0 by omega)
    have q3:=Rat.mul_nonneg (Rat.mul_nonneg (show 0<=-(y 0:Rat) by grind) (Rat.le_of_lt p0)) (Rat.le_of_lt h2)
    have q4:=Rat.mul_pos q1 pi
    grind
   rw[show ((y 0).natAbs:Int)=-y 0 by omega,show ((y i).natAbs:Int)=-y i by omega,Rat.intCast_neg,Rat.intCast_neg]
   grind
 refine⟨(y 0).natAbs*sumC n c 0*2520,fun i=>(y i).natAbs*sumC n c i*(b i*(2520 / a i)),?_,?_,fun i hi=>?_,fun i hi=>?_⟩
 ·exact Nat.mul_pos (Nat.mul_pos (by omega) (by omega)) (by omega)
 ·have h1:=hyX 0
  have h2:=h.sum_le 0 h.pos
  have h3:(y 0).natAbs*sumC n c 0<=X*24:=Nat.mul_le_mul h1 h2
  omega
 ·have h1:=hpos i hi
  have ha:=h.ra i
  have hb:=h.rb i
  have hd:a i*(2520 / a i)=2520:=by
   obtain⟨k,hk⟩:∃k,k=a i:=⟨_,rfl⟩
   rw[<-hk] at ha ⊢
   rcases (show k=1\/k=2\/k=3\/k=4\/k=5\/k=6\/k=7\/k=8\/k=9 by omega) with e|e|e|e|e|e|e|e|e <;> subst e <;> rfl
  have hd2:((a i:Int):Rat)*((2520 / a i:Nat):Int)=((2520:Nat):Int):=by rw[<-hd,Int.natCast_mul,Rat.intCast_mul,hd]
  have pa:=castZ (z:=(a i:Int)) (by omega)
  have pb:=castZ (z:=(b i:Int)) (by omega)
  show zD.load n a b c i*_=_
  unfold zD.load rateT
  rw[Int.natCast_mul ((y 0).natAbs*sumC n c 0) 2520,Rat.intCast_mul,Int.natCast_mul ((y i).natAbs*sumC n c i),Rat.intCast_mul,<-h1,Int.natCast_mul (b i),Rat.intCast_mul,<-hd2]
  grind
 ·have h1:=hyX i
  have h2:=h.sum_le i hi
  have h3:(y i).natAbs*sumC n c i<=X*24:=Nat.mul_le_mul h1 h2
  have h4:b i*(2520 / a i)<=3*2520:=Nat.mul_le_mul (h.rb i).2 (Nat.div_le_self _ _)
  have h5:=Nat.mul_le_mul h3 h4
  omega
set_option linter.unusedVariables false
set_option linter.unusedSimpArgs false
theorem zcB {L:Nat} (h:1<=L):FitQ L 1:=by
 have h1:=zt (B:=4294967296) (by omega) h
 exact⟨by show ((1:Nat):Int)<_;omega,by show ((1:Nat):Int)<=_;omega⟩
theorem ze7 {q:Rat} (h:FracQ 6 q):shortQ q=true:=by
 unfold shortQ
 have h1:(decText (q.num.natAbs:Int)).length<=6:=by
  by_cases e:q.num.natAbs=0
  ·rw[e];decide
  ·exact zc2 (by omega) h.1
 have h2:(decText (q.den:Int)).length<=6:=zc2 (by have:=q.den_pos;omega) h.2
 simp[h1,h2]
theorem zm3 {q:Rat} (h:FracQ 6 q) (h0:0<q):badR q=false:=by
 unfold badR
 have h1:=zfp q
 rw[decide_eq_true h0] at h1
 have h2:=of_decide_eq_true h1
 rw[ze7 h,decide_eq_false (by omega)];rfl
theorem zm4 {q:Rat} (h:FracQ 6 q) (h0:0<=q):badW q=false:=by
 unfold badW
 have h2:¬sgnQ q<0:=by
  rcases Rat.le_iff_lt_or_eq.1 h0 with h3|h3
  ·have h1:=zfp q
   rw[decide_eq_true h3] at h1
   have:=of_decide_eq_true h1
   omega
  ·rw[<-h3];decide
 rw[ze7 h,decide_eq_false h2];rfl
theorem zen {n:Nat} {W W':Nat->Nat->Rat} (h:∀i j,i<n->j<n->W i j=W' i j):rowsV n W=rowsV n W':=by
 unfold rowsV
 refine List.map_congr_left fun j hj=>List.map_congr_left fun i hi=>?_
 rw[List.mem_range] at hj hi
 rw[h i j hi hj]
theorem zji {n:Nat} {W W':Nat->Nat->Rat} (h:∀i j,i<n->j<n->W i j=W' i j):visV n W=visV n W':=by
 unfold visV;rw[zen h]
def tR (n:Nat) (a b:Nat->Nat):List Rat:=(List.range n).map (rateT a b)
def tW (n:Nat) (c:Nat->Nat->Nat):List (List Rat):=(List.range n).map fun i=>(List.range n).map (wayT n c i)
theorem zcQ (n:Nat) (a b:Nat->Nat):(tR n a b).length=n:=by simp[tR]
theorem zfY (n:Nat) (c:Nat->Nat->Nat):(tW n c).length=n:=by simp[tW]
theorem zdV (n:Nat) (a b:Nat->Nat) (i:Nat) (hi:i<n):(tR n a b).getD i 0=rateT a b i:=by unfold tR;simp[List.getD,hi]
theorem zko (n:Nat) (c:Nat->Nat->Nat) (i:Nat) (hi:i<n):(tW n c).getD i []=(List.range n).map (wayT n c i):=by unfold tW;simp[List.getD,hi]
theorem zbD (n:Nat) (c:Nat->Nat->Nat) (i j:Nat) (hi:i<n) (hj:j<n):ent (tW n c) i j=wayT n c i j:=by unfold ent;rw[zko n c i hi];simp[List.getD,hj]
theorem zfs {f:Nat->Rat} {L:Nat}:∀k,(∀i,i<k->FitQ L (f i))->FitQ ((L+1)*k+1) (sumN f k)
 | 0,_=>za1 _
 | k+1,h=>by
  rw[sumN]
  have:=(zfs k (fun i hi=>h i (by omega))).addA (h k (by omega))
  exact this.more (by rw[Nat.mul_succ];omega)
theorem zeh {q:Rat} {L:Nat} (h:FitQ L q):∀k,FitQ (L*k+1) (powN q k)
 | 0=>by
  have:powN q 0=1:=rfl
  rw[this];exact zcB (by omega)
 | k+1=>by
  rw[powN]
  exact((zeh h k).mulA h).more (by rw[Nat.mul_succ];omega)
theorem FitQ.divA {a b:Nat} {p q:Rat} (hp:FitQ a p) (hq:FitQ b q) (h0:q≠0):FitQ (a+b+1) (p / q):=by
 rw[Rat.div_def]
 exact(hp.mulA (hq.inv h0)).more (by omega)
namespace zD
variable {n:Nat} {a b:Nat->Nat} {c:Nat->Nat->Nat}
theorem ringE (h:zD n a b c):zab n (ent (tW n c)) where
 pos:=h.pos
 nn i j hi hj:=by rw[zbD n c i j hi hj];exact h.ring.nn i j hi hj
 one i hi:=by
  rw[<-h.ring.one i hi]
  exact zaA n fun j hj=>zbD n c i j hi hj
 next i hi:=by rw[zbD n c i _ hi (Nat.mod_lt _ h.pos)];exact h.ring.next i hi
theorem rowsE (h:zD n a b c):rowsV n (ent (tW n c))=rowsV n (wayT n c):=zen fun i j hi hj=>zbD n c i j hi hj
theorem visE (h:zD n a b c):visV n (ent (tW n c))=visV n (wayT n c):=zji fun i j hi hj=>zbD n c i j hi hj
theorem shopOK (h:zD n a b c) (L:Nat) (hL:20<=L):zg4 n L (tR n a b) (tW n c) where
 n1:=h.pos
 n8:=by have:=h.n6;omega
 rl:=zcQ n a b
 wl:=zfY n c
 rows i hi:=by rw[zko n c i hi];simp
 rok i hi:=by rw[zdV n a b i hi];exact zm3 (h.rate_small i) (h.rate_pos i)
 wok i j hi hj:=by rw[zbD n c i j hi hj];exact zm4 (h.way_small i j hi hj) (h.ring.nn i j hi hj)
 fit i k hi hk:=by
  have h1:=zfs (f:=ent (tW n c) i) (L:=1) k (fun j hj=>by rw[zbD n c i j hi (by omega)];exact(h.way_small i j hi (by omega)).fit)
  have:=h.n6
  exact h1.more (by omega)
 one i hi:=h.ringE.one i hi
 all i hi o h0 hc x hx:=by
  have key:∀t,(i+t)%n∈o:=by
   intro t
   induction t with
   | zero=>rw[Nat.add_zero,Nat.mod_eq_of_lt hi];exact h0
   | succ t ih=>
    have h1:=Nat.mod_lt (i+t) h.pos
    have h2:=hc _ ih (((i+t)%n+1)%n) (Nat.mod_lt _ h.pos) (h.ringE.next _ h1)
    rwa[show ((i+t)%n+1)%n=(i+(t+1))%n by rw[Nat.mod_add_mod,Nat.add_assoc]] at h2
  have h1:=key (x+n-i)
  rwa[show i+(x+n-i)=x+n by omega,Nat.add_mod_right,Nat.mod_eq_of_lt hx] at h1
theorem rate_fit (h:zD n a b c) (i:Nat):FitQ 1 (rateT a b i):=(h.rate_small i).fit
theorem load_fit (h:zD n a b c) (i:Nat) (hi:i<n):FitQ 2 (load n a b c i):=by
 obtain⟨D,z,hd⟩:=h.loads
 have h1:=hd.d0
 have h2:=hd.d1
 have h3:=hd.lt i hi
 exact zg7 (a:=(z i:Int)) (b:=(D:Int)) (by omega) (hd.eq i hi) (by omega) (by omega)
theorem vis_mul (h:zD n a b c) (i:Nat):(visV n (wayT n c)).getD i 0=load n a b c i*rateT a b i:=by
 have:=h.rate_pos i
 unfold load
 have h2:rateT a b i≠0:=by grind
 rw[Rat.div_mul_cancel h2]
theorem vis_fit (h:zD n a b c) (i:Nat) (hi:i<n):FitQ 3 ((visV n (wayT n c)).getD i 0):=by
 have h1:=(h.load_fit i hi).mulA (h.rate_fit i)
 have h2:=h1.more (show 2+1<=3 by omega)
 rw[<-h.vis_mul i] at h2
 exact h2
theorem openOK (h:zD n a b c) (L:Nat) (hL:20<=L) (hL2:L<=3000):zha n L (tR n a b) (tW n c) where
 shop:=h.shopOK L hL
 ring:=h.ringE
 sys:=by rw[h.rowsE];exact h.sys
 L1:=by omega
 L2:=hL2
 r0 i hi:=by
  have:=h.rate_pos i
  rw[zdV n a b i hi];grind
 fitV i hi:=by rw[h.visE];exact(h.vis_fit i hi).more (by omega)
 fitL i hi:=by
  rw[h.visE,zdV n a b i hi]
  exact(h.load_fit i hi).more (by omega)
 fitW j i t hj ht:=by
  rw[zch n _ j i t ht]
  have h0:FitQ 1 (if t=j then (1:Rat) else 0):=by
   split
   ·exact zcB (by omega)
   ·exact za1 _
  have h1:FitQ 1 (if t<i then ent (tW n c) t j else 0):=by
   split
   ·rw[zbD n c t j ht hj];exact(h.way_small t j ht hj).fit
   ·exact za1 _
  split
  ·exact h0.more (by omega)
  ·exact(h0.sub h1).more (by omega)
theorem g_fit (h:zD n a b c) (s k:Nat) (hs:s<=n) (hk:k<=12):FitQ 24 (gN (load n a b c) s k):=by
 obtain⟨D,z,hd⟩:=h.loads
 have h1:=zg6 (l:=load n a b c) (z:=z) (D:=D) s (fun i hi=>hd.eq i (by omega)) k
 have h2:=zjh (z:=z) (B:=2^59) s (fun i hi=>Nat.le_of_lt (hd.lt i (by omega))) k
 have h6:=h.n6
 have h3:(s*2^59)^k<4294967296^24:=by
  have e1:(s*2^59)^k<=(2^62)^k:=Nat.pow_le_pow_left (by omega) k
  have e2:(2^62)^k<=(2^62)^12:=Nat.pow_le_pow_right (by omega) hk
  have e3:(2^62)^12<4294967296^24:=by decide
  omega
 have h4:D^k<=4294967296^24:=by
  have e1:D^k<=(2^59)^k:=Nat.pow_le_pow_left (by have:=hd.d1;omega) k
  have e2:(2^59)^k<=(2^59)^12:=Nat.pow_le_pow_right (by omega) hk
  have e3:(2^59)^12<4294967296^24:=by decide
  omega
 rw[zg5,<-Int.natCast_pow] at h1
 have h5:0<D^k:=Nat.pow_pos hd.d0
 exact zg7 (a:=(gZ z s k:Int)) (b:=((D^k:Nat):Int)) (by omega) h1 (by omega) (by omega)
end zD
structure zaj (s:Nat) (l:Nat->Rat):Prop where
 s0:0<s
 s8:s<=8
 pos:∀i,i<s->0<l i
 fitl:∀i,i<s->FitQ 2 (l i)
 fitg:∀t k,t<=s->k<=12->FitQ 24 (gN l t k)
theorem zD.ldOK {n:Nat} {a b:Nat->Nat} {c:Nat->Nat->Nat} (h:zD n a b c):zaj n (zD.load n a b c):=
 ⟨h.pos,by have:=h.n6;omega,h.load_pos,h.load_fit,h.g_fit⟩
theorem zeD {l l':Nat->Rat}:∀(s:Nat),(∀i,i<s->l i=l' i)->∀k,gN l s k=gN l' s k
 | 0,_,0=>by rw[zae,zae]
 | 0,_,k+1=>by rw[zbs,zbs]
 | s+1,_,0=>by rw[zae,zae]
 | s+1,h,k+1=>by rw[zay,zay,zeD s (fun i hi=>h i (by omega)) (k+1),zeD (s+1) h k,h s (by omega)]
theorem zaj.congr {s:Nat} {l l':Nat->Rat} (h:zaj s l) (e:∀i,i<s->l' i=l i):zaj s l':=
 ⟨h.s0,h.s8,fun i hi=>by rw[e i hi];exact h.pos i hi,fun i hi=>by rw[e i hi];exact h.fitl i hi,fun t k ht hk=>by rw[zeD t (fun i hi=>e i (by omega)) k];exact h.fitg t k ht hk⟩
theorem zD.loads_get {n:Nat} {a b:Nat->Nat} {c:Nat->Nat->Nat} (h:zD n a b c) (i:Nat) (hi:i<n):(loadsV (tR n a b) (visV n (ent (tW n c)))).getD i 0=zD.load n a b c i:=by
 rw[zdv _ _ _ (by rw[h.visE,zbF n _ h.pos];exact hi),h.visE,zdV n a b i hi];rfl
theorem zD.loads_len {n:Nat} {a b:Nat->Nat} {c:Nat->Nat->Nat} (h:zD n a b c):(loadsV (tR n a b) (visV n (ent (tW n c)))).length=n:=by
 rw[zbb,zbF n _ h.pos]
namespace zaj
variable {s:Nat} {l:Nat->Rat}
theorem g_pos (h:zaj s l) (k:Nat):0<gN l s k:=zkm s h.s0 h.pos k
theorem g_ne (h:zaj s l) (k:Nat):gN l s k≠0:=by have:=h.g_pos k;grind
theorem p_fit (h:zaj s l) (i k:Nat) (hi:i<s) (hk:k<=12):FitQ 25 (powN (l i) k):=(zeh (h.fitl i hi) k).more (by omega)
theorem lg_fit (h:zaj s l) (i t k:Nat) (hi:i<s) (ht:t<=s) (hk:k<=12):FitQ 26 (l i*gN l t k):=((h.fitl i hi).mulA (h.fitg t k ht hk)).more (by omega)
theorem pg_fit (h:zaj s l) (i k m:Nat) (hi:i<s) (hk:k<=12) (hm:m<=12):FitQ 49 (powN (l i) k*gN l s m):=((h.p_fit i k hi hk).mulA (h.fitg s m (nr _) hm)).more (by omega)
end zaj
def atQ (l:Nat->Rat) (s i:Nat) (k n:Int):Rat:=if k<1 then 1 else if n<k then 0 else powN (l i) k.toNat*gN l s (n-k).toNat / gN l s n.toNat
theorem zaj.at_fit {s:Nat} {l:Nat->Rat} (h:zaj s l) (i:Nat) (k n:Int) (hi:i<s) (hn:n<=12):FitQ 74 (atQ l s i k n):=by
 unfold atQ
 split
 ·exact zcB (by omega)
 ·split
  ·exact za1 _
  ·exact((h.pg_fit i k.toNat (n-k).toNat hi (by omega) (by omega)).divA (h.fitg s n.toNat (nr _) (by omega)) (h.g_ne _)).more (by omega)
set_option linter.unusedVariables false
set_option linter.unusedSimpArgs false
open Go.RowKit
theorem prod2 (a b:Rat):prodN (fun i=>[a,b].getD i 0) 2=a*b:=by simp[prodN,Rat.one_mul]
theorem zcR {L:Nat} {a b:Rat} (hL:1<=L) (ha:FitQ L a) (hab:FitQ L (a*b)) (k:Nat) (hk:k<=2):FitQ L (prodN (fun i=>[a,b].getD i 0) k):=by
 rcases (show k=0\/k=1\/k=2 by omega) with e|e|e <;> subst e
 ·exact zcB hL
 ·simpa[prodN,Rat.one_mul] using ha
 ·rw[prod2];exact hab
theorem sum2 (a b:Rat):sumN (fun i=>[a,b].getD i 0) 2=a+b:=by simp[sumN,Rat.zero_add]
theorem zlI {L:Nat} {a b:Rat} (ha:FitQ L a) (hab:FitQ L (a+b)) (k:Nat) (hk:k<=2):FitQ L (sumN (fun i=>[a,b].getD i 0) k):=by
 rcases (show k=0\/k=1\/k=2 by omega) with e|e|e <;> subst e
 ·exact za1 _
 ·simpa[sumN,Rat.zero_add] using ha
 ·rw[sum2];exact hab
theorem zbj {w:World} {s t:Bool} {A B C D:Option Addr} {n c m d n' c' m' d':Nat} {p q:Rat} {L:Nat} (hp:RatV w (.agg #[.bool s,.slice A n c,.slice B m d]) p L) (hq:RatV w (.agg #[.bool t,.slice C n' c',.slice D m' d']) q L):
  RowV (w.alloc (.cells #[.bool s,.slice A n c,.slice B m d,.bool t,.slice C n' c',.slice D m' d'] 43)) (.slice (some ⟨w.heap.size,0,none⟩) 2 2) [p,q] L:=by
 have hb:Below w.heap.size w (w.alloc (.cells #[.bool s,.slice A n c,.slice B m d,.bool t,.slice C n' c',.slice D m' d'] 43)):=za (blr _ _) _
 have hh:=heap_alloc_new w (.cells #[.bool s,.slice A n c,.slice B m d,.bool t,.slice C n' c',.slice D m' d'] 43)
 refine⟨_,2,rfl,nr _,by simp[maxLen],fun _=>⟨w.heap.size,0,rfl,fun i hi=>?_⟩⟩
 have hcell:∀(j:Nat) (u:Value),#[Value.bool s,.slice A n c,.slice B m d,.bool t,.slice C n' c',.slice D m' d'][j]?=some u->(w.alloc (.cells #[.bool s,.slice A n c,.slice B m d,.bool t,.slice C n' c',.slice D m' d'] 43)).cell? ⟨w.heap.size,j,none⟩=some u:=fun j u hj=>by
  unfold World.cell?
  simp only[hh]
  simpa using hj
 obtain⟨p1,p2,ep,p3,p4⟩:=hp
 obtain⟨q1,q2,eq,q3,q4⟩:=hq
 simp only[Value.agg.injEq,Array.mk.injEq,List.cons.injEq,Value.bool.injEq,and_true] at ep eq
 obtain⟨rfl,rfl,rfl⟩:=ep
 obtain⟨rfl,rfl,rfl⟩:=eq
 rcases (show i=0\/i=1 by simp at hi;omega) with e|e <;> subst e
 ·exact⟨_,_,_,_,_,_,hcell 0 _ rfl,hcell 1 _ rfl,hcell 2 _ rfl,p3.below hb,p4.below hb⟩
 ·exact⟨_,_,_,_,_,_,hcell 3 _ rfl,hcell 4 _ rfl,hcell 5 _ rfl,q3.below hb,q4.below hb⟩
def gL (l:Nat->Rat) (s n:Nat):List Rat:=(List.range (n+1)).map (gN l s)
def gP (l:Nat->Rat) (s n k:Nat):List Rat:=(List.range (n+1)).map fun t=>if t<k then gN l (s+1) t else gN l s t
theorem zaK (l:Nat->Rat) (s n:Nat):(gL l s n).length=n+1:=by simp[gL]
theorem zaY (l:Nat->Rat) (s n k:Nat):(gP l s n k).length=n+1:=by simp[gP]
theorem zcC (l:Nat->Rat) (s n t:Nat) (ht:t<=n):(gL l s n).getD t 0=gN l s t:=by
 unfold gL;simp[List.getD,show t<n+1 by omega]
theorem zm5 (l:Nat->Rat) (n:Nat):(List.replicate (n+1) (0:Rat)).set 0 1=gL l 0 n:=by
 refine zbP (by simp[gL]) fun i hi=>?_
 rw[List.length_set,List.length_replicate] at hi
 rw[zP _ _ _ _ _ (by rw[List.length_replicate];omega),zcC l 0 n i (by omega)]
 cases i with
 | zero=>rw[if_pos rfl,zae]
 | succ i=>rw[if_neg (by omega),zbs];simp[List.getD,hi]
theorem zc7 (l:Nat->Rat) (s n k t:Nat) (ht:t<=n):(gP l s n k).getD t 0=if t<k then gN l (s+1) t else gN l s t:=by
 unfold gP;simp[List.getD,show t<n+1 by omega]
theorem znJ (l:Nat->Rat) (s n:Nat):gL l s n=gP l s n 1:=by
 refine zbP (by rw[zaK,zaY]) fun i hi=>?_
 rw[zaK] at hi
 rw[zcC l s n i (by omega),zc7 l s n 1 i (by omega)]
 by_cases h:i<1
 ·rw[if_pos h,show i=0 by omega,zae,zae]
 ·rw[if_neg h]
theorem znK (l:Nat->Rat) (s n:Nat):gP l s n (n+1)=gL l (s+1) n:=by
 refine zbP (by rw[zaK,zaY]) fun i hi=>?_
 rw[zaY] at hi
 rw[zcC l (s+1) n i (by omega),zc7 l s n (n+1) i (by omega),if_pos hi]
theorem zm6 (l:Nat->Rat) (s n m:Nat) (hm:m+1<=n):(gP l s n (m+1)).set (m+1) (gN l (s+1) (m+1))=gP l s n (m+2):=by
 refine zbP (by simp[gP]) fun i hi=>?_
 rw[List.length_set,zaY] at hi
 rw[zP _ _ _ _ _ (by rw[zaY];omega),zc7 l s n (m+1) i (by omega),zc7 l s n (m+2) i (by omega)]
 by_cases e:m+1=i
 ·subst e;rw[if_pos rfl,if_pos (by omega)]
 ·rw[if_neg e]
  by_cases h:i<m+1
  ·rw[if_pos h,if_pos (by omega)]
  ·rw[if_neg h,if_neg (by omega)]
set_option maxHeartbeats 4000000 in
theorem znL (w:World) (a:Value) (l:Nat->Rat) (s n L g bn bg c:Nat) (ha:RatV w a (l s) L) (hrow:RowC w g (gL l s n) L) (hbn:w.heap[bn]?=some (.cells #[.int .i64 (n:Int)] 3 (0,0))) (hbg:w.heap[bg]?=some (.cells #[.slice (some ⟨g,0,none⟩) (n+1) c] 30 (0,0)))
  (hn:n<=1000) (hc:n+1<=c) (hm:c<=maxLen) (hL1:2<=L) (hL2:L<=3000) (hf1:FitQ L (l s)) (hf2:∀t,t<=n->FitQ L (gN l s t)/\FitQ L (gN l (s+1) t)/\FitQ L (l s*gN l (s+1) t)):
  Calls Tryz.prog 122 #[a,.pointer (some ⟨bn,0,none⟩),.pointer (some ⟨bg,0,none⟩)] w (Ret (fun v w'=>v=.tuple #[]/\RowC w' g (gL l (s+1) n) L/\Keeps w w'/\w.grownBy w' (some g))):=by
 have hgl:=hrow.lt
 have hng:bn≠g:=Typed.ne (e:=3) ⟨_,_,hbn⟩ ⟨_,_,hrow.1.choose_spec⟩ (by decide)
 have hgg:bg≠g:=Typed.ne (e:=30) ⟨_,_,hbg⟩ ⟨_,_,hrow.1.choose_spec⟩ (by decide)
 have hbnl:=lt_of_block hbn
 have hbgl:=lt_of_block hbg
 unfold maxLen at hm
 have HA0:=hide ha
 obtain⟨s0,A0,n0,c0,A9,n9,c9,rfl⟩:=ha.shape
 obtain⟨W,hW⟩:∃W,W=w.alloc (.cells #[.bool s0,.slice A0 n0 c0,.slice A9 n9 c9] 43):=⟨_,rfl⟩
 have hb0:Below w.heap.size w W:=by rw[hW];exact za (blr _ _) _
 have hbx:W.heap[w.heap.size]?=some (.cells #[.bool s0,.slice A0 n0 c0,.slice A9 n9 c9] 43):=by rw[hW];exact zj _ _
 have hrw:=hrow.below hb0
 rw[znJ] at hrw
 have HX:=hide (ai hb0 (ai hbx (ai (at_later hbn hb0) (ai (at_later hbg hb0) (ai hrw (ha.below hb0))))))
 have HF0:=hide (ai hf1 hf2)
 have HL:=hide hW
 have hWs:w.heap.size<W.heap.size:=lt_of_block hbx
 clear ha hrow hbn hbg hb0 hbx hrw hW hf1 hf2
 go_enter Tryz.func122,Tryz.ntmps122
 go_wp2
 rw[<-HL.out]
 go_loopw [4] (fun s4 wr=>∃m:Nat,m<=n/\s4=.int .i64 ((m:Int)+1)/\RowC wr g (gP l s n (m+1)) L/\Keeps W wr/\W.grownBy wr (some g)) (fun s4 _=>n+1-(intOf s4).toNat)
 case atStart=>exact⟨0,Nat.zero_le _,rfl,HX.out.2.2.2.2.1,Below.keeps (blr _ _),⟨rfl,rfl,rfl,nr _,fun _ _ _=>rfl⟩⟩
 case round=>
  obtain⟨m,hmn,rfl,hrow,hkeep,hgr⟩:=hrel
  have hbnr:=(hgr.block bn (by omega) (by intro e;injection e with e;omega)).trans HX.out.2.2.1
  have hbgr:=(hgr.block bg (by omega) (by intro e;injection e with e;omega)).trans HX.out.2.2.2.1
  obtain⟨kn,_⟩:=zE hbnr
  by_cases hlt:m+1<=n
  ·have hbxr:=(hgr.block w.heap.size (by omega) (by intro e;injection e with e;omega)).trans HX.out.2.1
   obtain⟨s1,B1,m1,d1,B2,m2,d2,e0,e1,e2,hq1⟩:=(hrow.2 (m+1) (by rw[zaY];omega)).rat
   obtain⟨s2,B3,m3,d3,B4,m4,d4,e3,e4,e5,hq2⟩:=(hrow.2 m (by rw[zaY];omega)).rat
   rw[zc7 l s n (m+1) (m+1) (by omega),if_neg (Nat.lt_irrefl _)] at hq1
   rw[zc7 l s n (m+1) m (by omega),if_pos (by omega)] at hq2
   have hS:∀w',Below wr.heap.size wr w'->w'.cell? ⟨bg,0,none⟩=some (.slice (some ⟨g,0,none⟩) (n+1) c)/\(w'.cell? ⟨g,(m+1)*3,none⟩=some (.bool s1)/\w'.cell? ⟨g,(m+1)*3+1,none⟩=some (.slice B1 m1 d1)/\w'.cell? ⟨g,(m+1)*3+2,none⟩=some (.slice B2 m2 d2))/\(w'.cell? ⟨g,m*3,none⟩=some (.bool s2)/\w'.cell? ⟨g,m*3+1,none⟩=some (.slice B3 m3 d3)/\w'.cell? ⟨g,m*3+2,none⟩=some (.slice B4 m4 d4))/\w'.cell? ⟨w.heap.size,0,none⟩=some (.bool s0)/\w'.cell? ⟨w.heap.size,1,none⟩=some (.slice A0 n0 c0)/\w'.cell? ⟨w.heap.size,2,none⟩=some (.slice A9 n9 c9):=fun w' h=>by
    have e:∀b o v,wr.cell? ⟨b,o,none⟩=some v->w'.cell? ⟨b,o,none⟩=some v:=fun b o v hv=>(h.cell (zf hv)).trans hv
    have hx:=zk hbxr
    exact⟨e _ _ _ (zE hbgr).1,⟨e _ _ _ e0,e _ _ _ e1,e _ _ _ e2⟩,⟨e _ _ _ e3,e _ _ _ e4,e _ _ _ e5⟩,e _ _ _ hx.1,e _ _ _ hx.2.1,e _ _ _ hx.2.2⟩
   have hdr:Below wr.heap.size wr wr.drew:=(blr _ _).drew
   have HSS:=hide hS
   have HI:=hide (ai hrow (ai hkeep hgr))
   have HQ:=hide (ai (HX.out.2.2.2.2.2.keeps hkeep) (ai hq2 hq1))
   have HF:=hide (ai HF0.out.1 (ai (HF0.out.2 m (by omega)).2.2 (ai (HF0.out.2 (m+1) (by omega)).1 (HF0.out.2 (m+1) (by omega)).2.1)))
   have i1:(m:Int)+1<(n:Int)+1:=by omega
   have i2:(m:Int)+1<=(n:Int):=by omega
   have i3:(m:Int)<(n:Int)+1:=by omega
   have i4:((m:Int)+1).toNat=m+1:=by omega
   have i5:(0:Int)<=(m:Int)+1:=by omega
   have i6:(0:Int)<=(m:Int):=by omega
   have i7:IntKind.i64.wrap (m:Int)=(m:Int):=IntWalk.i64_in _ (by omega)
   have i8:((m:Int)).toNat=m:=by omega
   clear hS hrow hkeep hgr hq1 hq2 hbnr hbgr hbxr e0 e1 e2 e3 e4 e5
   go_upto_region 4 with fail
   refine zv (fun w'=>w'.cell? ⟨bg,0,none⟩=some (.slice (some ⟨g,0,none⟩) (n+1) c)/\(w'.cell? ⟨g,(m+1)*3,none⟩=some (.bool s1)/\w'.cell? ⟨g,(m+1)*3+1,none⟩=some (.slice B1 m1 d1)/\w'.cell? ⟨g,(m+1)*3+2,none⟩=some (.slice B2 m2 d2))/\(w'.cell? ⟨g,m*3,none⟩=some (.bool s2)/\w'.cell? ⟨g,m*3+1,none⟩=some (.slice B3 m3 d3)/\w'.cell? ⟨g,m*3+2,none⟩=some (.slice B4 m4 d4))/\w'.cell? ⟨w.heap.size,0,none⟩=some (.bool s0)/\w'.cell? ⟨w.heap.size,1,none⟩=some (.slice A0 n0 c0)/\w'.cell? ⟨w.heap.size,2,none⟩=some (.slice A9 n9 c9)) [0,1,2,3,4,5,6,7,8,9,10,11,12,13,14,15,16] (by kernel_rfl) (HSS.out _ hdr) (fun hh=>?_)
   refine tt 1 hh 11 ?_
   try simp only[Act.put,ptA,ptB,ptC]
   refine tt 3 hh 13 ?_
   try simp only[Act.put,ptA,ptB,ptC]
   refine tt 8 hh 18 ?_
   try simp only[Act.put,ptA,ptB,ptC]
   refine tt 9 hh 19 ?_
   try simp only[Act.put,ptA,ptB,ptC]
   refine tt 0 hh 10 ?_
   try simp only[Act.put,ptA,ptB,ptC]
   refine tt 2 hh 12 ?_
   try simp only[Act.put,ptA,ptB,ptC]
   refine tt 4 hh 14 ?_
   try simp only[Act.put,ptA,ptB,ptC]
   refine tt 5 hh 15 ?_
   try simp only[Act.put,ptA,ptB,ptC]
   refine tt 6 hh 16 ?_
   try simp only[Act.put,ptA,ptB,ptC]
   refine tt 7 hh 17 ?_
   try simp only[Act.put,ptA,ptB,ptC]
   refine tt 10 hh 20 ?_
   try simp only[Act.put,ptA,ptB,ptC]
   refine tt 11 hh 21 ?_
   try simp only[Act.put,ptA,ptB,ptC]
   refine zb (rs:=[12]) (by kernel_rfl) (by simp) ?_
   refine mem1 ?_
   refine zd rfl (fun K hK=>?_)
   go_simp
   have HP1:=zbj (HQ.out.1.below hdr) (HQ.out.2.1.below hdr)
   have hg1:=za hdr (.cells #[.bool s0,.slice A0 n0 c0,.slice A9 n9 c9,.bool s2,.slice B3 m3 d3,.slice B4 m4 d4] 43)
   have HP:=hide HP1
   clear HP1
   refine hK.out _ _ (HSS.out _ hg1) (fun hh=>?_)
   clear hK K
   try simp only[Act.put,ptA,ptB,ptC]
   refine zb (rs:=[13]) (by kernel_rfl) (by simp) ?_
   refine mem1 ?_
   refine zd rfl (fun K hK=>?_)
   go_simp
   go_at_call 84
   refine(zcS _ _ [l s,gN l (s+1) m] L HP.out hL2 hL1 (zcR (by omega) HF.out.1 HF.out.2.1)).mono ?_
   rintro e w2 ⟨v3,rfl,hr3,hd⟩
   replace hr3:RatV w2 v3 (l s*gN l (s+1) m) L:=by rw[<-prod2];exact hr3
   obtain⟨s3,B5,m5,d5,B6,m6,d6,rfl⟩:=hr3.shape
   have H3:=hide hr3
   clear hr3
   have hg2:Below wr.heap.size wr w2:=hg1.trans (hd.mono hg1.size)
   clear hd
   go_wp2_with fail
   refine hK.out _ _ (HSS.out _ hg2) (fun hh=>?_)
   clear hK K
   try simp only[Act.put,ptA,ptB,ptC]
   refine zb (rs:=[14]) (by kernel_rfl) (by simp) ?_
   refine mem1 ?_
   refine zd rfl (fun K hK=>?_)
   go_simp
   have HP23:=zbj (HQ.out.2.2.below hg2) (H3.out)
   have hg3:=za hg2 (.cells #[.bool s1,.slice B1 m1 d1,.slice B2 m2 d2,.bool s3,.slice B5 m5 d5,.slice B6 m6 d6] 43)
   have HP2:=hide HP23
   clear HP23
   refine hK.out _ _ (HSS.out _ hg3) (fun hh=>?_)
   clear hK K
   try simp only[Act.put,ptA,ptB,ptC]
   refine zb (rs:=[15]) (by kernel_rfl) (by simp) ?_
   refine mem1 ?_
   refine zd rfl (fun K hK=>?_)
   go_simp
   go_at_call 83
   refine(zmn _ _ [gN l s (m+1),l s*gN l (s+1) m] L HP2.out hL2 (zlI HF.out.2.2.1 (by rw[<-zay];exact HF.out.2.2.2))).mono ?_
   rintro e w4 ⟨v5,rfl,hr5,hd⟩
   replace hr5:RatV w4 v5 (gN l (s+1) (m+1)) L:=by rw[zay,<-sum2];exact hr5
   obtain⟨s5,B7,m7,d7,B8,m8,d8,rfl⟩:=hr5.shape
   have H5:=hide hr5
   clear hr5
   have hg4:Below wr.heap.size wr w4:=hg3.trans (hd.mono hg3.size)
   clear hd
   go_wp2_with fail
   refine hK.out _ _ (HSS.out _ hg4) (fun hh=>?_)
   clear hK K
   try simp only[Act.put,ptA,ptB,ptC]
   refine tt 16 hh 26 ?_
   try simp only[Act.put,ptA,ptB,ptC]
   refine zQ (k:=17) (by rfl) (by rfl) (by kernel_rfl) ?_
   simp only[List.drop_succ_cons,List.drop_zero]
   clear hh
   have hrowE:=HI.out.1.below hg4
   obtain⟨s',B1',m1',d1',B2',m2',d2',e0',e1',e2',_⟩:=(hrowE.2 (m+1) (by rw[zaY];omega)).rat
   have f0:=hrowE.frozen ((m+1)*3)
   have f1:=hrowE.frozen ((m+1)*3+1)
   have f2:=hrowE.frozen ((m+1)*3+2)
   have HG:=hide (ai hrowE hg4)
   clear hrowE
   go_wp2
   case roundEnd=>
    obtain⟨t1,t2,t3⟩:=HG.out.1.set3 (i:=m+1) (by rw[zaY];omega) H5.out
    rw[zm6 l s n m (by omega)] at t1
    exact⟨⟨m+1,by omega,by go_num,t1,(HI.out.2.1.trans (Below.keeps HG.out.2)).trans t2,zN (zc1 HI.out.2.2 HG.out.2) t3⟩,by simp[intOf];omega⟩
  ·obtain rfl:m=n:=by omega
   have HI:=hide (ai hrow (ai hkeep hgr))
   have i2:¬(m:Int)+1<=(m:Int):=by omega
   clear hrow hkeep hgr hbnr hbgr
   go_wp2
   go_end0
   refine⟨_,rfl,rfl,by rw[<-znK];exact HI.out.1,(Below.keeps HX.out.1).trans HI.out.2.1,zdC HX.out.1 HI.out.2.2⟩
end Go.Proofs.YtpoahodnakhmiaaGreat
