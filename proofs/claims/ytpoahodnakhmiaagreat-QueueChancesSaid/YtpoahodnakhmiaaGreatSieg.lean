import Derived.Test.YtpoahodnakhmiaaGreatSolved
import Derived.Test.YtpoahodnakhmiaaGreatCalc2
namespace Go.Proofs.YtpoahodnakhmiaaGreat
set_option linter.unusedVariables false
set_option linter.unusedSimpArgs false
open Go.RowKit
def zfB (rows:List (List Rat)) (bs:List Rat):List Rat:=
 divL ((solS rows).1.2.getD (denyK (solS rows).1.2 bs rows.length (solS rows).2.length) []) (dotL ((solS rows).1.2.getD (denyK (solS rows).1.2 bs rows.length (solS rows).2.length) []) bs)
def denied (rows:List (List Rat)) (bs:List Rat):Prop:=denyK (solS rows).1.2 bs rows.length (solS rows).2.length<rows.length
theorem za1 (L:Nat):FitQ L 0:=by
 have h:(0:Int)<4294967296^L:=Int.pow_pos (by omega)
 exact⟨h,by have:((0:Rat).den:Int)=1:=rfl;omega⟩
theorem zbm (qs:List Rat) (q:Rat) (i:Nat):(divL qs q).getD i 0=qs.getD i 0 / q:=by
 by_cases h:i<qs.length
 ·exact zez _ _ _ h
 ·simp[List.getD,divL,h];grind
theorem zbW (qs:List Rat) (q:Rat) (fs:List Rat) (i:Nat) (hl:fs.length<=qs.length):(takeL qs q fs).getD i 0=qs.getD i 0-q*fs.getD i 0:=by
 by_cases h:i<qs.length
 ·exact zdK _ _ _ _ h
 ·simp[List.getD,takeL,h,show ¬i<fs.length by omega];grind
theorem zhw (ps:List Rat) (q:Rat) (bs:List Rat):∀k,dotN (divL ps q) bs k=dotN ps bs k / q
 | 0=>by simp only[dotN];grind
 | k+1=>by rw[dotN,dotN,zhw,zbm];grind
theorem zgc (ps:List Rat) (q:Rat) (fs bs:List Rat) (hl:fs.length<=ps.length):∀k,dotN (takeL ps q fs) bs k=dotN ps bs k-q*dotN fs bs k
 | 0=>by simp only[dotN];grind
 | k+1=>by rw[dotN,dotN,dotN,zgc _ _ _ _ hl,zbW _ _ _ _ hl];grind
theorem zhx (ps:List Rat) (q:Rat) (bs:List Rat):dotL (divL ps q) bs=dotL ps bs / q:=by
 unfold dotL;rw[zak,zhw]
theorem zkT (ps:List Rat) (q:Rat) (fs bs:List Rat) (hl:fs.length=ps.length):dotL (takeL ps q fs) bs=dotL ps bs-q*dotL fs bs:=by
 unfold dotL;rw[zaR,zgc _ _ _ _ (by omega),hl]
def ex (bs:List Rat) (S:St) (i j:Nat):Rat:=
 if j%3=0 then ent S.1 i (j / 3) else if j%3=1 then ent S.2 i (j / 3) else dotL (S.2.getD i []) bs
theorem zO (bs:List Rat) (S:St) (i j:Nat):ex bs S i (3*j)=ent S.1 i j:=by
 unfold ex;rw[if_pos (by omega),show 3*j / 3=j by omega]
theorem ex_done (bs:List Rat) (S:St) (i j:Nat):ex bs S i (3*j+1)=ent S.2 i j:=by
 unfold ex;rw[if_neg (by omega),if_pos (by omega),show (3*j+1) / 3=j by omega]
theorem zbX (bs:List Rat) (S:St) (i:Nat):ex bs S i 2=dotL (S.2.getD i []) bs:=by
 unfold ex;rw[if_neg (by omega),if_neg (by omega)]
theorem zmo (bs:List Rat) (S S':St) (i i' j:Nat) (h1:S'.1.getD i []=S.1.getD i' []) (h2:S'.2.getD i []=S.2.getD i' []):ex bs S' i j=ex bs S i' j:=by
 unfold ex ent;rw[h1,h2]
theorem znh (bs:List Rat) (a k:Nat) (S:St) (hl:S.2.length=S.1.length) (i j:Nat) (hi:i<S.1.length):ex bs (swapS a k S) i j=ex bs S (sw a k i) j:=
 zmo _ _ _ _ _ _ (by unfold swapS;exact zI _ _ _ _ _ hi) (by unfold swapS;exact zI _ _ _ _ _ (by omega))
theorem zkU (bs:List Rat) (a:Nat) (r d:List Rat) (S:St) (hl:S.2.length=S.1.length) (ha:a<S.1.length) (i j:Nat) (hn:i≠a):ex bs (S.1.set a r,S.2.set a d) i j=ex bs S i j:=
 zmo _ _ _ _ _ _ (by show (S.1.set a r).getD i []=_;rw[zP _ _ _ _ _ ha,if_neg (by omega)]) (by show (S.2.set a d).getD i []=_;rw[zP _ _ _ _ _ (by omega),if_neg (by omega)])
theorem znW (bs:List Rat) (a col:Nat) (S:St) (hl:S.2.length=S.1.length) (ha:a<S.1.length) (i j:Nat):ex bs (divS a col S) i j=if i=a then ex bs S a j / ent S.1 a col else ex bs S i j:=by
 by_cases e:i=a
 ·subst e
  rw[if_pos rfl]
  have h1:(divS i col S).1.getD i []=divL (S.1.getD i []) (ent S.1 i col):=by unfold divS;rw[zP _ _ _ _ _ ha,if_pos rfl]
  have h2:(divS i col S).2.getD i []=divL (S.2.getD i []) (ent S.1 i col):=by unfold divS;rw[zP _ _ _ _ _ (by omega),if_pos rfl]
  unfold ex
  split
  ·unfold ent;rw[h1,zbm];rfl
  ·split
   ·unfold ent;rw[h2,zbm];rfl
   ·rw[h2,zhx]
 ·rw[if_neg e]
  unfold divS
  exact zkU _ _ _ _ _ hl ha _ _ e
theorem zni (bs:List Rat) (S S':St) (i a j:Nat) (c:Rat) (h1:S'.1.getD i []=takeL (S.1.getD i []) c (S.1.getD a [])) (h2:S'.2.getD i []=takeL (S.2.getD i []) c (S.2.getD a []))
  (l1:(S.1.getD a []).length=(S.1.getD i []).length) (l2:(S.2.getD a []).length=(S.2.getD i []).length):ex bs S' i j=ex bs S i j-c*ex bs S a j:=by
 unfold ex ent
 rw[h1,h2]
 split
 ·rw[zbW _ _ _ _ (by omega)]
 ·split
  ·rw[zbW _ _ _ _ (by omega)]
  ·rw[zkT _ _ _ _ (by omega)]
theorem zl2 (bs:List Rat) (wd a col k:Nat) (S:St) (hr:Rect wd S) (ha:a<S.1.length) (hk:k<S.1.length) (i j:Nat):
  ex bs (clearS a col k S) i j=if i=k/\i≠a then ex bs S i j-ent S.1 i col*ex bs S a j else ex bs S i j:=by
 have hl:=hr.len
 unfold clearS
 by_cases e:k=a
 ·rw[if_pos (Or.inl e),if_neg (by omega)]
 ·by_cases e0:ent S.1 k col=0
  ·rw[if_pos (Or.inr e0)]
   by_cases ei:i=k
   ·subst ei;rw[if_pos ⟨rfl,e⟩,e0];grind
   ·rw[if_neg (fun h=>ei h.1)]
  ·rw[if_neg (fun h=>h.elim e e0)]
   by_cases ei:i=k
   ·subst ei
    rw[if_pos ⟨rfl,e⟩]
    have h1:((S.1.set i (takeL (S.1.getD i []) (ent S.1 i col) (S.1.getD a [])),S.2.set i (takeL (S.2.getD i []) (ent S.1 i col) (S.2.getD a []))):St).1.getD i []=takeL (S.1.getD i []) (ent S.1 i col) (S.1.getD a []):=by
     show (S.1.set i _).getD i []=_;rw[zP _ _ _ _ _ hk,if_pos rfl]
    have h2:((S.1.set i (takeL (S.1.getD i []) (ent S.1 i col) (S.1.getD a [])),S.2.set i (takeL (S.2.getD i []) (ent S.1 i col) (S.2.getD a []))):St).2.getD i []=takeL (S.2.getD i []) (ent S.1 i col) (S.2.getD a []):=by
     show (S.2.set i _).getD i []=_;rw[zP _ _ _ _ _ (by omega),if_pos rfl]
    have l1:=hr.row i hk
    have l2:=hr.row a ha
    have l3:=hr.done i hk
    have l4:=hr.done a ha
    exact zni bs S _ i a j _ h1 h2 (by omega) (by omega)
   ·rw[if_neg (fun h=>ei h.1)]
    exact zkU _ _ _ _ _ hl hk _ _ ei
theorem zkV (bs:List Rat) (wd a col:Nat) (S:St) (hr:Rect wd S) (ha:a<S.1.length):∀(k:Nat),k<=S.1.length->∀i j,
  ex bs (clearN a col k S) i j=if i<k/\i≠a then ex bs S i j-ent S.1 i col*ex bs S a j else ex bs S i j:=by
 intro k
 induction k with
 | zero=>intro _ i j;rw[clearN,if_neg (by omega)]
 | succ k ih=>
  intro hk i j
  have ih:=ih (by omega)
  have hlen:=clearN_length a col k S
  rw[clearN,zl2 bs wd a col k _ (zbc k hr (by omega)) (by omega) (by omega)]
  by_cases e:i=k/\i≠a
  ·rw[if_pos e,if_pos ⟨by omega,e.2⟩,ih,if_neg (by omega),<-zO bs,ih,if_neg (by omega),zO,ih,if_neg (by omega)]
  ·rw[if_neg e,ih]
   by_cases e2:i<k/\i≠a
   ·rw[if_pos e2,if_pos ⟨by omega,e2.2⟩]
   ·rw[if_neg e2,if_neg (by omega)]
def VB (n:Nat) (f:Nat->Rat):Prop:=∃m:Nat,0<m/\m<2^n/\∀j,∃z:Int,f j*(m:Int)=z/\z.natAbs<2^n
theorem VB.more {n n':Nat} {f:Nat->Rat} (h:VB n f) (hn:n<=n'):VB n' f:=by
 obtain⟨m,h0,h1,h2⟩:=h
 have:=Nat.pow_le_pow_right (n:=2) (by omega) hn
 refine⟨m,h0,by omega,fun j=>?_⟩
 obtain⟨z,a,b⟩:=h2 j
 exact⟨z,a,by omega⟩
theorem castZ {z:Int} (h:z≠0):(z:Rat)≠0:=by exact_mod_cast h
theorem VB.div {n:Nat} {f:Nat->Rat} (h:VB n f) (c:Nat) (hc:f c≠0):VB n (fun j=>f j / f c):=by
 obtain⟨m,h0,h1,h2⟩:=h
 obtain⟨z,a,b⟩:=h2 c
 have hm:=castZ (z:=(m:Int)) (by omega)
 have hz:z≠0:=by
  intro e;subst e
  have:f c*(m:Int)=0:=by rw[a];rfl
  rcases Rat.mul_eq_zero.1 this with h|h
  ·exact hc h
  ·exact hm h
 have hz2:=castZ hz
 refine⟨z.natAbs,by omega,b,fun j=>?_⟩
 obtain⟨y,a2,b2⟩:=h2 j
 by_cases hp:0<z
 ·refine⟨y,?_,b2⟩
  rw[Int.natAbs_of_nonneg (by omega)]
  grind
 ·refine⟨-y,?_,by omega⟩
  rw[show (z.natAbs:Int)=-z by omega]
  have e1:((-z:Int):Rat)=-(z:Rat):=by simp
  have e2:((-y:Int):Rat)=-(y:Rat):=by simp
  rw[e1,e2]
  grind
theorem VB.take {n:Nat} {f g:Nat->Rat} (hf:VB n f) (hg:VB n g) (c:Nat):VB (2*n+1) (fun j=>f j-f c*g j):=by
 obtain⟨m,h0,h1,h2⟩:=hf
 obtain⟨p,k0,k1,k2⟩:=hg
 obtain⟨zc,ac,bc⟩:=h2 c
 have e:2^(2*n+1)=2^n*2^n*2:=by rw[Nat.pow_succ,<-Nat.pow_add];congr 2;omega
 have hmp:m*p<2^n*2^n:=Nat.mul_lt_mul'' h1 k1
 refine⟨m*p,Nat.mul_pos h0 k0,by omega,fun j=>?_⟩
 obtain⟨z,a,b⟩:=h2 j
 obtain⟨y,a2,b2⟩:=k2 j
 refine⟨z*p-zc*y,?_,?_⟩
 ·have e1:((z*p-zc*y:Int):Rat)=(z:Rat)*((p:Int):Rat)-(zc:Rat)*(y:Rat):=by simp
  have e2:(((m*p:Nat):Int):Rat)=((m:Int):Rat)*((p:Int):Rat):=by simp
  rw[e1,e2]
  grind
 ·have t:=Int.natAbs_sub_le (z*p) (zc*y)
  rw[Int.natAbs_mul,Int.natAbs_mul,Int.natAbs_natCast] at t
  have t1:z.natAbs*p<2^n*2^n:=Nat.mul_lt_mul'' b k1
  have t2:zc.natAbs*y.natAbs<2^n*2^n:=Nat.mul_lt_mul'' bc b2
  omega
theorem VB.fit {n L:Nat} {f:Nat->Rat} (h:VB n f) (hL:n<=32*L) (j:Nat):FitQ L (f j):=by
 obtain⟨m,h0,h1,h2⟩:=h
 obtain⟨z,a,b⟩:=h2 j
 have hm:=castZ (z:=(m:Int)) (by omega)
 have e:f j=Rat.divInt z m:=by
  rw[Rat.divInt_eq_div]
  grind
 have h3:(4294967296:Int)^L=2^(32*L):=by rw[Int.pow_mul];rfl
 have h4:=Nat.pow_le_pow_right (n:=2) (by omega) hL
 have h5:((2:Int)^(32*L))=((2^(32*L):Nat):Int):=by simp
 rw[e]
 exact zaG (by omega) (by rw[h3,h5];omega) (by rw[h3,h5];omega)
abbrev pivK (col:Nat) (T:St×List Nat):Nat:=findK T.1.1 col T.1.1.length T.2.length
theorem zaM {wd col:Nat} {T:St×List Nat} (hr:Rect wd T.1) (ho:T.2.length<=T.1.1.length) (hp:pivK col T≠T.1.1.length):
  pivK col T<T.1.1.length/\T.2.length<=pivK col T/\ent T.1.1 (pivK col T) col≠0:=by
 obtain⟨h1,h2⟩:=zbA T.1.1 col T.1.1.length T.2.length ho
 have h3:pivK col T<T.1.1.length:=by unfold pivK at hp ⊢;omega
 exact⟨h3,h1,zls _ _ _ _ (by omega) h3⟩
theorem zfC (a p:Nat):sw a p a=p:=by unfold sw;split <;> simp_all
theorem zl3 {a p i:Nat} (h1:i≠a) (h2:i≠p):sw a p i=i:=by unfold sw;rw[if_neg h2,if_neg h1]
theorem zmp (a p i:Nat):sw a p (sw a p i)=i:=by unfold sw;repeat' split
                                                all_goals omega
theorem zhy {a p i:Nat} (h:a<=p) (hi:i<a):sw a p i=i:=zl3 (by omega) (by omega)
theorem ziL {a p i:Nat} (h:a<=p) (hi:a<=i):a<=sw a p i:=by unfold sw;split <;> (try split) <;> omega
theorem zb8 (bs:List Rat) {wd col:Nat} {T:St×List Nat} (hr:Rect wd T.1) (ho:T.2.length<=T.1.1.length) (hp:pivK col T≠T.1.1.length) (k:Nat) (hk:k<=T.1.1.length) (i j:Nat) (hi:i<T.1.1.length):
  ex bs (clearN T.2.length col k (divS T.2.length col (swapS T.2.length (pivK col T) T.1))) i j =
   if i=T.2.length then ex bs T.1 (pivK col T) j / ent T.1.1 (pivK col T) col
   else if i<k then ex bs T.1 (sw T.2.length (pivK col T) i) j-ent T.1.1 (sw T.2.length (pivK col T) i) col*(ex bs T.1 (pivK col T) j / ent T.1.1 (pivK col T) col)
   else ex bs T.1 (sw T.2.length (pivK col T) i) j:=by
 obtain⟨h1,h2,h3⟩:=zaM hr ho hp
 have ha:T.2.length<T.1.1.length:=by omega
 have r1:=zbM hr ha h1
 have l1:=zX T.2.length (pivK col T) T.1
 have l2:=zaJ T.2.length col (swapS T.2.length (pivK col T) T.1)
 have r2:=zb3 (a:=T.2.length) (col:=col) r1 (by omega)
 have e1:∀i j,i<T.1.1.length->ex bs (swapS T.2.length (pivK col T) T.1) i j=ex bs T.1 (sw T.2.length (pivK col T) i) j:=fun i j h=>znh bs _ _ _ hr.len i j h
 have e2:ent (swapS T.2.length (pivK col T) T.1).1 T.2.length col=ent T.1.1 (pivK col T) col:=by
  rw[<-zO bs,e1 _ _ ha,zfC,zO]
 have e3:∀i j,i<T.1.1.length->ex bs (divS T.2.length col (swapS T.2.length (pivK col T) T.1)) i j=if i=T.2.length then ex bs T.1 (pivK col T) j / ent T.1.1 (pivK col T) col else ex bs T.1 (sw T.2.length (pivK col T) i) j:=by
  intro i j hi
  rw[znW bs _ _ _ r1.len (by omega),e2,e1 _ _ ha,zfC]
  by_cases e:i=T.2.length
  ·rw[if_pos e,if_pos e]
  ·rw[if_neg e,if_neg e,e1 _ _ hi]
 rw[zkV bs wd _ _ _ r2 (by omega) k (by omega),e3 _ _ ha,if_pos rfl,e3 _ _ hi]
 have e4:=e3 i (3*col) hi
 rw[zO,zO,zO] at e4
 rw[e4]
 by_cases e:i=T.2.length
 ·rw[if_neg (by omega),if_pos e,if_pos e]
 ·rw[if_neg e,if_neg e,if_neg e]
  by_cases ek:i<k
  ·rw[if_pos ⟨ek,e⟩,if_pos ek]
  ·rw[if_neg (by omega),if_neg ek]
def SB (n:Nat) (bs:List Rat) (S:St):Prop:=∀i,i<S.1.length->VB n (ex bs S i)
theorem SB.more {n n':Nat} {bs:List Rat} {S:St} (h:SB n bs S) (hn:n<=n'):SB n' bs S:=fun i hi=>(h i hi).more hn
theorem SB.fit {n L:Nat} {bs:List Rat} {S:St} (h:SB n bs S) (hl:S.2.length=S.1.length) (hL:n<=32*L):FitS L S:=by
 intro i j
 by_cases hi:i<S.1.length
 ·exact⟨by have:=(h i hi).fit hL (3*j);rwa[zO] at this,by have:=(h i hi).fit hL (3*j+1);rwa[ex_done] at this⟩
 ·have e1:ent S.1 i j=0:=by unfold ent;simp[List.getD,hi]
  have e2:ent S.2 i j=0:=by unfold ent;simp[List.getD,show ¬i<S.2.length by omega]
  rw[e1,e2];exact⟨za1 L,za1 L⟩
theorem VB.of {n:Nat} {f g:Nat->Rat} (h:VB n f) (e:∀j,g j=f j):VB n g:=by
 rw[show g=f from funext e];exact h
theorem zfD (bs:List Rat) {wd col n:Nat} {T:St×List Nat} (hr:Rect wd T.1) (ho:T.2.length<=T.1.1.length) (hp:pivK col T≠T.1.1.length) (h:SB n bs T.1) (k:Nat) (hk:k<=T.1.1.length):
  SB (2*n+1) bs (clearN T.2.length col k (divS T.2.length col (swapS T.2.length (pivK col T) T.1))):=by
 obtain⟨h1,h2,h3⟩:=zaM hr ho hp
 intro i hi
 rw[clearN_length,zaJ,zX] at hi
 have hv:=(h _ h1).div (3*col) (by rw[zO];exact h3)
 have hs:=h _ (zaI (i:=T.2.length) (k:=pivK col T) (by omega) h1 hi)
 by_cases e:i=T.2.length
 ·refine(hv.more (by omega)).of fun j=>?_
  rw[zb8 bs hr ho hp k hk i j hi,if_pos e,zO]
 ·by_cases ek:i<k
  ·refine(hs.take hv (3*col)).of fun j=>?_
   rw[zb8 bs hr ho hp k hk i j hi,if_neg e,if_pos ek,zO,zO]
  ·refine(hs.more (by omega)).of fun j=>?_
   rw[zb8 bs hr ho hp k hk i j hi,if_neg e,if_neg ek]
theorem znX (bs:List Rat) {wd col n:Nat} {T:St×List Nat} (hr:Rect wd T.1) (ho:T.2.length<=T.1.1.length) (h:SB n bs T.1):SB (2*n+1) bs (colS col T).1:=by
 by_cases hp:pivK col T=T.1.1.length
 ·rw[zaX hp];exact h.more (by omega)
 ·rw[za5 hp];exact zfD bs hr ho hp h _ (nr _)
def bitsN (n:Nat):Nat->Nat
 | 0=>n
 | k+1=>2*bitsN n k+1
theorem zdA (n:Nat) {k k':Nat} (h:k<=k'):bitsN n k<=bitsN n k':=by
 induction k' with
 | zero=>obtain rfl:k=0:=by omega
         exact nr _
 | succ m ih=>
  by_cases e:k=m+1
  ·subst e;exact nr _
  ·have:=ih (by omega);rw[bitsN];omega
theorem zfe (bs:List Rat) {wd n:Nat} {S:St} (hr:Rect wd S) (h:SB n bs S):∀k,SB (bitsN n k) bs (echN k S).1
 | 0=>h
 | k+1=>by rw[echN];exact znX bs (zT k hr) (by rw[echN_length];exact echN_out k S) (zfe bs hr h k)
theorem zl4 (bs:List Rat) {wd n L cols:Nat} {S:St} (hr:Rect wd S) (h:SB n bs S) (hL:bitsN n cols<=32*L):zgL L cols S:=by
 intro k hk i hi hne
 have hlen:=echN_length k S
 have hrk:=zT k hr
 have ho:(echN k S).2.length<=(echN k S).1.1.length:=by rw[hlen];exact echN_out k S
 rw[<-hlen] at hi hne
 have hb:=zfD bs (col:=k) hrk ho hne (zfe bs hr h k) i hi
 obtain⟨h1,h2,h3⟩:=zaM hrk ho hne
 have hm:=zdA n (show k+1<=cols by omega)
 rw[<-hlen]
 refine hb.fit ?_ (by have e:bitsN n (k+1)=2*bitsN n k+1:=rfl;omega)
 refine(zbc i (zb3 (zbM hrk (by omega) h1) ?_) ?_).len
 ·rw[zX];omega
 ·rw[zaJ,zX];exact hi
structure Lin (φ:(Nat->Rat)->Rat):Prop where
 div:∀f c,φ (fun j=>f j / c)=φ f / c
 take:∀f g c,φ (fun j=>f j-c*g j)=φ f-c*φ g
theorem znj {φ:(Nat->Rat)->Rat} (hφ:Lin φ) (bs:List Rat) {wd col:Nat} {T:St×List Nat} (hr:Rect wd T.1) (ho:T.2.length<=T.1.1.length):
  (∀i,i<T.1.1.length->φ (ex bs T.1 i)=0)↔(∀i,i<T.1.1.length->φ (ex bs (colS col T).1 i)=0):=by
 by_cases hp:pivK col T=T.1.1.length
 ·rw[zaX hp]
 ·rw[za5 hp]
  obtain⟨h1,h2,h3⟩:=zaM hr ho hp
  have e:∀i,i<T.1.1.length->ex bs (clearN T.2.length col T.1.1.length (divS T.2.length col (swapS T.2.length (pivK col T) T.1))) i =
    if i=T.2.length then (fun j=>ex bs T.1 (pivK col T) j / ent T.1.1 (pivK col T) col)
    else (fun j=>ex bs T.1 (sw T.2.length (pivK col T) i) j-ent T.1.1 (sw T.2.length (pivK col T) i) col*(fun j=>ex bs T.1 (pivK col T) j / ent T.1.1 (pivK col T) col) j):=by
   intro i hi
   funext j
   rw[zb8 bs hr ho hp _ (nr _) i j hi,if_pos hi]
   split <;> rfl
  constructor
  ·intro h i hi
   rw[e i hi]
   have hq:=h _ h1
   split
   ·rw[hφ.div,hq];grind
   ·rw[hφ.take,hφ.div,hq,h _ (zaI (by omega) h1 hi)];grind
  ·intro h
   have ha:=h T.2.length (by omega)
   rw[e _ (by omega),if_pos rfl,hφ.div] at ha
   have hq:φ (ex bs T.1 (pivK col T))=0:=by grind
   intro i hi
   by_cases ei:i=pivK col T
   ·rw[ei];exact hq
   ·have hs:=zaI (i:=T.2.length) (k:=pivK col T) (by omega) h1 hi
    have hx:=h _ hs
    rw[e _ hs,if_neg (by intro e0;have:=zmp T.2.length (pivK col T) i;rw[e0,zfC] at this;omega),zmp,hφ.take,hφ.div,hq] at hx
    grind
theorem zde {φ:(Nat->Rat)->Rat} (hφ:Lin φ) (bs:List Rat) {wd:Nat} {S:St} (hr:Rect wd S):∀k,
  (∀i,i<S.1.length->φ (ex bs S i)=0)↔(∀i,i<S.1.length->φ (ex bs (echN k S).1 i)=0)
 | 0=>Iff.rfl
 | k+1=>by
  have:=znj (col:=k) hφ bs (zT k hr) (by rw[echN_length];exact echN_out k S)
  rw[echN_length] at this
  rw[zde hφ bs hr k,echN,this]
def sumN (f:Nat->Rat):Nat->Rat
 | 0=>0
 | k+1=>sumN f k+f k
theorem zaA {f g:Nat->Rat}:∀n,(∀k,k<n->f k=g k)->sumN f n=sumN g n
 | 0,_=>rfl
 | n+1,h=>by rw[sumN,sumN,zaA n (fun k hk=>h k (by omega)),h n (by omega)]
theorem zbK (f:Nat->Rat) (c:Rat):∀n,sumN (fun k=>f k / c) n=sumN f n / c
 | 0=>by simp only[sumN];grind
 | n+1=>by rw[sumN,sumN,zbK];grind
theorem zaN (f g:Nat->Rat) (c:Rat):∀n,sumN (fun k=>f k-c*g k) n=sumN f n-c*sumN g n
 | 0=>by simp only[sumN];grind
 | n+1=>by rw[sumN,sumN,sumN,zaN];grind
theorem zbn {f:Nat->Rat} (n:Nat) (h:∀k,k<n->f k=0):sumN f n=0:=by
 induction n with
 | zero=>rfl
 | succ n ih=>rw[sumN,ih (fun k hk=>h k (by omega)),h n (by omega)];grind
theorem zaC {f:Nat->Rat} (n c:Nat) (hc:c<n) (h:∀k,k<n->k≠c->f k=0):sumN f n=f c:=by
 induction n with
 | zero=>omega
 | succ n ih=>
  rw[sumN]
  by_cases e:c=n
  ·subst e
   rw[zbn c (fun k hk=>h k (by omega) (by omega))];grind
  ·rw[ih (by omega) (fun k hk=>h k (by omega)),h n (by omega) (by omega)];grind
theorem zhz (ps ss:List Rat):∀k,dotN ps ss k=sumN (fun t=>ps.getD t 0*ss.getD t 0) k
 | 0=>rfl
 | k+1=>by rw[dotN,sumN,zhz]
theorem zdB (n:Nat) (i:Nat) (bs:List Rat) (hi:i<n):dotL ((idRows n).getD i []) bs=bs.getD i 0:=by
 have e:(idRows n).getD i []=(List.replicate n 0).set i 1:=by simp[idRows,List.getD,hi]
 have g:∀k,((List.replicate n (0:Rat)).set i 1).getD k 0=if i=k then 1 else 0:=by
  intro k
  rw[zP _ _ _ _ _ (by simpa using hi)]
  by_cases hk:i=k
  ·rw[if_pos hk,if_pos hk]
  ·rw[if_neg hk,if_neg hk];simp only[List.getD,List.getElem?_replicate];split <;> rfl
 unfold dotL
 rw[e,zhz,List.length_set,List.length_replicate,zaC n i hi]
 ·show _*_=_;rw[g,if_pos rfl];grind
 ·intro k hk hne;show _*_=_;rw[g,if_neg (by omega)];grind
theorem ent_id (n i k:Nat) (hi:i<n):ent (idRows n) i k=if i=k then 1 else 0:=by
 have e:(idRows n).getD i []=(List.replicate n 0).set i 1:=by simp[idRows,List.getD,hi]
 unfold ent
 rw[e,zP _ _ _ _ _ (by simpa using hi)]
 by_cases hk:i=k
 ·rw[if_pos hk,if_pos hk]
 ·rw[if_neg hk,if_neg hk];simp only[List.getD,List.getElem?_replicate];split <;> rfl
theorem zhA (n i:Nat) (hi:i<n):((idRows n).getD i []).length=n:=by simp[idRows,List.getD,hi]
theorem zU {wd:Nat} {rows:List (List Rat)} (h:∀i,i<rows.length->(rows.getD i []).length=wd):Rect wd (rows,idRows rows.length):=
 ⟨zbH _,h,fun i hi=>zhA _ _ hi⟩
theorem zl5 {wd:Nat} {rows:List (List Rat)} (h:∀i,i<rows.length->(rows.getD i []).length=wd) (k i j:Nat) (hi:i<rows.length):
  sumN (fun t=>ent (echN k (rows,idRows rows.length)).1.2 i t*ent rows t j) rows.length=ent (echN k (rows,idRows rows.length)).1.1 i j:=by
 have hφ:Lin (fun f=>sumN (fun t=>f (3*t+1)*ent rows t j) rows.length-f (3*j)):=by
  constructor
  ·intro f c
   show sumN (fun t=>f (3*t+1) / c*ent rows t j) rows.length-f (3*j) / c=_
   rw[show (fun t=>f (3*t+1) / c*ent rows t j)=(fun t=>(f (3*t+1)*ent rows t j) / c) from by funext t;grind,zbK]
   grind
  ·intro f g c
   show sumN (fun t=>(f (3*t+1)-c*g (3*t+1))*ent rows t j) rows.length-(f (3*j)-c*g (3*j))=_
   rw[show (fun t=>(f (3*t+1)-c*g (3*t+1))*ent rows t j)=(fun t=>(f (3*t+1)*ent rows t j)-c*(g (3*t+1)*ent rows t j)) from by funext t;grind,zaN]
   grind
 have h0:∀i,i<rows.length->sumN (fun t=>ex [] (rows,idRows rows.length) i (3*t+1)*ent rows t j) rows.length-ex [] (rows,idRows rows.length) i (3*j)=0:=by
  intro i hi
  rw[zaC rows.length i hi]
  ·rw[ex_done,zO];show ent (idRows rows.length) i i*_-_=_;rw[ent_id _ _ _ hi,if_pos rfl];grind
  ·intro k hk hne;show ex _ _ _ _*_=_;rw[ex_done];show ent (idRows rows.length) i k*_=_;rw[ent_id _ _ _ hi,if_neg (by omega)];grind
 have h1:=(zde hφ [] (zU h) k).1 h0 i hi
 simp only[ex_done,zO] at h1
 grind
structure zju (k:Nat) (T:St×List Nat):Prop where
 lt:∀r,r<T.2.length->T.2.getD r 0<k
 mono:∀r s,r<s->s<T.2.length->T.2.getD r 0<T.2.getD s 0
 one:∀r,r<T.2.length->ent T.1.1 r (T.2.getD r 0)=1
 alone:∀r i,r<T.2.length->i<T.1.1.length->i≠r->ent T.1.1 i (T.2.getD r 0)=0
 left:∀r c,r<T.2.length->c<T.2.getD r 0->ent T.1.1 r c=0
 low:∀i c,T.2.length<=i->i<T.1.1.length->c<k->ent T.1.1 i c=0
theorem zd0 (rows:List (List Rat)) (col:Nat):∀(f k:Nat),rows.length<=k+f->findK rows col f k=rows.length->∀i,k<=i->i<rows.length->ent rows i col=0
 | 0,k,h,e,i,h1,h2=>by omega
 | f+1,k,h,e,i,h1,h2=>by
  by_cases hk:k<rows.length/\ent rows k col=0
  ·rw[findK,if_pos hk] at e
   by_cases ei:i=k
   ·rw[ei];exact hk.2
   ·exact zd0 rows col f (k+1) (by omega) e i (by omega) h2
  ·rw[findK,if_neg hk] at e
   omega
theorem zkW {wd k:Nat} {T:St×List Nat} (hr:Rect wd T.1) (ho:T.2.length<=T.1.1.length) (h:zju k T):zju (k+1) (colS k T):=by
 by_cases hp:pivK k T=T.1.1.length
 ·rw[zaX hp]
  refine⟨fun r hr=>Nat.lt_succ_of_lt (h.lt r hr),h.mono,h.one,h.alone,h.left,fun i c h1 h2 hc=>?_⟩
  by_cases e:c=k
  ·rw[e];exact zd0 _ _ _ _ (by omega) hp i h1 h2
  ·exact h.low i c h1 h2 (by omega)
 ·have hlen:=zca k T
  rw[za5 hp] at hlen ⊢
  obtain⟨h1,h2,h3⟩:=zaM hr ho hp
  have e:∀i j,i<T.1.1.length->ent (clearN T.2.length k T.1.1.length (divS T.2.length k (swapS T.2.length (pivK k T) T.1))).1 i j =
    if i=T.2.length then ent T.1.1 (pivK k T) j / ent T.1.1 (pivK k T) k
    else ent T.1.1 (sw T.2.length (pivK k T) i) j-ent T.1.1 (sw T.2.length (pivK k T) i) k*(ent T.1.1 (pivK k T) j / ent T.1.1 (pivK k T) k):=by
   intro i j hi
   have:=zb8 [] hr ho hp _ (nr _) i (3*j) hi
   rw[if_pos hi,zO,zO,zO] at this
   exact this
  have hc0:∀c,c<k->ent T.1.1 (pivK k T) c=0:=fun c hc=>h.low _ c h2 h1 hc
  have g1:∀r,r<T.2.length->(T.2++[k]).getD r 0=T.2.getD r 0:=fun r hr=>by simp[List.getD,List.getElem?_append_left hr]
  have g2:(T.2++[k]).getD T.2.length 0=k:=by simp[List.getD]
  have hl:(T.2++[k]).length=T.2.length+1:=by simp
  have hdv:ent T.1.1 (pivK k T) k / ent T.1.1 (pivK k T) k=1:=by grind
  refine⟨?_,?_,?_,?_,?_,?_⟩
  ·intro r hr
   replace hr:r<(T.2++[k]).length:=hr
   show (T.2++[k]).getD r 0<k+1
   by_cases er:r=T.2.length
   ·rw[er,g2];omega
   ·rw[g1 r (by omega)];have:=h.lt r (by omega);omega
  ·intro r s hrs hs
   replace hs:s<(T.2++[k]).length:=hs
   show (T.2++[k]).getD r 0<(T.2++[k]).getD s 0
   rw[g1 r (by omega)]
   by_cases es:s=T.2.length
   ·rw[es,g2];exact h.lt r (by omega)
   ·rw[g1 s (by omega)];exact h.mono r s hrs (by omega)
  ·intro r hr
   replace hr:r<(T.2++[k]).length:=hr
   show ent _ r ((T.2++[k]).getD r 0)=1
   rw[e _ _ (by omega)]
   by_cases er:r=T.2.length
   ·rw[if_pos er,er,g2];exact hdv
   ·rw[if_neg er,g1 r (by omega),zhy h2 (by omega),hc0 _ (h.lt r (by omega)),h.one r (by omega)];grind
  ·intro r i hr hi hne
   replace hr:r<(T.2++[k]).length:=hr
   replace hi:i<T.1.1.length:=by have hi2:=hi;rw[hlen] at hi2;exact hi2
   show ent _ i ((T.2++[k]).getD r 0)=0
   rw[e _ _ hi]
   by_cases er:r=T.2.length
   ·rw[if_neg (by omega),er,g2,hdv];grind
   ·rw[g1 r (by omega),hc0 _ (h.lt r (by omega))]
    split
    ·grind
    ·have hs:sw T.2.length (pivK k T) i≠r:=by
      intro e2
      by_cases hlow:i<T.2.length
      ·rw[zhy h2 hlow] at e2;omega
      ·have:=ziL h2 (show T.2.length<=i by omega);omega
     rw[h.alone r _ (by omega) (zaI (by omega) h1 hi) hs];grind
  ·intro r c hr hc
   replace hr:r<(T.2++[k]).length:=hr
   replace hc:c<(T.2++[k]).getD r 0:=hc
   show ent _ r c=0
   rw[e _ _ (by omega)]
   by_cases er:r=T.2.length
   ·rw[er,g2] at hc
    rw[if_pos er,hc0 c hc];grind
   ·rw[g1 r (by omega)] at hc
    have:=h.lt r (by omega)
    rw[if_neg er,zhy h2 (by omega),hc0 c (by omega),h.left r c (by omega) hc];grind
  ·intro i c h4 h5 hc
   replace h4:(T.2++[k]).length<=i:=h4
   replace h5:i<T.1.1.length:=by have hi2:=h5;rw[hlen] at hi2;exact hi2
   show ent _ i c=0
   rw[e _ _ h5,if_neg (by omega)]
   by_cases ec:c=k
   ·rw[ec,hdv];grind
   ·rw[hc0 c (by omega),h.low _ c (ziL h2 (by omega)) (zaI (by omega) h1 h5) (by omega)];grind
theorem echI {wd:Nat} {S:St} (hr:Rect wd S):∀k,zju k (echN k S)
 | 0=>⟨fun r h=>absurd h (Nat.not_lt_zero r),fun r s h1 h=>absurd h (Nat.not_lt_zero s),fun r h=>absurd h (Nat.not_lt_zero r),fun r i h=>absurd h (Nat.not_lt_zero r),fun r c h=>absurd h (Nat.not_lt_zero r),fun i c h1 h2 h=>absurd h (Nat.not_lt_zero c)⟩
 | k+1=>by rw[echN];exact zkW (zT k hr) (by rw[echN_length];exact echN_out k S) (echI hr k)
theorem php:∀(n:Nat) (f:Nat->Nat),(∀i,i<=n->f i<n)->∃i j,i<j/\j<=n/\f i=f j
 | 0,f,h=>absurd (h 0 (nr _)) (Nat.not_lt_zero _)
 | n+1,f,h=>by
  by_cases hv:∃i,i<=n/\f i=f (n+1)
  ·obtain⟨i,hi,e⟩:=hv
   exact⟨i,n+1,by omega,nr _,e⟩
  ·have hne:∀i,i<=n->f i≠f (n+1):=fun i hi e=>hv ⟨i,hi,e⟩
   obtain⟨i,j,h1,h2,h3⟩:=php n (fun i=>if f i<f (n+1) then f i else f i-1) (fun i hi=>by
    have a:=h i (by omega)
    have b:=hne i hi
    have c:=h (n+1) (nr _)
    show (if f i<f (n+1) then f i else f i-1)<n
    split <;> omega)
   have b1:=hne i (by omega)
   have b2:=hne j h2
   refine⟨i,j,h1,by omega,?_⟩
   replace h3:(if f i<f (n+1) then f i else f i-1)=(if f j<f (n+1) then f j else f j-1):=h3
   split at h3 <;> split at h3 <;> omega
def enc (W:Nat):(Nat->Nat)->Nat->Nat
 | _,0=>0
 | f,n+1=>f 0+W*enc W (fun s=>f (s+1)) n
theorem zkX {W:Nat} (hW:0<W):∀(n:Nat) (f:Nat->Nat),(∀s,s<n->f s<W)->enc W f n<W^n
 | 0,f,_=>by simp[enc]
 | n+1,f,h=>by
  have h0:=h 0 (by omega)
  have h1:=zkX hW n (fun s=>f (s+1)) (fun s hs=>h (s+1) (by omega))
  rw[enc,Nat.pow_succ]
  have h2:W*(enc W (fun s=>f (s+1)) n+1)<=W*W^n:=Nat.mul_le_mul_left _ h1
  rw[Nat.mul_add,Nat.mul_one] at h2
  rw[Nat.mul_comm (W^n) W]
  omega
theorem ziM {W:Nat} (hW:0<W):∀(n:Nat) (f g:Nat->Nat),(∀s,s<n->f s<W)->(∀s,s<n->g s<W)->enc W f n=enc W g n->∀s,s<n->f s=g s
 | 0,f,g,_,_,_=>fun s hs=>by omega
 | n+1,f,g,hf,hg,h=>by
  rw[enc,enc] at h
  have f0:=hf 0 (by omega)
  have g0:=hg 0 (by omega)
  have e0:f 0=g 0:=by
   have h1:=congrArg (·%W) h
   simp only[Nat.add_mul_mod_self_left] at h1
   rwa[Nat.mod_eq_of_lt f0,Nat.mod_eq_of_lt g0] at h1
  have e1:enc W (fun s=>f (s+1)) n=enc W (fun s=>g (s+1)) n:=Nat.eq_of_mul_eq_mul_left hW (by omega)
  intro s hs
  cases s with
  | zero=>exact e0
  | succ s=>exact ziM hW n _ _ (fun s hs=>hf (s+1) (by omega)) (fun s hs=>hg (s+1) (by omega)) e1 s (by omega)
theorem ziN {b:Nat} (hb:0<b):∀(n u v:Nat),u<b^n->v<b^n->(∀r,r<n->u / b^r%b=v / b^r%b)->u=v
 | 0,u,v,hu,hv,_=>by simp at hu hv;omega
 | n+1,u,v,hu,hv,h=>by
  have h0:=h 0 (by omega)
  simp only[Nat.pow_zero,Nat.div_one] at h0
  have key:=ziN hb n (u / b) (v / b) (by rw[Nat.div_lt_iff_lt_mul hb,<-Nat.pow_succ];exact hu) (by rw[Nat.div_lt_iff_lt_mul hb,<-Nat.pow_succ];exact hv) (fun r hr=>by
   have:=h (r+1) (by omega)
   rw[Nat.pow_succ,Nat.mul_comm] at this
   rw[Nat.div_div_eq_div_mul,Nat.div_div_eq_div_mul];exact this)
  have e1:=Nat.div_add_mod u b
  have e2:=Nat.div_add_mod v b
  rw[key,h0] at e1
  omega
def sumZ (f:Nat->Int):Nat->Int
 | 0=>0
 | k+1=>sumZ f k+f k
theorem zhB {f:Nat->Int} {B:Nat}:∀k,(∀r,r<k->(f r).natAbs<=B)->(sumZ f k).natAbs<=k*B
 | 0,_=>by simp[sumZ]
 | k+1,h=>by
  have h1:=zhB k (fun r hr=>h r (by omega))
  have h2:=h k (by omega)
  rw[sumZ,Nat.succ_mul]
  have:=Int.natAbs_add_le (sumZ f k) (f k)
  omega
theorem zeK (f g:Nat->Int):∀k,sumZ (fun r=>f r-g r) k=sumZ f k-sumZ g k
 | 0=>rfl
 | k+1=>by simp only[sumZ];rw[zeK f g k];omega
theorem zfE {f g:Nat->Int}:∀k,(∀r,r<k->f r=g r)->sumZ f k=sumZ g k
 | 0,_=>rfl
 | k+1,h=>by rw[sumZ,sumZ,zfE k (fun r hr=>h r (by omega)),h k (by omega)]
theorem zl6 {f:Nat->Int} (n c:Nat) (hc:c<n) (h:∀k,k<n->k≠c->f k=0):sumZ f n=f c:=by
 induction n with
 | zero=>omega
 | succ n ih=>
  rw[sumZ]
  by_cases e:c=n
  ·subst e
   have:sumZ f c=0:=by
    have key:∀m,m<=c->sumZ f m=0:=by
     intro m
     induction m with
     | zero=>intro _;rfl
     | succ m ih2=>intro hm;rw[sumZ,ih2 (by omega),h m (by omega) (by omega)];rfl
    exact key c (nr _)
   omega
  ·rw[ih (by omega) (fun k hk hne=>h k (by omega) hne),h n (by omega) (fun e2=>e e2.symm)];omega
theorem znY (n M X:Nat) (C:Nat->Nat->Int) (hC:∀r s,r<=n->s<n->(C r s).natAbs<=M) (hX:(2*((n+1)*(X*M))+1)^n<(X+1)^(n+1)):
  ∃y:Nat->Int,(∃r,r<=n/\y r≠0)/\(∀r,(y r).natAbs<=X)/\∀s,s<n->sumZ (fun r=>y r*C r s) (n+1)=0:=by
 obtain⟨O,hO⟩:∃O,O=(n+1)*(X*M):=⟨_,rfl⟩
 rw[<-hO] at hX
 obtain⟨Y,hY⟩:∃Y:Nat->Nat->Int,∀u r,Y u r=((u / (X+1)^r%(X+1):Nat):Int):=⟨_,fun _ _=>rfl⟩
 have hY0:∀u r,0<=Y u r/\Y u r<=X:=fun u r=>by
  rw[hY]
  have:=Nat.mod_lt (u / (X+1)^r) (show X+1 > 0 by omega)
  omega
 obtain⟨V,hV⟩:∃V:Nat->Nat->Int,∀u s,V u s=sumZ (fun r=>Y u r*C r s) (n+1):=⟨_,fun _ _=>rfl⟩
 have hVb:∀u s,s<n->(V u s).natAbs<=O:=fun u s hs=>by
  rw[hV,hO]
  refine zhB _ fun r hr=>?_
  rw[Int.natAbs_mul]
  have h1:=hY0 u r
  exact Nat.mul_le_mul (by omega) (hC r s (by omega) hs)
 have hW:0<2*O+1:=by omega
 have hlt:∀u s,s<n->(V u s+O).toNat<2*O+1:=fun u s hs=>by have:=hVb u s hs;omega
 obtain⟨i,j,hij,hj,he⟩:=php ((2*O+1)^n) (fun u=>enc (2*O+1) (fun s=>(V u s+O).toNat) n) (fun u _=>zkX hW n _ (hlt u))
 have hs:=ziM hW n _ _ (hlt i) (hlt j) he
 refine⟨fun r=>Y i r-Y j r,?_,fun r=>?_,fun s hsn=>?_⟩
 ·refine Classical.byContradiction fun hno=>?_
  have hall:∀r,r<n+1->i / (X+1)^r%(X+1)=j / (X+1)^r%(X+1):=by
   intro r hr
   refine Classical.byContradiction fun hne=>hno ⟨r,by omega,?_⟩
   show Y i r-Y j r≠0
   rw[hY,hY];omega
  have:=ziN (show 0<X+1 by omega) (n+1) i j (by omega) (by omega) hall
  omega
 ·show (Y i r-Y j r).natAbs<=X
  have a:=hY0 i r
  have b:=hY0 j r
  omega
 ·have h1:=hs s hsn
  have a:=hVb i s hsn
  have b:=hVb j s hsn
  have h2:V i s=V j s:=by omega
  rw[hV,hV] at h2
  have e:sumZ (fun r=>(Y i r-Y j r)*C r s) (n+1)=sumZ (fun r=>Y i r*C r s-Y j r*C r s) (n+1):=zfE _ fun r _=>by rw[Int.sub_mul]
  show sumZ (fun r=>(Y i r-Y j r)*C r s) (n+1)=0
  rw[e,zeK,h2];omega
theorem zii (n M:Nat) (hM:0<M):(2*((n+1)*((2*((n+1)*M))^n*M))+1)^n<((2*((n+1)*M))^n+1)^(n+1):=by
 obtain⟨Q,hQ⟩:∃Q,Q=2*((n+1)*M):=⟨_,rfl⟩
 have hQ1:1<=Q:=by
  have:=Nat.mul_pos (show 0<n+1 by omega) hM
  omega
 rw[<-hQ]
 have e:2*((n+1)*(Q^n*M))=Q*Q^n:=by
  rw[hQ]
  generalize (2*((n+1)*M))^n=P
  rw[Nat.mul_comm P M,<-Nat.mul_assoc (n+1) M P,<-Nat.mul_assoc 2]
 rw[e]
 have h1:Q*Q^n+1<=Q*(Q^n+1):=by rw[Nat.mul_add];omega
 have h2:=Nat.pow_le_pow_left h1 n
 rw[Nat.mul_pow] at h2
 have h3:Q^n*(Q^n+1)^n<(Q^n+1)*(Q^n+1)^n:=Nat.mul_lt_mul_of_pos_right (by omega) (Nat.pow_pos (by omega))
 rw[Nat.pow_succ (Q^n+1) n,Nat.mul_comm ((Q^n+1)^n)]
 omega
theorem zcG (f g:Nat->Rat):∀k,sumN (fun r=>f r+g r) k=sumN f k+sumN g k
 | 0=>by simp only[sumN];grind
 | k+1=>by simp only[sumN];rw[zcG f g k];grind
theorem zcH (f:Nat->Rat) (c:Rat):∀k,sumN (fun r=>c*f r) k=c*sumN f k
 | 0=>by simp only[sumN];grind
 | k+1=>by simp only[sumN];rw[zcH f c k];grind
end Go.Proofs.YtpoahodnakhmiaaGreat
