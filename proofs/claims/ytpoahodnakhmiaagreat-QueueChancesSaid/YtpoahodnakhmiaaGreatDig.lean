import Derived.Test.YtpoahodnakhmiaaGreatChecked
import Derived.WalkKit
import Derived.Deep.Draws
import Derived.Laws.CopyOwn
namespace Go.Proofs.YtpoahodnakhmiaaGreat
theorem ai {a b:Prop} (x:a) (y:b):a/\b:=And.intro x y
theorem nr (n:Nat):n<=n:=Nat.le_refl n
set_option linter.unusedVariables false
set_option linter.unusedSimpArgs false
def val (B:Int):List Int->Int
 | []=>0
 | d::ds=>d+B*val B ds
def Dig (B:Int) (xs:List Int):Prop:=∀d∈xs,0<=d/\d<B
def Norm (xs:List Int):Prop:=xs.getLast?≠some 0
theorem zag (B:Int) (xs ys:List Int):val B (xs++ys)=val B xs+B^xs.length*val B ys:=by
 induction xs with
 | nil=>simp[val]
 | cons d ds ih=>
  simp only[List.cons_append,val,ih,List.length_cons]
  grind
theorem zF (B:Int) (xs:List Int) (d:Int):val B (xs++[d])=val B xs+B^xs.length*d:=by
 rw[zag];simp[val]
theorem zfQ (xs:List Int) (k:Nat) (h:k<xs.length):xs.take (k+1)=xs.take k++[xs.getD k 0]:=by
 rw[List.take_succ_eq_append_getElem h];simp[List.getD,h]
theorem zo (B:Int) (xs:List Int) (k:Nat) (h:k<xs.length):val B (xs.take (k+1))=val B (xs.take k)+B^k*xs.getD k 0:=by
 rw[zfQ xs k h,zF,List.length_take,Nat.min_eq_left (by omega)]
theorem Dig.nil (B:Int):Dig B []:=by intro d h;cases h
theorem Dig.take {B:Int} {xs:List Int} (h:Dig B xs) (k:Nat):Dig B (xs.take k):=fun d hd=>h d (List.mem_of_mem_take hd)
theorem Dig.drop {B:Int} {xs:List Int} (h:Dig B xs) (k:Nat):Dig B (xs.drop k):=fun d hd=>h d (List.mem_of_mem_drop hd)
theorem Dig.append {B:Int} {xs ys:List Int} (h:Dig B xs) (g:Dig B ys):Dig B (xs++ys):=fun d hd=>(List.mem_append.1 hd).elim (h d) (g d)
theorem Dig.snoc {B:Int} {xs:List Int} (h:Dig B xs) {d:Int} (h0:0<=d) (h1:d<B):Dig B (xs++[d]):=
 h.append fun e he=>by simp at he;subst he;exact⟨h0,h1⟩
theorem Dig.at_ {B:Int} {xs:List Int} (h:Dig B xs) {k:Nat} (hk:k<xs.length):0<=xs.getD k 0/\xs.getD k 0<B:=by
 rw[List.getD,List.getElem?_eq_getElem hk];exact h _ (List.getElem_mem hk)
theorem Dig.cons {B d:Int} {xs:List Int}:Dig B (d::xs)↔(0<=d/\d<B)/\Dig B xs:=by
 simp[Dig]
theorem Dig.replicate (B:Int) (hB:0<B) (n:Nat):Dig B (List.replicate n 0):=by
 intro d hd
 rw[List.mem_replicate] at hd
 omega
theorem zC {B:Int} (hB:0<=B) {xs:List Int} (h:Dig B xs):0<=val B xs:=by
 induction xs with
 | nil=>simp[val]
 | cons d ds ih=>
  rw[Dig.cons] at h
  have:=Int.mul_nonneg hB (ih h.2)
  simp only[val];omega
theorem zbJ {B:Int} (hB:0<B) (n:Nat):0<B^n:=Int.pow_pos hB
theorem zam {B:Int} (hB:0<B) {xs:List Int} (h:Dig B xs):val B xs<B^xs.length:=by
 induction xs with
 | nil=>simp[val]
 | cons d ds ih=>
  rw[Dig.cons] at h
  have h1:val B ds+1<=B^ds.length:=ih h.2
  have h2:=Int.mul_le_mul_of_nonneg_left h1 (Int.le_of_lt hB)
  have h3:B^(ds.length+1)=B*B^ds.length:=by grind
  simp only[val,List.length_cons]
  rw[h3]
  grind
theorem zcj (B:Int) (n:Nat):val B (List.replicate n 0)=0:=by
 induction n with
 | zero=>rfl
 | succ n ih=>simp[List.replicate_succ,val,ih]
theorem zbq (B:Int) (xs:List Int) (n:Nat) (h:∀j,n<=j->xs.getD j 0=0):val B (xs.take n)=val B xs:=by
 have hz:val B (xs.drop n)=0:=by
  have:∀ys:List Int,(∀j,ys.getD j 0=0)->val B ys=0:=by
   intro ys
   induction ys with
   | nil=>intro _;rfl
   | cons d ds ih=>
    intro hy
    have h0:=hy 0
    have:=ih fun j=>by have:=hy (j+1);simpa using this
    simp at h0
    simp[val,h0,this]
  refine this _ fun j=>?_
  have:=h (n+j) (by omega)
  simpa[List.getD,List.getElem?_drop] using this
 have:=zag B (xs.take n) (xs.drop n)
 rw[List.take_append_drop,hz] at this
 simpa using this.symm
theorem Norm.nil:Norm []:=by simp[Norm]
theorem Norm.cons {d:Int} {ds:List Int}:Norm (d::ds)↔(ds=[]->d≠0)/\Norm ds:=by
 unfold Norm
 cases ds with
 | nil=>simp
 | cons e es=>simp[List.getLast?_cons]
theorem Norm.last {xs:List Int} (h:Norm xs) (hx:0<xs.length):xs.getD (xs.length-1) 0≠0:=by
 unfold Norm at h
 intro hz
 apply h
 rw[List.getLast?_eq_getElem?,List.getElem?_eq_getElem (by omega)]
 rw[List.getD,List.getElem?_eq_getElem (by omega)] at hz
 simpa using hz
theorem Norm.of_last {xs:List Int} (h:0<xs.length->xs.getD (xs.length-1) 0≠0):Norm xs:=by
 unfold Norm
 intro hz
 rw[List.getLast?_eq_getElem?] at hz
 obtain⟨hl,hz⟩:=List.getElem?_eq_some_iff.1 hz
 refine h (by omega) ?_
 rw[List.getD,List.getElem?_eq_getElem (by omega)]
 simpa using hz
theorem zZ {B:Int} (hB:0<B):∀{xs:List Int},Dig B xs->Norm xs->xs≠[]->B^(xs.length-1)<=val B xs:=by
 intro xs
 induction xs with
 | nil=>intro _ _ h;exact absurd rfl h
 | cons d ds ih=>
  intro hd hn _
  rw[Dig.cons] at hd
  rw[Norm.cons] at hn
  by_cases hds:ds=[]
  ·subst hds
   have:=hn.1 rfl
   simp[val];omega
  ·have h1:=ih hd.2 hn.2 hds
   have h2:=Int.mul_le_mul_of_nonneg_left h1 (Int.le_of_lt hB)
   have hl:0<ds.length:=List.length_pos_iff.2 hds
   have h3:B^((d::ds).length-1)=B*B^(ds.length-1):=by
    rw[List.length_cons,show ds.length+1-1=(ds.length-1)+1 from by omega];grind
   rw[h3]
   simp only[val]
   omega
theorem zaQ {B:Int} (hB:0<B) {xs:List Int} (h:Dig B xs) (hn:Norm xs) (hx:xs≠[]):0<val B xs:=
 Int.lt_of_lt_of_le (Int.pow_pos hB) (zZ hB h hn hx)
theorem zej {B:Int} (hB:0<B) {xs:List Int} (h:Dig B xs) (hn:Norm xs):val B xs=0↔xs=[]:=by
 constructor
 ·intro hz
  by_cases hx:xs=[]
  ·exact hx
  ·have:=zaQ hB h hn hx;omega
 ·rintro rfl;rfl
theorem zt {B:Int} (hB:0<B) {m n:Nat} (h:m<=n):B^m<=B^n:=by
 obtain⟨k,rfl⟩:=Nat.exists_eq_add_of_le h
 have h1:(0:Int)<B^k:=Int.pow_pos hB
 have h2:(0:Int)<B^m:=Int.pow_pos hB
 rw[Int.pow_add]
 have:=Int.mul_le_mul_of_nonneg_left (show 1<=B^k by omega) (Int.le_of_lt h2)
 omega
theorem zV {B:Int} (hB:0<B) {xs ys:List Int} (hx:Dig B xs) (hy:Dig B ys) (hn:Norm ys) (hl:xs.length<ys.length):val B xs<val B ys:=by
 have h1:=zam hB hx
 have h2:=zZ hB hy hn (by intro e;subst e;simp at hl)
 have h3:=zt hB (show xs.length<=ys.length-1 by omega)
 omega
theorem zgo {B:Int} (hB:0<B):∀{xs ys:List Int},Dig B xs->Dig B ys->Norm xs->Norm ys->val B xs=val B ys->xs=ys:=by
 intro xs
 induction xs with
 | nil=>
  intro ys _ hy _ hn h
  exact((zej hB hy hn).1 (by simpa[val] using h.symm)).symm
 | cons d ds ih=>
  intro ys hx hy hnx hny h
  cases ys with
  | nil=>
   have:=(zej hB hx hnx).1 (by simpa[val] using h)
   cases this
  | cons e es=>
   rw[Dig.cons] at hx hy
   rw[Norm.cons] at hnx hny
   simp only[val] at h
   have hde:d=e:=by
    have h1:(d+B*val B ds)%B=(e+B*val B es)%B:=by rw[h]
    rw[Int.add_mul_emod_self_left,Int.add_mul_emod_self_left,Int.emod_eq_of_lt hx.1.1 hx.1.2,Int.emod_eq_of_lt hy.1.1 hy.1.2] at h1
    exact h1
   subst hde
   have h2:B*val B ds=B*val B es:=by omega
   have h3:=Int.eq_of_mul_eq_mul_left (by omega) h2
   rw[ih hx.2 hy.2 hnx.2 hny.2 h3]
theorem zbe {B:Int} (hB:0<B) {xs ys:List Int} (hx:Dig B xs) (hy:Dig B ys) (hl:xs.length=ys.length) (i:Nat) (hi:i<xs.length)
  (heq:∀j,i<j->xs.getD j 0=ys.getD j 0) (hlt:xs.getD i 0<ys.getD i 0):val B xs<val B ys:=by
 have hd:xs.drop (i+1)=ys.drop (i+1):=by
  apply List.ext_getElem?
  intro j
  rw[List.getElem?_drop,List.getElem?_drop]
  have:=heq (i+1+j) (by omega)
  by_cases hj:i+1+j<xs.length
  ·rw[List.getD,List.getD,List.getElem?_eq_getElem hj,List.getElem?_eq_getElem (by omega)] at this
   rw[List.getElem?_eq_getElem hj,List.getElem?_eq_getElem (by omega)]
   simpa using this
  ·rw[List.getElem?_eq_none (by omega),List.getElem?_eq_none (by omega)]
 have e1:=zag B (xs.take (i+1)) (xs.drop (i+1))
 have e2:=zag B (ys.take (i+1)) (ys.drop (i+1))
 rw[List.take_append_drop] at e1 e2
 have l1:(xs.take (i+1)).length=(ys.take (i+1)).length:=by simp[hl]
 rw[l1,hd] at e1
 have t1:=zo B xs i hi
 have t2:=zo B ys i (by omega)
 have b1:=zam hB (hx.take i)
 have b2:=zC (Int.le_of_lt hB) (hy.take i)
 have l2:(xs.take i).length=i:=by simp;omega
 rw[l2] at b1
 have h3:=Int.mul_le_mul_of_nonneg_left (show xs.getD i 0+1<=ys.getD i 0 by omega) (Int.le_of_lt (zbJ hB i))
 rw[e1,e2,t1,t2]
 grind
open Go.RowKit
theorem blr (a:Nat) (w:World):Below a w w:=Below.refl a w
theorem hmf0 (P:Program):∀(fn:Fn) (first cap:Array Value) (w:World),(Instr.makeFunc fn first cap).run P w=.ok (.func fn first cap) w:=fun _ _ _ _=>rfl
def tyOf:IntKind->TypeId
 | .u32=>190
 | .u8=>5
 | .i64=>3
 | _=>0
def Typed (w:World) (b:Nat) (e:TypeId):Prop:=∃cs m,w.heap[b]?=some (.cells cs e m)
theorem Typed.lt {w:World} {b:Nat} {e:TypeId} (h:Typed w b e):b<w.heap.size:=by
 obtain⟨cs,m,h⟩:=h;exact lt_of_block h
theorem Typed.same {w w':World} {b:Nat} {e:TypeId} (h:Typed w b e) (hb:w'.heap[b]?=w.heap[b]?):Typed w' b e:=by
 obtain⟨cs,m,h⟩:=h;exact⟨cs,m,hb.trans h⟩
theorem Typed.ne {w:World} {b c:Nat} {e f:TypeId} (h:Typed w b e) (g:Typed w c f) (hne:e≠f):b≠c:=by
 obtain⟨cs,m,h⟩:=h
 obtain⟨cs',m',g⟩:=g
 intro hbc
 subst hbc
 rw[h] at g
 injection g with g
 injection g with _ g _
 exact hne g
theorem Typed.setCell {w:World} {b:Nat} {e:TypeId} (h:Typed w b e) (p:Addr) (x:Value):Typed (w.setCell p x) b e:=by
 obtain⟨cs,m,h⟩:=h
 by_cases hp:p.block=b
 ·subst hp
  exact⟨_,m,by simp[World.setCell,Array.getElem?_modify,h];rfl⟩
 ·exact⟨cs,m,by simp[World.setCell,Array.getElem?_modify,hp,h]⟩
def Arr (w:World) (A:Option Addr) (k:IntKind) (xs:List Int):Prop:=
 0<xs.length->∃b o,A=some ⟨b,o,none⟩/\Typed w b (tyOf k)/\∀j,j<xs.length->w.cell? ⟨b,o+j,none⟩=some (.int k (xs.getD j 0))
theorem hide {p:Prop} (h:p):Hid p:=h
theorem zf {w:World} {p:Addr} {v:Value} (h:w.cell? p=some v):p.block<w.heap.size:=by
 rcases Nat.lt_or_ge p.block w.heap.size with hlt|hge
 ·exact hlt
 ·unfold World.cell? at h
  rw[Array.getElem?_eq_none hge] at h
  cases h
theorem Arr.nil {w:World} {A:Option Addr} {k:IntKind}:Arr w A k []:=fun h=>by simp at h
theorem Arr.at_ {w:World} {A:Option Addr} {k:IntKind} {xs:List Int} (h:Arr w A k xs) (hx:0<xs.length):
  ∃b o,A=some ⟨b,o,none⟩/\b<w.heap.size/\∀j,j<xs.length->w.cell? ⟨b,o+j,none⟩=some (.int k (xs.getD j 0)):=by
 obtain⟨b,o,rfl,ht,hc⟩:=h hx
 exact⟨b,o,rfl,zf (hc 0 hx),hc⟩
theorem Arr.below {w w':World} {A:Option Addr} {k:IntKind} {xs:List Int} (h:Arr w A k xs) (hb:Below w.heap.size w w'):Arr w' A k xs:=by
 intro hx
 obtain⟨b,o,rfl,ht,hc⟩:=h hx
 exact⟨b,o,rfl,ht.same (hb.block b ht.lt),fun j hj=>(hb.cell (by exact ht.lt)).trans (hc j hj)⟩
theorem Arr.take {w:World} {A:Option Addr} {k:IntKind} {xs:List Int} (h:Arr w A k xs) (n:Nat):Arr w A k (xs.take n):=by
 intro hx
 have hl:(xs.take n).length<=xs.length:=by rw[List.length_take];omega
 have hn:(xs.take n).length<=n:=by rw[List.length_take];omega
 obtain⟨b,o,rfl,ht,hc⟩:=h (by omega)
 refine⟨b,o,rfl,ht,fun j hj=>?_⟩
 rw[hc j (by omega)]
 simp only[List.getD,List.getElem?_take]
 rw[if_pos (by omega)]
theorem zw {B:Nat} {a w:World} (h:Below B a w) (n:Nat):Below B a (w.drewN n):=⟨h.os,h.tape,h.output,h.size,h.block⟩
theorem bnx {w w1 w2:World} (h:Below w.heap.size w w1) (g:Below w1.heap.size w1 w2):Below w.heap.size w w2:=h.trans (g.mono h.size)
def Ret (R:Value->World->Prop) (e:Ending) (w':World):Prop:=∃v,e=.returned v/\R v w'
theorem Arr.new {w:World} {cs:Array Value} {e:TypeId} {k:IntKind} {xs:List Int} {m:Nat×Nat} (h:cs.toList=xs.map (Value.int k)) (he:e=tyOf k:=by rfl):Arr (w.alloc (.cells cs e m)) (some ⟨w.heap.size,0,none⟩) k xs:=by
 intro hx
 subst he
 refine⟨_,_,rfl,⟨cs,m,heap_alloc_new w _⟩,fun j hj=>?_⟩
 have hh:(w.alloc (.cells cs (tyOf k) m)).heap[w.heap.size]?=some (.cells cs (tyOf k) m):=heap_alloc_new w _
 unfold World.cell?
 simp only[hh]
 have:cs[0+j]?=cs.toList[j]?:=by simp
 rw[this,h]
 simp[List.getD,List.getElem?_eq_getElem hj]
theorem Arr.of_own {w:World} {base:Nat} {e:TypeId} {A:Option Addr} {n c:Nat} {k:IntKind} {xs:List Int}
  (h:w.ownsRow base e 1 (.slice A n c) n (xs.map (Value.int k))) (he:e=tyOf k:=by rfl):n=xs.length/\Arr w A k xs:=by
 subst he
 have hl:n=xs.length:=by have:=h.1;simpa using this.symm
 refine⟨hl,fun hx=>?_⟩
 rcases h.2 with ⟨_,h0⟩|⟨g,cap,cur,hv,_,hh,_,_,_,_⟩
 ·omega
 have hA:A=some ⟨g,0,none⟩:=by injection hv
 subst hA
 refine⟨g,0,rfl,⟨cur,_,hh⟩,fun j hj=>?_⟩
 have:=h.cells (g:=g) rfl j (.int k (xs.getD j 0)) (by simp[List.getD,List.getElem?_map,List.getElem?_eq_getElem hj])
 rw[<-this,Nat.zero_add]
 by_cases h0:j=0
 ·subst h0;rfl
 ·simp[Addr.add,h0]
structure zdj (P:Program) (t e:TypeId) (k:IntKind) (bytes:Nat):Prop where
 ht:P.underlying t=some (.slice e)
 hi:(P.info? e).map (fun i=>(i.zero,i.size,i.bytes))=some (some (.int k 0),1,bytes)
 hb:bytes<=8
def OwnI (w:World) (base:Nat) (e:TypeId) (k:IntKind) (v:Value) (xs:List Int):Prop:=w.ownsRow base e 1 v xs.length (xs.map (Value.int k))
theorem OwnI.nil (w:World) (base:Nat) (e:TypeId) (k:IntKind):OwnI w base e k (.slice none 0 0) []:=World.ownsRow_nil _ _ _ _
theorem OwnI.form {w:World} {base:Nat} {e:TypeId} {k:IntKind} {v:Value} {xs:List Int} (h:OwnI w base e k v xs) (he:e=tyOf k:=by rfl):
  ∃A c,v=.slice A xs.length c/\xs.length<=c/\c<=maxLen/\Arr w A k xs:=by
 rcases h.2 with ⟨hv,h0⟩|⟨g,cap,cur,hv,_,hh,hc,hm,_,_⟩
 ·refine⟨none,0,by rw[hv,h0],by omega,by simp,fun hx=>by omega⟩
 ·refine⟨_,cap,hv,hc,hm,?_⟩
  have:w.ownsRow base e 1 (.slice (some ⟨g,0,none⟩) xs.length cap) xs.length (xs.map (Value.int k)):=hv▸h
  exact(Arr.of_own this he).2
theorem OwnI.keep {w w':World} {base:Nat} {e:TypeId} {k:IntKind} {v:Value} {xs:List Int} (h:OwnI w base e k v xs) (hb:Below w.heap.size w w'):OwnI w' base e k v xs:=by
 refine⟨h.1,?_⟩
 rcases h.2 with h2|⟨g,cap,cur,hv,hg,hh,r⟩
 ·exact .inl h2
 ·exact .inr ⟨g,cap,cur,hv,hg,by rw[hb.block g (World.ownsRow.lt h g (by rw[hv];rfl)).2];exact hh,r⟩
theorem app1 {P:Program} {t e:TypeId} {k:IntKind} {bytes:Nat} (S:zdj P t e k bytes) (w:World) {ops:Array Oper} {rest:List Oper} {o:Oper} {a:Act} {Q:Exit->Act->World->Prop} (hgd:o.guard=none) (s x:Operand)
  (ho:o.op=.call { callee:=.builtin .append,args:=#[s,x],argTypes:=#[t,t] })
  (base:Nat) (v:Value) (xs:List Int) (d:Int) (hs:a.eval s=v) (hown:OwnI w base e k v xs)
  (ad:Addr) (c:Nat) (hx:a.eval x=.slice (some ad) 1 c) (hcell:w.cell? ad=some (.int k d))
  (hlen:xs.length<=17592186044000) (hbase:base<=w.heap.size)
  (h:∀g c' w',OwnI w' base e k (.slice (some ⟨g,0,none⟩) (xs.length+1) c') (xs++[d])->xs.length+1<=c'->c'<=maxLen->Below base w w' ->
   wpList P ops Q rest (a.put o.dst (.slice (some ⟨g,0,none⟩) (xs.length+1) c')) w'):wpList P ops Q (o::rest) a w:=by
 obtain⟨i,hi,hz,hsz,hby⟩:=info_parts S.hi
 have hb:=S.hb
 refine wpList_append_own w hgd s x t ho base e i (.int k 0) 1 bytes S.ht hi hz hsz hby rfl (by decide) v xs.length (xs.map (Value.int k)) hs hown ad 1 c [.int k d] hx rfl ?_ ?_ ?_ ?_ hbase ?_
 ·intro j u hj
  match j,hj with
  | 0,hj=>simp at hj;subst hj;simpa[Addr.add] using hcell
 ·intro u hu;simp at hu;subst hu;rfl
 ·unfold maxLen;omega
 ·have:=Nat.mul_le_mul_left (xs.length+1) hb;omega
 ·intro v' w' hown' hg _
  have hbl:Below base w w':=(Below.refl _ _).grown hg hbase fun g hgv=>(hown.lt g hgv).1
  have hown2:OwnI w' base e k v' (xs++[d]):=by unfold OwnI;simpa using hown'
  rcases hown'.2 with ⟨_,h0⟩|⟨g,cap,cur,hv,_,_,hc,hm,_,_⟩
  ·omega
  ·subst hv
   exact h g cap w' hown2 hc hm hbl
def mk (k:IntKind) (xs:List Int):Array Value:=(xs.map (Value.int k)).toArray
theorem zob {k:IntKind} {xs:List Int} {j:Nat} (hj:j<xs.length):(mk k xs)[j]?=some (.int k (xs.getD j 0)):=by
 simp[mk,List.getD,List.getElem?_eq_getElem hj]
theorem zmK {k:IntKind} {xs:List Int}:(mk k xs).size=xs.length:=by simp[mk]
def Blk (w:World) (g:Nat) (e:TypeId) (k:IntKind) (xs:List Int):Prop:=w.heap[g]?=some (.cells (mk k xs) e (0,0))
section
variable {w w':World} {g:Nat} {e:TypeId} {k:IntKind} {xs:List Int}
theorem Blk.lt (h:Blk w g e k xs):g<w.heap.size:=lt_of_block h
theorem Blk.cell (h:Blk w g e k xs) {j:Nat} (hj:j<xs.length):w.cell? ⟨g,j,none⟩=some (.int k (xs.getD j 0)):=by
 unfold Blk at h;unfold World.cell?;simp only[h];exact zob hj
theorem Blk.frozen (h:Blk w g e k xs) (j:Nat):w.frozen? ⟨g,j,none⟩=false:=by unfold Blk at h;simp[World.frozen?,h]
theorem Blk.set_ (h:Blk w g e k xs) (i:Nat) (d:Int):Blk (w.setCell ⟨g,i,none⟩ (.int k d)) g e k (xs.set i d):=by
 unfold Blk at h ⊢
 simp[World.setCell,Array.getElem?_modify,h,mk,List.map_set]
theorem Blk.new (w:World) (e:TypeId) (k:IntKind) (xs:List Int):Blk (w.alloc (.cells (mk k xs) e)) w.heap.size e k xs:=heap_alloc_new w _
theorem Blk.below {B:Nat} (h:Blk w g e k xs) (hb:Below B w w') (hg:g<B):Blk w' g e k xs:=(hb.block g hg).trans h
theorem Blk.keep (h:Blk w g e k xs) (hb:Below w.heap.size w w'):Blk w' g e k xs:=h.below hb h.lt
theorem Blk.arr (h:Blk w g e k xs) (he:e=tyOf k:=by rfl):Arr w (some ⟨g,0,none⟩) k xs:=fun _=>⟨g,0,rfl,⟨_,_,by rw[<-he];exact h⟩,fun j hj=>by rw[Nat.zero_add];exact h.cell hj⟩
end
theorem zby {P:Program} {t e:TypeId} {k:IntKind} {bytes:Nat} (S:zdj P t e k bytes) (n:Nat) (hn:n<=17592186044416) (w:World):
  (Instr.makeSlice t (.int .i64 (n:Int)) (.int .i64 (n:Int))).run P w=.ok (.slice (some ⟨w.heap.size,0,none⟩) n n) (w.alloc (.cells (mk k (List.replicate n 0)) e)):=by
 obtain⟨i,hi,hz,hsz,hby⟩:=info_parts S.hi
 have hb8:=S.hb
 have hb:(i.bytes:Int)*(n:Int)<=281474976710656:=by
  have h1:i.bytes*n<=8*n:=Nat.mul_le_mul_right n (by omega)
  have h:((i.bytes*n:Nat):Int)<=281474976710656:=by omega
  rwa[Int.natCast_mul] at h
 have hr:=run_make (P:=P) w t e i (.int k 0) S.ht hi hz .i64 .i64 n n (by omega) (by omega) hb (by omega)
 simp only[Int.toNat_natCast] at hr
 rw[hr]
 have:madeCells (Value.cells (.int k 0)) (n*i.size)=mk k (List.replicate n 0):=by
  rw[hsz,Nat.mul_one]
  apply Array.ext'
  rw[show Value.cells (.int k 0)=#[.int k 0] from rfl,toList_madeCells_one]
  simp[mk]
 rw[this]
theorem zee (B:Int):∀(xs:List Int) (i:Nat) (d:Int),i<xs.length->val B (xs.set i d)=val B xs+B^i*(d-xs.getD i 0):=by
 intro xs
 induction xs with
 | nil=>intro i d h;simp at h
 | cons x xs ih=>
  intro i d h
  cases i with
  | zero=>simp[val];omega
  | succ i=>
   have:=ih i d (by simpa using h)
   simp only[List.set_cons_succ,val,this,List.getD_cons_succ]
   grind
theorem Dig.set_ {B:Int} {xs:List Int} (h:Dig B xs) (i:Nat) {d:Int} (h0:0<=d) (h1:d<B):Dig B (xs.set i d):=by
 intro e he
 rcases List.mem_or_eq_of_mem_set he with h2|rfl
 ·exact h e h2
 ·exact⟨h0,h1⟩
theorem zaZ {xs:List Int} {i j:Nat} {d:Int} (h:i≠j):(xs.set i d).getD j 0=xs.getD j 0:=by
 simp[List.getD,List.getElem?_set_ne h]
theorem za0 {xs:List Int} {i:Nat} {d:Int} (h:i<xs.length):(xs.set i d).getD i 0=d:=by
 simp[List.getD,h]
theorem or64 (r x:Int) (h0:0<=r) (h1:r<4294967296) (h2:0<=x) (h3:x<4294967296):bits .or .u64 (r*4294967296) x=r*4294967296+x:=by
 obtain⟨r,rfl⟩:=Int.eq_ofNat_of_zero_le h0
 obtain⟨x,rfl⟩:=Int.eq_ofNat_of_zero_le h2
 have e:(r:Int)*4294967296=((r*4294967296:Nat):Int):=by omega
 rw[e,u64_or_nat _ _ (by omega) (by omega),nat_join 32 (r*4294967296) x (by omega) (by omega)]
 omega
theorem and64 (t:Int) (h0:0<=t) (h1:t<18446744073709551616):bits .and .u64 t 4294967295=t%4294967296:=by
 obtain⟨t,rfl⟩:=Int.eq_ofNat_of_zero_le h0
 have:=u64_and_nat t 4294967295 (by omega) (by omega)
 rw[show (4294967295:Int)=((4294967295:Nat):Int) from rfl,this,show (4294967295:Nat)=2^32-1 from rfl,Nat.and_two_pow_sub_one_eq_mod]
 simp
theorem or32 (n:Nat) (y cy:Int) (hn:n<=32) (h0:0<=y) (h2:0<=cy) (h3:cy<2^n):bits .or .u32 (y*2^n%4294967296) cy=y*2^n%4294967296+cy:=by
 obtain⟨y,rfl⟩:=Int.eq_ofNat_of_zero_le h0
 obtain⟨c,rfl⟩:=Int.eq_ofNat_of_zero_le h2
 have hc:c<2^n:=by
  have:((2^n:Nat):Int)=(2:Int)^n:=by simp
  omega
 have hp:2^n<=4294967296:=by
  have:=Nat.pow_le_pow_right (show 0<2 by omega) hn
  simpa using this
 have e:(y:Int)*2^n%4294967296=((y*2^n%4294967296:Nat):Int):=by simp
 have hm:y*2^n%4294967296%2^n=0:=by
  have hd:2^n ∣ 4294967296:=by
   have:=Nat.pow_dvd_pow 2 hn
   simpa using this
  rw[Nat.mod_mod_of_dvd _ hd,Nat.mul_mod_left]
 rw[e,u32_or_nat _ _ (by omega) (by omega),nat_join n _ c hm hc]
 omega
theorem zh6 (n:Nat) (x:Int) (hn:n<=32):x*2^n%4294967296+4294967296*(x / 2^(32-n))=x*2^n:=by
 have e:(4294967296:Int)=2^(32-n)*2^n:=by
  rw[<-Int.pow_add,show 32-n+n=32 by omega];rfl
 have h:x*2^n / 4294967296=x / 2^(32-n):=by
  rw[e,Int.mul_ediv_mul_of_pos_left _ _ (Int.pow_pos (by omega))]
 rw[<-h]
 exact Int.emod_add_mul_ediv _ _
theorem zb2 (n:Nat) (hn:n<=32):1<=(2:Int)^n/\(2:Int)^n<=4294967296:=by
 have h1:(0:Int)<2^n:=Int.pow_pos (by omega)
 have h2:=zt (B:=2) (by omega) hn
 exact⟨by omega,by simpa using h2⟩
theorem zbG (xs:List Int) (i:Nat) (d:Int) (h:i<xs.length):(xs.set i d).drop i=d::xs.drop (i+1):=by
 rw[List.drop_eq_getElem_cons (by simpa using h)]
 simp[List.drop_set]
theorem zcd (xs:List Int) (i:Nat) (h:i<xs.length):xs.drop i=xs.getD i 0::xs.drop (i+1):=by
 rw[List.drop_eq_getElem_cons h];simp[List.getD,h]
theorem copyI {P:Program} {t e:TypeId} {k:IntKind} {bytes:Nat} (S:zdj P t e k bytes) {w:World} {ops:Array Oper} {rest:List Oper} {o:Oper} {a:Act} {Q:Exit->Act->World->Prop} (hgd:o.guard=none) (d s:Operand) (sT:TypeId)
  (ho:o.op=.call { callee:=.builtin .copy,args:=#[d,s],argTypes:=#[t,sT] })
  (g off dLen dCap sLen sCap:Nat) (A:Option Addr) (hd:a.eval d=.slice (some ⟨g,off,none⟩) dLen dCap) (hs:a.eval s=.slice A sLen sCap)
  (us ss:List Int) (hb:Blk w g e k us) (hss:ss.length=sLen) (ha:Arr w A k ss) (n:Nat) (hn:n=min sLen dLen) (hn0:0<n) (hfit:off+n<=us.length)
  (h:∀w',Blk w' g e k (us.take off++(ss.take n++us.drop (off+n)))->w.grownBy w' (some g)->w'.heap.size=w.heap.size->wpList P ops Q rest (a.put o.dst (.int .i64 n)) w'):wpList P ops Q (o::rest) a w:=by
 obtain⟨i,hi,hz,hsz,hby⟩:=info_parts S.hi
 obtain⟨b,o',rfl,_,hc⟩:=ha (by omega)
 have hl:((ss.take n).map (Value.int k)).length=n:=by simp;omega
 refine wpList_copy_own hgd d s t sT ho e S.ht (by rw[hi];simp[hsz]) g off dLen dCap ⟨b,o',none⟩ sLen sCap hd hs (mk k us) e hb ((ss.take n).map (Value.int k)) (by rw[hl,hn]) ?_ (by rw[hl,zmK];exact hfit) ?_ ?_
 ·intro j v hj
  rw[List.getElem?_map,Option.map_eq_some_iff] at hj
  obtain⟨x,hx,rfl⟩:=hj
  have hjn:j<n:=by
   obtain⟨h1,_⟩:=List.getElem?_eq_some_iff.1 hx
   simp at h1;omega
  rw[List.getElem?_take,if_pos hjn] at hx
  have hjs:j<ss.length:=(List.getElem?_eq_some_iff.1 hx).1
  have:=hc j hjs
  rw[List.getD,hx] at this
  rw[show (Addr.add ⟨b,o',none⟩ j)=⟨b,o'+j,none⟩ by unfold Addr.add;split <;> simp_all]
  exact this
 ·intro v hv
  rw[List.mem_map] at hv
  obtain⟨x,_,rfl⟩:=hv
  rfl
 ·rw[hl]
  refine h _ ?_ ?_ ?_
  ·unfold Blk
   rw[setRow_heap w g (mk k us) _ e (0,0) hb]
   congr 2
   simp[mk,List.map_take,List.map_drop]
  ·exact⟨rfl,rfl,rfl,by simp[World.setRow],fun j _ hj=>setRow_other w g j _ (by intro e;subst e;exact hj rfl)⟩
  ·simp[World.setRow]
def NatV (w:World) (v:Value) (x:Int) (L:Nat):Prop:=
 ∃A c xs,v=.slice A xs.length c/\xs.length<=c/\c<=maxLen/\Arr w A .u32 xs/\Dig 4294967296 xs/\Norm xs/\val 4294967296 xs=x/\xs.length<=L
theorem NatV.below {w w':World} {v:Value} {x:Int} {L:Nat} (h:NatV w v x L) (hb:Below w.heap.size w w'):NatV w' v x L:=by
 obtain⟨A,c,xs,rfl,h1,h2,h3,h4⟩:=h
 exact⟨A,c,xs,rfl,h1,h2,h3.below hb,h4⟩
theorem NatV.more {w:World} {v:Value} {x:Int} {L L':Nat} (h:NatV w v x L) (hL:L<=L'):NatV w v x L':=by
 obtain⟨A,c,xs,rfl,h1,h2,h3,h4,h5,h6,h7⟩:=h
 exact⟨A,c,xs,rfl,h1,h2,h3,h4,h5,h6,by omega⟩
theorem NatV.nonneg {w:World} {v:Value} {x:Int} {L:Nat} (h:NatV w v x L):0<=x:=by
 obtain⟨A,c,xs,rfl,h1,h2,h3,h4,h5,h6,h7⟩:=h
 rw[<-h6];exact zC (by omega) h4
def zeW (xs:List Int) (n:Nat):Prop:=n<=xs.length/\(0<n->xs.getD (n-1) 0≠0)/\∀j,n<=j->xs.getD j 0=0
theorem NatV.of_trim {w:World} {A:Option Addr} {xs:List Int} {n:Nat} (h:Arr w A .u32 xs) (hd:Dig 4294967296 xs) (hm:xs.length<=maxLen) (ht:zeW xs n):
  NatV w (.slice A n n) (val 4294967296 xs) xs.length:=by
 obtain⟨h1,h2,h3⟩:=ht
 have hl:(xs.take n).length=n:=by rw[List.length_take];omega
 refine⟨A,n,xs.take n,by rw[hl],by omega,by omega,h.take n,hd.take n,Norm.of_last fun h0=>?_,zbq _ _ _ h3,by omega⟩
 rw[hl] at h0 ⊢
 have:=h2 h0
 simpa[List.getD,List.getElem?_take,show n-1<n by omega] using this
def natR (w:World) (x:Int) (L:Nat) (v:Value) (w':World):Prop:=NatV w' v x L/\Below w.heap.size w w'
theorem NatV.open_ {w:World} {v:Value} {x:Int} {L:Nat} (h:NatV w v x L):
 ∃A c xs,v=.slice A xs.length c/\xs.length<=c/\c<=maxLen/\Arr w A .u32 xs/\Dig 4294967296 xs/\Norm xs/\val 4294967296 xs=x/\xs.length<=L:=h
theorem NatV.shrink {w w2:World} {v v2:Value} {a b:Int} {L L':Nat} (h:NatV w v a L) (g:NatV w2 v2 b L') (hab:a<=b):NatV w v a L':=by
 obtain⟨A,c,xs,rfl,h1,h2,h3,h4,h5,rfl,h7⟩:=h
 obtain⟨A',c',ys,rfl,g1,g2,g3,g4,g5,rfl,g7⟩:=g
 refine⟨A,c,xs,rfl,h1,h2,h3,h4,h5,rfl,?_⟩
 rcases Nat.lt_or_ge ys.length xs.length with hlt|hge
 ·have:=zV (by omega) g4 h4 h5 hlt;omega
 ·omega
theorem NatV.nil (w:World) (L:Nat):NatV w (.slice none 0 0) 0 L:=⟨none,0,[],rfl,nr _,by simp,Arr.nil,Dig.nil _,Norm.nil,rfl,Nat.zero_le _⟩
theorem zN {a b c:World} {r:Option Nat} (h:a.grownBy b r) (k:b.grownBy c r):a.grownBy c r:=
 ⟨k.os.trans h.os,k.tape.trans h.tape,k.output.trans h.output,Nat.le_trans h.size k.size,fun i hi hne=>(k.block i (Nat.lt_of_lt_of_le hi h.size) hne).trans (h.block i hi hne)⟩
theorem only_below {B g:Nat} {a b c:World} (h:Below B a b) (k:b.grownBy c (some g)) (hB:B<=b.heap.size) (hg:B<=g):Below B a c:=
 h.grown k hB (fun j hj=>by injection hj with hj;omega)
theorem Blk.only {w w':World} {g g':Nat} {e:TypeId} {k:IntKind} {xs:List Int} (h:Blk w g e k xs) (hg:w.grownBy w' (some g')) (hne:g≠g'):Blk w' g e k xs:=
 (hg.block g h.lt (by intro e;injection e with e;exact hne e)).trans h
theorem box3 {w w':World} {a b c:Value} {e:TypeId} (h:Below (w.heap.size+1) (w.alloc (.cells #[a,b,c] e)) w'):
  w'.cell? ⟨w.heap.size,0,none⟩=some a/\w'.cell? ⟨w.heap.size,1,none⟩=some b/\w'.cell? ⟨w.heap.size,2,none⟩=some c /\
  w'.frozen? ⟨w.heap.size,0,none⟩=false/\w'.frozen? ⟨w.heap.size,1,none⟩=false/\w'.frozen? ⟨w.heap.size,2,none⟩=false/\w.heap.size<w'.heap.size:=by
 have hh:w'.heap[w.heap.size]?=some (.cells #[a,b,c] e (0,0)):=(h.block _ (by omega)).trans (heap_alloc_new w _)
 refine⟨?_,?_,?_,?_,?_,?_,?_⟩
 ·simp[World.cell?,hh]
 ·simp[World.cell?,hh]
 ·simp[World.cell?,hh]
 ·simp[World.frozen?,hh]
 ·simp[World.frozen?,hh]
 ·simp[World.frozen?,hh]
 ·have:=h.size;simp at this;omega
theorem zL (w:World) (o:Obj):Below (w.heap.size+1) (w.alloc o) (w.alloc o):=Below.refl _ _
theorem zh {B:Nat} {a b c:World} (h:Below B a b) (k:Below b.heap.size b c) (hB:B<=a.heap.size):Below B a c:=h.trans (k.mono (by have:=h.size;omega))
theorem Arr.set3 {w:World} {A:Option Addr} {k:IntKind} {xs:List Int} (h:Arr w A k xs) {B:Nat} {a0 a b c:Value} {v1 v2:Value} (k0:w.cell? ⟨B,0,none⟩=some a0) (k1:w.cell? ⟨B,1,none⟩=some v1) (k2:w.cell? ⟨B,2,none⟩=some v2)
  (h0:∀k n,a0≠.int k n) (h1:∀k n,v1≠.int k n) (h2:∀k n,v2≠.int k n):Arr (((w.setCell ⟨B,0,none⟩ a).setCell ⟨B,1,none⟩ b).setCell ⟨B,2,none⟩ c) A k xs:=by
 intro hx
 obtain⟨b',o,rfl,ht,hc⟩:=h hx
 refine⟨b',o,rfl,((ht.setCell _ _).setCell _ _).setCell _ _,fun j hj=>?_⟩
 have hq:=hc j hj
 have n0:(⟨b',o+j,none⟩:Addr)≠⟨B,0,none⟩:=by intro e;rw[e,k0] at hq;exact h0 _ _ (Option.some.inj hq)
 have n1:(⟨b',o+j,none⟩:Addr)≠⟨B,1,none⟩:=by intro e;rw[e,k1] at hq;exact h1 _ _ (Option.some.inj hq)
 have n2:(⟨b',o+j,none⟩:Addr)≠⟨B,2,none⟩:=by intro e;rw[e,k2] at hq;exact h2 _ _ (Option.some.inj hq)
 rw[World.cell?_setCell_other _ _ _ _ n2.symm,World.cell?_setCell_other _ _ _ _ n1.symm,World.cell?_setCell_other _ _ _ _ n0.symm]
 exact hq
theorem NatV.set3 {w:World} {v:Value} {x:Int} {L:Nat} (h:NatV w v x L) {B:Nat} {a b c:Value} {a0:Bool} {A1 A2:Option Addr} {n1 c1 n2 c2:Nat} (k0:w.cell? ⟨B,0,none⟩=some (.bool a0)) (k1:w.cell? ⟨B,1,none⟩=some (.slice A1 n1 c1)) (k2:w.cell? ⟨B,2,none⟩=some (.slice A2 n2 c2)):
  NatV (((w.setCell ⟨B,0,none⟩ a).setCell ⟨B,1,none⟩ b).setCell ⟨B,2,none⟩ c) v x L:=by
 obtain⟨A,c',xs,rfl,g1,g2,g3,g4⟩:=h
 exact⟨A,c',xs,rfl,g1,g2,g3.set3 k0 k1 k2 (by intro k n e;cases e) (by intro k n e;cases e) (by intro k n e;cases e),g4⟩
theorem zi {w:World} {B b j:Nat} {x y z:Value} (h:b≠B):(((w.setCell ⟨B,0,none⟩ x).setCell ⟨B,1,none⟩ y).setCell ⟨B,2,none⟩ z).cell? ⟨b,j,none⟩=w.cell? ⟨b,j,none⟩:=by
 have n:∀i,(⟨B,i,none⟩:Addr)≠⟨b,j,none⟩:=by intro i e;injection e with e1;exact h e1.symm
 rw[World.cell?_setCell_other _ _ _ _ (n 2),World.cell?_setCell_other _ _ _ _ (n 1),World.cell?_setCell_other _ _ _ _ (n 0)]
theorem zm {B0 B:Nat} {a w:World} (h:Below B0 a w) (hB:B0<=B) (x y z:Value):Below B0 a (((w.setCell ⟨B,0,none⟩ x).setCell ⟨B,1,none⟩ y).setCell ⟨B,2,none⟩ z):=
 ((h.setCell (by exact hB) _).setCell (by exact hB) _).setCell (by exact hB) _
theorem zaE {w w':World} {a0 b0 c0 a1 b1 c1 a2 b2 c2:Value} {e:TypeId}
  (h:Below (w.heap.size+3) (((w.alloc (.cells #[a0,b0,c0] e)).alloc (.cells #[a1,b1,c1] e)).alloc (.cells #[a2,b2,c2] e)) w'):
  (w'.cell? ⟨w.heap.size,0,none⟩=some a0/\w'.cell? ⟨w.heap.size,1,none⟩=some b0/\w'.cell? ⟨w.heap.size,2,none⟩=some c0) /\
  (w'.cell? ⟨w.heap.size+1,0,none⟩=some a1/\w'.cell? ⟨w.heap.size+1,1,none⟩=some b1/\w'.cell? ⟨w.heap.size+1,2,none⟩=some c1) /\
  (w'.cell? ⟨w.heap.size+2,0,none⟩=some a2/\w'.cell? ⟨w.heap.size+2,1,none⟩=some b2/\w'.cell? ⟨w.heap.size+2,2,none⟩=some c2) /\
  (w'.frozen? ⟨w.heap.size+2,0,none⟩=false/\w'.frozen? ⟨w.heap.size+2,1,none⟩=false/\w'.frozen? ⟨w.heap.size+2,2,none⟩=false)/\w.heap.size+2<w'.heap.size:=by
 have s1:(w.alloc (.cells #[a0,b0,c0] e)).heap.size=w.heap.size+1:=by simp
 have s2:((w.alloc (.cells #[a0,b0,c0] e)).alloc (.cells #[a1,b1,c1] e)).heap.size=w.heap.size+2:=by simp
 have h2:w'.heap[w.heap.size+2]?=some (.cells #[a2,b2,c2] e (0,0)):=(h.block _ (by omega)).trans (by rw[<-s2];exact heap_alloc_new _ _)
 have h1:w'.heap[w.heap.size+1]?=some (.cells #[a1,b1,c1] e (0,0)):=(h.block _ (by omega)).trans (by rw[Below.heap_alloc _ _ _ (by rw[s2];omega),<-s1];exact heap_alloc_new _ _)
 have h0:w'.heap[w.heap.size]?=some (.cells #[a0,b0,c0] e (0,0)):=(h.block _ (by omega)).trans (by rw[Below.heap_alloc _ _ _ (by rw[s2];omega),Below.heap_alloc _ _ _ (by rw[s1];omega)];exact heap_alloc_new _ _)
 refine⟨⟨?_,?_,?_⟩,⟨?_,?_,?_⟩,⟨?_,?_,?_⟩,⟨?_,?_,?_⟩,?_⟩
 all_goals first
  | (simp[World.cell?,h0];done)
  | (simp[World.cell?,h1];done)
  | (simp[World.cell?,h2];done)
  | (simp[World.frozen?,h2];done)
  | (have:=h.size;simp at this;omega)
def RatV (w:World) (v:Value) (q:Rat) (L:Nat):Prop:=
 ∃n l,v=.agg #[.bool (decide (q.num<0)),n,l]/\NatV w n (q.num.natAbs:Int) L/\NatV w l ((q.den:Int)-1) L
theorem RatV.below {w w':World} {v:Value} {q:Rat} {L:Nat} (h:RatV w v q L) (hb:Below w.heap.size w w'):RatV w' v q L:=by
 obtain⟨n,l,rfl,h1,h2⟩:=h;exact⟨n,l,rfl,h1.below hb,h2.below hb⟩
theorem RatV.more {w:World} {v:Value} {q:Rat} {L L':Nat} (h:RatV w v q L) (hL:L<=L'):RatV w v q L':=by
 obtain⟨n,l,rfl,h1,h2⟩:=h;exact⟨n,l,rfl,h1.more hL,h2.more hL⟩
def ratR (w:World) (q:Rat) (L:Nat) (v:Value) (w':World):Prop:=RatV w' v q L/\Below w.heap.size w w'
theorem zn (B:Int) (xs:List Int) (k:Nat) (h:xs.length<=k):val B (xs.take k)=val B xs:=by rw[List.take_of_length_le h]
def trimR (w:World) (A:Option Addr) (xs:List Int) (v:Value) (w':World):Prop:=∃n,zeW xs n/\v=.slice A n n/\w=w'
theorem zbz (w:World) (A:Option Addr) (c n:Nat) (xs:List Int) (hn:xs.length=n) (h:Arr w A .u32 xs) (hc:n<=c) (hm:c<=maxLen):
  Calls Tryz.prog 170 #[.slice A n c] w (Ret (trimR w A xs)):=by
 subst hn
 unfold maxLen at hm
 go_enter Tryz.func170,Tryz.ntmps170
 go_wp2
 go_loop [3] (fun n=>∃k:Nat,k<=xs.length/\n=.int .i64 k/\∀j,k<=j->xs.getD j 0=0) (fun n=>(intOf n).toNat)
 case atStart=>exact⟨xs.length,nr _,rfl,fun j hj=>by simp[List.getD,List.getElem?_eq_none hj]⟩
 case round=>
  obtain⟨k,hk,rfl,hz⟩:=hrel
  by_cases hk0:0<k
  ·obtain⟨b,o,rfl,_,hcell⟩:=h (by omega)
   obtain⟨d,hd⟩:∃d,d=xs.getD (k-1) 0:=⟨_,rfl⟩
   have hx:=hcell (k-1) (by omega)
   rw[<-hd] at hx
   have HZ:=hide hz;clear hz
   have HD:=hide hd;clear hd
   clear h hcell
   go_wp2
   ·have h0:(d == 0)=true:=by assumption
    go_round
    case rel=>
     refine⟨k-1,by omega,by go_num,fun j hj=>?_⟩
     by_cases hjk:j=k-1
     ·subst hjk;rw[<-HD.out];simpa using h0
     ·exact HZ.out j (by omega)
    case measure=>simp[intOf];omega
   ·have h0:(d == 0)=false:=by assumption
    go_ret
    exact⟨_,rfl,k,⟨hk,fun _=>by rw[<-HD.out];simpa using h0,HZ.out⟩,rfl,rfl⟩
  ·obtain rfl:k=0:=by omega
   have HZ:=hide hz;clear hz
   go_wp2
   go_ret
   exact⟨_,rfl,0,⟨Nat.zero_le _,fun h=>absurd h (by omega),HZ.out⟩,rfl,rfl⟩
theorem zc4 (w:World) (n:Int) (h0:0<=n) (h1:n<18446744073709551616):Calls Tryz.prog 125 #[.int .u64 n] w (Ret (natR w n 2)):=by
 go_enter Tryz.func125,Tryz.ntmps125
 go_wp2_with fail
 have ha:Arr (w.alloc (Obj.cells #[Value.int IntKind.u32 (n%4294967296),Value.int IntKind.u32 (n / 4294967296)] 190)) (some ⟨w.heap.size,0,none⟩) .u32 [n%4294967296,n / 4294967296]:=
  Arr.new (xs:=[n%4294967296,n / 4294967296]) rfl
 have hd:Dig 4294967296 [n%4294967296,n / 4294967296]:=by
  intro d hd;simp at hd;rcases hd with rfl|rfl <;> omega
 have HA:=hide ha;clear ha
 have HD:=hide hd;clear hd
 refine(zbz _ _ _ _ [n%4294967296,n / 4294967296] rfl HA.out (by simp) (by unfold maxLen;omega)).mono ?_
 rintro e w' ⟨v,rfl,k,hk,rfl,rfl⟩
 have HK:=hide hk;clear hk
 go_wp2_with fail
 go_ret
 refine⟨_,rfl,?_,(Below.refl _ _).alloc (nr _) _⟩
 have:=NatV.of_trim HA.out HD.out (by simp[maxLen]) HK.out
 simp only[val] at this
 rwa[show n%4294967296+4294967296*(n / 4294967296+4294967296*0)=n by omega] at this
theorem ptA {α:Type _} {i:Nat} {a:α} {l:List α}:l.toArray.setIfInBounds i a=(l.set i a).toArray:=List.setIfInBounds_toArray ..
theorem ptB {α:Type _} {x:α} {xs:List α} {a:α}:(x::xs).set 0 a=a::xs:=List.set_cons_zero
theorem ptC {α:Type _} {x:α} {xs:List α} {n:Nat} {a:α}:(x::xs).set (n+1) a=x::xs.set n a:=List.set_cons_succ
theorem mem1 {α:Type _} {P:α->Prop} {a:α} (h:P a):∀x∈[a],P x:=List.forall_mem_cons.2 ⟨h,fun _ h=>absurd h List.not_mem_nil⟩
end Go.Proofs.YtpoahodnakhmiaaGreat
