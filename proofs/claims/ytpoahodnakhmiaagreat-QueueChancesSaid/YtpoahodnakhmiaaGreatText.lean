import Derived.Test.YtpoahodnakhmiaaGreatList
import Derived.Laws.BytesString
set_option maxRecDepth 100000
namespace Go.Proofs.YtpoahodnakhmiaaGreat
set_option linter.unusedVariables false
set_option linter.unusedSimpArgs false
def chunk:Nat->Bool->Int->List Int
 | 0,_,_=>[]
 | n+1,more,d=>if more=true\/0<d then d%10::chunk n more (d / 10) else []
theorem zd4:∀(n:Nat) (more:Bool) (d:Int),Dig 10 (chunk n more d):=by
 intro n
 induction n with
 | zero=>intro more d;exact Dig.nil _
 | succ n ih=>
  intro more d
  unfold chunk
  split
  ·exact Dig.cons.2 ⟨by omega,ih _ _⟩
  ·exact Dig.nil _
theorem zd5:∀(n:Nat) (more:Bool) (d:Int),0<=d->d<10^n->val 10 (chunk n more d)=d:=by
 intro n
 induction n with
 | zero=>intro more d h0 h1;simp at h1;simp[chunk,val];omega
 | succ n ih=>
  intro more d h0 h1
  unfold chunk
  split
  ·simp only[val]
   rw[ih more (d / 10) (by omega) (by rw[Int.pow_succ] at h1;omega)]
   omega
  ·rename_i h
   simp only[val]
   have:¬0<d:=fun hd=>h (Or.inr hd)
   omega
theorem zd6:∀(n:Nat) (d:Int),(chunk n true d).length=n:=by
 intro n
 induction n with
 | zero=>intro d;rfl
 | succ n ih=>intro d;unfold chunk;simp[ih]
theorem zjz:∀(n:Nat) (d:Int),0<=d->d<10^n->Norm (chunk n false d):=by
 intro n
 induction n with
 | zero=>intro d _ _;exact Norm.nil
 | succ n ih=>
  intro d h0 h1
  unfold chunk
  split
  ·rename_i h
   have hd:0<d:=by simpa using h
   have h2:d / 10<10^n:=by rw[Int.pow_succ] at h1;omega
   refine Norm.cons.2 ⟨fun he=>?_,ih _ (by omega) h2⟩
   have:=zd5 n false (d / 10) (by omega) h2
   rw[he] at this
   simp[val] at this
   omega
  ·exact Norm.nil
def decOf (x:Nat):List Int:=if x=0 then [] else ((x%10:Nat):Int)::decOf (x / 10)
termination_by x
decreasing_by omega
theorem zd7 (x:Nat):Dig 10 (decOf x):=by
 induction x using Nat.strongRecOn with
 | _ x ih=>
  rw[decOf]
  split
  ·exact Dig.nil _
  ·exact Dig.cons.2 ⟨by omega,ih _ (by omega)⟩
theorem zbQ (x:Nat):val 10 (decOf x)=x:=by
 induction x using Nat.strongRecOn with
 | _ x ih=>
  rw[decOf]
  split
  ·rename_i h;simp[val,h]
  ·simp only[val];rw[ih _ (by omega)];omega
theorem zdD (x:Nat):Norm (decOf x):=by
 induction x using Nat.strongRecOn with
 | _ x ih=>
  rw[decOf]
  split
  ·exact Norm.nil
  ·rename_i h
   refine Norm.cons.2 ⟨fun he=>?_,ih _ (by omega)⟩
   have:=zbQ (x / 10)
   rw[he] at this
   simp[val] at this
   omega
theorem zhO {ds:List Int} (h:Dig 10 ds) (hn:Norm ds):ds=decOf (val 10 ds).toNat:=by
 refine zgo (by omega) h (zd7 _) hn (zdD _) ?_
 rw[zbQ]
 have:=zC (B:=10) (by omega) h
 omega
def asc (ds:List Int):List Int:=ds.map fun d=>48+d
theorem zau (a:List Int):(asc a).length=a.length:=by simp[asc]
def decText (x:Int):List Int:=if x=0 then [48] else (asc (decOf x.toNat)).reverse
theorem zfi {ds:List Int} {x:Int} (h:Dig 10 ds) (hn:Norm ds) (hv:val 10 ds=x) (hx:x≠0):(asc ds).reverse=decText x:=by
 unfold decText
 rw[if_neg hx,<-hv,<-zhO h hn]
theorem zcJ (x:Nat) (n:Nat) (h:(x:Int)<10^n):(decOf x).length<=n:=by
 rcases Nat.lt_or_ge n (decOf x).length with hlt|hge
 ·have h1:=zZ (B:=10) (by omega) (zd7 x) (zdD x) (by intro e;rw[e] at hlt;simp at hlt)
  rw[zbQ] at h1
  have h2:=zt (B:=10) (by omega) (show n<=(decOf x).length-1 by omega)
  omega
 ·exact hge
theorem ziT (L:Nat):(4294967296:Int)^L<=10^(11*L):=by
 induction L with
 | zero=>simp
 | succ L ih=>
  have h0:(0:Int)<10^(11*L):=Int.pow_pos (by omega)
  have e:(10:Int)^(11*(L+1))=10^(11*L)*100000000000:=by
   rw[show 11*(L+1)=11*L+11 by omega,Int.pow_add];rfl
  have e2:(4294967296:Int)^(L+1)=4294967296^L*4294967296:=Int.pow_succ _ _
  rw[e,e2]
  omega
theorem zfJ (x:Int) (L:Nat) (h0:0<=x) (h:x<4294967296^L):(decText x).length<=11*L+1:=by
 unfold decText
 split
 ·simp
 ·rw[List.length_reverse,zau]
  have:=zcJ x.toNat (11*L) (by have:=ziT L;omega)
  omega
theorem zd8:decText 0=[48]:=rfl
def str (ns:List Int):ByteArray:=⟨(ns.map fun n=>UInt8.ofNat n.toNat).toArray⟩
theorem zk7 (ns:List Int):ns.foldl (fun r n=>r.push (UInt8.ofNat n.toNat)) ByteArray.empty=str ns:=by
 have:∀(ns:List Int) (b:ByteArray),ns.foldl (fun r n=>r.push (UInt8.ofNat n.toNat)) b=⟨b.data++(ns.map fun n=>UInt8.ofNat n.toNat).toArray⟩:=by
  intro ns
  induction ns with
  | nil=>intro b;cases b;simp
  | cons n ns ih=>intro b;rw[List.foldl_cons,ih];simp[ByteArray.push]
 rw[this,show ByteArray.empty.data=#[] from rfl]
 simp[str]
theorem zK (a:List Int):(str a).size=a.length:=by simp[str,ByteArray.size]
theorem zbY (a b:List Int):str a++str b=str (a++b):=by
 apply ByteArray.ext
 simp[str]
def intText (x:Int):List Int:=(if x<0 then [45] else [])++decText (x.natAbs:Int)
def ratText (q:Rat):List Int:=intText q.num++(if q.den=1 then [] else 47::decText (q.den:Int))
theorem zev {x y:Int} (hx:0<=x) (hy:0<=y) (h:decText x=decText y):x=y:=by
 have key:∀z:Int,0<=z->z≠0->∀u,decText z=u->val 10 (u.reverse.map fun d=>d-48)=z:=by
  intro z hz0 hz u hu
  rw[<-hu]
  unfold decText
  rw[if_neg hz,List.reverse_reverse]
  simp only[asc,List.map_map]
  have:((fun d=>d-48) ∘ fun d:Int=>48+d)=id:=by funext d;simp;omega
  rw[this,List.map_id,zbQ];omega
 by_cases h1:x=0
 ·by_cases h2:y=0
  ·omega
  ·have:=key y hy h2 _ h.symm
   rw[h1] at this;simp[zd8,val] at this;omega
 ·by_cases h2:y=0
  ·have:=key x hx h1 _ h
   rw[h2] at this;simp[zd8,val] at this;omega
  ·have a:=key x hx h1 _ h
   have b:=key y hy h2 _ rfl
   exact a.symm.trans b
open Go.RowKit
theorem Tryz.u8T:zdj Tryz.prog 194 5 .u8 1:=⟨by kernel_rfl,by kernel_rfl,by decide⟩
theorem zd9 {P:Program} (w:World) (src dst e:TypeId) (g c:Nat) (xs:List Int) (rest:List Value) (h:Cel w g e .u8 xs rest)
  (hs:P.underlying src=some (.slice e)) (he:P.underlying e=some (.int .u8)) (hd:P.underlying dst=some .string):
  (convert src dst (.slice (some ⟨g,0,none⟩) xs.length c)).run P w=.ok (.string (str xs)) w:=by
 rw[run_convert_bytes_string w src dst e _ _ _ hs he hd,run_bytesToString w ⟨g,0,none⟩ xs.length c xs ?_,zk7]
 have:=run_loadCells_list (P:=P) w ⟨g,0,none⟩ (xs.map (Value.int .u8)) (by
  intro j v hj
  rw[List.getElem?_map,Option.map_eq_some_iff] at hj
  obtain⟨x,hx,rfl⟩:=hj
  have hjx:j<xs.length:=(List.getElem?_eq_some_iff.1 hx).1
  have:=h.cell hjx
  rw[List.getD,hx] at this
  rw[show (Addr.add ⟨g,0,none⟩ j)=⟨g,j,none⟩ by unfold Addr.add;split <;> simp_all]
  exact this)
 rw[List.length_map] at this
 exact this
theorem zk8 (x:Int) (L:Nat) (hx:x<4294967296^L):∀(u:Int) (n:Nat) (y:Int),0<=u->0<y->u+10^n*y=x->n<=11*L:=by
 intro u n y hu hy h
 rcases Nat.lt_or_ge (11*L) n with hlt|hge
 ·have h1:=ziT L
  have h2:=zt (B:=10) (by omega) (show 11*L<=n by omega)
  have h3:(0:Int)<10^n:=Int.pow_pos (by omega)
  have h4:(10:Int)^n*1<=10^n*y:=Int.mul_le_mul_of_nonneg_left (by omega) (by omega)
  omega
 ·exact hge
theorem zgj (ds es:List Int) (y x:Int) (more:Bool) (hm:more=false↔y / 1000000000=0) (he:es=chunk 9 more (y%1000000000)) (hv:val 10 ds+10^ds.length*y=x) (hy:0<y) (hd:Dig 10 ds):
  Dig 10 (ds++es)/\val 10 (ds++es)+10^(ds++es).length*(y / 1000000000)=x/\(y / 1000000000=0->Norm (ds++es)):=by
 have h0:0<=y%1000000000:=Int.emod_nonneg _ (by omega)
 have h1:y%1000000000<10^9:=Int.emod_lt_of_pos _ (by omega)
 have hc:=zd5 9 more (y%1000000000) h0 h1
 have hcd:=zd4 9 more (y%1000000000)
 have hcl:=zd6 9 (y%1000000000)
 have hcn:=zjz 9 (y%1000000000) h0 h1
 have hdiv:=Int.emod_add_mul_ediv y 1000000000
 rw[<-he] at hc hcd
 refine⟨hd.append hcd,?_,fun hz=>?_⟩
 ·rw[zag,hc,List.length_append,Int.pow_add]
  cases more
  ·have hz:=hm.1 rfl
   rw[hz] at hdiv ⊢
   rw[Int.mul_zero,Int.add_zero] at hdiv
   rw[hdiv,<-hv];simp
  ·rw[he,hcl]
   rw[show (10:Int)^9=1000000000 from rfl]
   rw[<-hv]
   generalize (10:Int)^ds.length=p at *
   generalize y / 1000000000=q at *
   generalize y%1000000000=r at *
   subst hdiv
   grind
 ·have hmf:=hm.2 hz
  subst hmf
  rw[<-he] at hcn
  refine Norm.of_last fun hl=>?_
  have hne:es≠[]:=by
   intro e
   rw[e] at hc
   simp[val] at hc
   rw[hz] at hdiv
   omega
  have hle:0<es.length:=List.length_pos_iff.2 hne
  have:=hcn.last hle
  rw[List.length_append]
  have e:(ds++es).getD (ds.length+es.length-1) 0=es.getD (es.length-1) 0:=by
   simp only[List.getD]
   rw[List.getElem?_append_right (by omega)]
   congr 2
   omega
  rw[e];exact this
def strR (w:World) (s:List Int) (v:Value) (w':World):Prop:=v=.string (str s)/\Below w.heap.size w w'
theorem zbZ (w:World) (v:Value) (x:Int) (L:Nat) (hx:NatV w v x L) (hL:L<=1073741824):
  Calls Tryz.prog 137 #[v] w (Ret (strR w (decText x))):=by
 obtain⟨A,c,xs,rfl,hc,hm,h,hd,hn,hv,hl⟩:=hx.open_
 by_cases h0:0<xs.length
 ·have hz:((xs.length:Int) == 0)=false:=by simp;intro e;rw[e] at h0;simp at h0
  go_enter Tryz.func137,Tryz.ntmps137
  go_wp2
  have hx0:=hx.nonneg
  have hxp:0<x:=by rw[<-hv];exact zaQ (by omega) hd hn (by intro e;subst e;simp at h0)
  have hxL:x<4294967296^L:=by
   have h1:=zam (B:=4294967296) (by omega) hd
   have h2:=zt (B:=4294967296) (by omega) hl
   omega
  have HLN:=hide (zk8 x L hxL)
  have HX:=hide hx;clear hx h hd hn hv hxL
  go_loopg [0,3,4] (x.toNat) (fun gh s0 s3 s4 wr=>∃(y:Int) (ds:List Int),NatV wr s0 y L/\OwnI wr w.heap.size 5 .u8 s3 (asc ds)/\Dig 10 ds/\val 10 ds+10^ds.length*y=x/\(y=0->Norm ds)/\gh=y.toNat/\Below w.heap.size w wr)
  case atStart=>exact⟨x,[],HX.out,OwnI.nil _ _ _ _,Dig.nil _,by simp[val],fun _=>Norm.nil,rfl,blr _ _⟩
  case round=>
   obtain⟨y,ds,hy,hown,hdd,hval,hnorm,rfl,hbel⟩:=hrel
   have hy0:=hy.nonneg
   obtain⟨B,cb,ys,rfl,hcb,hmb,hyb,hyd,hyn,hyv,hyl⟩:=hy.open_
   by_cases hy1:0<ys.length
   ·have hyp:0<y:=by rw[<-hyv];exact zaQ (by omega) hyd hyn (by intro e;subst e;simp at hy1)
    have HY:=hide (ai hy (ai hdd (ai hval hnorm)));clear hy hdd hval hnorm hyb hyd hyn hyv
    have hr0:0<=y%1000000000:=Int.emod_nonneg _ (by omega)
    have hr1:y%1000000000<1000000000:=Int.emod_lt_of_pos _ (by omega)
    go_wp2_with fail
    refine(zeQ _ _ y 1000000000 L HY.out.1 (by omega) (by omega) (by omega)).mono ?_
    rintro e w1 ⟨_,rfl,Bq,nq,cq,rfl,hqf,hBq,hq,hb1⟩
    obtain⟨Aq,cq',qs,eq,hcq,hmq,_,_,_,_,hql⟩:=hq.open_
    injection eq with eq1 eq2 eq3
    subst eq1 eq2 eq3
    have HQ:=hide (zbf hq)
    have hM:decide (0<qs.length)=false↔y / 1000000000=0:=by
     have:=HQ.out
     rw[decide_eq_false_iff_not]
     omega
    have HM:=hide hM;clear hM
    have hsep:u3.ownBlock≠some Bq:=fun e=>by
     have:=(hown.lt Bq e).2
     omega
    go_wp2
    go_loopw [3,4,5] (fun s3 s4 s5 wr2=>∃(k:Nat) (d:Int) (es:List Int),k<=9/\s5=.int .i64 k/\s4=.int .u32 d/\0<=d/\d<4294967296/\es.length<=k/\OwnI wr2 w.heap.size 5 .u8 s3 (asc (ds++es))/\es++chunk (9-k) (decide (0<qs.length)) d=chunk 9 (decide (0<qs.length)) (y%1000000000)/\NatV wr2 (.slice (some ⟨Bq,0,none⟩) qs.length cq) (y / 1000000000) L/\s3.ownBlock≠some Bq/\Bq<wr2.heap.size/\Below w.heap.size w wr2) (fun _ _ s5 _=>9-(intOf s5).toNat)
    case atStart=>exact⟨0,y%1000000000,[],by omega,rfl,rfl,hr0,by omega,nr _,by rw[List.append_nil];exact hown.keep hb1,rfl,hq,hsep,hBq,bnx hbel hb1⟩
    case round=>
     obtain⟨k,d,es,hk,rfl,rfl,hd0,hd1,hes,hown2,hch,hq2,hsep2,hBq2,hbel2⟩:=hrel
     have hesl:(asc (ds++es)).length<=17592186044000:=by
      have:=HLN.out (val 10 ds) ds.length y (zC (by omega) HY.out.2.1) hyp HY.out.2.2.1
      rw[zau,List.length_append];omega
     by_cases hk9:k<9
     ·have hm9:9-k=(9-(k+1))+1:=by omega
      by_cases hgo:decide (0<qs.length)=true\/0<d
      ·rw[hm9,chunk,if_pos hgo] at hch
       have HC:=hide hch;clear hch
       have HE:=hide hesl;clear hesl
       by_cases hq0:0<qs.length
       ·clear hgo
        go_wp2_with (at_builtin;refine app1x Tryz.u8T _ rfl _ _ rfl w.heap.size _ (asc (ds++es)) (48+d%10) rfl (hown2.keep ((blr _ _).alloc (nr _) _)) ⟨wr.heap.size,0,none⟩ _ rfl (by simp[World.cell?_alloc_new]) HE.out (by have:=hbel2.size;simp;omega) ?_;intro g c1 w2 hown3 _ _ hb2 hgr2 hor2 hlt2;have HB2:=hide (ai hb2 (ai hgr2 (ai hor2 hlt2)));clear hb2 hgr2 hor2 hlt2)
        go_roundw
        case rel=>
         obtain⟨hb2,hgr2,hor2,hlt2⟩:=HB2.out
         refine⟨k+1,d / 10,es++[d%10],by omega,by go_num,rfl,by omega,by omega,by simp;omega,?_,?_,?_,?_,?_,?_⟩
         ·have e:asc (ds++(es++[d%10]))=asc (ds++es)++[48+d%10]:=by simp[asc]
          rw[e]
          have hl2:(asc (ds++es)).length+1=(asc (ds++es)++[48+d%10]).length:=by simp
          exact hown3
         ·rw[List.append_assoc,List.singleton_append];exact HC.out
         ·exact(hq2.below ((blr _ _).alloc (nr _) _)).only hgr2 hsep2
         ·intro e
          simp only[Value.ownBlock,Option.some.injEq] at e
          subst e
          rcases hor2 with h|h
          ·exact hsep2 h
          ·simp at h;omega
         ·have:=hgr2.size;simp at this;omega
         ·exact(hbel2.alloc hbel2.size _).trans hb2
        case measure=>simp[intOf];omega
       ·have hd2:0<d:=by
         rcases hgo with h|h
         ·exact absurd (of_decide_eq_true h) hq0
         ·exact h
        clear hgo
        go_wp2_with (at_builtin;refine app1x Tryz.u8T _ rfl _ _ rfl w.heap.size _ (asc (ds++es)) (48+d%10) rfl (hown2.keep ((blr _ _).alloc (nr _) _)) ⟨wr.heap.size,0,none⟩ _ rfl (by simp[World.cell?_alloc_new]) HE.out (by have:=hbel2.size;simp;omega) ?_;intro g c1 w2 hown3 _ _ hb2 hgr2 hor2 hlt2;have HB2:=hide (ai hb2 (ai hgr2 (ai hor2 hlt2)));clear hb2 hgr2 hor2 hlt2)
        go_roundw
        case rel=>
         obtain⟨hb2,hgr2,hor2,hlt2⟩:=HB2.out
         refine⟨k+1,d / 10,es++[d%10],by omega,by go_num,rfl,by omega,by omega,by simp;omega,?_,?_,?_,?_,?_,?_⟩
         ·have e:asc (ds++(es++[d%10]))=asc (ds++es)++[48+d%10]:=by simp[asc]
          rw[e]
          have hl2:(asc (ds++es)).length+1=(asc (ds++es)++[48+d%10]).length:=by simp
          exact hown3
         ·rw[List.append_assoc,List.singleton_append];exact HC.out
         ·exact(hq2.below ((blr _ _).alloc (nr _) _)).only hgr2 hsep2
         ·intro e
          simp only[Value.ownBlock,Option.some.injEq] at e
          subst e
          rcases hor2 with h|h
          ·exact hsep2 h
          ·simp at h;omega
         ·have:=hgr2.size;simp at this;omega
         ·exact(hbel2.alloc hbel2.size _).trans hb2
        case measure=>simp[intOf];omega
      ·rw[hm9,chunk,if_neg hgo,List.append_nil] at hch
       have hq0:¬0<qs.length:=fun h=>hgo (Or.inl (decide_eq_true h))
       have hd2:¬0<d:=fun h=>hgo (Or.inr h)
       clear hgo
       have HC:=hide hch;clear hch
       go_wp2
       go_roundg (y / 1000000000).toNat
       case measure=>omega
       case rel=>
        obtain⟨t1,t2,t3⟩:=zgj ds es y x _ HM.out HC.out HY.out.2.2.1 hyp HY.out.2.1
        exact⟨y / 1000000000,ds++es,hq2,hown2,t1,t2,t3,rfl,hbel2⟩
     ·rw[show 9-k=0 by omega,chunk,List.append_nil] at hch
      have HC:=hide hch;clear hch
      go_wp2
      go_roundg (y / 1000000000).toNat
      case measure=>omega
      case rel=>
       obtain⟨t1,t2,t3⟩:=zgj ds es y x _ HM.out HC.out HY.out.2.2.1 hyp HY.out.2.1
       exact⟨y / 1000000000,ds++es,hq2,hown2,t1,t2,t3,rfl,hbel2⟩
   ·obtain rfl:ys=[]:=List.eq_nil_of_length_eq_zero (by omega)
    obtain rfl:y=0:=by rw[<-hyv];rfl
    rw[Int.mul_zero,Int.add_zero] at hval
    have hdne:ds≠[]:=by intro e;subst e;simp[val] at hval;omega
    have hdl:0<(asc ds).length:=by rw[zau];exact List.length_pos_iff.2 hdne
    obtain⟨g,cg,rest,rfl,hgb,hgc,hgm,hcel⟩:=hown.cel hdl
    have HY:=hide (ai hdd (ai hval (ai (hnorm rfl) hcel)));clear hdd hval hnorm hcel hown hy hyb hyd hyn hyv
    go_wp2_with fail
    refine(zj7 _ g cg (asc ds) rest hdl hgc hgm HY.out.2.2.2).mono ?_
    rintro e w1 ⟨_,rfl,rfl,hcel,hgr,hsz⟩
    have hl2:(asc ds).length=(asc ds).reverse.length:=by simp
    have hconv:=zd9 w1 194 9 5 g cg (asc ds).reverse rest hcel (P:=Tryz.prog) (by kernel_rfl) (by kernel_rfl) (by kernel_rfl)
    rw[<-hl2] at hconv;clear hl2
    have HG:=hide (ai hcel (ai hgr hsz));clear hcel hgr hsz
    go_wp2
    go_ret
    have hne:x≠0:=by omega
    refine⟨_,rfl,?_,only_below hbel HG.out.2.1 hbel.size hgb⟩
    have:=zfi HY.out.1 HY.out.2.2.1 HY.out.2.1 hne
    rw[<-this]
    rfl
 ·obtain rfl:xs=[]:=List.eq_nil_of_length_eq_zero (by omega)
  go_enter Tryz.func137,Tryz.ntmps137
  go_wp2
  go_ret
  have:x=0:=by rw[<-hv];rfl
  subst this
  exact⟨_,rfl,rfl,blr _ _⟩
theorem NatV.lt {w:World} {v:Value} {x:Int} {L:Nat} (h:NatV w v x L):x<4294967296^L:=by
 obtain⟨A,c,xs,rfl,h1,h2,h3,h4,h5,rfl,h7⟩:=h
 have a:=zam (B:=4294967296) (by omega) h4
 have b:=zt (B:=4294967296) (by omega) h7
 omega
theorem NatV.text_size {w:World} {v:Value} {x:Int} {L:Nat} (h:NatV w v x L) (hL:L<=1073741824):(str (decText x)).size<=100000000000:=by
 have:=zfJ x L h.nonneg h.lt
 rw[zK];omega
def fracText (b:Bool) (x:Int) (n:Nat) (y:Int):List Int:=(if b=true then [45] else [])++decText x++(if n=0 then [] else 47::decText y)
theorem za9 (w:World) (a:Value) (q:Rat) (L:Nat) (ha:RatV w a q L) (hL:L<=1073741800):
  Calls Tryz.prog 80 #[a] w (Ret (strR w (ratText q))):=by
 obtain⟨n1,l1,rfl,h1,g1⟩:=ha
 obtain⟨A1,c1,xs1,rfl,_⟩:=h1.open_
 obtain⟨A2,c2,xs2,rfl,_⟩:=g1.open_
 have hz:=zbf g1
 have hR:ratText q=fracText (decide (q.num<0)) (q.num.natAbs:Int) xs2.length (q.den:Int):=by
  unfold ratText intText fracText
  have hdp:=zG q
  have:(q.den=1)=(xs2.length=0):=by rw[eq_iff_iff];omega
  simp only[this,decide_eq_true_eq]
 have HA:=hide (ai h1 g1);clear h1 g1 hz
 obtain⟨b1,hs1⟩:∃s,s=decide (q.num<0):=⟨_,rfl⟩
 rw[hR];clear hR
 rw[<-hs1];clear hs1
 have hb0:Below w.heap.size w (w.alloc (.cells #[.bool b1,.slice A1 xs1.length c1,.slice A2 xs2.length c2] 43)):=(blr _ _).alloc (nr _) _
 have hs0:=zL w (.cells #[.bool b1,.slice A1 xs1.length c1,.slice A2 xs2.length c2] 43)
 cases b1 <;> rcases Nat.eq_zero_or_pos xs2.length with h0|h0
 ·have hd:decide (0<xs2.length)=false:=by simp[h0]
  have H0:=hide h0;clear h0
  go_enter Tryz.func80,Tryz.ntmps80
  go_wp2_with fail
  refine(zbZ _ _ _ L (HA.out.1.below hb0) (by omega)).mono ?_
  rintro e w1 ⟨_,rfl,rfl,hd1⟩
  have hs1:=zh hs0 hd1 (by simp)
  obtain⟨k0,k1,k2,f0,f1,f2,ks⟩:=box3 hs1
  have z1:=HA.out.1.text_size (by omega)
  have hb1:=bnx hb0 hd1
  go_wp2
  go_ret
  refine⟨_,rfl,?_,hb1⟩
  have h0:=H0.out
  have e:fracText false (q.num.natAbs:Int) xs2.length (q.den:Int)=decText (q.num.natAbs:Int):=by
   unfold fracText
   rw[if_pos h0]
   simp
  rw[e]
  skip
  rfl
 ·have hd:decide (0<xs2.length)=true:=by simp[h0]
  have H0:=hide h0;clear h0
  go_enter Tryz.func80,Tryz.ntmps80
  go_wp2_with fail
  refine(zbZ _ _ _ L (HA.out.1.below hb0) (by omega)).mono ?_
  rintro e w1 ⟨_,rfl,rfl,hd1⟩
  have hs1:=zh hs0 hd1 (by simp)
  obtain⟨k0,k1,k2,f0,f1,f2,ks⟩:=box3 hs1
  have z1:=HA.out.1.text_size (by omega)
  have hb1:=bnx hb0 hd1
  go_wp2_with fail
  refine(zar _ _ _ _ ((q.den:Int)-1) L (HA.out.2.below hb1) (by omega)).mono ?_
  rintro e w2 ⟨u2,rfl,q2,hd2⟩
  rw[show (q.den:Int)-1+1=q.den from by omega] at q2
  have hb2:=bnx hb1 hd2
  go_wp2_with fail
  refine(zbZ _ _ _ (L+2) q2 (by omega)).mono ?_
  rintro e w3 ⟨_,rfl,rfl,hd3⟩
  have hb3:=bnx hb2 hd3
  have z2:=q2.text_size (by omega)
  go_wp2
  go_ret
  refine⟨_,rfl,?_,hb3⟩
  have h0:=H0.out
  have e:fracText false (q.num.natAbs:Int) xs2.length (q.den:Int)=decText (q.num.natAbs:Int)++([47]++decText (q.den:Int)):=by
   unfold fracText
   rw[if_neg (show ¬xs2.length=0 by omega)]
   simp
  rw[e]
  simp only[<-zbY]
  rfl
 ·have hd:decide (0<xs2.length)=false:=by simp[h0]
  have H0:=hide h0;clear h0
  go_enter Tryz.func80,Tryz.ntmps80
  go_wp2_with fail
  refine(zbZ _ _ _ L (HA.out.1.below hb0) (by omega)).mono ?_
  rintro e w1 ⟨_,rfl,rfl,hd1⟩
  have hs1:=zh hs0 hd1 (by simp)
  obtain⟨k0,k1,k2,f0,f1,f2,ks⟩:=box3 hs1
  have z1:=HA.out.1.text_size (by omega)
  have hb1:=bnx hb0 hd1
  go_wp2
  go_ret
  refine⟨_,rfl,?_,hb1⟩
  have h0:=H0.out
  have e:fracText true (q.num.natAbs:Int) xs2.length (q.den:Int)=[45]++decText (q.num.natAbs:Int):=by
   unfold fracText
   rw[if_pos h0]
   simp
  rw[e]
  simp only[<-zbY]
  rfl
 ·have hd:decide (0<xs2.length)=true:=by simp[h0]
  have H0:=hide h0;clear h0
  go_enter Tryz.func80,Tryz.ntmps80
  go_wp2_with fail
  refine(zbZ _ _ _ L (HA.out.1.below hb0) (by omega)).mono ?_
  rintro e w1 ⟨_,rfl,rfl,hd1⟩
  have hs1:=zh hs0 hd1 (by simp)
  obtain⟨k0,k1,k2,f0,f1,f2,ks⟩:=box3 hs1
  have z1:=HA.out.1.text_size (by omega)
  have hb1:=bnx hb0 hd1
  go_wp2_with fail
  refine(zar _ _ _ _ ((q.den:Int)-1) L (HA.out.2.below hb1) (by omega)).mono ?_
  rintro e w2 ⟨u2,rfl,q2,hd2⟩
  rw[show (q.den:Int)-1+1=q.den from by omega] at q2
  have hb2:=bnx hb1 hd2
  go_wp2_with fail
  refine(zbZ _ _ _ (L+2) q2 (by omega)).mono ?_
  rintro e w3 ⟨_,rfl,rfl,hd3⟩
  have hb3:=bnx hb2 hd3
  have z2:=q2.text_size (by omega)
  go_wp2
  go_ret
  refine⟨_,rfl,?_,hb3⟩
  have h0:=H0.out
  have e:fracText true (q.num.natAbs:Int) xs2.length (q.den:Int)=[45]++decText (q.num.natAbs:Int)++([47]++decText (q.den:Int)):=by
   unfold fracText
   rw[if_neg (show ¬xs2.length=0 by omega)]
   simp
  rw[e]
  simp only[<-zbY]
  rfl
end Go.Proofs.YtpoahodnakhmiaaGreat
