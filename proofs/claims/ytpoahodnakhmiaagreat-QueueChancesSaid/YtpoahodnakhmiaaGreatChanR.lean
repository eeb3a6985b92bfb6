import Derived.Test.YtpoahodnakhmiaaGreatConstR
import Derived.Test.YtpoahodnakhmiaaGreatVisW
import Derived.Deep.Slices
import Derived.SizedLaws
import Derived.OpenShut
import Derived.WideKeyArr2
set_option maxRecDepth 100000
namespace Go.Proofs.YtpoahodnakhmiaaGreat
set_option linter.unusedVariables false
set_option linter.unusedSimpArgs false
open Go.RowKit
theorem IntsT.arr {w:World} {A:Option Addr} {n c:Nat} {ks:List Int} (h:IntsT w (.slice A n c) ks):Arr w A .i64 ks:=fun h0=>by
 obtain⟨A',c',e,h1,h2,h3⟩:=h
 injection e with e _ _
 subst e
 obtain⟨b,o,rfl,ht,hc⟩:=h3 h0
 refine⟨b,o,rfl,ht,fun i hi=>?_⟩
 obtain⟨u,hs,hcu,rfl,-⟩:=hc i (ks.getD i 0) (by simp[List.getD,hi])
 have:=hcu 0 (by rw[hs];decide)
 rw[Nat.mul_one,Nat.add_zero] at this
 exact this
theorem Arr.intsT {w:World} {A:Option Addr} {c:Nat} {ks:List Int} (h:Arr w A .i64 ks) (hc:ks.length<=c) (hm:c<=maxLen) (hr:∀x∈ks,-9223372036854775808<=x/\x<=9223372036854775807):IntsT w (.slice A ks.length c) ks:=by
 refine⟨A,c,rfl,hc,hm,fun h0=>?_⟩
 obtain⟨b,o,rfl,ht,hcl⟩:=h h0
 refine⟨b,o,rfl,ht,fun i x hx=>⟨.int .i64 x,rfl,?_,rfl,hr x (List.mem_of_getElem? hx)⟩⟩
 obtain⟨hi,e⟩:=List.getElem?_eq_some_iff.1 hx
 intro k hk
 obtain rfl:k=0:=by simp[Value.cells] at hk;omega
 have:=hcl i hi
 rw[Nat.mul_one,Nat.add_zero,this]
 simp[Value.cells,List.getD,hi,e]
theorem IntsT.below {w w':World} {v:Value} {ks:List Int} (h:IntsT w v ks) (hb:Below w.heap.size w w'):IntsT w' v ks:=za7 _ _ _ _ hb h
theorem zjQ {ks:List Int} {i:Nat} (h:i<ks.length):ks.getD i 0∈ks:=by
 rw[show ks.getD i 0=ks[i] by simp[List.getD,h]];exact List.getElem_mem h
def OkS (most:Int) (ks:List Int):Prop:=(∀x∈ks,0<=x)/\ks.sum<=most
instance (most:Int) (ks:List Int):Decidable (OkS most ks):=by unfold OkS;infer_instance
def stE (m:Nat) (most:Int) (ks:List Int):Int:=if ks.length≠m then 7 else if OkS most ks then 0 else 1
theorem OkS.le {most:Int} {ks:List Int} (h:OkS most ks) (i:Nat) (hi:i<ks.length):0<=ks.getD i 0/\ks.getD i 0<=most:=by
 have h1:=zah ks i hi
 have h2:=zal h.1 i
 have h3:=zal h.1 (i+1)
 exact⟨h.1 _ (zjQ hi),by have:=h.2;omega⟩
def OkT (most:Int) (ks:List Int) (i:Nat):Prop:=∀j,j<i->0<=ks.getD j 0/\ks.getD j 0<=most
theorem OkT.sum {most:Int} {ks:List Int} (h1:0<=most):∀(i:Nat),i<=ks.length->OkT most ks i->0<=(ks.take i).sum/\(ks.take i).sum<=most*i
 | 0,_,_=>by simp
 | i+1,hi,h=>by
  have ih:=OkT.sum h1 i (by omega) (fun j hj=>h j (by omega))
  have h2:=zah ks i (by omega)
  have h3:=h i (by omega)
  rw[h2]
  have e:most*((i+1:Nat):Int)=most*(i:Int)+most:=by rw[show ((i+1:Nat):Int)=(i:Int)+1 by omega,Int.mul_add,Int.mul_one]
  omega
theorem OkT.all {most:Int} {ks:List Int} (h:OkT most ks ks.length):∀x∈ks,0<=x:=fun x hx=>by
 obtain⟨i,hi,rfl⟩:=List.getElem_of_mem hx
 have:=(h i hi).1
 simpa[List.getD,hi] using this
theorem zoa (w:World) (v:Value) (ks:List Int) (h:IntsT w v ks) (h0:∀x∈ks,0<=x) (hs:ks.sum<=100):
  Calls Tryz.prog 90 #[v] w (Ret (fun u w'=>u=.int .i64 ks.sum/\Below w.heap.size w w')):=by
 obtain⟨A,c,rfl,hc1,hc2,hx⟩:=(IntsT.ints h).at_
 unfold maxLen at hc2
 have HX:=hide hx
 have H0:=hide h0
 clear h hx h0
 go_enter Tryz.func90,Tryz.ntmps90
 go_wp2_with fail
 go_loopw [3,4] (fun s3 s4 wr=>∃(i:Nat) (z:Int),i<=ks.length/\z=(ks.take i).sum/\s4=.int .i64 i/\s3=.int .i64 z/\Below w.heap.size w wr) (fun _ s4 _=>ks.length-(intOf s4).toNat)
 case atStart=>exact⟨0,0,Nat.zero_le _,by simp,rfl,rfl,blr _ _⟩
 case round=>
  obtain⟨i,z,hi,hz,rfl,rfl,hbel⟩:=hrel
  have hb1:=zal H0.out i
  by_cases hk:i<ks.length
  ·have i1:(i:Int)<(ks.length:Int):=by omega
   obtain⟨b,o,rfl,hcl⟩:=HX.out (by omega)
   have y0:=(hbel.cell (zf (hcl i hk))).trans (hcl i hk)
   have hb2:=zal H0.out (i+1)
   have hst:=zah ks i hk
   obtain⟨x,hx⟩:∃x,x=ks.getD i 0:=⟨_,rfl⟩
   rw[<-hx] at y0 hst
   have i2:IntKind.i64.wrap (z+x)=z+x:=IntWalk.i64_in _ (by omega)
   have HZ:=hide (show z+x=(ks.take (i+1)).sum by omega)
   have HB:=hide hbel
   clear hcl hb1 hb2 hst hx hz hbel
   go_wp2
   case roundEnd=>exact⟨⟨i+1,z+x,by omega,HZ.out,by go_num,rfl,HB.out⟩,by simp[intOf];omega⟩
  ·obtain rfl:i=ks.length:=by omega
   have i1:¬(ks.length:Int)<(ks.length:Int):=by omega
   rw[List.take_length] at hz
   have HZ:=hide hz
   have HB:=hide hbel
   clear hb1 hz hbel
   go_wp2
   refine bodyPost_ret (v:=.int .i64 z) ?_ rfl ⟨_,rfl,by rw[HZ.out],HB.out⟩
   simp[results,Tryz.results90,go_sem]
theorem zin (w:World) (vs v:Value) (R:List Rat) (Ws:List (List Rat)) (L:Nat) (ks:List Int) (hs:za2 w vs R Ws L) (h:IntsT w v ks) (h0:∀x∈ks,0<=x) (hsum:ks.sum<=100):
  Calls Tryz.prog 29 #[vs,v] w (Ret (fun u w'=>u=.bool (decide (ks.sum<=6))/\Below w.heap.size w w')):=by
 obtain⟨va,vb,rfl,hra,hwb⟩:=hs
 obtain⟨Ar,cr,rfl,-,-,-⟩:=id hra
 obtain⟨Aw,cw,rfl,-,-,-⟩:=id hwb
 obtain⟨A,c,rfl,hc1,hc2,hx⟩:=(IntsT.ints h).at_
 unfold maxLen at hc2
 have HX:=hide hx
 have H0:=hide h0
 clear h hx h0 hra hwb
 go_enter Tryz.func29,Tryz.ntmps29
 go_wp2_with fail
 obtain⟨W,hW⟩:∃W,W=w.alloc (.cells #[.slice Ar R.length cr,.slice Aw Ws.length cw] 28):=⟨_,rfl⟩
 have hb0:Below w.heap.size w W:=by rw[hW];exact za (blr _ _) _
 rw[<-hW]
 have HB0:=hide hb0
 clear hW hb0
 go_loopw [5,6] (fun s5 s6 wr=>∃(i:Nat) (z:Int),i<=ks.length/\z=(ks.take i).sum/\s6=.int .i64 i/\s5=.int .i64 z/\Below w.heap.size w wr) (fun _ s6 _=>ks.length-(intOf s6).toNat)
 case atStart=>exact⟨0,0,Nat.zero_le _,by simp,rfl,rfl,HB0.out⟩
 case round=>
  obtain⟨i,z,hi,hz,rfl,rfl,hbel⟩:=hrel
  have hb1:=zal H0.out i
  by_cases hk:i<ks.length
  ·have i1:(i:Int)<(ks.length:Int):=by omega
   obtain⟨b,o,rfl,hcl⟩:=HX.out (by omega)
   have y0:=(hbel.cell (zf (hcl i hk))).trans (hcl i hk)
   have hb2:=zal H0.out (i+1)
   have hst:=zah ks i hk
   obtain⟨x,hx⟩:∃x,x=ks.getD i 0:=⟨_,rfl⟩
   rw[<-hx] at y0 hst
   have i2:IntKind.i64.wrap (z+x)=z+x:=IntWalk.i64_in _ (by omega)
   have HZ:=hide (show z+x=(ks.take (i+1)).sum by omega)
   have HB:=hide hbel
   clear hcl hb1 hb2 hst hx hz hbel
   go_wp2
   case roundEnd=>exact⟨⟨i+1,z+x,by omega,HZ.out,by go_num,rfl,HB.out⟩,by simp[intOf];omega⟩
  ·obtain rfl:i=ks.length:=by omega
   have i1:¬(ks.length:Int)<(ks.length:Int):=by omega
   rw[List.take_length] at hz
   have HZ:=hide hz
   have HB:=hide hbel
   clear hb1 hz hbel
   go_wp2
   refine bodyPost_ret (v:=.bool (decide (z<=6))) ?_ rfl ⟨_,rfl,by rw[HZ.out],HB.out⟩
   simp[results,Tryz.results29,go_sem]
theorem zmG (w:World) (vs v:Value) (R:List Rat) (Ws:List (List Rat)) (L m:Nat) (most:Int) (ks:List Int) (hs:za2 w vs R Ws L) (h:IntsT w v ks) (hR:R.length=m) (hm:m<=8) (hmost:0<=most) (hmost2:most<=12):
  Calls Tryz.prog 27 #[vs,v,.int .i64 most] w (Ret (fun u w'=>u=.int .i64 (stE m most ks)/\Below w.heap.size w w')):=by
 obtain⟨va,vb,rfl,hra,hwb⟩:=hs
 obtain⟨Ar,cr,rfl,-,-,-⟩:=id hra
 obtain⟨Aw,cw,rfl,-,-,-⟩:=id hwb
 obtain⟨A,c,rfl,hc1,hc2,hx⟩:=(IntsT.ints h).at_
 unfold maxLen at hc2
 rw[hR]
 have HX:=hide hx
 obtain⟨W,hW⟩:∃W,W=w.alloc (.cells #[.slice Ar m cr,.slice Aw Ws.length cw] 28):=⟨_,rfl⟩
 have hb0:Below w.heap.size w W:=by rw[hW];exact za (blr _ _) _
 have hsb:W.heap[w.heap.size]?=some (.cells #[.slice Ar m cr,.slice Aw Ws.length cw] 28 (0,0)):=by rw[hW];exact zj _ _
 have HB0:=hide hb0
 have HL:=hide hW
 obtain⟨y0,y1,-,-⟩:=ze hsb
 have hly:=lt_of_block hsb
 clear h hx hra hwb hR hb0 hsb hW
 by_cases hlen:ks.length=m
 ·have e0:stE m most ks=if OkS most ks then 0 else 1:=by unfold stE;rw[if_neg (by omega)]
  have HE0:=hide e0
  have i0:(((ks.length:Nat):Int) == ((m:Nat):Int))=true:=by rw[hlen];simp
  have i0b:((ks.length:Nat):Int)=((m:Nat):Int):=by omega
  have HLN:=hide hlen
  clear e0 hlen
  go_enter Tryz.func27,Tryz.ntmps27
  go_upto_region 1 with fail
  rw[<-HL.out]
  go_upto_region 3 with fail
  clear y0 y1 hly i0 i0b
  go_wp2_with fail
  go_loopw [7,8,6] (fun s7 s8 s6 wr=>∃(i:Nat) (z:Int),i<=ks.length/\z=(ks.take i).sum/\OkT most ks i/\s8=.int .i64 i/\s7=.int .i64 z/\Below w.heap.size w wr) (fun _ s8 _ _=>ks.length-(intOf s8).toNat)
  case atStart=>exact⟨0,0,Nat.zero_le _,by simp,fun j hj=>absurd hj (Nat.not_lt_zero _),rfl,rfl,HB0.out⟩
  case round=>
   obtain⟨i,z,hi,hz,hok,rfl,rfl,hbel⟩:=hrel
   have hb1:=hok.sum hmost i hi
   have hb3:most*(i:Int)<=12*8:=Int.mul_le_mul hmost2 (by have:=HLN.out;omega) (by omega) (by omega)
   by_cases hk:i<ks.length
   ·have i1:(i:Int)<(ks.length:Int):=by omega
    obtain⟨b,o,rfl,hcl⟩:=HX.out (by omega)
    have y0:=(hbel.cell (zf (hcl i hk))).trans (hcl i hk)
    have hst:=zah ks i hk
    obtain⟨x,hx⟩:∃x,x=ks.getD i 0:=⟨_,rfl⟩
    rw[<-hx] at y0 hst
    have HB:=hide hbel
    have HO:=hide hok
    have HXX:=hide hx
    have HST:=hide (ai hst hz)
    clear hcl hst hx hbel hok hz
    by_cases q1:x<0
    ·have hno:¬OkS most ks:=fun h=>by have:=h.le i hk;have:=HXX.out;omega
     have HEE:=hide (HE0.out.trans (if_neg hno))
     clear hno
     go_wp2
     refine bodyPost_ret (v:=.int .i64 1) ?_ rfl ⟨_,rfl,by rw[HEE.out],HB.out⟩
     simp[results,Tryz.results27,go_sem]
    ·by_cases q2:most<x
     ·have hno:¬OkS most ks:=fun h=>by have:=h.le i hk;have:=HXX.out;omega
      have HEE:=hide (HE0.out.trans (if_neg hno))
      clear hno
      go_wp2
      refine bodyPost_ret (v:=.int .i64 1) ?_ rfl ⟨_,rfl,by rw[HEE.out],HB.out⟩
      simp[results,Tryz.results27,go_sem]
     ·have i2:IntKind.i64.wrap (z+x)=z+x:=IntWalk.i64_in _ (by have:=HST.out;omega)
      have HZ:=hide (show z+x=(ks.take (i+1)).sum by have:=HST.out;omega)
      have HO2:=hide (show OkT most ks (i+1) from fun j hj=>by
       by_cases hji:j<i
       ·exact HO.out j hji
       ·obtain rfl:j=i:=by omega
        have:=HXX.out;omega)
      clear hb1 hb3
      go_wp2
      case roundEnd=>exact⟨⟨i+1,z+x,by omega,HZ.out,HO2.out,by go_num,rfl,HB.out⟩,by simp[intOf];omega⟩
   ·obtain rfl:i=ks.length:=by omega
    have i1:¬(ks.length:Int)<(ks.length:Int):=by omega
    rw[List.take_length] at hz
    have HA:=hide hok.all
    have HZ:=hide hz
    have HB:=hide hbel
    clear hb1 hb3 hz hbel hok
    by_cases q1:most<z
    ·have hno:¬OkS most ks:=fun h=>by have:=h.2;have:=HZ.out;omega
     have HEE:=hide (HE0.out.trans (if_neg hno))
     clear hno
     go_wp2
     refine bodyPost_ret (v:=.int .i64 1) ?_ rfl ⟨_,rfl,by rw[HEE.out],HB.out⟩
     simp[results,Tryz.results27,go_sem]
    ·have hyes:OkS most ks:=⟨HA.out,by have:=HZ.out;omega⟩
     have HEE:=hide (HE0.out.trans (if_pos hyes))
     clear hyes
     go_wp2
     refine bodyPost_ret (v:=.int .i64 0) ?_ rfl ⟨_,rfl,by rw[HEE.out],HB.out⟩
     simp[results,Tryz.results27,go_sem]
 ·have e0:stE m most ks=7:=by unfold stE;rw[if_pos hlen]
  have HEE:=hide e0
  have i0:(((ks.length:Nat):Int) == ((m:Nat):Int))=false:=by rw[beq_eq_false_iff_ne];omega
  have i0b:¬((ks.length:Nat):Int)=((m:Nat):Int):=by omega
  clear e0 hlen
  go_enter Tryz.func27,Tryz.ntmps27
  go_upto_region 1 with fail
  rw[<-HL.out]
  go_wp2
  refine bodyPost_ret (v:=.int .i64 7) ?_ rfl ⟨_,rfl,by rw[HEE.out],HB0.out⟩
  simp[results,Tryz.results27,go_sem]
open Go.RowKit Go.ChangeShapes Go.WideShapes
theorem zhZ {w:World} {a:Addr} {v:Value} (h:w.cell? a=some v):a.spot=none/\∃T,Typed w a.block T:=by
 unfold World.cell? at h
 split at h
 ·rename_i c e f hb
  split at h
  ·cases h
  ·rename_i hs
   exact⟨by simpa using hs,e,c,f,hb⟩
 ·cases h
theorem zeS {a:Addr} (h:a.spot=none) (i:Nat):a.add i=⟨a.block,a.off+i,none⟩:=by
 obtain⟨b,o,s⟩:=a
 simp only at h
 subst h
 unfold Addr.add
 split <;> simp_all
section
variable {H:Type} {enc:TypeId×Value->H} {P:Program} {w:World} {base:Nat} {spare:Nat->Bool} {held:Bool}
theorem zeT {α:Type} [Inhabited α] {R:World->Value->α->Prop} {t e:TypeId} {fuel:Nat} {cs:List Value} {x:DataW H×List MemPlace} (ht:P.underlying t=some (.slice e)) (hc:P.cellsOf e=1)
  (hR:∀(v:Value) n y,DataW.trod enc P w base spare held n e [v]=some y->v.cells=#[v]/\∃z,R w v z)
  (h:DataW.trod enc P w base spare held fuel t cs=some x):∃v T ls,cs=[v]/\zx T 1 R w v ls:=by
 rcases Deep.open_slice1 ht hc h with ⟨hcs,hx⟩|⟨a,len,cap,m,n,V,D,Pl,hcs,hb,hl,hm,hz,rfl,hrow⟩
 ·exact⟨_,0,[],hcs,zx.nil _ _ _ _⟩
 ·have hlen:len<=m:=by rw[hz];split <;> omega
  have each:∀i,i<len->∃z,R w (V i) z:=fun i hi=>(hR _ _ _ (hrow i (by omega)).2).2
  obtain⟨S,hS⟩:=Deep.choose_lt each
  by_cases h0:len=0
  ·refine⟨_,0,[],hcs,_,_,by rw[h0];rfl,Nat.zero_le _,hm,fun hx=>by simp at hx⟩
  ·have hc0:=(hrow 0 (by omega)).1
   obtain⟨hsp,T,ht0⟩:=zhZ hc0
   have hsp':a.spot=none:=by
    obtain⟨b,o,s⟩:=a
    unfold Addr.add at hsp
    split at hsp <;> simp_all
   have hblk:(a.add 0).block=a.block:=by rw[zeS hsp']
   rw[hblk] at ht0
   have hll:((List.range len).map S).length=len:=by simp
   refine⟨_,T,(List.range len).map S,hcs,some a,cap,by rw[hll],by rw[hll];exact hl,hm,fun _=>⟨a.block,a.off,by obtain⟨b,o,s⟩:=a;simp only at hsp';rw[hsp'],ht0,fun i s hi=>?_⟩⟩
   have hil:i<len:=by have:=(List.getElem?_eq_some_iff.1 hi).1;simpa using this
   have hc1:=(hrow i (by omega)).1
   rw[zeS hsp'] at hc1
   have hs:S i=s:=by
    simp[hil] at hi
    exact hi
   have hSi:=hS i hil
   rw[hs] at hSi
   have hv:=(hR _ _ _ (hrow i (by omega)).2).1
   refine⟨V i,by rw[hv];rfl,fun j hj=>?_,hSi⟩
   have:j=0:=by rw[hv] at hj;simpa using hj
   subst this
   rw[Nat.mul_one,Nat.add_zero,hc1,hv]
   rfl
theorem zdi {t e:TypeId} {fuel:Nat} {cs:List Value} {x:DataW H×List MemPlace} (ht:P.underlying t=some (.slice e)) (he:P.underlying e=some (.int .i64)) (hc:P.cellsOf e=1)
  (h:DataW.trod enc P w base spare held fuel t cs=some x):∃v xs,cs=[v]/\zao w v xs:=by
 obtain⟨v,T,ls,h1,h2⟩:=zeT (R:=IntE) ht hc (fun v n y hy=>by
  obtain⟨a,ea,-,wa⟩:=DataW.trod_int he hy
  injection ea with ea
  subst ea
  obtain⟨l,u⟩:=bounds_i64 wa
  exact⟨rfl,a,rfl,l,u⟩) h
 exact⟨v,ls,h1,T,h2⟩
theorem zh0 {t u e:TypeId} {fuel:Nat} {cs:List Value} {x:DataW H×List MemPlace} (ht:P.underlying t=some (.slice u)) (hu:P.underlying u=some (.slice e)) (he:P.underlying e=some (.int .i64)) (hcu:P.cellsOf u=1) (hc:P.cellsOf e=1)
  (h:DataW.trod enc P w base spare held fuel t cs=some x):∃v T ls,cs=[v]/\zx T 1 zao w v ls:=
 zeT (R:=zao) ht hcu (fun v n y hy=>by
  obtain⟨v',xs,hv,hx⟩:=zdi hu he hc hy
  injection hv with hv
  subst hv
  refine⟨?_,xs,hx⟩
  obtain⟨T,A,c,rfl,-⟩:=hx
  rfl) h
end
theorem zW.ldR {m:Nat} {R:List Rat} {Ws:List (List Rat)} (h:zW m R Ws):ldR (visV m (ent Ws)) R=ldF m R Ws:=by
 funext i
 unfold ldF ldV
 by_cases hi:i<(visV m (ent Ws)).length
 ·rw[zdv _ _ _ hi];rfl
 ·have h1:(loadsV R (visV m (ent Ws))).length<=i:=by rw[zbb];omega
  unfold Go.Proofs.YtpoahodnakhmiaaGreat.ldR
  simp[List.getD,List.getElem?_eq_none h1,List.getElem?_eq_none (show (visV m (ent Ws)).length<=i by omega),Rat.div_def,Rat.zero_mul]
theorem zW.refG {s:Nat} {R:List Rat} {Ws:List (List Rat)} (h:zW (s+1) R Ws) (h4:s+1<=4):RefG (s+1) R (visV (s+1) (ent Ws)):=⟨h.ok.shop.rl,h.vlen,h4,h.ok.r0,by rw[h.ldR];exact h.ld⟩
structure zdJ (m:Nat) (R:List Rat) (Ws:List (List Rat)):Prop where
 ok:zW m R Ws
 m4:m<=4
 fr:∀i j,i<m->j<m->FracQ 12 (ent Ws i j)/\FracQ 12 (ent Ws i j-1)
theorem zdJ.visits {m:Nat} {R:List Rat} {Ws:List (List Rat)} (h:zdJ m R Ws) (w:World) (v:Value) (hv:za2 w v R Ws 3):
  Calls Tryz.prog 42 #[v] w (Ret (fun u w'=>QRowE 1000001 w' u (visV m (ent Ws))/\Below w.heap.size w w')):=by
 refine(zmf w v R Ws m hv h.ok.ok.shop.rl h.ok.ok.shop.wl h.ok.ok.shop.rows h.ok.ok.ring (by have:=h.m4;omega) h.ok.ok.sys h.fr).mono ?_
 rintro e w1 ⟨v1,rfl,h1,h2⟩
 exact⟨_,rfl,QRowE.upL h1 (by omega),h2⟩
def I64 (x:Int):Prop:=-9223372036854775808<=x/\x<=9223372036854775807
theorem zmj (x:Int):I64 (IntKind.i64.wrap x):=by
 rw[IntWalk.i64_left];unfold I64 wrap64;constructor <;> omega
section
variable {H:Type} {enc:TypeId×Value->H} {P:Program} {w:World} {base:Nat} {spare:Nat->Bool} {held:Bool}
end
theorem zD.refS {n:Nat} {a b:Nat->Nat} {c:Nat->Nat->Nat} (h:zD n a b c) (h4:n<=4):zdJ n (tR n a b) (tW n c):=by
 refine⟨h.shopG,h4,fun i j hi hj=>?_⟩
 rw[zbD n c i j hi hj]
 have h1:=h.sum_ge i hi
 have h2:=h.sum_le i hi
 have h3:=h.cw i j hi hj
 have h4:=castZ (z:=(sumC n c i:Int)) (by omega)
 refine⟨(h.way_small i j hi hj).lift (by omega),?_⟩
 have e:wayT n c i j-1=(((c i j:Int)-(sumC n c i:Int):Int):Rat) / ((sumC n c i:Int):Rat):=by
  unfold wayT;rw[Rat.intCast_sub];grind
 rw[e]
 exact zcA (by omega) (by omega) (by omega)
theorem zgG (x:Int):I64 (wrap64 x):=by unfold I64 wrap64;constructor <;> omega
theorem OkS.getD12 {ks:List Int} (h:OkS 12 ks) (j:Nat):0<=ks.getD j 0/\ks.getD j 0<=12:=by
 by_cases hj:j<ks.length
 ·exact h.le j hj
 ·simp[List.getD,List.getElem?_eq_none (show ks.length<=j by omega)]
theorem RefG.ch_fit {s:Nat} {R E:List Rat} (h:RefG (s+1) R E) (ks:List Int) (h0:OkS 12 ks):FitQ 260 (chQ (ldR E R) (s+1) ks):=
 h.ld.ch_fit ks (fun x hx=>by obtain⟨i,hi,rfl⟩:=List.getElem_of_mem hx;have:=h0.getD12 i;simpa[List.getD,hi] using this) h0.2
set_option maxHeartbeats 8000000 in
theorem zlp (w:World) (vs v:Value) (R:List Rat) (Ws:List (List Rat)) (s:Nat) (ks:List Int) (hs:za2 w vs R Ws 3) (hS:zdJ (s+1) R Ws) (hk:IntsT w v ks) (hl:ks.length=s+1) (h0:OkS 12 ks):
  Calls Tryz.prog 45 #[vs,v] w (Ret (qR w (chQ (ldF (s+1) R Ws) (s+1) ks) 1000001)):=by
 have HV:=hide hs
 obtain⟨va,vb,rfl,hra,hwb⟩:=hs
 obtain⟨Ar,cr,rfl,hcr,hmr,-⟩:=id hra
 obtain⟨Aw,cw,rfl,hcw,hmw,-⟩:=id hwb
 unfold maxLen at hmr hmw
 obtain⟨W,hW⟩:∃W,W=(w.alloc (.cells #[.slice Ar R.length cr,.slice Aw Ws.length cw] 28)).alloc (.cells #[.bool false,.slice none 0 0,.bool false,.slice none 0 0] 55):=⟨_,rfl⟩
 have hb0:Below w.heap.size w W:=by rw[hW];exact za (za (blr _ _) _) _
 have hsb:W.heap[w.heap.size]?=some (.cells #[.slice Ar R.length cr,.slice Aw Ws.length cw] 28 (0,0)):=by rw[hW];exact zy (zj _ _) _
 have hrb:W.heap[w.heap.size+1]?=some (.cells #[.bool false,.slice none 0 0,.bool false,.slice none 0 0] 55 (0,0)):=by rw[hW];exact zu _ (by simp)
 have HL:=hide hW
 have hs3:=hS.m4
 obtain⟨Ak,ck,rfl,hck,hmk,-⟩:=id hk
 unfold maxLen at hmk
 obtain⟨E,hE⟩:∃E,E=visV (s+1) (ent Ws):=⟨_,rfl⟩
 have hG:=hS.ok.refG hS.m4
 have hle:=hS.ok.ldR
 rw[<-hE] at hG hle
 obtain⟨n,hn⟩:∃n:Nat,ks.sum=(n:Int):=⟨ks.sum.toNat,by have:=zdW h0.1;omega⟩
 have hn12:n<=12:=by have:=h0.2;omega
 have HN:=hide hn
 have HLN:=hide hl
 have HOK:=hide h0
 have HX12:=hide (fun j=>(h0.getD12 j).2)
 have HFC:=hide (hG.ch_fit ks h0)
 have H0:=hide (ai hb0 (ai hsb (ai hrb (ai (HV.out.below hb0) (hk.below hb0)))))
 have hR:=hG.hR
 have HG:=hide hG
 have HS:=hide hS
 have HLE:=hide hle
 have HE:=hide hE
 have hsW:=hb0.size
 obtain⟨y0,y1,-,-⟩:=ze hsb
 have hly:=lt_of_block hsb
 rw[hR] at hcr HL H0 y0 ⊢
 clear hb0 hsb hrb hW hra hwb hR hG hS hE hle HV hk hl h0 hn
 go_enter Tryz.func45,Tryz.ntmps45
 go_upto_region 1 with fail
 rw[<-HL.out]
 clear HL
 go_wp2_with fail
 refine(HS.out.visits _ _ H0.out.2.2.2.1).mono ?_
 rintro e w98 ⟨v98,rfl,hv98,hd98⟩
 rw[<-HE.out] at hv98
 obtain⟨Ae,ce,rfl,hce,hme,-⟩:=id hv98
 clear y0 y1 hly
 have H98:=hide (ai hv98 (ai (at_later H0.out.2.1 hd98) (ai (at_later H0.out.2.2.1 hd98) (ai (bnx H0.out.1 hd98) (ai (H0.out.2.2.2.1.below hd98) (H0.out.2.2.2.2.below hd98))))))
 have hs98:=hd98.size
 clear hv98 hd98 H0
 go_upto_region 2 with fail
 have e21a:=(ze H98.out.2.1).1
 have e22a:=(ze H98.out.2.1).2.1
 have hS:∀w',Below w98.heap.size w98 w'->w'.cell? ⟨w.heap.size,0,none⟩=some (.slice Ar (s+1) cr)/\w'.cell? ⟨w.heap.size,1,none⟩=some (.slice Aw Ws.length cw):=fun w' h=>by
  have eC:∀b o v,w98.cell? ⟨b,o,none⟩=some v->w'.cell? ⟨b,o,none⟩=some v:=fun b o v hv=>(h.cell (zf hv)).trans hv
  exact⟨eC _ _ _ e21a,eC _ _ _ e22a⟩
 have hdr:Below w98.heap.size w98 w98.drew:=(blr _ _).drew
 have HSS:=hide hS
 have HQS:=hide (trivial)
 clear hS e21a e22a
 refine zv (fun w'=>w'.cell? ⟨w.heap.size,0,none⟩=some (.slice Ar (s+1) cr)/\w'.cell? ⟨w.heap.size,1,none⟩=some (.slice Aw Ws.length cw)) [0,1,2,3,4,5,6,7,8,9] (by kernel_rfl) (HSS.out _ hdr) (fun hh=>?_)
 refine tt 1 hh 9 ?_
 try simp only[Act.put,ptA,ptB,ptC]
 refine tt 2 hh 10 ?_
 try simp only[Act.put,ptA,ptB,ptC]
 refine tt 5 hh 13 ?_
 try simp only[Act.put,ptA,ptB,ptC]
 refine tt 6 hh 14 ?_
 try simp only[Act.put,ptA,ptB,ptC]
 refine tt 0 hh 8 ?_
 try simp only[Act.put,ptA,ptB,ptC]
 refine tt 4 hh 12 ?_
 try simp only[Act.put,ptA,ptB,ptC]
 refine zb (rs:=[3]) (by kernel_rfl) (by simp) ?_
 refine mem1 ?_
 refine zd rfl (fun K hK=>?_)
 go_simp
 go_at_call 101
 refine(zgJ _ _ _ _ R E Ws ks s (H98.out.2.2.2.2.1.below hdr) (QRowE.below H98.out.1 hdr) ((IntsT.ints H98.out.2.2.2.2.2).below hdr) HG.out HLN.out (fun j=>HOK.out.getD12 j)).mono ?_
 rintro e w1 ⟨u1,rfl,hu1,hd⟩
 replace hu1:QV w1 u1 (wtQ (ldR E R) ks (s+1)) 1000001:=hu1
 obtain⟨s1,A1,n1,c1,B1,m1,d1,rfl,-⟩:=hu1.parts
 have HWT:=hide hu1
 clear hu1
 try (replace HGN:=hide (HGN.out.below hd))
 have hg1:Below w98.heap.size w98 w1:=hdr.trans (hd.mono hdr.size)
 clear hd
 go_wp2_with fail
 refine hK.out _ _ (HSS.out _ hg1) (fun hh=>?_)
 clear hK K
 try simp only[Act.put,ptA,ptB,ptC]
 refine zb (rs:=[7]) (by kernel_rfl) (by simp) ?_
 refine mem1 ?_
 refine zd rfl (fun K hK=>?_)
 go_simp
 go_at_call 90
 refine(zoa _ _ ks (H98.out.2.2.2.2.2.below hg1) HOK.out.1 (by have:=HOK.out.2;omega)).mono ?_
 rintro e w2 ⟨_,rfl,rfl,hd⟩
 rw[HN.out]
 try (replace HWT:=hide (HWT.out.below hd))
 have hg2:Below w98.heap.size w98 w2:=hg1.trans (hd.mono hg1.size)
 clear hd
 go_wp2_with fail
 refine hK.out _ _ (HSS.out _ hg2) (fun hh=>?_)
 clear hK K
 try simp only[Act.put,ptA,ptB,ptC]
 refine zb (rs:=[8]) (by kernel_rfl) (by simp) ?_
 refine mem1 ?_
 refine zd rfl (fun K hK=>?_)
 go_simp
 go_at_call 46
 refine(zeV _ _ _ R E Ws s n (H98.out.2.2.2.2.1.below hg2) (QRowE.below H98.out.1 hg2) HG.out hn12).mono ?_
 rintro e w3 ⟨u3,rfl,hu3,hd⟩
 obtain⟨s3,A3,n3,c3,B3,m3,d3,rfl,-⟩:=hu3.parts
 have HGN:=hide hu3
 clear hu3
 try (replace HWT:=hide (HWT.out.below hd))
 have hg3:Below w98.heap.size w98 w3:=hg2.trans (hd.mono hg2.size)
 clear hd
 go_wp2_with fail
 refine hK.out _ _ (HSS.out _ hg3) (fun hh=>?_)
 clear hK K
 try simp only[Act.put,ptA,ptB,ptC]
 refine zb (rs:=[9]) (by kernel_rfl) (by simp) ?_
 refine mem1 ?_
 refine zd rfl (fun K hK=>?_)
 go_simp
 go_at_call 89
 refine(zc9 _ _ _ (wtQ (ldR E R) ks (s+1)) (gN (ldR E R) (s+1) n) 1000001 HWT.out HGN.out (by omega) (HG.out.ld.g_ne n)).mono ?_
 rintro e w4 ⟨u4,rfl,hu4,hd⟩
 replace hu4:=((show QV w4 u4 (chQ (ldR E R) (s+1) ks) _ from (show wtQ (ldR E R) ks (s+1) / gN (ldR E R) (s+1) n=chQ (ldR E R) (s+1) ks by unfold chQ;rw[HN.out,Int.toNat_natCast])▸hu4).fitQ HFC.out).more (show 2*260+1<=1000001 by omega)
 obtain⟨s4,A4,n4,c4,B4,m4,d4,rfl,-⟩:=hu4.parts
 have HR9:=hide hu4
 clear hu4 HWT HGN
 have hg4:Below w98.heap.size w98 w4:=hg3.trans (hd.mono hg3.size)
 clear hd
 go_wp2_with fail
 refine hK.out _ _ (HSS.out _ hg4) (fun hh=>?_)
 clear hK K
 try simp only[Act.put,ptA,ptB,ptC]
 refine zQ (k:=10) (by rfl) (by rfl) (by kernel_rfl) ?_
 simp only[List.drop_succ_cons,List.drop_zero]
 clear hh
 have hr:=at_later H98.out.2.2.1 hg4
 obtain⟨r0,r1,r2,r3,rf0,rf1,rf2,rf3⟩:=zq hr
 have lr:=lt_of_block hr
 have HFIN:=hide (ai HR9.out (ai hr (bnx H98.out.2.2.2.1 hg4)))
 clear hr HR9
 go_wp2
 refine bodyPost_ret (v:=.agg #[.bool s4,.slice A4 n4 c4,.bool false,.slice B4 m4 d4]) ?_ rfl ?_
 ·simp[results,Tryz.results45,go_sem,r0,r1,r2,r3,lr]
 refine⟨_,rfl,?_,zaa HFIN.out.2.2 (by omega)⟩
 rw[<-HLE.out]
 exact HFIN.out.1.put4 HFIN.out.2.1 (by decide)
theorem zlq (w:World) (vs v:Value) (R:List Rat) (Ws:List (List Rat)) (m:Nat) (ks:List Int) (hs:za2 w vs R Ws 3) (hS:zdJ m R Ws) (hk:IntsT w v ks) (hl:ks.length=m) (h0:OkS 12 ks):
  Calls Tryz.prog 45 #[vs,v] w (Ret (qR w (chQ (ldF m R Ws) m ks) 1000001)):=by
 cases m with
 | zero=>have:=hS.ok.ok.shop.n1;omega
 | succ s=>exact zlp w vs v R Ws s ks hs hS hk hl h0
end Go.Proofs.YtpoahodnakhmiaaGreat
