import Derived.WalkKit
import Derived.Orders
import Derived.OrdersHeld
import Derived.StillTail
import Derived.Deep.RegionHeld3
namespace Go.Proofs.YtpoahodnakhmiaaGreat
set_option linter.unusedVariables false
set_option linter.unusedSimpArgs false
open Go
section
variable {P:Program} {ops:Array Oper} {Q:Exit->Act->World->Prop} {md:Region.Mode} {S:World->Prop} {os:List Nat}
def AnyTill (P:Program) (md:Region.Mode) (ops:Array Oper) (Q:Exit->Act->World->Prop) (S:World->Prop) (os:List Nat):Nat->Array Bool->Act->World->Prop
 | 0,listed,a,w=>Region.ready md ops listed=[]/\Q .normal a w
 | fuel+1,listed,a,w=>
  (Region.ready md ops listed=[]->Q .normal a w) /\
  ∀i∈Region.ready md ops listed,wpOp P ops Q i (fun a' w'=>(os.contains i=true->S w')/\AnyTill P md ops Q S os fuel (listed.setIfInBounds i true) a' w') a w
theorem zih:∀(fuel:Nat) (listed:Array Bool) (a:Act) (w:World),AnyTill P md ops Q S os fuel listed a w->wpAny P md ops Q fuel listed a w:=by
 intro fuel
 induction fuel with
 | zero=>intro _ _ _ h;exact h
 | succ f ih=>intro listed a w h;exact⟨h.1,fun i hi=>wpOp_mono (fun a' w' h'=>ih _ a' w' h'.2) (h.2 i hi)⟩
def zfA (md:Region.Mode) (ops:Array Oper) (os:List Nat) (listed:Array Bool) (i:Nat):Bool:=
 (List.range ops.size).all fun j=>listed.getD j true||decide (j=i)||os.contains j||Region.waitsFor md ops j i
theorem zdz {T:World->Prop} {i:Nat} {oi:Oper} {v:Value} (hi:ops[i]?=some oi) (hsel:∀(j:Nat) (o:Oper) cs b,ops[j]?=some o->o.op≠.select cs b)
  (hQ:∀c a w,Q (.panic c) (a.put oi.dst v) w->Q (.panic c) a w) (hio:os.contains i=true->∀w,T w->S w):
  ∀(fuel:Nat) (listed:Array Bool) (a:Act) (w:World),
   (∀j oj,ops[j]?=some oj->j≠i->listed.getD j true=false->(∀e∈oj.after,Region.binds md e=true->e.on≠i)->oi.apart ops oj=true/\∀w',(os.contains j=true->S w')->T w') ->
   i∈Region.ready md ops listed->YieldsIf P ops T oi v a->T w ->
   AnyTill P md ops Q S os fuel (listed.setIfInBounds i true) (a.put oi.dst v) w->AnyTill P md ops Q S os (fuel+1) listed a w:=by
 intro fuel
 induction fuel with
 | zero=>
  intro listed a w _ hr hy hT H
  refine⟨fun e=>absurd hr (by rw[e];simp),fun j hj=>?_⟩
  rcases Nat.decEq j i with hne|rfl
  ·exact absurd (ready_mono hj hne) (by rw[H.1];simp)
  ·exact hy.wpOp hi hT ⟨fun h=>hio h w hT,H⟩
 | succ f ih=>
  intro listed a w hfree hr hy hT H
  refine⟨fun e=>absurd hr (by rw[e];simp),fun j hj=>?_⟩
  rcases Nat.decEq j i with hne|rfl
  ·obtain⟨hun,oj,hoj,hall⟩:=mem_ready.1 hj
   have hiun:=(mem_ready.1 hr).1
   have hno:∀e∈oj.after,Region.binds md e=true->e.on≠i:=by
    intro e he hb heq
    have h1:=hall e he hb
    rw[heq,getD_both hiun] at h1
    exact absurd h1 (by simp)
   obtain⟨hap,hT'⟩:=hfree j oj hoj hne hun hno
   have h2:=wpOp_putIf hoj hap (fun cs b=>hsel i oi cs b hi) (fun cs b=>hsel j oj cs b hoj) hQ hy (H.2 j (ready_mono hj hne))
   refine wpOp_mono (fun a' w' h3=>⟨h3.2.1,ih (listed.setIfInBounds j true) a' w' ?_ (ready_mono hr (Ne.symm hne)) h3.1 (hT' w' h3.2.1) ?_⟩) h2
   ·intro k ok hk hki hku hkn
    refine hfree k ok hk hki ?_ hkn
    rcases Nat.decEq j k with h|rfl
    ·rw[_root_.Go.getD_set_ne true h] at hku;exact hku
    ·exact hun
   ·rw[Array.setIfInBounds_comm _ _ hne];exact h3.2.2
  ·exact hy.wpOp hi hT ⟨fun h=>hio h w hT,H⟩
theorem zaL {i:Nat} {oi:Oper} {v:Value} {fuel:Nat} {listed:Array Bool} {a:Act} {w:World} (hi:ops[i]?=some oi)
  (hs:Region.noSelect ops=true) (hf:Region.free md ops listed i=true) (hr:(Region.ready md ops listed).contains i=true) (hio:os.contains i=false)
  (hQ:∀c a w,Q (.panic c) (a.put oi.dst v) w->Q (.panic c) a w) (hw:Region.wanted oi (yielded ops a.tmps)=true) (hy:∀w,(execOp a.eval oi).run P w=.ok (.value v) w) (d:Option Tmp) (hd:oi.dst=d)
  (h:AnyTill P md ops Q S os fuel (listed.setIfInBounds i true) (a.put d v) w):AnyTill P md ops Q S os (fuel+1) listed a w:=by
 subst hd
 exact zdz (T:=fun _=>True) hi (Region.noSelect_spec hs) hQ (fun h=>absurd h (by rw[hio];simp)) fuel listed a w (fun j oj h1 h2 h3 h4=>⟨Region.free_spec hi hf j oj h1 h2 h3 h4,fun _ _=>trivial⟩) (by simpa using hr) (.inl ⟨hw,fun w _=>hy w⟩) trivial h
theorem zgb {i:Nat} {oi:Oper} {v:Value} {fuel:Nat} {listed:Array Bool} {a:Act} {w:World} (hi:ops[i]?=some oi)
  (hs:Region.noSelect ops=true) (hf:Region.free md ops listed i=true) (hr:(Region.ready md ops listed).contains i=true) (hwait:zfA md ops os listed i=true)
  (hQ:∀c a w,Q (.panic c) (a.put oi.dst v) w->Q (.panic c) a w) (hw:Region.wanted oi (yielded ops a.tmps)=true) (hy:∀w,S w->(execOp a.eval oi).run P w=.ok (.value v) w) (hS:S w) (d:Option Tmp) (hd:oi.dst=d)
  (h:AnyTill P md ops Q S os fuel (listed.setIfInBounds i true) (a.put d v) w):AnyTill P md ops Q S os (fuel+1) listed a w:=by
 subst hd
 refine zdz (T:=S) hi (Region.noSelect_spec hs) hQ (fun _ _ h=>h) fuel listed a w (fun j oj h1 h2 h3 h4=>⟨Region.free_spec hi hf j oj h1 h2 h3 h4,fun w' h5=>h5 ?_⟩) (by simpa using hr) (.inl ⟨hw,hy⟩) hS h
 have h6:=List.all_eq_true.1 hwait j (List.mem_range.2 (Array.getElem?_eq_some_iff.1 h1).1)
 simp only[Bool.or_eq_true,decide_eq_true_eq] at h6
 rcases h6 with ((h6|h6)|h6)|h6
 ·rw[h3] at h6;cases h6
 ·exact absurd h6 h2
 ·exact h6
 ·obtain⟨o',ho',e,he,hb,hon⟩:=Region.waitsFor_spec h6
  rw[h1] at ho'
  injection ho' with ho'
  subst ho'
  exact absurd hon (h4 e he hb)
theorem tt (i:Nat) {oi:Oper} {v:Value} {fuel:Nat} {listed:Array Bool} {a:Act} {w:World} (hS:S w) (d:Tmp)
  (h:AnyTill P md ops Q S os fuel (listed.setIfInBounds i true) (a.put (some d) v) w)
  (hi:ops[i]?=some oi:=by rfl) (hd:oi.dst=some d:=by rfl) (hs:Region.noSelect ops=true:=by kernel_rfl) (hf:Region.free md ops listed i=true:=by kernel_rfl) (hr:(Region.ready md ops listed).contains i=true:=by kernel_rfl) (hwait:zfA md ops os listed i=true:=by kernel_rfl)
  (hQ:∀c a w,Q (.panic c) (a.put oi.dst v) w->Q (.panic c) a w:=by exact fun _ _ _ h=>h) (hw:Region.wanted oi (yielded ops a.tmps)=true:=by rfl)
  (hy:∀w,S w->(execOp a.eval oi).run P w=.ok (.value v) w:=by intro w hSw;(try dsimp only at hSw);go_simp;try with_reducible rfl):AnyTill P md ops Q S os (fuel+1) listed a w:=
 zgb hi hs hf hr hwait hQ hw hy hS (some d) hd h
theorem zb {rs:List Nat} {fuel:Nat} {listed:Array Bool} {a:Act} {w:World} (hr:Region.ready md ops listed=rs) (hne:rs≠[])
  (h:∀i∈rs,wpOp P ops Q i (fun a' w'=>(os.contains i=true->S w')/\AnyTill P md ops Q S os fuel (listed.setIfInBounds i true) a' w') a w):AnyTill P md ops Q S os (fuel+1) listed a w:=
 ⟨fun h0=>absurd (hr.symm.trans h0) hne,fun i hi=>h i (hr▸hi)⟩
theorem zd {fuel:Nat} {listed:Array Bool} {a:Act} {w:World} {i:Nat} {o:Oper} (ho:ops[i]?=some o)
  (h:∀K':Act->World->Prop,Shut (∀a w,S w->(S w->AnyTill P md ops Q S os fuel (listed.setIfInBounds i true) a w)->K' a w)->if Region.wanted o (yielded ops a.tmps)=true then Oper.wp P o a w K' Q else K' (a.put o.dst undef) w):
  wpOp P ops Q i (fun a' w'=>(os.contains i=true->S w')/\AnyTill P md ops Q S os fuel (listed.setIfInBounds i true) a' w') a w:=
 wpOp_step ho fun K' hK=>h K' fun a w hS hW=>hK a w ⟨fun _=>hS,hW hS⟩
theorem zkS:∀(l:List Oper) (k:Nat) (listed:Array Bool) (a:Act) (w:World),(∀j,k<=j->os.contains j=false)->(∀j,l[j]?=ops[k+j]?) ->
  Region.seqB md ops l.length k listed=true->wpList P ops Q l a w->AnyTill P md ops Q S os l.length listed a w:=by
 intro l
 induction l with
 | nil=>intro k listed a w _ _ hB h;exact⟨by simpa[Region.seqB] using hB,h⟩
 | cons o l ih=>
  intro k listed a w hk hl hB h
  have h0:ops[k]?=some o:=by simpa using (hl 0).symm
  simp only[List.length_cons,Region.seqB,Bool.and_eq_true,decide_eq_true_eq] at hB
  refine zb hB.1 (by simp) fun i hi=>?_
  obtain rfl:i=k:=by simpa using hi
  have hw:wpOp P ops Q i (wpList P ops Q l) a w:=by unfold wpOp;simp only[h0];exact h
  exact wpOp_mono (fun a' w' h'=>⟨fun hlt=>absurd hlt (by rw[hk i (Nat.le_refl _)];simp),ih (i+1) _ a' w' (fun j hj=>hk j (by omega)) (fun j=>by have:=hl (j+1);simpa[Nat.add_assoc,Nat.add_comm 1 j] using this) hB.2 h'⟩) hw
theorem zQ {k fuel:Nat} {listed:Array Bool} {a:Act} {w:World} (hk:os.all (fun j=>decide (j<k))=true) (hf:(ops.toList.drop k).length=fuel) (hB:Region.seqB md ops fuel k listed=true) (h:wpList P ops Q (ops.toList.drop k) a w):
  AnyTill P md ops Q S os fuel listed a w:=by
 subst hf
 refine zkS _ k listed a w (fun j hj=>?_) (fun j=>by simp[List.getElem?_drop]) hB h
 rw[Bool.eq_false_iff]
 intro h1
 have h2:=List.all_eq_true.1 hk j (by simpa using h1)
 simp only[decide_eq_true_eq] at h2
 omega
theorem zM {listed:Array Bool} {a:Act} {w:World} (hr:Region.ready md ops listed=[]) (h:Q .normal a w):
  ∀fuel,AnyTill P md ops Q S os fuel listed a w
 | 0=>⟨hr,h⟩
 | _+1=>⟨fun _=>h,by rw[hr];simp⟩
theorem zv {id:Nat} {a:Act} {w:World} (S:World->Prop) (os:List Nat) (hm:P.follows .mixedOrders=true) (hS:S w.drew)
  (h:S w.drew->AnyTill P .any ops Q S os ops.size (Array.replicate ops.size false) a w.drew):(Code.region id ops true).wp P Q a w:=
 wp_region_any hm (zih _ _ _ _ (h hS))
end
end Go.Proofs.YtpoahodnakhmiaaGreat
