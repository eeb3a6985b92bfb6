import Derived.Test.YtpoahodnakhmiaaGreatRows
import Derived.Test.YtpoahodnakhmiaaGreatChances
import Derived.WalkKit
import Derived.ProofKit
import Derived.OpenShut
import Derived.Carry
import Derived.SizedLaws
import Derived.ChangeMaps5
set_option maxRecDepth 100000
namespace Go.Proofs.YtpoahodnakhmiaaGreat.queueChances
open Go.ChangeShapes Go.WideShapes Go.ChangeAt Go.RowKit Go.ChangeMaps
set_option linter.unusedVariables false
set_option linter.unusedSimpArgs false
theorem own:ownKnob Tryz.prog.godebug=none:=by kernel_rfl
theorem zfv:laidOutB Tryz.prog=true:=by kernel_rfl
theorem zhn:Tryz.prog.cellsOf 3=1:=by kernel_rfl
theorem cellsL:Tryz.prog.cellsOf 22=1:=by kernel_rfl
theorem znR (os:Os) (started:os.Started) (H:Type) (enc:TypeId×Value->H):
  ReturnsInHanded {} Tryz.checked os 8 .any (Rows.queueChancesSpec.pre6 enc Tryz.prog Tryz.f8 Rows.queueChancesRow.domain false) (Rows.queueChancesSpec.post enc Tryz.prog Tryz.f8 false true false false):=by
 refine returnsInHanded_of_change_sized (C:=Tryz.checked) own started (by kernel_rfl) Tryz.func8
  (ChangeSpec.witness6 (enc:=enc) (C:=Tryz.checked) false ⟨#[],#[.slice none 0 0,.slice none 0 0,.slice none 0 0],[]⟩ 8 (by kernel_rfl) (by kernel_rfl) (by kernel_rfl) (by kernel_rfl)) ?_
 intro W base args ds gs before hval0 hW hcnd hsz0 _
 have hval:∀(j:Nat) t v,Tryz.f8.params[j]?=some t->args[j]?=some v->Value.okWide Tryz.prog W .any base t v:=hval0
 have hW':=hW
 obtain⟨p,q,hA0,hV,rfl,hfz,hnd⟩:=hW
 have hA:DataW.TrodAll enc Tryz.prog W 0 (fun _=>true) true Tryz.f8.params.toList args.toList ds p:=hA0
 rw[Tryz.params8] at hA hval
 obtain⟨v0,vs0,d0,ds0,p0,q0,hargs,rfl,rfl,h0,r0⟩:=trodAll_cons hA
 obtain⟨v1,vs1,d1,ds1,p1,q1,rfl,rfl,rfl,h1,r1⟩:=trodAll_cons r0
 obtain⟨v2,vs2,d2,ds2,p2,q2,rfl,rfl,rfl,h2,r2⟩:=trodAll_cons r1
 obtain⟨rfl,rfl,rfl⟩:=trodAll_nil r2
 obtain rfl:args=#[v0,v1,v2]:=by cases args;simp_all
 obtain⟨rfl,rfl⟩:=trodVars_none hV
 obtain⟨a0,n0,c0,rfl⟩:=okWide_slice Tryz.underlying22 (hval 0 22 v0 rfl rfl)
 have k0:=h0
 obtain⟨fuel0,g0⟩:=h0
 obtain⟨a1,n1,c1,rfl⟩:=okWide_slice Tryz.underlying23 (hval 1 23 v1 rfl rfl)
 have k1:=h1
 obtain⟨fuel1,g1⟩:=h1
 obtain⟨a2,n2,c2,rfl⟩:=okWide_slice Tryz.underlying22 (hval 2 22 v2 rfl rfl)
 have k2:=h2
 obtain⟨fuel2,g2⟩:=h2
 clear hA0 hval0
 simp only[List.append_nil] at hW'
 obtain⟨u0,s0,e0,o0⟩:=zdi Tryz.underlying22 Tryz.underlying3 zhn g0
 obtain rfl:u0=.slice a0 n0 c0:=by simp[Value.cells] at e0;exact e0.symm
 have pl0:∀x∈p0,x.block<W.heap.size:=fun x hx=>by simpa using hW'.lt x (by simp[hx])
 obtain⟨u1,T1,s1,e1,o1⟩:=zh0 Tryz.underlying23 Tryz.underlying22 Tryz.underlying3 cellsL zhn g1
 obtain rfl:u1=.slice a1 n1 c1:=by simp[Value.cells] at e1;exact e1.symm
 have pl1:∀x∈p1,x.block<W.heap.size:=fun x hx=>by simpa using hW'.lt x (by simp[hx])
 obtain⟨u2,s2,e2,o2⟩:=zdi Tryz.underlying22 Tryz.underlying3 zhn g2
 obtain rfl:u2=.slice a2 n2 c2:=by simp[Value.cells] at e2;exact e2.symm
 have pl2:∀x∈p2,x.block<W.heap.size:=fun x hx=>by simpa using hW'.lt x (by simp[hx])
 refine(zh1 W _ _ _ s0 s1 T1 s2 o0 o1 o2).mono fun e W' he=>?_
 obtain⟨v,rfl,rfl,hb⟩:=he
 exact⟨_,rfl,⟨_,_,_,[],_,[],hW',trodAll_cons_mk (shut_bool Tryz.underlying4 true) trodAll_mk0,trodAll_cons_mk (Below.trod zfv (by kernel_rfl) (of_decide_eq_true (by kernel_rfl)) k0 hb pl0) (trodAll_cons_mk (Below.trod zfv (by kernel_rfl) (of_decide_eq_true (by kernel_rfl)) k1 hb pl1) (trodAll_cons_mk (Below.trod zfv (by kernel_rfl) (of_decide_eq_true (by kernel_rfl)) k2 hb pl2) trodAll_mk0)),rfl,hb.frame _,fun h=>by cases h⟩⟩
theorem over:Rows.queueChancesRow.holds Tryz.pinned (OpenSpec.ofChange Rows.queueChancesSpec):=
 OpenClaim.holds_of_wide 8 Tryz.f8 rfl rfl rfl rfl rfl rfl rfl ⟨rfl,rfl,rfl,rfl,rfl⟩ rfl rfl rfl rfl rfl (by kernel_rfl) Tryz.func8 (by kernel_rfl)
  (of_decide_eq_true (by kernel_rfl)) (by unfold Func.isWrapper;first|(rw[if_pos (by decide +kernel)];kernel_rfl)|(rw[if_neg (by decide +kernel)];exact⟨rfl,rfl⟩))
  (fun os started H enc _=>znR os started H enc)
end Go.Proofs.YtpoahodnakhmiaaGreat.queueChances
namespace Go.Proofs.YtpoahodnakhmiaaGreat
theorem queueChances_holds:Rows.QueueChancesSaid:=queueChances.over
end Go.Proofs.YtpoahodnakhmiaaGreat
