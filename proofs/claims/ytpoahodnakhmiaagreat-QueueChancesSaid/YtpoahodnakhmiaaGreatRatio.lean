import Derived.Test.YtpoahodnakhmiaaGreatZ9
import Derived.Test.YtpoahodnakhmiaaGreatReg
import Derived.Deep.Cut
import Derived.Deep.CutRange
set_option maxRecDepth 100000
namespace Go.Proofs.YtpoahodnakhmiaaGreat
set_option linter.unusedVariables false
set_option linter.unusedSimpArgs false
open Go.RowKit
theorem zcT {w:World} {B:Nat} {a b u v:Value} {e:TypeId} (h:w.heap[B]?=some (.cells #[a,b] e (0,0))):((w.setCell ⟨B,0,none⟩ u).setCell ⟨B,1,none⟩ v).heap[B]?=some (.cells #[u,v] e (0,0)):=by
 simp[World.setCell,Array.getElem?_modify,h]
theorem zbv {w:World} {B b:Nat} {u v:Value} (h:b≠B):((w.setCell ⟨B,0,none⟩ u).setCell ⟨B,1,none⟩ v).heap[b]?=w.heap[b]?:=by
 have e:¬B=b:=fun e=>h e.symm
 simp[World.setCell,Array.getElem?_modify,e]
def TwoZ (w w':World) (b6 b7:Nat) (sn:Bool) (An:Option Addr) (nn cn:Nat) (sd:Bool) (Ad:Option Addr) (nd cd:Nat) (x y:Int) (L:Nat):Prop:=
 ZV w' (.agg #[.bool sn,.slice An nn cn]) x L/\ZV w' (.agg #[.bool sd,.slice Ad nd cd]) y L/\sn=decide (x<0)/\sd=decide (y<0) /\
 w'.heap[b6]?=some (.cells #[.bool sn,.slice An nn cn] 53 (0,0))/\w'.heap[b7]?=some (.cells #[.bool sd,.slice Ad nd cd] 53 (0,0))/\Below w.heap.size w w'/\w.heap.size<=b6/\w.heap.size<=b7
theorem zaW {w X:World} {b6 b7:Nat} {sn:Bool} {An:Option Addr} {nn cn:Nat} {sd:Bool} {Ad:Option Addr} {nd cd:Nat} {x y:Int} {L:Nat} {a b c d:Value}
  (rn:ZV X (.agg #[.bool sn,.slice An nn cn]) x L) (rd:ZV X (.agg #[.bool sd,.slice Ad nd cd]) y L) (hsn:sn=decide (x<0)) (hsd:sd=decide (y<0))
  (h6:X.heap[b6]?=some (.cells #[a,b] 53 (0,0))) (h7:X.heap[b7]?=some (.cells #[c,d] 53 (0,0))) (hne:¬b6=b7) (hb:Below w.heap.size w X) (hl6:w.heap.size<=b6) (hl7:w.heap.size<=b7):
  TwoZ w ((((X.setCell ⟨b6,0,none⟩ (.bool sn)).setCell ⟨b6,1,none⟩ (.slice An nn cn)).setCell ⟨b7,0,none⟩ (.bool sd)).setCell ⟨b7,1,none⟩ (.slice Ad nd cd)) b6 b7 sn An nn cn sd Ad nd cd x y L:=by
 have g6:=zcT (u:=.bool sn) (v:=.slice An nn cn) h6
 have g7:=(zbv (w:=X) (B:=b6) (b:=b7) (u:=.bool sn) (v:=.slice An nn cn) (fun e=>hne e.symm)).trans h7
 refine⟨zac (zac rn h6 (by decide)) g7 (by decide),zac (zac rd h6 (by decide)) g7 (by decide),hsn,hsd,?_,zcT g7,zl (zl hb hl6) hl7,hl6,hl7⟩
 rw[zbv (fun e=>hne e)];exact g6
def QV (w:World) (v:Value) (q:Rat) (L:Nat):Prop:=∃n d,v=.agg #[.bool (decide (q.num<0)),n,.bool false,d]/\LimV w n (q.num.natAbs:Int) L/\LimV w d (q.den:Int) L
theorem QV.below {w w':World} {v:Value} {q:Rat} {L:Nat} (h:QV w v q L) (hb:Below w.heap.size w w'):QV w' v q L:=by
 obtain⟨n,d,rfl,h1,h2⟩:=h;exact⟨n,d,rfl,h1.below hb,h2.below hb⟩
def qR (w:World) (q:Rat) (L:Nat) (v:Value) (w':World):Prop:=QV w' v q L/\Below w.heap.size w w'
theorem zkH (x g:Int) (hg:0<g) (hd:g ∣ x):sgd (!(decide (x<0) == decide (g<0))) ((x.natAbs:Int) / (g.natAbs:Int))=x / g:=by
 rw[decide_eq_false (show ¬g<0 by omega)]
 have e:(g.natAbs:Int)=g:=by omega
 rw[e]
 unfold sgd
 by_cases hx:x<0
 ·rw[decide_eq_true hx]
  have e2:(x.natAbs:Int)=-x:=by omega
  rw[e2,Int.neg_ediv_of_dvd hd]
  simp
 ·rw[decide_eq_false hx]
  have e2:(x.natAbs:Int)=x:=by omega
  rw[e2];simp
theorem zig (x y:Int) (hy:y≠0) (n d:Int) (hn:n=x / Int.gcd x y) (hd:d=y / Int.gcd x y):
  (0<d->(Rat.divInt x y).num=n/\((Rat.divInt x y).den:Int)=d)/\(d<0->(Rat.divInt x y).num=-n/\((Rat.divInt x y).den:Int)=-d)/\d≠0/\(d<0↔y<0):=by
 have hg:(0:Int)<Int.gcd x y:=by
  have:=Int.gcd_pos_of_ne_zero_right x hy
  omega
 have hdy:=Int.gcd_dvd_right x y
 have hdx:=Int.gcd_dvd_left x y
 have e1:d*Int.gcd x y=y:=by rw[hd];exact Int.ediv_mul_cancel hdy
 have hsg:d<0↔y<0:=by
  constructor
  ·intro h;rw[<-e1];exact Int.mul_neg_of_neg_of_pos h hg
  ·intro h
   rcases Int.lt_or_le d 0 with h1|h1
   ·exact h1
   ·have:=Int.mul_nonneg h1 (Int.le_of_lt hg);omega
 have hd0:d≠0:=by intro h;rw[h] at e1;omega
 have hgc:(Int.gcd y x:Int)=Int.gcd x y:=by rw[Int.gcd_comm]
 refine⟨fun h=>?_,fun h=>?_,hd0,hsg⟩
 ·have hy1:0<y:=by omega
  have l:=ze9 false x.natAbs y
  constructor
  ·rw[Rat.num_divInt,hgc,Int.sign_eq_one_of_pos hy1,Int.one_mul,hn]
  ·rw[Rat.den_divInt,if_neg hy,Int.natCast_ediv,hgc,hd,Int.natAbs_of_nonneg (by omega)]
 ·have hy1:y<0:=by omega
  constructor
  ·rw[Rat.num_divInt,hgc,Int.sign_eq_neg_one_of_neg hy1,hn,Int.neg_one_mul,Int.neg_ediv_of_dvd hdx]
  ·rw[Rat.den_divInt,if_neg hy,Int.natCast_ediv,hgc,hd,show (y.natAbs:Int)=-y by omega,Int.neg_ediv_of_dvd hdy]
theorem zbk {w:World} {v:Value} {x:Int} {L B:Nat} {a b c d:Value} (h:LimV w v x L) {cs:Array Value} {e:TypeId} (hB:w.heap[B]?=some (.cells cs e (0,0))) (he:e≠3):
  LimV ((((w.setCell ⟨B,0,none⟩ a).setCell ⟨B,1,none⟩ b).setCell ⟨B,2,none⟩ c).setCell ⟨B,3,none⟩ d) v x L:=by
 obtain⟨A,c',xs,rfl,h1,h2,h3,h4⟩:=h
 refine⟨A,c',xs,rfl,h1,h2,?_,h4⟩
 intro hx
 obtain⟨b',o,rfl,ht,hc⟩:=h3 hx
 have hne:b'≠B:=Typed.ne ht ⟨_,_,hB⟩ (fun e'=>he e'.symm)
 have n:∀i j,(⟨B,i,none⟩:Addr)≠⟨b',j,none⟩:=by intro i j e;injection e with e1;exact hne e1.symm
 refine⟨b',o,rfl,(((ht.setCell _ _).setCell _ _).setCell _ _).setCell _ _,fun j hj=>?_⟩
 rw[World.cell?_setCell_other _ _ _ _ (n 3 _),World.cell?_setCell_other _ _ _ _ (n 2 _),World.cell?_setCell_other _ _ _ _ (n 1 _),World.cell?_setCell_other _ _ _ _ (n 0 _)]
 exact hc j hj
theorem zq {w:World} {B:Nat} {a b c d:Value} {e:TypeId} (hh:w.heap[B]?=some (.cells #[a,b,c,d] e (0,0))):
  w.cell? ⟨B,0,none⟩=some a/\w.cell? ⟨B,1,none⟩=some b/\w.cell? ⟨B,2,none⟩=some c/\w.cell? ⟨B,3,none⟩=some d /\
  w.frozen? ⟨B,0,none⟩=false/\w.frozen? ⟨B,1,none⟩=false/\w.frozen? ⟨B,2,none⟩=false/\w.frozen? ⟨B,3,none⟩=false:=by
 refine⟨?_,?_,?_,?_,?_,?_,?_,?_⟩
 all_goals first
  | (simp[World.cell?,hh];done)
  | (simp[World.frozen?,hh];done)
set_option maxHeartbeats 4000000 in
theorem zcE (w:World) (v v':Value) (x y:Int) (L:Nat) (hx:ZV w v x L) (hy:ZV w v' y L) (hL:L<=17592185000000) (hy0:y≠0):
  Calls Tryz.prog 108 #[v,v'] w (Ret (qR w (Rat.divInt x y) L)):=by
 obtain⟨sa,Aa,na,ca,rfl,hsa,_⟩:=hx.parts
 obtain⟨sb,Ab,nb,cb,rfl,hsb,_⟩:=hy.parts
 clear hsa hsb
 obtain⟨W0,hW0⟩:∃W0,W0=((w.alloc (.cells #[.bool sa,.slice Aa na ca] 53)).alloc (.cells #[.bool sb,.slice Ab nb cb] 53)).alloc (.cells #[.bool false,.slice none 0 0,.bool false,.slice none 0 0] 55):=⟨_,rfl⟩
 have hb0:Below w.heap.size w W0:=by rw[hW0];exact(((blr _ _).alloc (nr _) _).alloc (by simp) _).alloc (by simp;omega) _
 have h0:W0.heap[w.heap.size]?=some (.cells #[.bool sa,.slice Aa na ca] 53):=by rw[hW0];exact zy (zy (zj _ _) _) _
 have h1:W0.heap[w.heap.size+1]?=some (.cells #[.bool sb,.slice Ab nb cb] 53):=by rw[hW0];exact zy (zu _ (by simp)) _
 have h2:W0.heap[w.heap.size+2]?=some (.cells #[.bool false,.slice none 0 0,.bool false,.slice none 0 0] 55):=by rw[hW0];exact zu _ (by simp)
 have ra:=hx.below hb0
 have rb:=hy.below hb0
 have HW:=hide (ai hW0 (ai hb0 (ai h0 (ai h1 h2))));clear hW0 hb0 h0 h1 h2 hx hy
 go_enter Tryz.func108,Tryz.ntmps108
 go_wp2_with fail
 rw[<-HW.out.1]
 refine(zn3 _ _ _ _ _ L L ra rb hL (nr _)).mono ?_
 rintro e w1 ⟨_,rfl,rg,hd⟩
 obtain⟨sg,Ag,ng,cg,rfl,hsg,_⟩:=rg.parts
 clear hsg
 have hg0:(Int.gcd x y:Int)≠0:=by
  have:=Int.gcd_pos_of_ne_zero_right x hy0
  omega
 obtain⟨W,hW⟩:∃W,W=w1.alloc (.cells #[.bool sg,.slice Ag ng cg] 53):=⟨_,rfl⟩
 have hd2:Below w1.heap.size w1 W:=by rw[hW];exact(blr _ _).alloc (nr _) _
 have hbW:=bnx hd hd2
 have k0:=at_later HW.out.2.2.1 hbW
 have k1:=at_later HW.out.2.2.2.1 hbW
 have k2:=at_later HW.out.2.2.2.2 hbW
 have k3:W.heap[w1.heap.size]?=some (.cells #[.bool sg,.slice Ag ng cg] 53):=by rw[hW];exact zj _ _
 replace ra:=ra.below hbW
 replace rb:=rb.below hbW
 replace rg:=rg.below hd2
 have hbw:=bnx HW.out.2.1 hbW
 obtain⟨ba,hba⟩:∃b,b=w.heap.size:=⟨_,rfl⟩
 obtain⟨bb,hbb⟩:∃b,b=w.heap.size+1:=⟨_,rfl⟩
 obtain⟨br,hbr⟩:∃b,b=w.heap.size+2:=⟨_,rfl⟩
 have hrl:w.heap.size<=br:=by omega
 have HK:=hide (ai k2 (ai hbw hrl))
 go_wp2_with fail
 rw[<-hW,<-hbr,<-hbb,<-hba]
 rw[<-hba] at k0
 rw[<-hbb] at k1
 rw[<-hbr] at HK
 clear k2 hbw hrl
 generalize w1.heap.size=bg at k3 ⊢
 clear hW hba hbb hbr hd hd2 hbW HW
 have hSall:∀w',Below W.heap.size W w'->w'.cell? ⟨ba,0,none⟩=some (.bool sa)/\w'.cell? ⟨ba,1,none⟩=some (.slice Aa na ca)/\w'.cell? ⟨bb,0,none⟩=some (.bool sb)/\w'.cell? ⟨bb,1,none⟩=some (.slice Ab nb cb)/\w'.cell? ⟨bg,0,none⟩=some (.bool sg)/\w'.cell? ⟨bg,1,none⟩=some (.slice Ag ng cg):=fun w' h=>⟨(ze (at_later k0 h)).1,(ze (at_later k0 h)).2.1,(ze (at_later k1 h)).1,(ze (at_later k1 h)).2.1,(ze (at_later k3 h)).1,(ze (at_later k3 h)).2.1⟩
 have HS:=hide hSall;clear hSall k0 k1 k3
 go_cut [6,7] from 11 to 16 (fun s6 s7 w'=>∃b6 b7 sn An nn cn sd Ad nd cd,s6=.pointer (some ⟨b6,0,none⟩)/\s7=.pointer (some ⟨b7,0,none⟩)/\¬b6=b7/\TwoZ W w' b6 b7 sn An nn cn sd Ad nd cd (sgd (!(decide (x<0) == decide ((Int.gcd x y:Int)<0))) ((x.natAbs:Int) / ((Int.gcd x y:Int).natAbs:Int))) (sgd (!(decide (y<0) == decide ((Int.gcd x y:Int)<0))) ((y.natAbs:Int) / ((Int.gcd x y:Int).natAbs:Int))) L)
 case first=>
  have hSall:=HS.out;clear HS HK
  refine zv (fun w'=>w'.cell? ⟨ba,0,none⟩=some (.bool sa)/\w'.cell? ⟨ba,1,none⟩=some (.slice Aa na ca)/\w'.cell? ⟨bb,0,none⟩=some (.bool sb)/\w'.cell? ⟨bb,1,none⟩=some (.slice Ab nb cb)/\w'.cell? ⟨bg,0,none⟩=some (.bool sg)/\w'.cell? ⟨bg,1,none⟩=some (.slice Ag ng cg)) [0,1,2,3,4,5,6,7,8,9] (by kernel_rfl) (hSall _ (blr _ _).drew) (fun hh=>?_)
  refine tt 0 hh 11 ?_
  try simp only[Act.put,ptA,ptB,ptC]
  refine tt 1 hh 12 ?_
  try simp only[Act.put,ptA,ptB,ptC]
  refine tt 3 hh 14 ?_
  try simp only[Act.put,ptA,ptB,ptC]
  refine tt 4 hh 15 ?_
  try simp only[Act.put,ptA,ptB,ptC]
  have hb:Below W.heap.size W W.drew:=(blr _ _).drew
  replace ra:=ra.below hb
  replace rb:=rb.below hb
  replace rg:=rg.below hb
  have hWd:Below W.heap.size W W.drew:=(blr _ _).drew
  generalize W.drew=X0 at *
  clear hWd
  refine zb (rs:=[2,6,7]) (by kernel_rfl) (by simp) ?_
  refine List.forall_mem_cons.2 ⟨?_,List.forall_mem_cons.2 ⟨?_,List.forall_mem_cons.2 ⟨?_,fun _ h=>absurd h List.not_mem_nil⟩⟩⟩
  ·refine zd rfl (fun K hK=>?_)
   go_simp
   go_at_call 154
   refine(zaF _ _ _ _ _ L L ra rg hL hL hg0).mono ?_
   rintro e X1 ⟨_,rfl,rn,hd⟩
   obtain⟨sn,An,nn,cn,rfl,hsn,_⟩:=rn.parts
   have HSn:=hide hsn;clear hsn
   go_wp2_with fail
   clear hh
   replace hb:=bnx hb hd
   replace ra:=ra.below hd
   replace rb:=rb.below hd
   replace rg:=rg.below hd
   clear hd
   refine hK.out _ _ (hSall _ hb) (fun hh=>?_)
   clear hK K
   try simp only[Act.put,ptA,ptB,ptC]
   refine zb (rs:=[5,6,7]) (by kernel_rfl) (by simp) ?_
   refine List.forall_mem_cons.2 ⟨?_,List.forall_mem_cons.2 ⟨?_,List.forall_mem_cons.2 ⟨?_,fun _ h=>absurd h List.not_mem_nil⟩⟩⟩
   ·refine zd rfl (fun K hK=>?_)
    go_simp
    go_at_call 154
    refine(zaF _ _ _ _ _ L L rb rg hL hL hg0).mono ?_
    rintro e X2 ⟨_,rfl,rd,hd⟩
    obtain⟨sd,Ad,nd,cd,rfl,hsd,_⟩:=rd.parts
    have HSd:=hide hsd;clear hsd
    go_wp2_with fail
    clear hh
    replace hb:=bnx hb hd
    replace ra:=ra.below hd
    replace rb:=rb.below hd
    replace rg:=rg.below hd
    replace rn:=rn.below hd
    clear hd
    refine hK.out _ _ (hSall _ hb) (fun hh=>?_)
    clear hK K
    try simp only[Act.put,ptA,ptB,ptC]
    refine zb (rs:=[6,7]) (by kernel_rfl) (by simp) ?_
    refine List.forall_mem_cons.2 ⟨?_,List.forall_mem_cons.2 ⟨?_,fun _ h=>absurd h List.not_mem_nil⟩⟩
    ·refine zd rfl (fun K hK=>?_)
     go_simp
     have h6:=zj X2 (.cells #[.bool false,.slice none 0 0] 53)
     have hd:Below X2.heap.size X2 (X2.alloc (.cells #[.bool false,.slice none 0 0] 53)):=(blr _ _).alloc (nr _) _
     have hl6:W.heap.size<=X2.heap.size:=hb.size
     obtain⟨b6,hbk⟩:∃b,b=X2.heap.size:=⟨_,rfl⟩
     rw[<-hbk] at h6 hl6  ⊢
     obtain⟨X3,hY⟩:∃Y,Y=X2.alloc (.cells #[.bool false,.slice none 0 0] 53):=⟨_,rfl⟩
     rw[<-hY] at h6 hd ⊢
     clear hbk hY hh
     replace hb:=bnx hb hd
     replace ra:=ra.below hd
     replace rb:=rb.below hd
     replace rd:=rd.below hd
     replace rg:=rg.below hd
     replace rn:=rn.below hd
     clear hd
     refine hK.out _ _ (hSall _ hb) (fun hh=>?_)
     clear hK K
     try simp only[Act.put,ptA,ptB,ptC]
     refine zb (rs:=[7]) (by kernel_rfl) (by simp) ?_
     refine mem1 ?_
     refine zd rfl (fun K hK=>?_)
     go_simp
     have h7:=zj X3 (.cells #[.bool false,.slice none 0 0] 53)
     have hd:Below X3.heap.size X3 (X3.alloc (.cells #[.bool false,.slice none 0 0] 53)):=(blr _ _).alloc (nr _) _
     have hne:¬X3.heap.size=b6:=by have:=lt_of_block h6;omega
     have hl7:W.heap.size<=X3.heap.size:=hb.size
     obtain⟨b7,hbk⟩:∃b,b=X3.heap.size:=⟨_,rfl⟩
     rw[<-hbk] at h7 hl7 hne ⊢
     obtain⟨X4,hY⟩:∃Y,Y=X3.alloc (.cells #[.bool false,.slice none 0 0] 53):=⟨_,rfl⟩
     rw[<-hY] at h7 hd ⊢
     clear hbk hY hh
     replace hb:=bnx hb hd
     replace h6:=at_later h6 hd
     replace ra:=ra.below hd
     replace rb:=rb.below hd
     replace rd:=rd.below hd
     replace rg:=rg.below hd
     replace rn:=rn.below hd
     clear hd
     refine hK.out _ _ (hSall _ hb) (fun hh=>?_)
     clear hK K
     try simp only[Act.put,ptA,ptB,ptC]
     obtain⟨y0,y1,f0,f1⟩:=ze h6
     obtain⟨z0,z1,e0,e1⟩:=ze h7
     have hne':¬b6=b7:=fun e=>hne (by first|exact e|exact e.symm)
     have hne'':¬b7=b6:=fun e=>hne' e.symm
     have HL:=hide (ai rn (ai rd (ai h6 (ai h7 (ai hl6 (ai hl7 hb))))))
     clear rn rd h6 h7
     refine zb (rs:=[8]) (by kernel_rfl) (by simp) ?_
     refine mem1 ?_
     refine zd rfl (fun K hK=>?_)
     go_simp
     refine hK.out _ _ (hSall _ (zl hb hl6)) (fun hHeld'=>?_)
     clear hK K
     try simp only[Act.put,ptA,ptB,ptC]
     refine zb (rs:=[9]) (by kernel_rfl) (by simp) ?_
     refine mem1 ?_
     refine zd rfl (fun K hK=>?_)
     go_simp
     refine hK.out _ _ (hSall _ (zl (zl hb hl6) hl7)) (fun hHeld''=>?_)
     clear hK K hh hHeld' hHeld'' hb
     try simp only[Act.put,ptA,ptB,ptC]
     refine zM (by kernel_rfl) ?_ _
     go_wp2
     go_meet
     refine⟨b6,b7,sn,An,nn,cn,sd,Ad,nd,cd,rfl,rfl,hne',?_⟩
     obtain⟨rn,rd,h6,h7,hl6,hl7,hb⟩:=HL.out
     exact zaW rn rd HSn.out HSd.out h6 h7 hne' hb hl6 hl7
    ·refine zd rfl (fun K hK=>?_)
     go_simp
     have h7:=zj X2 (.cells #[.bool false,.slice none 0 0] 53)
     have hd:Below X2.heap.size X2 (X2.alloc (.cells #[.bool false,.slice none 0 0] 53)):=(blr _ _).alloc (nr _) _
     have hl7:W.heap.size<=X2.heap.size:=hb.size
     obtain⟨b7,hbk⟩:∃b,b=X2.heap.size:=⟨_,rfl⟩
     rw[<-hbk] at h7 hl7  ⊢
     obtain⟨X5,hY⟩:∃Y,Y=X2.alloc (.cells #[.bool false,.slice none 0 0] 53):=⟨_,rfl⟩
     rw[<-hY] at h7 hd ⊢
     clear hbk hY hh
     replace hb:=bnx hb hd
     replace ra:=ra.below hd
     replace rb:=rb.below hd
     replace rd:=rd.below hd
     replace rg:=rg.below hd
     replace rn:=rn.below hd
     clear hd
     refine hK.out _ _ (hSall _ hb) (fun hh=>?_)
     clear hK K
     try simp only[Act.put,ptA,ptB,ptC]
     refine zb (rs:=[6]) (by kernel_rfl) (by simp) ?_
     refine mem1 ?_
     refine zd rfl (fun K hK=>?_)
     go_simp
     have h6:=zj X5 (.cells #[.bool false,.slice none 0 0] 53)
     have hd:Below X5.heap.size X5 (X5.alloc (.cells #[.bool false,.slice none 0 0] 53)):=(blr _ _).alloc (nr _) _
     have hne:¬X5.heap.size=b7:=by have:=lt_of_block h7;omega
     have hl6:W.heap.size<=X5.heap.size:=hb.size
     obtain⟨b6,hbk⟩:∃b,b=X5.heap.size:=⟨_,rfl⟩
     rw[<-hbk] at h6 hl6 hne ⊢
     obtain⟨X6,hY⟩:∃Y,Y=X5.alloc (.cells #[.bool false,.slice none 0 0] 53):=⟨_,rfl⟩
     rw[<-hY] at h6 hd ⊢
     clear hbk hY hh
     replace hb:=bnx hb hd
     replace h7:=at_later h7 hd
     replace ra:=ra.below hd
     replace rb:=rb.below hd
     replace rd:=rd.below hd
     replace rg:=rg.below hd
     replace rn:=rn.below hd
     clear hd
     refine hK.out _ _ (hSall _ hb) (fun hh=>?_)
     clear hK K
     try simp only[Act.put,ptA,ptB,ptC]
     obtain⟨y0,y1,f0,f1⟩:=ze h6
     obtain⟨z0,z1,e0,e1⟩:=ze h7
     have hne':¬b6=b7:=fun e=>hne (by first|exact e|exact e.symm)
     have hne'':¬b7=b6:=fun e=>hne' e.symm
     have HL:=hide (ai rn (ai rd (ai h6 (ai h7 (ai hl6 (ai hl7 hb))))))
     clear rn rd h6 h7
     refine zb (rs:=[8]) (by kernel_rfl) (by simp) ?_
     refine mem1 ?_
     refine zd rfl (fun K hK=>?_)
     go_simp
     refine hK.out _ _ (hSall _ (zl hb hl6)) (fun hHeld'=>?_)
     clear hK K
     try simp only[Act.put,ptA,ptB,ptC]
     refine zb (rs:=[9]) (by kernel_rfl) (by simp) ?_
     refine mem1 ?_
     refine zd rfl (fun K hK=>?_)
     go_simp
     refine hK.out _ _ (hSall _ (zl (zl hb hl6) hl7)) (fun hHeld''=>?_)
     clear hK K hh hHeld' hHeld'' hb
     try simp only[Act.put,ptA,ptB,ptC]
     refine zM (by kernel_rfl) ?_ _
     go_wp2
     go_meet
     refine⟨b6,b7,sn,An,nn,cn,sd,Ad,nd,cd,rfl,rfl,hne',?_⟩
     obtain⟨rn,rd,h6,h7,hl6,hl7,hb⟩:=HL.out
     exact zaW rn rd HSn.out HSd.out h6 h7 hne' hb hl6 hl7
   ·refine zd rfl (fun K hK=>?_)
    go_simp
    have h6:=zj X1 (.cells #[.bool false,.slice none 0 0] 53)
    have hd:Below X1.heap.size X1 (X1.alloc (.cells #[.bool false,.slice none 0 0] 53)):=(blr _ _).alloc (nr _) _
    have hl6:W.heap.size<=X1.heap.size:=hb.size
    obtain⟨b6,hbk⟩:∃b,b=X1.heap.size:=⟨_,rfl⟩
    rw[<-hbk] at h6 hl6  ⊢
    obtain⟨X7,hY⟩:∃Y,Y=X1.alloc (.cells #[.bool false,.slice none 0 0] 53):=⟨_,rfl⟩
    rw[<-hY] at h6 hd ⊢
    clear hbk hY hh
    replace hb:=bnx hb hd
    replace ra:=ra.below hd
    replace rb:=rb.below hd
    replace rg:=rg.below hd
    replace rn:=rn.below hd
    clear hd
    refine hK.out _ _ (hSall _ hb) (fun hh=>?_)
    clear hK K
    try simp only[Act.put,ptA,ptB,ptC]
    refine zb (rs:=[5,7]) (by kernel_rfl) (by simp) ?_
    refine List.forall_mem_cons.2 ⟨?_,List.forall_mem_cons.2 ⟨?_,fun _ h=>absurd h List.not_mem_nil⟩⟩
    ·refine zd rfl (fun K hK=>?_)
     go_simp
     go_at_call 154
     refine(zaF _ _ _ _ _ L L rb rg hL hL hg0).mono ?_
     rintro e X8 ⟨_,rfl,rd,hd⟩
     obtain⟨sd,Ad,nd,cd,rfl,hsd,_⟩:=rd.parts
     have HSd:=hide hsd;clear hsd
     go_wp2_with fail
     clear hh
     replace hb:=bnx hb hd
     replace h6:=at_later h6 hd
     replace ra:=ra.below hd
     replace rb:=rb.below hd
     replace rg:=rg.below hd
     replace rn:=rn.below hd
     clear hd
     refine hK.out _ _ (hSall _ hb) (fun hh=>?_)
     clear hK K
     try simp only[Act.put,ptA,ptB,ptC]
     refine zb (rs:=[7]) (by kernel_rfl) (by simp) ?_
     refine mem1 ?_
     refine zd rfl (fun K hK=>?_)
     go_simp
     have h7:=zj X8 (.cells #[.bool false,.slice none 0 0] 53)
     have hd:Below X8.heap.size X8 (X8.alloc (.cells #[.bool false,.slice none 0 0] 53)):=(blr _ _).alloc (nr _) _
     have hne:¬X8.heap.size=b6:=by have:=lt_of_block h6;omega
     have hl7:W.heap.size<=X8.heap.size:=hb.size
     obtain⟨b7,hbk⟩:∃b,b=X8.heap.size:=⟨_,rfl⟩
     rw[<-hbk] at h7 hl7 hne ⊢
     obtain⟨X9,hY⟩:∃Y,Y=X8.alloc (.cells #[.bool false,.slice none 0 0] 53):=⟨_,rfl⟩
     rw[<-hY] at h7 hd ⊢
     clear hbk hY hh
     replace hb:=bnx hb hd
     replace h6:=at_later h6 hd
     replace ra:=ra.below hd
     replace rb:=rb.below hd
     replace rd:=rd.below hd
     replace rg:=rg.below hd
     replace rn:=rn.below hd
     clear hd
     refine hK.out _ _ (hSall _ hb) (fun hh=>?_)
     clear hK K
     try simp only[Act.put,ptA,ptB,ptC]
     obtain⟨y0,y1,f0,f1⟩:=ze h6
     obtain⟨z0,z1,e0,e1⟩:=ze h7
     have hne':¬b6=b7:=fun e=>hne (by first|exact e|exact e.symm)
     have hne'':¬b7=b6:=fun e=>hne' e.symm
     have HL:=hide (ai rn (ai rd (ai h6 (ai h7 (ai hl6 (ai hl7 hb))))))
     clear rn rd h6 h7
     refine zb (rs:=[8]) (by kernel_rfl) (by simp) ?_
     refine mem1 ?_
     refine zd rfl (fun K hK=>?_)
     go_simp
     refine hK.out _ _ (hSall _ (zl hb hl6)) (fun hHeld'=>?_)
     clear hK K
     try simp only[Act.put,ptA,ptB,ptC]
     refine zb (rs:=[9]) (by kernel_rfl) (by simp) ?_
     refine mem1 ?_
     refine zd rfl (fun K hK=>?_)
     go_simp
     refine hK.out _ _ (hSall _ (zl (zl hb hl6) hl7)) (fun hHeld''=>?_)
     clear hK K hh hHeld' hHeld'' hb
     try simp only[Act.put,ptA,ptB,ptC]
     refine zM (by kernel_rfl) ?_ _
     go_wp2
     go_meet
     refine⟨b6,b7,sn,An,nn,cn,sd,Ad,nd,cd,rfl,rfl,hne',?_⟩
     obtain⟨rn,rd,h6,h7,hl6,hl7,hb⟩:=HL.out
     exact zaW rn rd HSn.out HSd.out h6 h7 hne' hb hl6 hl7
    ·refine zd rfl (fun K hK=>?_)
     go_simp
     have h7:=zj X7 (.cells #[.bool false,.slice none 0 0] 53)
     have hd:Below X7.heap.size X7 (X7.alloc (.cells #[.bool false,.slice none 0 0] 53)):=(blr _ _).alloc (nr _) _
     have hne:¬X7.heap.size=b6:=by have:=lt_of_block h6;omega
     have hl7:W.heap.size<=X7.heap.size:=hb.size
     obtain⟨b7,hbk⟩:∃b,b=X7.heap.size:=⟨_,rfl⟩
     rw[<-hbk] at h7 hl7 hne ⊢
     obtain⟨X10,hY⟩:∃Y,Y=X7.alloc (.cells #[.bool false,.slice none 0 0] 53):=⟨_,rfl⟩
     rw[<-hY] at h7 hd ⊢
     clear hbk hY hh
     replace hb:=bnx hb hd
     replace h6:=at_later h6 hd
     replace ra:=ra.below hd
     replace rb:=rb.below hd
     replace rg:=rg.below hd
     replace rn:=rn.below hd
     clear hd
     refine hK.out _ _ (hSall _ hb) (fun hh=>?_)
     clear hK K
     try simp only[Act.put,ptA,ptB,ptC]
     refine zb (rs:=[5]) (by kernel_rfl) (by simp) ?_
     refine mem1 ?_
     refine zd rfl (fun K hK=>?_)
     go_simp
     go_at_call 154
     refine(zaF _ _ _ _ _ L L rb rg hL hL hg0).mono ?_
     rintro e X11 ⟨_,rfl,rd,hd⟩
     obtain⟨sd,Ad,nd,cd,rfl,hsd,_⟩:=rd.parts
     have HSd:=hide hsd;clear hsd
     go_wp2_with fail
     clear hh
     replace hb:=bnx hb hd
     replace h6:=at_later h6 hd
     replace h7:=at_later h7 hd
     replace ra:=ra.below hd
     replace rb:=rb.below hd
     replace rg:=rg.below hd
     replace rn:=rn.below hd
     clear hd
     refine hK.out _ _ (hSall _ hb) (fun hh=>?_)
     clear hK K
     try simp only[Act.put,ptA,ptB,ptC]
     obtain⟨y0,y1,f0,f1⟩:=ze h6
     obtain⟨z0,z1,e0,e1⟩:=ze h7
     have hne':¬b6=b7:=fun e=>hne (by first|exact e|exact e.symm)
     have hne'':¬b7=b6:=fun e=>hne' e.symm
     have HL:=hide (ai rn (ai rd (ai h6 (ai h7 (ai hl6 (ai hl7 hb))))))
     clear rn rd h6 h7
     refine zb (rs:=[8]) (by kernel_rfl) (by simp) ?_
     refine mem1 ?_
     refine zd rfl (fun K hK=>?_)
     go_simp
     refine hK.out _ _ (hSall _ (zl hb hl6)) (fun hHeld'=>?_)
     clear hK K
     try simp only[Act.put,ptA,ptB,ptC]
     refine zb (rs:=[9]) (by kernel_rfl) (by simp) ?_
     refine mem1 ?_
     refine zd rfl (fun K hK=>?_)
     go_simp
     refine hK.out _ _ (hSall _ (zl (zl hb hl6) hl7)) (fun hHeld''=>?_)
     clear hK K hh hHeld' hHeld'' hb
     try simp only[Act.put,ptA,ptB,ptC]
     refine zM (by kernel_rfl) ?_ _
     go_wp2
     go_meet
     refine⟨b6,b7,sn,An,nn,cn,sd,Ad,nd,cd,rfl,rfl,hne',?_⟩
     obtain⟨rn,rd,h6,h7,hl6,hl7,hb⟩:=HL.out
     exact zaW rn rd HSn.out HSd.out h6 h7 hne' hb hl6 hl7
   ·refine zd rfl (fun K hK=>?_)
    go_simp
    have h7:=zj X1 (.cells #[.bool false,.slice none 0 0] 53)
    have hd:Below X1.heap.size X1 (X1.alloc (.cells #[.bool false,.slice none 0 0] 53)):=(blr _ _).alloc (nr _) _
    have hl7:W.heap.size<=X1.heap.size:=hb.size
    obtain⟨b7,hbk⟩:∃b,b=X1.heap.size:=⟨_,rfl⟩
    rw[<-hbk] at h7 hl7  ⊢
    obtain⟨X12,hY⟩:∃Y,Y=X1.alloc (.cells #[.bool false,.slice none 0 0] 53):=⟨_,rfl⟩
    rw[<-hY] at h7 hd ⊢
    clear hbk hY hh
    replace hb:=bnx hb hd
    replace ra:=ra.below hd
    replace rb:=rb.below hd
    replace rg:=rg.below hd
    replace rn:=rn.below hd
    clear hd
    refine hK.out _ _ (hSall _ hb) (fun hh=>?_)
    clear hK K
    try simp only[Act.put,ptA,ptB,ptC]
    refine zb (rs:=[5,6]) (by kernel_rfl) (by simp) ?_
    refine List.forall_mem_cons.2 ⟨?_,List.forall_mem_cons.2 ⟨?_,fun _ h=>absurd h List.not_mem_nil⟩⟩
    ·refine zd rfl (fun K hK=>?_)
     go_simp
     go_at_call 154
     refine(zaF _ _ _ _ _ L L rb rg hL hL hg0).mono ?_
     rintro e X13 ⟨_,rfl,rd,hd⟩
     obtain⟨sd,Ad,nd,cd,rfl,hsd,_⟩:=rd.parts
     have HSd:=hide hsd;clear hsd
     go_wp2_with fail
     clear hh
     replace hb:=bnx hb hd
     replace h7:=at_later h7 hd
     replace ra:=ra.below hd
     replace rb:=rb.below hd
     replace rg:=rg.below hd
     replace rn:=rn.below hd
     clear hd
     refine hK.out _ _ (hSall _ hb) (fun hh=>?_)
     clear hK K
     try simp only[Act.put,ptA,ptB,ptC]
     refine zb (rs:=[6]) (by kernel_rfl) (by simp) ?_
     refine mem1 ?_
     refine zd rfl (fun K hK=>?_)
     go_simp
     have h6:=zj X13 (.cells #[.bool false,.slice none 0 0] 53)
     have hd:Below X13.heap.size X13 (X13.alloc (.cells #[.bool false,.slice none 0 0] 53)):=(blr _ _).alloc (nr _) _
     have hne:¬X13.heap.size=b7:=by have:=lt_of_block h7;omega
     have hl6:W.heap.size<=X13.heap.size:=hb.size
     obtain⟨b6,hbk⟩:∃b,b=X13.heap.size:=⟨_,rfl⟩
     rw[<-hbk] at h6 hl6 hne ⊢
     obtain⟨X14,hY⟩:∃Y,Y=X13.alloc (.cells #[.bool false,.slice none 0 0] 53):=⟨_,rfl⟩
     rw[<-hY] at h6 hd ⊢
     clear hbk hY hh
     replace hb:=bnx hb hd
     replace h7:=at_later h7 hd
     replace ra:=ra.below hd
     replace rb:=rb.below hd
     replace rd:=rd.below hd
     replace rg:=rg.below hd
     replace rn:=rn.below hd
     clear hd
     refine hK.out _ _ (hSall _ hb) (fun hh=>?_)
     clear hK K
     try simp only[Act.put,ptA,ptB,ptC]
     obtain⟨y0,y1,f0,f1⟩:=ze h6
     obtain⟨z0,z1,e0,e1⟩:=ze h7
     have hne':¬b6=b7:=fun e=>hne (by first|exact e|exact e.symm)
     have hne'':¬b7=b6:=fun e=>hne' e.symm
     have HL:=hide (ai rn (ai rd (ai h6 (ai h7 (ai hl6 (ai hl7 hb))))))
     clear rn rd h6 h7
     refine zb (rs:=[8]) (by kernel_rfl) (by simp) ?_
     refine mem1 ?_
     refine zd rfl (fun K hK=>?_)
     go_simp
     refine hK.out _ _ (hSall _ (zl hb hl6)) (fun hHeld'=>?_)
     clear hK K
     try simp only[Act.put,ptA,ptB,ptC]
     refine zb (rs:=[9]) (by kernel_rfl) (by simp) ?_
     refine mem1 ?_
     refine zd rfl (fun K hK=>?_)
     go_simp
     refine hK.out _ _ (hSall _ (zl (zl hb hl6) hl7)) (fun hHeld''=>?_)
     clear hK K hh hHeld' hHeld'' hb
     try simp only[Act.put,ptA,ptB,ptC]
     refine zM (by kernel_rfl) ?_ _
     go_wp2
     go_meet
     refine⟨b6,b7,sn,An,nn,cn,sd,Ad,nd,cd,rfl,rfl,hne',?_⟩
     obtain⟨rn,rd,h6,h7,hl6,hl7,hb⟩:=HL.out
     exact zaW rn rd HSn.out HSd.out h6 h7 hne' hb hl6 hl7
    ·refine zd rfl (fun K hK=>?_)
     go_simp
     have h6:=zj X12 (.cells #[.bool false,.slice none 0 0] 53)
     have hd:Below X12.heap.size X12 (X12.alloc (.cells #[.bool false,.slice none 0 0] 53)):=(blr _ _).alloc (nr _) _
     have hne:¬X12.heap.size=b7:=by have:=lt_of_block h7;omega
     have hl6:W.heap.size<=X12.heap.size:=hb.size
     obtain⟨b6,hbk⟩:∃b,b=X12.heap.size:=⟨_,rfl⟩
     rw[<-hbk] at h6 hl6 hne ⊢
     obtain⟨X15,hY⟩:∃Y,Y=X12.alloc (.cells #[.bool false,.slice none 0 0] 53):=⟨_,rfl⟩
     rw[<-hY] at h6 hd ⊢
     clear hbk hY hh
     replace hb:=bnx hb hd
     replace h7:=at_later h7 hd
     replace ra:=ra.below hd
     replace rb:=rb.below hd
     replace rg:=rg.below hd
     replace rn:=rn.below hd
     clear hd
     refine hK.out _ _ (hSall _ hb) (fun hh=>?_)
     clear hK K
     try simp only[Act.put,ptA,ptB,ptC]
     refine zb (rs:=[5]) (by kernel_rfl) (by simp) ?_
     refine mem1 ?_
     refine zd rfl (fun K hK=>?_)
     go_simp
     go_at_call 154
     refine(zaF _ _ _ _ _ L L rb rg hL hL hg0).mono ?_
     rintro e X16 ⟨_,rfl,rd,hd⟩
     obtain⟨sd,Ad,nd,cd,rfl,hsd,_⟩:=rd.parts
     have HSd:=hide hsd;clear hsd
     go_wp2_with fail
     clear hh
     replace hb:=bnx hb hd
     replace h6:=at_later h6 hd
     replace h7:=at_later h7 hd
     replace ra:=ra.below hd
     replace rb:=rb.below hd
     replace rg:=rg.below hd
     replace rn:=rn.below hd
     clear hd
     refine hK.out _ _ (hSall _ hb) (fun hh=>?_)
     clear hK K
     try simp only[Act.put,ptA,ptB,ptC]
     obtain⟨y0,y1,f0,f1⟩:=ze h6
     obtain⟨z0,z1,e0,e1⟩:=ze h7
     have hne':¬b6=b7:=fun e=>hne (by first|exact e|exact e.symm)
     have hne'':¬b7=b6:=fun e=>hne' e.symm
     have HL:=hide (ai rn (ai rd (ai h6 (ai h7 (ai hl6 (ai hl7 hb))))))
     clear rn rd h6 h7
     refine zb (rs:=[8]) (by kernel_rfl) (by simp) ?_
     refine mem1 ?_
     refine zd rfl (fun K hK=>?_)
     go_simp
     refine hK.out _ _ (hSall _ (zl hb hl6)) (fun hHeld'=>?_)
     clear hK K
     try simp only[Act.put,ptA,ptB,ptC]
     refine zb (rs:=[9]) (by kernel_rfl) (by simp) ?_
     refine mem1 ?_
     refine zd rfl (fun K hK=>?_)
     go_simp
     refine hK.out _ _ (hSall _ (zl (zl hb hl6) hl7)) (fun hHeld''=>?_)
     clear hK K hh hHeld' hHeld'' hb
     try simp only[Act.put,ptA,ptB,ptC]
     refine zM (by kernel_rfl) ?_ _
     go_wp2
     go_meet
     refine⟨b6,b7,sn,An,nn,cn,sd,Ad,nd,cd,rfl,rfl,hne',?_⟩
     obtain⟨rn,rd,h6,h7,hl6,hl7,hb⟩:=HL.out
     exact zaW rn rd HSn.out HSd.out h6 h7 hne' hb hl6 hl7
  ·refine zd rfl (fun K hK=>?_)
   go_simp
   have h6:=zj X0 (.cells #[.bool false,.slice none 0 0] 53)
   have hd:Below X0.heap.size X0 (X0.alloc (.cells #[.bool false,.slice none 0 0] 53)):=(blr _ _).alloc (nr _) _
   have hl6:W.heap.size<=X0.heap.size:=hb.size
   obtain⟨b6,hbk⟩:∃b,b=X0.heap.size:=⟨_,rfl⟩
   rw[<-hbk] at h6 hl6  ⊢
   obtain⟨X17,hY⟩:∃Y,Y=X0.alloc (.cells #[.bool false,.slice none 0 0] 53):=⟨_,rfl⟩
   rw[<-hY] at h6 hd ⊢
   clear hbk hY hh
   replace hb:=bnx hb hd
   replace ra:=ra.below hd
   replace rb:=rb.below hd
   replace rg:=rg.below hd
   clear hd
   refine hK.out _ _ (hSall _ hb) (fun hh=>?_)
   clear hK K
   try simp only[Act.put,ptA,ptB,ptC]
   refine zb (rs:=[2,7]) (by kernel_rfl) (by simp) ?_
   refine List.forall_mem_cons.2 ⟨?_,List.forall_mem_cons.2 ⟨?_,fun _ h=>absurd h List.not_mem_nil⟩⟩
   ·refine zd rfl (fun K hK=>?_)
    go_simp
    go_at_call 154
    refine(zaF _ _ _ _ _ L L ra rg hL hL hg0).mono ?_
    rintro e X18 ⟨_,rfl,rn,hd⟩
    obtain⟨sn,An,nn,cn,rfl,hsn,_⟩:=rn.parts
    have HSn:=hide hsn;clear hsn
    go_wp2_with fail
    clear hh
    replace hb:=bnx hb hd
    replace h6:=at_later h6 hd
    replace ra:=ra.below hd
    replace rb:=rb.below hd
    replace rg:=rg.below hd
    clear hd
    refine hK.out _ _ (hSall _ hb) (fun hh=>?_)
    clear hK K
    try simp only[Act.put,ptA,ptB,ptC]
    refine zb (rs:=[5,7]) (by kernel_rfl) (by simp) ?_
    refine List.forall_mem_cons.2 ⟨?_,List.forall_mem_cons.2 ⟨?_,fun _ h=>absurd h List.not_mem_nil⟩⟩
    ·refine zd rfl (fun K hK=>?_)
     go_simp
     go_at_call 154
     refine(zaF _ _ _ _ _ L L rb rg hL hL hg0).mono ?_
     rintro e X19 ⟨_,rfl,rd,hd⟩
     obtain⟨sd,Ad,nd,cd,rfl,hsd,_⟩:=rd.parts
     have HSd:=hide hsd;clear hsd
     go_wp2_with fail
     clear hh
     replace hb:=bnx hb hd
     replace h6:=at_later h6 hd
     replace ra:=ra.below hd
     replace rb:=rb.below hd
     replace rg:=rg.below hd
     replace rn:=rn.below hd
     clear hd
     refine hK.out _ _ (hSall _ hb) (fun hh=>?_)
     clear hK K
     try simp only[Act.put,ptA,ptB,ptC]
     refine zb (rs:=[7]) (by kernel_rfl) (by simp) ?_
     refine mem1 ?_
     refine zd rfl (fun K hK=>?_)
     go_simp
     have h7:=zj X19 (.cells #[.bool false,.slice none 0 0] 53)
     have hd:Below X19.heap.size X19 (X19.alloc (.cells #[.bool false,.slice none 0 0] 53)):=(blr _ _).alloc (nr _) _
     have hne:¬X19.heap.size=b6:=by have:=lt_of_block h6;omega
     have hl7:W.heap.size<=X19.heap.size:=hb.size
     obtain⟨b7,hbk⟩:∃b,b=X19.heap.size:=⟨_,rfl⟩
     rw[<-hbk] at h7 hl7 hne ⊢
     obtain⟨X20,hY⟩:∃Y,Y=X19.alloc (.cells #[.bool false,.slice none 0 0] 53):=⟨_,rfl⟩
     rw[<-hY] at h7 hd ⊢
     clear hbk hY hh
     replace hb:=bnx hb hd
     replace h6:=at_later h6 hd
     replace ra:=ra.below hd
     replace rb:=rb.below hd
     replace rd:=rd.below hd
     replace rg:=rg.below hd
     replace rn:=rn.below hd
     clear hd
     refine hK.out _ _ (hSall _ hb) (fun hh=>?_)
     clear hK K
     try simp only[Act.put,ptA,ptB,ptC]
     obtain⟨y0,y1,f0,f1⟩:=ze h6
     obtain⟨z0,z1,e0,e1⟩:=ze h7
     have hne':¬b6=b7:=fun e=>hne (by first|exact e|exact e.symm)
     have hne'':¬b7=b6:=fun e=>hne' e.symm
     have HL:=hide (ai rn (ai rd (ai h6 (ai h7 (ai hl6 (ai hl7 hb))))))
     clear rn rd h6 h7
     refine zb (rs:=[8]) (by kernel_rfl) (by simp) ?_
     refine mem1 ?_
     refine zd rfl (fun K hK=>?_)
     go_simp
     refine hK.out _ _ (hSall _ (zl hb hl6)) (fun hHeld'=>?_)
     clear hK K
     try simp only[Act.put,ptA,ptB,ptC]
     refine zb (rs:=[9]) (by kernel_rfl) (by simp) ?_
     refine mem1 ?_
     refine zd rfl (fun K hK=>?_)
     go_simp
     refine hK.out _ _ (hSall _ (zl (zl hb hl6) hl7)) (fun hHeld''=>?_)
     clear hK K hh hHeld' hHeld'' hb
     try simp only[Act.put,ptA,ptB,ptC]
     refine zM (by kernel_rfl) ?_ _
     go_wp2
     go_meet
     refine⟨b6,b7,sn,An,nn,cn,sd,Ad,nd,cd,rfl,rfl,hne',?_⟩
     obtain⟨rn,rd,h6,h7,hl6,hl7,hb⟩:=HL.out
     exact zaW rn rd HSn.out HSd.out h6 h7 hne' hb hl6 hl7
    ·refine zd rfl (fun K hK=>?_)
     go_simp
     have h7:=zj X18 (.cells #[.bool false,.slice none 0 0] 53)
     have hd:Below X18.heap.size X18 (X18.alloc (.cells #[.bool false,.slice none 0 0] 53)):=(blr _ _).alloc (nr _) _
     have hne:¬X18.heap.size=b6:=by have:=lt_of_block h6;omega
     have hl7:W.heap.size<=X18.heap.size:=hb.size
     obtain⟨b7,hbk⟩:∃b,b=X18.heap.size:=⟨_,rfl⟩
     rw[<-hbk] at h7 hl7 hne ⊢
     obtain⟨X21,hY⟩:∃Y,Y=X18.alloc (.cells #[.bool false,.slice none 0 0] 53):=⟨_,rfl⟩
     rw[<-hY] at h7 hd ⊢
     clear hbk hY hh
     replace hb:=bnx hb hd
     replace h6:=at_later h6 hd
     replace ra:=ra.below hd
     replace rb:=rb.below hd
     replace rg:=rg.below hd
     replace rn:=rn.below hd
     clear hd
     refine hK.out _ _ (hSall _ hb) (fun hh=>?_)
     clear hK K
     try simp only[Act.put,ptA,ptB,ptC]
     refine zb (rs:=[5]) (by kernel_rfl) (by simp) ?_
     refine mem1 ?_
     refine zd rfl (fun K hK=>?_)
     go_simp
     go_at_call 154
     refine(zaF _ _ _ _ _ L L rb rg hL hL hg0).mono ?_
     rintro e X22 ⟨_,rfl,rd,hd⟩
     obtain⟨sd,Ad,nd,cd,rfl,hsd,_⟩:=rd.parts
     have HSd:=hide hsd;clear hsd
     go_wp2_with fail
     clear hh
     replace hb:=bnx hb hd
     replace h6:=at_later h6 hd
     replace h7:=at_later h7 hd
     replace ra:=ra.below hd
     replace rb:=rb.below hd
     replace rg:=rg.below hd
     replace rn:=rn.below hd
     clear hd
     refine hK.out _ _ (hSall _ hb) (fun hh=>?_)
     clear hK K
     try simp only[Act.put,ptA,ptB,ptC]
     obtain⟨y0,y1,f0,f1⟩:=ze h6
     obtain⟨z0,z1,e0,e1⟩:=ze h7
     have hne':¬b6=b7:=fun e=>hne (by first|exact e|exact e.symm)
     have hne'':¬b7=b6:=fun e=>hne' e.symm
     have HL:=hide (ai rn (ai rd (ai h6 (ai h7 (ai hl6 (ai hl7 hb))))))
     clear rn rd h6 h7
     refine zb (rs:=[8]) (by kernel_rfl) (by simp) ?_
     refine mem1 ?_
     refine zd rfl (fun K hK=>?_)
     go_simp
     refine hK.out _ _ (hSall _ (zl hb hl6)) (fun hHeld'=>?_)
     clear hK K
     try simp only[Act.put,ptA,ptB,ptC]
     refine zb (rs:=[9]) (by kernel_rfl) (by simp) ?_
     refine mem1 ?_
     refine zd rfl (fun K hK=>?_)
     go_simp
     refine hK.out _ _ (hSall _ (zl (zl hb hl6) hl7)) (fun hHeld''=>?_)
     clear hK K hh hHeld' hHeld'' hb
     try simp only[Act.put,ptA,ptB,ptC]
     refine zM (by kernel_rfl) ?_ _
     go_wp2
     go_meet
     refine⟨b6,b7,sn,An,nn,cn,sd,Ad,nd,cd,rfl,rfl,hne',?_⟩
     obtain⟨rn,rd,h6,h7,hl6,hl7,hb⟩:=HL.out
     exact zaW rn rd HSn.out HSd.out h6 h7 hne' hb hl6 hl7
   ·refine zd rfl (fun K hK=>?_)
    go_simp
    have h7:=zj X17 (.cells #[.bool false,.slice none 0 0] 53)
    have hd:Below X17.heap.size X17 (X17.alloc (.cells #[.bool false,.slice none 0 0] 53)):=(blr _ _).alloc (nr _) _
    have hne:¬X17.heap.size=b6:=by have:=lt_of_block h6;omega
    have hl7:W.heap.size<=X17.heap.size:=hb.size
    obtain⟨b7,hbk⟩:∃b,b=X17.heap.size:=⟨_,rfl⟩
    rw[<-hbk] at h7 hl7 hne ⊢
    obtain⟨X23,hY⟩:∃Y,Y=X17.alloc (.cells #[.bool false,.slice none 0 0] 53):=⟨_,rfl⟩
    rw[<-hY] at h7 hd ⊢
    clear hbk hY hh
    replace hb:=bnx hb hd
    replace h6:=at_later h6 hd
    replace ra:=ra.below hd
    replace rb:=rb.below hd
    replace rg:=rg.below hd
    clear hd
    refine hK.out _ _ (hSall _ hb) (fun hh=>?_)
    clear hK K
    try simp only[Act.put,ptA,ptB,ptC]
    refine zb (rs:=[2]) (by kernel_rfl) (by simp) ?_
    refine mem1 ?_
    refine zd rfl (fun K hK=>?_)
    go_simp
    go_at_call 154
    refine(zaF _ _ _ _ _ L L ra rg hL hL hg0).mono ?_
    rintro e X24 ⟨_,rfl,rn,hd⟩
    obtain⟨sn,An,nn,cn,rfl,hsn,_⟩:=rn.parts
    have HSn:=hide hsn;clear hsn
    go_wp2_with fail
    clear hh
    replace hb:=bnx hb hd
    replace h6:=at_later h6 hd
    replace h7:=at_later h7 hd
    replace ra:=ra.below hd
    replace rb:=rb.below hd
    replace rg:=rg.below hd
    clear hd
    refine hK.out _ _ (hSall _ hb) (fun hh=>?_)
    clear hK K
    try simp only[Act.put,ptA,ptB,ptC]
    refine zb (rs:=[5]) (by kernel_rfl) (by simp) ?_
    refine mem1 ?_
    refine zd rfl (fun K hK=>?_)
    go_simp
    go_at_call 154
    refine(zaF _ _ _ _ _ L L rb rg hL hL hg0).mono ?_
    rintro e X25 ⟨_,rfl,rd,hd⟩
    obtain⟨sd,Ad,nd,cd,rfl,hsd,_⟩:=rd.parts
    have HSd:=hide hsd;clear hsd
    go_wp2_with fail
    clear hh
    replace hb:=bnx hb hd
    replace h6:=at_later h6 hd
    replace h7:=at_later h7 hd
    replace ra:=ra.below hd
    replace rb:=rb.below hd
    replace rg:=rg.below hd
    replace rn:=rn.below hd
    clear hd
    refine hK.out _ _ (hSall _ hb) (fun hh=>?_)
    clear hK K
    try simp only[Act.put,ptA,ptB,ptC]
    obtain⟨y0,y1,f0,f1⟩:=ze h6
    obtain⟨z0,z1,e0,e1⟩:=ze h7
    have hne':¬b6=b7:=fun e=>hne (by first|exact e|exact e.symm)
    have hne'':¬b7=b6:=fun e=>hne' e.symm
    have HL:=hide (ai rn (ai rd (ai h6 (ai h7 (ai hl6 (ai hl7 hb))))))
    clear rn rd h6 h7
    refine zb (rs:=[8]) (by kernel_rfl) (by simp) ?_
    refine mem1 ?_
    refine zd rfl (fun K hK=>?_)
    go_simp
    refine hK.out _ _ (hSall _ (zl hb hl6)) (fun hHeld'=>?_)
    clear hK K
    try simp only[Act.put,ptA,ptB,ptC]
    refine zb (rs:=[9]) (by kernel_rfl) (by simp) ?_
    refine mem1 ?_
    refine zd rfl (fun K hK=>?_)
    go_simp
    refine hK.out _ _ (hSall _ (zl (zl hb hl6) hl7)) (fun hHeld''=>?_)
    clear hK K hh hHeld' hHeld'' hb
    try simp only[Act.put,ptA,ptB,ptC]
    refine zM (by kernel_rfl) ?_ _
    go_wp2
    go_meet
    refine⟨b6,b7,sn,An,nn,cn,sd,Ad,nd,cd,rfl,rfl,hne',?_⟩
    obtain⟨rn,rd,h6,h7,hl6,hl7,hb⟩:=HL.out
    exact zaW rn rd HSn.out HSd.out h6 h7 hne' hb hl6 hl7
  ·refine zd rfl (fun K hK=>?_)
   go_simp
   have h7:=zj X0 (.cells #[.bool false,.slice none 0 0] 53)
   have hd:Below X0.heap.size X0 (X0.alloc (.cells #[.bool false,.slice none 0 0] 53)):=(blr _ _).alloc (nr _) _
   have hl7:W.heap.size<=X0.heap.size:=hb.size
   obtain⟨b7,hbk⟩:∃b,b=X0.heap.size:=⟨_,rfl⟩
   rw[<-hbk] at h7 hl7  ⊢
   obtain⟨X26,hY⟩:∃Y,Y=X0.alloc (.cells #[.bool false,.slice none 0 0] 53):=⟨_,rfl⟩
   rw[<-hY] at h7 hd ⊢
   clear hbk hY hh
   replace hb:=bnx hb hd
   replace ra:=ra.below hd
   replace rb:=rb.below hd
   replace rg:=rg.below hd
   clear hd
   refine hK.out _ _ (hSall _ hb) (fun hh=>?_)
   clear hK K
   try simp only[Act.put,ptA,ptB,ptC]
   refine zb (rs:=[2,6]) (by kernel_rfl) (by simp) ?_
   refine List.forall_mem_cons.2 ⟨?_,List.forall_mem_cons.2 ⟨?_,fun _ h=>absurd h List.not_mem_nil⟩⟩
   ·refine zd rfl (fun K hK=>?_)
    go_simp
    go_at_call 154
    refine(zaF _ _ _ _ _ L L ra rg hL hL hg0).mono ?_
    rintro e X27 ⟨_,rfl,rn,hd⟩
    obtain⟨sn,An,nn,cn,rfl,hsn,_⟩:=rn.parts
    have HSn:=hide hsn;clear hsn
    go_wp2_with fail
    clear hh
    replace hb:=bnx hb hd
    replace h7:=at_later h7 hd
    replace ra:=ra.below hd
    replace rb:=rb.below hd
    replace rg:=rg.below hd
    clear hd
    refine hK.out _ _ (hSall _ hb) (fun hh=>?_)
    clear hK K
    try simp only[Act.put,ptA,ptB,ptC]
    refine zb (rs:=[5,6]) (by kernel_rfl) (by simp) ?_
    refine List.forall_mem_cons.2 ⟨?_,List.forall_mem_cons.2 ⟨?_,fun _ h=>absurd h List.not_mem_nil⟩⟩
    ·refine zd rfl (fun K hK=>?_)
     go_simp
     go_at_call 154
     refine(zaF _ _ _ _ _ L L rb rg hL hL hg0).mono ?_
     rintro e X28 ⟨_,rfl,rd,hd⟩
     obtain⟨sd,Ad,nd,cd,rfl,hsd,_⟩:=rd.parts
     have HSd:=hide hsd;clear hsd
     go_wp2_with fail
     clear hh
     replace hb:=bnx hb hd
     replace h7:=at_later h7 hd
     replace ra:=ra.below hd
     replace rb:=rb.below hd
     replace rg:=rg.below hd
     replace rn:=rn.below hd
     clear hd
     refine hK.out _ _ (hSall _ hb) (fun hh=>?_)
     clear hK K
     try simp only[Act.put,ptA,ptB,ptC]
     refine zb (rs:=[6]) (by kernel_rfl) (by simp) ?_
     refine mem1 ?_
     refine zd rfl (fun K hK=>?_)
     go_simp
     have h6:=zj X28 (.cells #[.bool false,.slice none 0 0] 53)
     have hd:Below X28.heap.size X28 (X28.alloc (.cells #[.bool false,.slice none 0 0] 53)):=(blr _ _).alloc (nr _) _
     have hne:¬X28.heap.size=b7:=by have:=lt_of_block h7;omega
     have hl6:W.heap.size<=X28.heap.size:=hb.size
     obtain⟨b6,hbk⟩:∃b,b=X28.heap.size:=⟨_,rfl⟩
     rw[<-hbk] at h6 hl6 hne ⊢
     obtain⟨X29,hY⟩:∃Y,Y=X28.alloc (.cells #[.bool false,.slice none 0 0] 53):=⟨_,rfl⟩
     rw[<-hY] at h6 hd ⊢
     clear hbk hY hh
     replace hb:=bnx hb hd
     replace h7:=at_later h7 hd
     replace ra:=ra.below hd
     replace rb:=rb.below hd
     replace rd:=rd.below hd
     replace rg:=rg.below hd
     replace rn:=rn.below hd
     clear hd
     refine hK.out _ _ (hSall _ hb) (fun hh=>?_)
     clear hK K
     try simp only[Act.put,ptA,ptB,ptC]
     obtain⟨y0,y1,f0,f1⟩:=ze h6
     obtain⟨z0,z1,e0,e1⟩:=ze h7
     have hne':¬b6=b7:=fun e=>hne (by first|exact e|exact e.symm)
     have hne'':¬b7=b6:=fun e=>hne' e.symm
     have HL:=hide (ai rn (ai rd (ai h6 (ai h7 (ai hl6 (ai hl7 hb))))))
     clear rn rd h6 h7
     refine zb (rs:=[8]) (by kernel_rfl) (by simp) ?_
     refine mem1 ?_
     refine zd rfl (fun K hK=>?_)
     go_simp
     refine hK.out _ _ (hSall _ (zl hb hl6)) (fun hHeld'=>?_)
     clear hK K
     try simp only[Act.put,ptA,ptB,ptC]
     refine zb (rs:=[9]) (by kernel_rfl) (by simp) ?_
     refine mem1 ?_
     refine zd rfl (fun K hK=>?_)
     go_simp
     refine hK.out _ _ (hSall _ (zl (zl hb hl6) hl7)) (fun hHeld''=>?_)
     clear hK K hh hHeld' hHeld'' hb
     try simp only[Act.put,ptA,ptB,ptC]
     refine zM (by kernel_rfl) ?_ _
     go_wp2
     go_meet
     refine⟨b6,b7,sn,An,nn,cn,sd,Ad,nd,cd,rfl,rfl,hne',?_⟩
     obtain⟨rn,rd,h6,h7,hl6,hl7,hb⟩:=HL.out
     exact zaW rn rd HSn.out HSd.out h6 h7 hne' hb hl6 hl7
    ·refine zd rfl (fun K hK=>?_)
     go_simp
     have h6:=zj X27 (.cells #[.bool false,.slice none 0 0] 53)
     have hd:Below X27.heap.size X27 (X27.alloc (.cells #[.bool false,.slice none 0 0] 53)):=(blr _ _).alloc (nr _) _
     have hne:¬X27.heap.size=b7:=by have:=lt_of_block h7;omega
     have hl6:W.heap.size<=X27.heap.size:=hb.size
     obtain⟨b6,hbk⟩:∃b,b=X27.heap.size:=⟨_,rfl⟩
     rw[<-hbk] at h6 hl6 hne ⊢
     obtain⟨X30,hY⟩:∃Y,Y=X27.alloc (.cells #[.bool false,.slice none 0 0] 53):=⟨_,rfl⟩
     rw[<-hY] at h6 hd ⊢
     clear hbk hY hh
     replace hb:=bnx hb hd
     replace h7:=at_later h7 hd
     replace ra:=ra.below hd
     replace rb:=rb.below hd
     replace rg:=rg.below hd
     replace rn:=rn.below hd
     clear hd
     refine hK.out _ _ (hSall _ hb) (fun hh=>?_)
     clear hK K
     try simp only[Act.put,ptA,ptB,ptC]
     refine zb (rs:=[5]) (by kernel_rfl) (by simp) ?_
     refine mem1 ?_
     refine zd rfl (fun K hK=>?_)
     go_simp
     go_at_call 154
     refine(zaF _ _ _ _ _ L L rb rg hL hL hg0).mono ?_
     rintro e X31 ⟨_,rfl,rd,hd⟩
     obtain⟨sd,Ad,nd,cd,rfl,hsd,_⟩:=rd.parts
     have HSd:=hide hsd;clear hsd
     go_wp2_with fail
     clear hh
     replace hb:=bnx hb hd
     replace h6:=at_later h6 hd
     replace h7:=at_later h7 hd
     replace ra:=ra.below hd
     replace rb:=rb.below hd
     replace rg:=rg.below hd
     replace rn:=rn.below hd
     clear hd
     refine hK.out _ _ (hSall _ hb) (fun hh=>?_)
     clear hK K
     try simp only[Act.put,ptA,ptB,ptC]
     obtain⟨y0,y1,f0,f1⟩:=ze h6
     obtain⟨z0,z1,e0,e1⟩:=ze h7
     have hne':¬b6=b7:=fun e=>hne (by first|exact e|exact e.symm)
     have hne'':¬b7=b6:=fun e=>hne' e.symm
     have HL:=hide (ai rn (ai rd (ai h6 (ai h7 (ai hl6 (ai hl7 hb))))))
     clear rn rd h6 h7
     refine zb (rs:=[8]) (by kernel_rfl) (by simp) ?_
     refine mem1 ?_
     refine zd rfl (fun K hK=>?_)
     go_simp
     refine hK.out _ _ (hSall _ (zl hb hl6)) (fun hHeld'=>?_)
     clear hK K
     try simp only[Act.put,ptA,ptB,ptC]
     refine zb (rs:=[9]) (by kernel_rfl) (by simp) ?_
     refine mem1 ?_
     refine zd rfl (fun K hK=>?_)
     go_simp
     refine hK.out _ _ (hSall _ (zl (zl hb hl6) hl7)) (fun hHeld''=>?_)
     clear hK K hh hHeld' hHeld'' hb
     try simp only[Act.put,ptA,ptB,ptC]
     refine zM (by kernel_rfl) ?_ _
     go_wp2
     go_meet
     refine⟨b6,b7,sn,An,nn,cn,sd,Ad,nd,cd,rfl,rfl,hne',?_⟩
     obtain⟨rn,rd,h6,h7,hl6,hl7,hb⟩:=HL.out
     exact zaW rn rd HSn.out HSd.out h6 h7 hne' hb hl6 hl7
   ·refine zd rfl (fun K hK=>?_)
    go_simp
    have h6:=zj X26 (.cells #[.bool false,.slice none 0 0] 53)
    have hd:Below X26.heap.size X26 (X26.alloc (.cells #[.bool false,.slice none 0 0] 53)):=(blr _ _).alloc (nr _) _
    have hne:¬X26.heap.size=b7:=by have:=lt_of_block h7;omega
    have hl6:W.heap.size<=X26.heap.size:=hb.size
    obtain⟨b6,hbk⟩:∃b,b=X26.heap.size:=⟨_,rfl⟩
    rw[<-hbk] at h6 hl6 hne ⊢
    obtain⟨X32,hY⟩:∃Y,Y=X26.alloc (.cells #[.bool false,.slice none 0 0] 53):=⟨_,rfl⟩
    rw[<-hY] at h6 hd ⊢
    clear hbk hY hh
    replace hb:=bnx hb hd
    replace h7:=at_later h7 hd
    replace ra:=ra.below hd
    replace rb:=rb.below hd
    replace rg:=rg.below hd
    clear hd
    refine hK.out _ _ (hSall _ hb) (fun hh=>?_)
    clear hK K
    try simp only[Act.put,ptA,ptB,ptC]
    refine zb (rs:=[2]) (by kernel_rfl) (by simp) ?_
    refine mem1 ?_
    refine zd rfl (fun K hK=>?_)
    go_simp
    go_at_call 154
    refine(zaF _ _ _ _ _ L L ra rg hL hL hg0).mono ?_
    rintro e X33 ⟨_,rfl,rn,hd⟩
    obtain⟨sn,An,nn,cn,rfl,hsn,_⟩:=rn.parts
    have HSn:=hide hsn;clear hsn
    go_wp2_with fail
    clear hh
    replace hb:=bnx hb hd
    replace h6:=at_later h6 hd
    replace h7:=at_later h7 hd
    replace ra:=ra.below hd
    replace rb:=rb.below hd
    replace rg:=rg.below hd
    clear hd
    refine hK.out _ _ (hSall _ hb) (fun hh=>?_)
    clear hK K
    try simp only[Act.put,ptA,ptB,ptC]
    refine zb (rs:=[5]) (by kernel_rfl) (by simp) ?_
    refine mem1 ?_
    refine zd rfl (fun K hK=>?_)
    go_simp
    go_at_call 154
    refine(zaF _ _ _ _ _ L L rb rg hL hL hg0).mono ?_
    rintro e X34 ⟨_,rfl,rd,hd⟩
    obtain⟨sd,Ad,nd,cd,rfl,hsd,_⟩:=rd.parts
    have HSd:=hide hsd;clear hsd
    go_wp2_with fail
    clear hh
    replace hb:=bnx hb hd
    replace h6:=at_later h6 hd
    replace h7:=at_later h7 hd
    replace ra:=ra.below hd
    replace rb:=rb.below hd
    replace rg:=rg.below hd
    replace rn:=rn.below hd
    clear hd
    refine hK.out _ _ (hSall _ hb) (fun hh=>?_)
    clear hK K
    try simp only[Act.put,ptA,ptB,ptC]
    obtain⟨y0,y1,f0,f1⟩:=ze h6
    obtain⟨z0,z1,e0,e1⟩:=ze h7
    have hne':¬b6=b7:=fun e=>hne (by first|exact e|exact e.symm)
    have hne'':¬b7=b6:=fun e=>hne' e.symm
    have HL:=hide (ai rn (ai rd (ai h6 (ai h7 (ai hl6 (ai hl7 hb))))))
    clear rn rd h6 h7
    refine zb (rs:=[8]) (by kernel_rfl) (by simp) ?_
    refine mem1 ?_
    refine zd rfl (fun K hK=>?_)
    go_simp
    refine hK.out _ _ (hSall _ (zl hb hl6)) (fun hHeld'=>?_)
    clear hK K
    try simp only[Act.put,ptA,ptB,ptC]
    refine zb (rs:=[9]) (by kernel_rfl) (by simp) ?_
    refine mem1 ?_
    refine zd rfl (fun K hK=>?_)
    go_simp
    refine hK.out _ _ (hSall _ (zl (zl hb hl6) hl7)) (fun hHeld''=>?_)
    clear hK K hh hHeld' hHeld'' hb
    try simp only[Act.put,ptA,ptB,ptC]
    refine zM (by kernel_rfl) ?_ _
    go_wp2
    go_meet
    refine⟨b6,b7,sn,An,nn,cn,sd,Ad,nd,cd,rfl,rfl,hne',?_⟩
    obtain⟨rn,rd,h6,h7,hl6,hl7,hb⟩:=HL.out
    exact zaW rn rd HSn.out HSd.out h6 h7 hne' hb hl6 hl7
 case rest=>
  obtain⟨b6,b7,sn,An,nn,cn,sd,Ad,nd,cd,rfl,rfl,hne,rn,rd,hsn,hsd,h6,h7,hb,hl6,hl7⟩:=hcut
  clear HS
  have hgp:(0:Int)<Int.gcd x y:=by omega
  rw[zkH x _ hgp (Int.gcd_dvd_left x y)] at rn hsn
  rw[zkH y _ hgp (Int.gcd_dvd_right x y)] at rd hsd
  obtain⟨nz,hnz⟩:∃nz,nz=x / (Int.gcd x y:Int):=⟨_,rfl⟩
  obtain⟨dz,hdz⟩:∃dz,dz=y / (Int.gcd x y:Int):=⟨_,rfl⟩
  obtain⟨P1,P2,P3,P4⟩:=zig x y hy0 nz dz hnz hdz
  rw[<-hnz] at rn hsn
  rw[<-hdz] at rd hsd
  clear hnz hdz
  have hr:=at_later HK.out.1 hb
  have hbw:=bnx HK.out.2.1 hb
  obtain⟨y0,y1,f0,f1⟩:=ze h6
  obtain⟨z0,z1,e0,e1⟩:=ze h7
  obtain⟨r0,r1,r2,r3,q0,q1,q2,q3⟩:=zq hr
  by_cases hdn:dz<0
  ·obtain rfl:sd=true:=by rw[hsd];simp[hdn]
   have hr6:¬br=b6:=by have:=lt_of_block HK.out.1;omega
   have hr7:¬br=b7:=by have:=lt_of_block HK.out.1;omega
   have HP:=hide (ai (P2 hdn) (ai hsn hsd));clear P1 P2 P3 P4 hsn hsd
   have HR:=hide (ai hr hbw);clear hr hbw r0 r1 r2 r3 q0 q1 q2 q3 hb
   have hne':¬b7=b6:=fun e=>hne e.symm
   go_wp2
   refine zv (fun w'=>w'.cell? ⟨b7,0,none⟩=some (.bool true)/\w'.cell? ⟨b7,1,none⟩=some (.slice Ad nd cd)) [0,1,2,3,4] (by kernel_rfl) ⟨z0,z1⟩ (fun hh=>?_)
   refine zgb (i:=2) (v:=?va1) rfl (by kernel_rfl) (by kernel_rfl) (by kernel_rfl) (by kernel_rfl) (fun _ _ _ h=>h) (by rfl) ?ha1 hh (some 21) rfl ?ra1
   case ha1=>(intro w hSw;(try dsimp only at hSw);go_simp;try with_reducible rfl)
   try simp only[Act.put,ptA,ptB,ptC]
   refine zb (rs:=[0]) (by kernel_rfl) (by simp) ?_
   refine mem1 ?_
   refine zd rfl (fun K hK=>?_)
   go_simp
   refine hK.out _ _ ⟨z0,z1⟩ (fun hHeld'=>?_)
   clear hK K
   try simp only[Act.put,ptA,ptB,ptC]
   have hdr:Below wc.heap.size wc wc.drew:=(blr _ _).drew
   refine zb (rs:=[1]) (by kernel_rfl) (by simp) ?_
   refine mem1 ?_
   refine zd rfl (fun K hK=>?_)
   go_simp
   go_at_call 155
   refine(zfj _ _ _ L (rn.below hdr) (by omega)).mono ?_
   rintro e Y1 ⟨_,rfl,tn,hd⟩
   obtain⟨s8,A8,n8,c8,rfl,hs8,_⟩:=tn.parts
   have HS8:=hide hs8;clear hs8
   go_wp2_with fail
   have hb1:=hdr.trans hd
   have g6:=at_later h6 hb1
   have g7:=at_later h7 hb1
   refine hK.out _ _ ⟨(ze g7).1,(ze g7).2.1⟩ (fun hHeld2=>?_)
   clear hK K
   try simp only[Act.put,ptA,ptB,ptC]
   refine zb (rs:=[3]) (by kernel_rfl) (by simp) ?_
   refine mem1 ?_
   refine zd rfl (fun K hK=>?_)
   go_simp
   go_at_call 155
   refine(zfj _ _ _ L (rd.below hb1) (by omega)).mono ?_
   rintro e Y2 ⟨_,rfl,td,hd2⟩
   obtain⟨s9,A9,n9,c9,rfl,hs9,_⟩:=td.parts
   have HS9:=hide hs9;clear hs9
   go_wp2_with fail
   replace tn:=tn.below hd2
   have k6:=at_later g6 hd2
   have k7:=at_later g7 hd2
   have hb2:=bnx hb1 hd2
   clear y0 y1 f0 f1 z0 z1 e0 e1 g6 g7 hh hHeld' hHeld2
   obtain⟨y0,y1,f0,f1⟩:=ze k6
   obtain⟨z0,z1,e0,e1⟩:=ze k7
   refine hK.out _ _ ⟨z0,z1⟩ (fun hh=>?_)
   clear hK K
   try simp only[Act.put,ptA,ptB,ptC]
   have m7:=(zbv (w:=Y2) (B:=b6) (b:=b7) (u:=.bool s8) (v:=.slice A8 n8 c8) hne').trans k7
   have m6:=zcT (u:=.bool s8) (v:=.slice A8 n8 c8) k6
   obtain⟨x0,x1,d0,d1⟩:=ze m7
   refine zb (rs:=[4]) (by kernel_rfl) (by simp) ?_
   refine mem1 ?_
   refine zd rfl (fun K hK=>?_)
   go_simp
   refine hK.out _ _ ⟨x0,x1⟩ (fun hHeld'=>?_)
   clear hK K
   try simp only[Act.put,ptA,ptB,ptC]
   refine zQ (k:=5) (by rfl) (by rfl) (by kernel_rfl) ?_
   simp only[List.drop_succ_cons,List.drop_zero]
   clear hh hHeld' y0 y1 f0 f1 z0 z1 e0 e1
   have n7:=zcT (u:=.bool s9) (v:=.slice A9 n9 c9) m7
   have n6:=(zbv (w:=(Y2.setCell ⟨b6,0,none⟩ (.bool s8)).setCell ⟨b6,1,none⟩ (.slice A8 n8 c8)) (B:=b7) (b:=b6) (u:=.bool s9) (v:=.slice A9 n9 c9) hne).trans m6
   have kr:=at_later (at_later HR.out.1 hdr) (hd.trans (hd2.mono hd.size))
   have nr:=((zbv (w:=(Y2.setCell ⟨b6,0,none⟩ (.bool s8)).setCell ⟨b6,1,none⟩ (.slice A8 n8 c8)) (B:=b7) (b:=br) (u:=.bool s9) (v:=.slice A9 n9 c9) hr7).trans (zbv (w:=Y2) (B:=b6) (b:=br) (u:=.bool s8) (v:=.slice A8 n8 c8) hr6)).trans kr
   have tn3:=zac (a:=.bool s9) (b:=.slice A9 n9 c9) (zac (a:=.bool s8) (b:=.slice A8 n8 c8) tn k6 (by decide)) m7 (by decide)
   have td3:=zac (a:=.bool s9) (b:=.slice A9 n9 c9) (zac (a:=.bool s8) (b:=.slice A8 n8 c8) td k6 (by decide)) m7 (by decide)
   have hb3:=zl (u:=.bool s9) (v:=.slice A9 n9 c9) (zl (u:=.bool s8) (v:=.slice A8 n8 c8) ((HR.out.2.trans (hdr.mono HR.out.2.size)).trans ((hd.trans (hd2.mono hd.size)).mono HR.out.2.size)) (show w.heap.size<=b6 by have:=HK.out.2.1.size;omega)) (show w.heap.size<=b7 by have:=HK.out.2.1.size;omega)
   obtain⟨y0,y1,f0,f1⟩:=ze n6
   obtain⟨z0,z1,e0,e1⟩:=ze n7
   obtain⟨r0,r1,r2,r3,q0,q1,q2,q3⟩:=zq nr
   have HF:=hide (ai tn3 (ai td3 (ai hb3 nr)))
   clear tn3 td3 hb3 nr n6 n7 m6 m7 k6 k7 kr tn td h6 h7 rn rd hd hd2 hdr hb1 hb2
   go_wp2
   refine bodyPost_ret (v:=.agg #[.bool s8,.slice A8 n8 c8,.bool s9,.slice A9 n9 c9]) ?_ rfl ?_
   ·simp[results,Tryz.results108,go_sem,r0,r1,r2,r3]
   obtain⟨⟨p1,p2⟩,hsn,hsd⟩:=HP.out
   obtain⟨⟨m1,e1',l1⟩,⟨m2,e2',l2⟩,hbw,hr⟩:=HF.out
   injection e1' with e1'
   injection e2' with e2'
   simp only[Array.mk.injEq,List.cons.injEq,Value.bool.injEq,and_true] at e1' e2'
   rw[<-e1'.2] at l1
   rw[<-e2'.2] at l2
   have hs9:s9=false:=by rw[e2'.1];simp;omega
   refine⟨_,rfl,⟨_,_,by rw[p1,e1'.1,hs9],?_,?_⟩,(((hbw.setCell (by exact HK.out.2.2) _).setCell (by exact HK.out.2.2) _).setCell (by exact HK.out.2.2) _).setCell (by exact HK.out.2.2) _⟩
   ·rw[p1];exact zbk l1 hr (by decide)
   ·rw[p2,show -dz=((-dz).natAbs:Int) by omega];exact zbk l2 hr (by decide)
  ·obtain rfl:sd=false:=by rw[hsd];simp[hdn]
   have HP:=hide (ai (P1 (by omega)) (ai hsn hsd));clear P1 P2 P3 P4 hsn hsd
   have HR:=hide (ai hr (ai hbw (ai rn rd)));clear hr hbw rn rd hb h6 h7
   go_wp2
   refine bodyPost_ret (v:=.agg #[.bool sn,.slice An nn cn,.bool false,.slice Ad nd cd]) ?_ rfl ?_
   ·simp[results,Tryz.results108,go_sem,r0,r1,r2,r3]
   obtain⟨⟨p1,p2⟩,hsn,hsd⟩:=HP.out
   obtain⟨hr,hbw,⟨m1,e1',l1⟩,m2,e2',l2⟩:=HR.out
   injection e1' with e1'
   injection e2' with e2'
   simp only[Array.mk.injEq,List.cons.injEq,Value.bool.injEq,and_true] at e1' e2'
   rw[<-e1'.2] at l1
   rw[<-e2'.2] at l2
   refine⟨_,rfl,⟨_,_,by rw[p1,hsn],?_,?_⟩,(((hbw.setCell (by exact HK.out.2.2) _).setCell (by exact HK.out.2.2) _).setCell (by exact HK.out.2.2) _).setCell (by exact HK.out.2.2) _⟩
   ·rw[p1];exact zbk l1 hr (by decide)
   ·rw[p2,show dz=(dz.natAbs:Int) by omega];exact zbk l2 hr (by decide)
end Go.Proofs.YtpoahodnakhmiaaGreat
