import Derived.Test.YtpoahodnakhmiaaGreatQop9
import Derived.Deep.RegionHeld3
import Derived.Deep.DeepCutAuto
set_option maxRecDepth 100000
namespace Go.Proofs.YtpoahodnakhmiaaGreat
open Go.RowKit
set_option linter.unusedVariables false
set_option linter.unusedSimpArgs false
theorem zdH (z:Int):zfw (intText z):=by
 unfold intText
 intro b hb
 rw[List.mem_append] at hb
 rcases hb with hb|hb
 ·split at hb
  ·simp at hb;exact Or.inl hb
  ·simp at hb
 ·exact Or.inr (zaS _ b hb)
theorem RatV.shape {w:World} {v:Value} {q:Rat} {L:Nat} (h:RatV w v q L):∃s A n c B m d,v=.agg #[.bool s,.slice A n c,.slice B m d]:=by
 obtain⟨N,l,rfl,h1,h2⟩:=h
 obtain⟨A,c,xs,rfl,_⟩:=h1.open_
 obtain⟨B,d,ys,rfl,_⟩:=h2.open_
 exact⟨_,_,_,_,_,_,_,rfl⟩
theorem zdh (w:World) (o:Obj):(w.alloc o).heap.size=w.heap.size+1:=by simp
theorem zeR (w:World) (o:Obj):(w.alloc o).drew.heap.size=w.heap.size+1:=by simp
theorem box3d {w w':World} {a b c:Value} {e:TypeId} (h:Below (w.heap.size+1) (w.alloc (.cells #[a,b,c] e)) w') (B:Nat) (hB:w.heap.size=B):
  w'.cell? ⟨B,0,none⟩=some a/\w'.cell? ⟨B,1,none⟩=some b/\w'.cell? ⟨B,2,none⟩=some c/\w'.frozen? ⟨B,0,none⟩=false/\w'.frozen? ⟨B,1,none⟩=false/\w'.frozen? ⟨B,2,none⟩=false/\Hid (w'.heap[B]?=some (.cells #[a,b,c] e (0,0))):=by
 subst hB
 obtain⟨k0,k1,k2,f0,f1,f2,_⟩:=box3 h
 exact⟨k0,k1,k2,f0,f1,f2,(h.block _ (by omega)).trans (heap_alloc_new w _)⟩
theorem keep3 {w w':World} {B:Nat} {a b c:Value} {e:TypeId} (h:Below w.heap.size w w') (kb:Hid (w.heap[B]?=some (.cells #[a,b,c] e (0,0)))):
  w'.cell? ⟨B,0,none⟩=some a/\w'.cell? ⟨B,1,none⟩=some b/\w'.cell? ⟨B,2,none⟩=some c/\w'.frozen? ⟨B,0,none⟩=false/\w'.frozen? ⟨B,1,none⟩=false/\w'.frozen? ⟨B,2,none⟩=false/\Hid (w'.heap[B]?=some (.cells #[a,b,c] e (0,0))):=by
 have hh:=at_later kb.out h
 exact⟨by simp[World.cell?,hh],by simp[World.cell?,hh],by simp[World.cell?,hh],by simp[World.frozen?,hh],by simp[World.frozen?,hh],by simp[World.frozen?,hh],hh⟩
theorem zmz {w:World} {g:Nat} {a b c x y z:Value} {e:TypeId} (kb:w.heap[g]?=some (.cells #[a,b,c] e (0,0))):
  (((w.setCell ⟨g,0,none⟩ x).setCell ⟨g,1,none⟩ y).setCell ⟨g,2,none⟩ z).heap[g]?=some (.cells #[x,y,z] e (0,0)):=by
 simp[World.setCell,Array.getElem?_modify,kb]
theorem zli (z:Int) (w:World):
  Calls Tryz.prog 134 #[.string (str (intText z)),.string ⟨#[45]⟩] w (zbl (.string (str (decText (z.natAbs:Int)))) w):=by
 unfold intText
 by_cases hz:z<0
 ·rw[if_pos hz]
  exact zfb _ w
 ·rw[if_neg hz,List.nil_append]
  have hd:=zaS (z.natAbs:Int)
  cases h:decText (z.natAbs:Int) with
  | nil=>
   exfalso
   by_cases h0:z=0
   ·subst h0;simp[decText] at h
   ·have:=(zaT (z.natAbs:Int) (by omega)).1
    rw[h] at this;simp at this
  | cons b t=>
   have hb:=hd b (by rw[h];exact List.mem_cons_self)
   exact zcZ b t hb.1 hb.2 w
theorem zgE (P:Program) (t:TypeId) (bs:List Int) (b:Int) (hs:bs.getD 0 0=b) (hp:0<bs.length) (h0:0<=b) (h1:b<256) (h:P.underlying t=some .string) (w:World):
  (Instr.index t (.string (str bs)) (.int .i64 0)).run P w=.ok (.int .u8 b) w:=by
 have hz:=zK bs
 rw[run_index_string w t (str bs) .i64 0 h,dif_pos (by omega)]
 cases bs with
 | nil=>simp at hp
 | cons c l=>
  have hc:c=b:=by simpa[List.getD] using hs
  subst hc
  have e:(((str (c::l))[(0:Int).toNat]'(by omega)).toNat:Int)=c:=by
   have h2:(0:Int).toNat=0:=rfl
   simp only[h2]
   show ((((str (c::l)).data[0]'(by simp[str])).toNat:Nat):Int)=c
   simp[str]
   omega
  rw[e]
theorem zgn (z:Int):∃b,(intText z).getD 0 0=b/\0<(intText z).length/\0<=b/\b<256/\(b == 45)=decide (z<0):=by
 by_cases hz:z<0
 ·refine⟨45,?_,?_,by omega,by omega,by simp[hz]⟩ <;> (unfold intText;rw[if_pos hz];simp)
 ·have hd:=zaS (z.natAbs:Int)
  have he:intText z=decText (z.natAbs:Int):=by unfold intText;rw[if_neg hz];rfl
  rw[he]
  have hp:0<(decText (z.natAbs:Int)).length:=by
   by_cases h0:z=0
   ·subst h0;simp[decText]
   ·exact(zaT (z.natAbs:Int) (by omega)).1
  have hb:=hd ((decText (z.natAbs:Int)).getD 0 0) (by simp[List.getD,List.getElem?_eq_getElem hp])
  refine⟨_,rfl,hp,by omega,by omega,?_⟩
  rw[show decide (z<0)=false by simp[hz],beq_eq_false_iff_ne]
  omega
theorem zhV (q:Rat) (n:Nat) (h:(ratText q).length<=n):(intText q.num).length<=n/\(decText (q.den:Int)).length<=n+1:=by
 unfold ratText at h
 rw[List.length_append] at h
 refine⟨by omega,?_⟩
 by_cases h1:q.den=1
 ·rw[h1];simp[decText,asc];rw[decOf];simp;rw[decOf];simp
 ·rw[if_neg h1,List.length_cons] at h;omega
theorem zmA:decText 1=[49]:=by
 simp[decText,asc];rw[decOf];simp;rw[decOf];simp
theorem zcM (z:Int):(decText (z.natAbs:Int)).length<=(intText z).length:=by
 unfold intText
 rw[List.length_append]
 omega
theorem zmB (z:Int):sgd (decide (z<0)) (z.natAbs:Int)=z:=by
 unfold sgd
 by_cases h:z<0 <;> simp[h] <;> omega
def BoxR (w:World) (g:Nat) (q:Rat) (L:Nat):Prop:=∃s A n c B m d,w.heap[g]?=some (.cells #[.bool s,.slice A n c,.slice B m d] 43 (0,0))/\RatV w (.agg #[.bool s,.slice A n c,.slice B m d]) q L
theorem zk {w:World} {B:Nat} {a b c:Value} {e:TypeId} (hh:w.heap[B]?=some (.cells #[a,b,c] e (0,0))):
  w.cell? ⟨B,0,none⟩=some a/\w.cell? ⟨B,1,none⟩=some b/\w.cell? ⟨B,2,none⟩=some c:=
 ⟨by simp[World.cell?,hh],by simp[World.cell?,hh],by simp[World.cell?,hh]⟩
theorem zA {w:World} {B:Nat} {a b c:Value} {e:TypeId} (hh:w.heap[B]?=some (.cells #[a,b,c] e (0,0))):
  w.frozen? ⟨B,0,none⟩=false/\w.frozen? ⟨B,1,none⟩=false/\w.frozen? ⟨B,2,none⟩=false:=
 ⟨by simp[World.frozen?,hh],by simp[World.frozen?,hh],by simp[World.frozen?,hh]⟩
theorem RatV.put3 {w:World} {v:Value} {q:Rat} {L g:Nat} {a0:Bool} {A1 A2:Option Addr} {n1 c1 n2 c2:Nat} {x y z:Value} {e:TypeId} (h:RatV w v q L) (hh:w.heap[g]?=some (.cells #[.bool a0,.slice A1 n1 c1,.slice A2 n2 c2] e (0,0))):
  RatV (((w.setCell ⟨g,0,none⟩ x).setCell ⟨g,1,none⟩ y).setCell ⟨g,2,none⟩ z) v q L:=by
 obtain⟨N,l,e,h1,h2⟩:=h
 obtain⟨k0,k1,k2⟩:=zk hh
 exact⟨N,l,e,h1.set3 k0 k1 k2,h2.set3 k0 k1 k2⟩
theorem BoxR.made {w0 w:World} {q:Rat} {L:Nat} {s:Bool} {A B:Option Addr} {n c m d:Nat} (hb:Below w0.heap.size w0 w) (hq:RatV w (.agg #[.bool s,.slice A n c,.slice B m d]) q L):
  ∃g:Nat,Value.pointer (some ⟨w.heap.size,0,none⟩)=.pointer (some ⟨g,0,none⟩)/\w0.heap.size<=g/\BoxR (w.alloc (.cells #[.bool s,.slice A n c,.slice B m d] 43)) g q L/\Below w0.heap.size w0 (w.alloc (.cells #[.bool s,.slice A n c,.slice B m d] 43)):=
 ⟨_,rfl,hb.size,⟨s,A,n,c,B,m,d,heap_alloc_new w _,hq.below ((blr _ _).alloc (nr _) _)⟩,hb.alloc hb.size _⟩
theorem BoxR.stored {w0 w:World} {g:Nat} {q:Rat} {L:Nat} {s:Bool} {A B:Option Addr} {n c m d:Nat} (hg:w0.heap.size<=g) (hb:Below w0.heap.size w0 w) (hq:RatV w (.agg #[.bool s,.slice A n c,.slice B m d]) q L) (kb:Hid (w.heap[g]?=some (.cells #[.bool false,.slice none 0 0,.slice none 0 0] 43 (0,0)))):
  ∃g':Nat,Value.pointer (some ⟨g,0,none⟩)=.pointer (some ⟨g',0,none⟩)/\w0.heap.size<=g'/\BoxR (((w.setCell ⟨g,0,none⟩ (.bool s)).setCell ⟨g,1,none⟩ (.slice A n c)).setCell ⟨g,2,none⟩ (.slice B m d)) g' q L/\Below w0.heap.size w0 (((w.setCell ⟨g,0,none⟩ (.bool s)).setCell ⟨g,1,none⟩ (.slice A n c)).setCell ⟨g,2,none⟩ (.slice B m d)):=by
 obtain⟨N,l,e,h1,h2⟩:=hq
 have hh:=kb.out
 have k0:w.cell? ⟨g,0,none⟩=some (.bool false):=by simp[World.cell?,hh]
 have k1:w.cell? ⟨g,1,none⟩=some (.slice none 0 0):=by simp[World.cell?,hh]
 have k2:w.cell? ⟨g,2,none⟩=some (.slice none 0 0):=by simp[World.cell?,hh]
 exact⟨g,rfl,hg,⟨s,A,n,c,B,m,d,zmz hh,N,l,e,h1.set3 k0 k1 k2,h2.set3 k0 k1 k2⟩,zm hb hg _ _ _⟩
set_option maxHeartbeats 4000000 in
theorem zmC (w:World) (q:Rat) (hl:(ratText q).length<=70000):
  Calls Tryz.prog 77 #[.string (str (ratText q))] w (Ret (doneR w q 70002)):=by
 obtain⟨hlt,hlb⟩:=zhV q 70000 hl
 have hsz:(str (ratText q)).size<=70000:=by rw[zK];exact hl
 have hsz2:¬70000<(str (ratText q)).size:=by omega
 obtain⟨b0,hb0,hp0,hb1,hb2,hb3⟩:=zgn q.num
 have hix:=zgE Tryz.prog 9 (intText q.num) b0 hb0 hp0 hb1 hb2 (by kernel_rfl)
 obtain⟨S,hS⟩:∃S,S=str (ratText q):=⟨_,rfl⟩
 rw[<-hS] at hsz hsz2 ⊢
 have hdp:=zG q
 obtain⟨hd0,hd1⟩:=zaT (q.den:Int) (by omega)
 have hdd:=zaS (q.den:Int)
 obtain⟨c0,hc0⟩:∃c,(decText (q.den:Int)).getD 0 0=c:=⟨_,rfl⟩
 have hcb:=hdd c0 (by rw[<-hc0];simp[List.getD,List.getElem?_eq_getElem hd0])
 have hix2:=zgE Tryz.prog 9 (decText (q.den:Int)) c0 hc0 hd0 (by omega) (by omega) (by kernel_rfl)
 have hc45:(c0 == 45)=false:=by rw[beq_eq_false_iff_ne];omega
 obtain⟨D,hD⟩:∃D,D=str (decText (q.den:Int)):=⟨_,rfl⟩
 rw[<-hD] at hix2
 have hD48:¬D.toList=[48]:=by
  intro e
  rw[hD,Lib.toList_data,zdy] at e
  cases h:decText (q.den:Int) with
  | nil=>rw[h] at hd0;simp at hd0
  | cons a l=>
   rw[h] at e hc0
   simp at e hc0
   have h2:(UInt8.ofNat a.toNat).toNat=48:=by rw[e.1];rfl
   rw[UInt8.toNat_ofNat'] at h2
   rw[h] at hd1;simp at hd1
   omega
 have hD48b:(D.toList == [48])=false:=by rw[beq_eq_false_iff_ne];exact hD48
 obtain⟨T,hT⟩:∃T,T=str (intText q.num):=⟨_,rfl⟩
 rw[<-hT] at hix
 have HZ:=hide (ai hS (ai hD (ai hT (ai hlt (ai hlb (ai hdp (ai hd0 (ai hdd (ai hd1 hc0)))))))));clear hl hb0 hp0 hS hD hT hlt hlb hdp hd0 hdd hd1 hc0 hcb
 obtain⟨n,hn⟩:∃n,n=decide (q.num<0):=⟨_,rfl⟩
 rw[<-hn] at hb3
 have HN:=hide hn;clear hn
 obtain⟨W,hW⟩:∃W,W=w.alloc (.cells #[.bool false,.slice none 0 0,.slice none 0 0] 43):=⟨_,rfl⟩
 have hb0:Below w.heap.size w W:=by rw[hW];exact(blr _ _).alloc (nr _) _
 have hr:W.heap[w.heap.size]?=some (.cells #[.bool false,.slice none 0 0,.slice none 0 0] 43):=by rw[hW];exact zj _ _
 have HW:=hide (ai hW (ai hb0 hr));clear hW hb0 hr
 go_enter Tryz.func77,Tryz.ntmps77
 go_upto_region 3 with fail
 rw[<-HW.out.1]
 go_cut [4,5,6] (fun s4 s5 s6 wx=>∃c:Bool,s4=.string T/\s6=.bool c/\(c=true->s5=.string D)/\(c=false->q.den=1)/\Below W.heap.size W wx)
 case first=>
  by_cases h1:q.den=1
  ·have hS1:S=T:=by rw[HZ.out.1,HZ.out.2.2.1];unfold ratText;rw[if_pos h1,List.append_nil]
   have H1:=hide (ai h1 hS1);clear h1 hS1
   go_wp2_with fail
   refine(show Calls _ _ _ _ _ from by rw[H1.out.2,HZ.out.2.2.1];exact zlX _ (zdH q.num) _).mono ?_
   rintro e w1 ⟨rfl,hd1⟩
   rw[<-HZ.out.2.2.1]
   go_wp2
   go_meet
   exact⟨false,rfl,rfl,fun h=>(by cases h),fun _=>H1.out.1,hd1⟩
  ·have hS1:S=str (intText q.num++47::decText (q.den:Int)):=by rw[HZ.out.1];unfold ratText;rw[if_neg h1]
   have H1:=hide (ai h1 hS1);clear h1 hS1
   go_wp2_with fail
   refine(show Calls _ _ _ _ _ from by rw[H1.out.2];exact zne _ _ (zdH q.num) (by have:=HZ.out.2.2.2.1;omega) (by have:=HZ.out.2.2.2.2.1;omega) _).mono ?_
   rintro e w1 ⟨rfl,hd1⟩
   rw[<-HZ.out.2.2.1,<-HZ.out.2.1]
   go_wp2
   go_meet
   exact⟨true,rfl,rfl,fun _=>rfl,fun h=>(by cases h),hd1⟩
 case rest=>
  obtain⟨c,rfl,rfl,h5t,h5f,hbel⟩:=hcut
  go_upto_if 19 with fail
  go_cut [5] (fun s5 wx=>s5=.string D/\Below W.heap.size W wx)
  case first=>
   cases c with
   | true=>
    have h5:=h5t rfl
    subst h5
    clear h5t h5f
    go_wp2
    go_meet
    exact⟨rfl,hbel⟩
   | false=>
    have h5:Value.string ⟨#[49]⟩=.string D:=by
     rw[HZ.out.2.1,h5f rfl]
     congr 1
     show _=str (decText 1)
     rw[zmA];rfl
    have H5:=hide h5;clear h5 h5t h5f
    go_wp2
    go_meet
    exact⟨H5.out,hbel⟩
  case rest=>
   obtain⟨rfl,hbel⟩:=hcut
   clear h5t h5f
   go_wp2_with fail
   refine(show Calls _ _ _ _ _ from by rw[HZ.out.2.2.1];exact zfc q.num (by have:=HZ.out.2.2.2.1;omega) _).mono ?_
   rintro e w2 ⟨rfl,hd2⟩
   go_wp2_with fail
   refine(show Calls _ _ _ _ _ from by rw[HZ.out.2.1,<-zbE _ (by have:=HZ.out.2.2.2.2.2.1;omega)];exact zfc (q.den:Int) (by rw[zbE _ (by have:=HZ.out.2.2.2.2.2.1;omega)];have:=HZ.out.2.2.2.2.1;omega) _).mono ?_
   rintro e w3 ⟨rfl,hd3⟩
   have hbel3:Below W.heap.size W w3:=hbel.trans ((bnx hd2 hd3).mono (by exact hbel.size))
   clear hd2 hd3
   go_wp2
   go_cut [7] (fun s7 wx=>∃g:Nat,s7=.pointer (some ⟨g,0,none⟩)/\w3.heap.size<=g/\BoxR wx g q 70002/\Below w3.heap.size w3 wx)
   case first=>
    go_region_held3 (fun _=>True) (trivial)
     (first
      | (go_at_call 134;refine(show Calls _ _ _ _ _ from by rw[HZ.out.2.2.1];exact zli q.num _).mono ?_;rintro e w4 ⟨rfl,hd4⟩
         have hg4:Below w3.heap.size w3 w4:=by (first|exact(blr _ _).drew.trans hd4|exact((blr _ _).drew.alloc (nr _) _).trans (hd4.mono (by simp))|exact((blr _ _).alloc (nr _) _).drew.trans (hd4.mono (by simp)))
         try (simp only[zeR] at hd4;obtain⟨k0,k1,k2,f0,f1,f2,kb⟩:=box3d (w:=w3) ((blr _ _).drew.trans hd4) w3.heap.size rfl)
         clear hd4)
      | (have hsecond:=hg5;go_at_call 133;refine(show Calls _ _ _ _ _ from by rw[HZ.out.2.1];exact zf5 _ _ HZ.out.2.2.2.2.2.2.2.1 (by have:=HZ.out.2.2.2.2.1;omega)).mono ?_;rintro e w6 ⟨v6,rfl,q6,hd6⟩;clear hsecond
         have he6:Below w5.heap.size w5 w6:=by (first|exact hd6|exact((blr _ _).alloc (nr _) _).trans (hd6.mono (by simp)))
         have hg6:Below w3.heap.size w3 w6:=hg5.trans (he6.mono hg5.size)
         try (have kk:=keep3 he6 kb;clear k0 k1 k2 f0 f1 f2 kb;obtain⟨k0,k1,k2,f0,f1,f2,kb⟩:=kk)
         try (simp only[zdh] at hd6;obtain⟨k0,k1,k2,f0,f1,f2,kb⟩:=box3d hd6 w5.heap.size rfl)
         have q5':=HQ5.out.below he6
         rw[ziH _ (by have:=HZ.out.2.2.2.2.2.1;omega)] at q6
         have HQ6:=hide (ai (q5'.more (show _<=70002 by (have:=HZ.out.2.2.2.1;have:=zcM q.num;omega))) (q6.more (show _<=70002 by (have:=HZ.out.2.2.2.2.1;omega))));clear q5' q6
         clear hd6)
      | (go_at_call 133;refine(zf5 _ _ (zaS _) (by have:=HZ.out.2.2.2.1;have:=zcM q.num;omega)).mono ?_;rintro e w5 ⟨v5,rfl,q5,hd5⟩
         have he5:Below w4.heap.size w4 w5:=by (first|exact hd5|exact((blr _ _).alloc (nr _) _).trans (hd5.mono (by simp)))
         have hg5:Below w3.heap.size w3 w5:=hg4.trans (he5.mono hg4.size)
         rw[ziH _ (by omega)] at q5
         have HQ5:=hide q5;clear q5
         try (have kk:=keep3 he5 kb;clear k0 k1 k2 f0 f1 f2 kb;obtain⟨k0,k1,k2,f0,f1,f2,kb⟩:=kk)
         try (simp only[zdh] at hd5;obtain⟨k0,k1,k2,f0,f1,f2,kb⟩:=box3d hd5 w4.heap.size rfl)
         clear hd5)
      | (go_at_call 127;refine(zb7 _ n _ _ (q.num.natAbs:Int) (q.den:Int) 70002 (by (first|exact HQ6.out.1|exact HQ6.out.1.below ((blr _ _).alloc (nr _) _))) (by (first|exact HQ6.out.2|exact HQ6.out.2.below ((blr _ _).alloc (nr _) _))) (by omega) HZ.out.2.2.2.2.2.1).mono ?_;rintro e w7 ⟨v7,rfl,q7,hd7⟩
         have he7:Below w6.heap.size w6 w7:=by (first|exact hd7|exact((blr _ _).alloc (nr _) _).trans (hd7.mono (by simp)))
         have hg7:Below w3.heap.size w3 w7:=hg6.trans (he7.mono hg6.size)
         rw[HN.out,zmB,Rat.num_divInt_den] at q7
         try (have kk:=keep3 he7 kb;clear k0 k1 k2 f0 f1 f2 kb;obtain⟨k0,k1,k2,f0,f1,f2,kb⟩:=kk)
         try (simp only[zdh] at hd7;obtain⟨k0,k1,k2,f0,f1,f2,kb⟩:=box3d hd7 w6.heap.size rfl)
         (obtain⟨s7,A7,n7,c7,B7,m7,d7,rfl⟩:=q7.shape)
         have HQ7:=hide q7;clear q7 hd7))
    all_goals go_wp2_with fail
    all_goals go_meet
    all_goals (first|with_reducible exact BoxR.made hg7 HQ7.out|exact BoxR.stored (by have:=hg4.size;have:=hg5.size;have:=hg6.size;omega) hg7 HQ7.out kb)
   case rest=>
    obtain⟨g,rfl,hg0,⟨s,A,m,c',B,m',d',hbx,hrat⟩,hbel4⟩:=hcut
    obtain⟨k0,k1,k2⟩:=zk hbx
    have HR:=hide (ai hrat (ai hbx (hbel3.trans (hbel4.mono hbel3.size))));clear hrat hbx hbel4 hbel3 hbel
    go_wp2_with fail
    refine(za9 _ _ q 70002 HR.out.1 (by omega)).mono ?_
    rintro e w5 ⟨_,rfl,rfl,hd5⟩
    rw[<-HZ.out.1]
    obtain⟨k0',k1',k2'⟩:=zk (at_later HR.out.2.1 hd5)
    clear k0 k1 k2
    have HB5:=hide (ai (HR.out.1.below hd5) (HR.out.2.2.trans (hd5.mono HR.out.2.2.size)));clear hd5
    have hmf:=hmf0 Tryz.prog
    go_wp2_with fail
    refine(zbh _ _ q 70002 HB5.out.1 (by omega)).mono ?_
    rintro e w6 ⟨_,rfl,hd6,hor⟩
    have hbl6:=HB5.out.2.trans (hd6.mono HB5.out.2.size)
    have hr6:=at_later HW.out.2.2 hbl6
    obtain⟨x0,x1,x2⟩:=zk hr6
    obtain⟨f0,f1,f2⟩:=zA hr6
    have hlt:=lt_of_block hr6
    rcases hor with ⟨hq,u2,rfl,hu⟩|⟨hq,u2,rfl,hu⟩
    all_goals
     obtain⟨s1,A1,n1,c1,B1,m1,d1,rfl⟩:=hu.shape
     have HF:=hide (ai hq (ai hu (ai hr6 (bnx HW.out.2.1 hbl6))));clear hq hu hr6 hbl6 hd6
     go_wp2
    ·refine bodyPost_ret (v:=.tuple #[.agg #[.bool s1,.slice A1 n1 c1,.slice B1 m1 d1],.int .i64 0]) ?_ rfl ?_
     ·simp[results,Tryz.results77,go_sem,x0,x1,x2,hlt]
     obtain⟨hq,hu,hr6,hb⟩:=HF.out
     exact⟨_,rfl,zm hb (nr _) _ _ _,Or.inl ⟨hq,_,rfl,hu.put3 hr6⟩⟩
    ·refine bodyPost_ret (v:=.tuple #[.agg #[.bool s1,.slice A1 n1 c1,.slice B1 m1 d1],.int .i64 11]) ?_ rfl ?_
     ·simp[results,Tryz.results77,go_sem,x0,x1,x2,hlt]
     obtain⟨hq,hu,hr6,hb⟩:=HF.out
     exact⟨_,rfl,zm hb (nr _) _ _ _,Or.inr ⟨hq,_,rfl,hu.put3 hr6⟩⟩
theorem zn7 (w:World) (a:Value) (p:Rat) (L:Nat) (ha:RatV w a p L):
  Calls Tryz.prog 163 #[a] w (Ret (ratR w ((p.num:Int):Rat) L)):=by
 obtain⟨n,l,rfl,h1,g1⟩:=ha
 obtain⟨A1,c1,xs,rfl,-⟩:=h1.open_
 obtain⟨A2,c2,ys,rfl,-⟩:=g1.open_
 obtain⟨neg,hneg⟩:∃b,b=decide (p.num<0):=⟨_,rfl⟩
 rw[<-hneg]
 have HX:=hide (ai h1 hneg)
 clear h1 g1 hneg
 go_enter Tryz.func163,Tryz.ntmps163
 go_wp2
 have hb:Below w.heap.size w ((w.alloc (.cells #[.bool neg,.slice A1 xs.length c1,.slice A2 ys.length c2] 43)).alloc (.cells #[.bool neg,.slice A1 xs.length c1,.slice none 0 0] 43)):=((blr _ _).alloc (nr _) _).alloc (by simp) _
 have e1:(((p.num:Int):Rat)).num=p.num:=Rat.num_intCast _
 have e2:(((p.num:Int):Rat)).den=1:=Rat.den_intCast _
 refine bodyPost_ret (v:=.agg #[.bool neg,.slice A1 xs.length c1,.slice none 0 0]) ?_ rfl ?_
 ·simp[results,Tryz.results163,go_sem]
 exact⟨_,rfl,⟨_,_,by rw[e1,HX.out.2],by rw[e1];exact HX.out.1.below hb,by rw[e2];exact NatV.nil _ _⟩,hb⟩
theorem zmi (w:World) (a:Value) (p:Rat) (L:Nat) (ha:RatV w a p L) (hL:L<=1073741800):
  Calls Tryz.prog 164 #[a] w (Ret (ratR w ((p.den:Int):Rat) (L+2))):=by
 obtain⟨n,l,rfl,h1,g1⟩:=ha
 obtain⟨A1,c1,xs,rfl,-⟩:=h1.open_
 obtain⟨A2,c2,ys,rfl,-⟩:=g1.open_
 obtain⟨neg,hneg⟩:∃b,b=decide (p.num<0):=⟨_,rfl⟩
 rw[<-hneg]
 obtain⟨W,hW⟩:∃W,W=(w.alloc (.cells #[.bool neg,.slice A1 xs.length c1,.slice A2 ys.length c2] 43)).alloc (.cells #[.bool false,.slice none 0 0,.slice none 0 0] 43):=⟨_,rfl⟩
 have hbW:Below w.heap.size w W:=by rw[hW];exact((blr _ _).alloc (nr _) _).alloc (by simp) _
 have hr:W.heap[w.heap.size+1]?=some (.cells #[.bool false,.slice none 0 0,.slice none 0 0] 43):=by rw[hW];exact zu _ (by simp)
 have HX:=hide (ai g1 (ai hbW hr))
 have HL:=hide hW
 clear h1 g1 hneg hW hbW hr
 go_enter Tryz.func164,Tryz.ntmps164
 go_wp2_with fail
 rw[<-HL.out]
 refine(zar _ _ _ _ _ L (HX.out.1.below HX.out.2.1) hL).mono ?_
 rintro e w1 ⟨v1,rfl,q1,hd1⟩
 have hr1:=at_later HX.out.2.2 hd1
 obtain⟨x0,x1,x2⟩:=zk hr1
 obtain⟨f0,f1,f2⟩:=zA hr1
 have hlt:=lt_of_block hr1
 rw[show ((p.den:Int)-1+1)=(p.den:Int) by omega] at q1
 obtain⟨A3,c3,zs,rfl,-⟩:=q1.open_
 have HF:=hide (ai q1 (ai hr1 (bnx HX.out.2.1 hd1)))
 clear q1 hr1 hd1
 go_wp2
 refine bodyPost_ret (v:=.agg #[.bool false,.slice A3 zs.length c3,.slice none 0 0]) ?_ rfl ?_
 ·simp[results,Tryz.results164,go_sem,x0,x1,x2,hlt]
 have e1:(((p.den:Int):Rat)).num=(p.den:Int):=Rat.num_intCast _
 have e2:(((p.den:Int):Rat)).den=1:=Rat.den_intCast _
 have hq:RatV w1 (.agg #[.bool false,.slice A3 zs.length c3,.slice none 0 0]) ((p.den:Int):Rat) (L+2):=
  ⟨_,_,by rw[e1,decide_eq_false (show ¬(p.den:Int)<0 by omega)],by rw[e1];exact HF.out.1,by rw[e2];exact NatV.nil _ _⟩
 exact⟨_,rfl,hq.put3 HF.out.2.1,zm HF.out.2.2 (by omega) _ _ _⟩
theorem zn8 (w:World) (a b:Value) (p q:Rat) (L:Nat) (ha:RatV w a p L) (hb:RatV w b q L) (hL:L<=268435456):
  Calls Tryz.prog 55 #[a,b] w (Ret (doneR w (p-q) (2*L+4))):=by
 have hmf:=hmf0 Tryz.prog
 have HA:=hide (ai ha hb)
 obtain⟨n1,l1,rfl,h1,g1⟩:=ha
 obtain⟨n2,l2,rfl,h2,g2⟩:=hb
 obtain⟨A1,c1,xs1,rfl,_⟩:=h1.open_
 obtain⟨A2,c2,xs2,rfl,_⟩:=g1.open_
 obtain⟨A3,c3,xs3,rfl,_⟩:=h2.open_
 obtain⟨A4,c4,xs4,rfl,_⟩:=g2.open_
 clear h1 g1 h2 g2
 obtain⟨b1,hs1⟩:∃s,s=decide (p.num<0):=⟨_,rfl⟩
 obtain⟨b2,hs2⟩:∃s,s=decide (q.num<0):=⟨_,rfl⟩
 rw[<-hs1,<-hs2] at HA
 rw[<-hs1,<-hs2]
 clear hs1 hs2
 have hb0:Below w.heap.size w (((w.alloc (.cells #[.bool b1,.slice A1 xs1.length c1,.slice A2 xs2.length c2] 43)).alloc (.cells #[.bool b2,.slice A3 xs3.length c3,.slice A4 xs4.length c4] 43)).alloc (.cells #[.bool false,.slice none 0 0,.slice none 0 0] 43)):=((((blr _ _).alloc (nr _) _).alloc (by simp) _).alloc (by simp;omega) _)
 have hs0:Below (w.heap.size+3) (((w.alloc (.cells #[.bool b1,.slice A1 xs1.length c1,.slice A2 xs2.length c2] 43)).alloc (.cells #[.bool b2,.slice A3 xs3.length c3,.slice A4 xs4.length c4] 43)).alloc (.cells #[.bool false,.slice none 0 0,.slice none 0 0] 43)) (((w.alloc (.cells #[.bool b1,.slice A1 xs1.length c1,.slice A2 xs2.length c2] 43)).alloc (.cells #[.bool b2,.slice A3 xs3.length c3,.slice A4 xs4.length c4] 43)).alloc (.cells #[.bool false,.slice none 0 0,.slice none 0 0] 43)):=(blr _ _)
 go_enter Tryz.func55,Tryz.ntmps55
 go_wp2_with fail
 refine(zfl _ _ _ p q L (HA.out.1.below hb0) (HA.out.2.below hb0) hL).mono ?_
 rintro e w1 ⟨u1,rfl,q1,hd1⟩
 have hs1:=zh hs0 hd1 (by simp)
 have hb1:=bnx hb0 hd1
 go_wp2_with fail
 refine(zbh _ u1 (p-q) (2*L+4) q1 (by omega)).mono ?_
 rintro e w2 ⟨_,rfl,hd2,⟨hq,u2,rfl,n1,l1,rfl,q2,p2⟩|⟨hq,u2,rfl,n1,l1,rfl,q2,p2⟩⟩
 ·have hs2:=zh hs1 hd2 (by simp)
  have hb2:=bnx hb1 hd2
  obtain⟨_,_,⟨m0,m1,m2⟩,⟨f0,f1,f2⟩,hz⟩:=zaE hs2
  obtain⟨Ae,ce,xe,rfl,_⟩:=q2.open_
  obtain⟨Af,cf,xf,rfl,_⟩:=p2.open_
  have HQ:=hide hq;clear hq
  go_wp2
  refine bodyPost_ret (v:=.tuple #[.agg #[.bool (decide ((p-q).num<0)),.slice Ae xe.length ce,.slice Af xf.length cf],.int .i64 0]) ?_ rfl ?_
  ·simp[results,Tryz.results55,go_sem,m0,m1,m2,hz]
  exact⟨_,rfl,zm hb2 (by omega) _ _ _,Or.inl ⟨HQ.out,_,rfl,_,_,rfl,q2.set3 m0 m1 m2,p2.set3 m0 m1 m2⟩⟩
 ·have hs2:=zh hs1 hd2 (by simp)
  have hb2:=bnx hb1 hd2
  obtain⟨_,_,⟨m0,m1,m2⟩,⟨f0,f1,f2⟩,hz⟩:=zaE hs2
  obtain⟨Ae,ce,xe,rfl,_⟩:=q2.open_
  obtain⟨Af,cf,xf,rfl,_⟩:=p2.open_
  have HQ:=hide hq;clear hq
  go_wp2
  refine bodyPost_ret (v:=.tuple #[.agg #[.bool (decide ((0:Rat).num<0)),.slice Ae xe.length ce,.slice Af xf.length cf],.int .i64 11]) ?_ rfl ?_
  ·simp[results,Tryz.results55,go_sem,m0,m1,m2,hz]
  exact⟨_,rfl,zm hb2 (by omega) _ _ _,Or.inr ⟨HQ.out,_,rfl,_,_,rfl,q2.set3 m0 m1 m2,p2.set3 m0 m1 m2⟩⟩
theorem zn9 (w:World) (a b:Value) (p q:Rat) (L:Nat) (ha:RatV w a p L) (hb:RatV w b q L) (hL:L<=268435456) (hq0:q≠0):
  Calls Tryz.prog 22 #[a,b] w (Ret (doneR w (p / q) (2*L+4))):=by
 have hmf:=hmf0 Tryz.prog
 have hz0:decide (q=0)=false:=decide_eq_false hq0
 have HZ:=hide (ai hz0 hq0);clear hz0 hq0
 have HA:=hide (ai ha hb)
 obtain⟨n1,l1,rfl,h1,g1⟩:=ha
 obtain⟨n2,l2,rfl,h2,g2⟩:=hb
 obtain⟨A1,c1,xs1,rfl,_⟩:=h1.open_
 obtain⟨A2,c2,xs2,rfl,_⟩:=g1.open_
 obtain⟨A3,c3,xs3,rfl,_⟩:=h2.open_
 obtain⟨A4,c4,xs4,rfl,_⟩:=g2.open_
 clear h1 g1 h2 g2
 obtain⟨b1,hs1⟩:∃s,s=decide (p.num<0):=⟨_,rfl⟩
 obtain⟨b2,hs2⟩:∃s,s=decide (q.num<0):=⟨_,rfl⟩
 rw[<-hs1,<-hs2] at HA
 rw[<-hs1,<-hs2]
 clear hs1 hs2
 have hb0:Below w.heap.size w (((w.alloc (.cells #[.bool b1,.slice A1 xs1.length c1,.slice A2 xs2.length c2] 43)).alloc (.cells #[.bool b2,.slice A3 xs3.length c3,.slice A4 xs4.length c4] 43)).alloc (.cells #[.bool false,.slice none 0 0,.slice none 0 0] 43)):=((((blr _ _).alloc (nr _) _).alloc (by simp) _).alloc (by simp;omega) _)
 have hs0:Below (w.heap.size+3) (((w.alloc (.cells #[.bool b1,.slice A1 xs1.length c1,.slice A2 xs2.length c2] 43)).alloc (.cells #[.bool b2,.slice A3 xs3.length c3,.slice A4 xs4.length c4] 43)).alloc (.cells #[.bool false,.slice none 0 0,.slice none 0 0] 43)) (((w.alloc (.cells #[.bool b1,.slice A1 xs1.length c1,.slice A2 xs2.length c2] 43)).alloc (.cells #[.bool b2,.slice A3 xs3.length c3,.slice A4 xs4.length c4] 43)).alloc (.cells #[.bool false,.slice none 0 0,.slice none 0 0] 43)):=(blr _ _)
 go_enter Tryz.func22,Tryz.ntmps22
 go_wp2_with fail
 refine(zbg _ _ q L (HA.out.2.below hb0)).mono ?_
 rintro e w0 ⟨_,rfl,rfl,hd0⟩
 rw[HZ.out.1]
 replace hs0:=zh hs0 hd0 (by simp)
 replace hb0:=bnx hb0 hd0
 obtain⟨⟨i0,i1,i2⟩,⟨j0,j1,j2⟩,_,_,_⟩:=zaE hs0
 go_wp2_with fail
 refine(zj0 _ _ _ p q L (HA.out.1.below hb0) (HA.out.2.below hb0) hL HZ.out.2).mono ?_
 rintro e w1 ⟨u1,rfl,q1,hd1⟩
 clear i0 i1 i2 j0 j1 j2
 have hs1:=zh hs0 hd1 (by simp)
 have hb1:=bnx hb0 hd1
 go_wp2_with fail
 refine(zbh _ u1 (p / q) (2*L+4) q1 (by omega)).mono ?_
 rintro e w2 ⟨_,rfl,hd2,⟨hq,u2,rfl,n1,l1,rfl,q2,p2⟩|⟨hq,u2,rfl,n1,l1,rfl,q2,p2⟩⟩
 ·have hs2:=zh hs1 hd2 (by simp)
  have hb2:=bnx hb1 hd2
  obtain⟨_,_,⟨m0,m1,m2⟩,⟨f0,f1,f2⟩,hz⟩:=zaE hs2
  obtain⟨Ae,ce,xe,rfl,_⟩:=q2.open_
  obtain⟨Af,cf,xf,rfl,_⟩:=p2.open_
  have HQ:=hide hq;clear hq
  go_wp2
  refine bodyPost_ret (v:=.tuple #[.agg #[.bool (decide ((p / q).num<0)),.slice Ae xe.length ce,.slice Af xf.length cf],.int .i64 0]) ?_ rfl ?_
  ·simp[results,Tryz.results22,go_sem,m0,m1,m2,hz]
  exact⟨_,rfl,zm hb2 (by omega) _ _ _,Or.inl ⟨HQ.out,_,rfl,_,_,rfl,q2.set3 m0 m1 m2,p2.set3 m0 m1 m2⟩⟩
 ·have hs2:=zh hs1 hd2 (by simp)
  have hb2:=bnx hb1 hd2
  obtain⟨_,_,⟨m0,m1,m2⟩,⟨f0,f1,f2⟩,hz⟩:=zaE hs2
  obtain⟨Ae,ce,xe,rfl,_⟩:=q2.open_
  obtain⟨Af,cf,xf,rfl,_⟩:=p2.open_
  have HQ:=hide hq;clear hq
  go_wp2
  refine bodyPost_ret (v:=.tuple #[.agg #[.bool (decide ((0:Rat).num<0)),.slice Ae xe.length ce,.slice Af xf.length cf],.int .i64 11]) ?_ rfl ?_
  ·simp[results,Tryz.results22,go_sem,m0,m1,m2,hz]
  exact⟨_,rfl,zm hb2 (by omega) _ _ _,Or.inr ⟨HQ.out,_,rfl,_,_,rfl,q2.set3 m0 m1 m2,p2.set3 m0 m1 m2⟩⟩
theorem zgw (w:World) (a b:Value) (p q:Rat) (L:Nat) (ha:RatV w a p L) (hb:RatV w b q L) (hL:L<=268435456):
  Calls Tryz.prog 19 #[a,b] w (Ret fun v w'=>v=.int .i64 (sgnQ (p-q))/\Below w.heap.size w w'):=by
 have HA:=hide (ai ha hb)
 obtain⟨b1,A1,n1,c1,A2,n2,c2,rfl⟩:=ha.shape
 obtain⟨b2,A3,n3,c3,A4,n4,c4,rfl⟩:=hb.shape
 clear ha hb
 have hb0:Below w.heap.size w ((w.alloc (.cells #[.bool b1,.slice A1 n1 c1,.slice A2 n2 c2] 43)).alloc (.cells #[.bool b2,.slice A3 n3 c3,.slice A4 n4 c4] 43)):=((blr _ _).alloc (nr _) _).alloc (by simp) _
 go_enter Tryz.func19,Tryz.ntmps19
 go_wp2_with fail
 refine(zfl _ _ _ p q L (HA.out.1.below hb0) (HA.out.2.below hb0) hL).mono ?_
 rintro e w1 ⟨u1,rfl,q1,hd1⟩
 have hb1:=bnx hb0 hd1
 go_wp2_with fail
 refine(zce _ _ (p-q) _ q1).mono ?_
 rintro e w2 ⟨_,rfl,rfl,hd2⟩
 have HB:=hide (bnx hb1 hd2)
 clear hb1 hd2 q1 hb0 hd1
 go_wp2
 go_ret
 exact⟨_,rfl,rfl,HB.out⟩
def FracQ (most:Nat) (q:Rat):Prop:=(q.num.natAbs:Int)<10^most/\(q.den:Int)<10^most
def zcc (most:Nat) (bs:List Int) (q:Rat):Prop:=(bs=ratText q/\bs.length<=most)\/((¬∃p:Rat,bs=ratText p/\bs.length<=most)/\q=1)
theorem zhW {p q:Rat} (h:ratText p=ratText q):p=q:=by
 have key:p.num=q.num/\p.den=q.den:=by
  by_cases hs:(47:Int)∈ratText p
  ·obtain⟨xs,cs,e,hx⟩:=zer _ hs
   obtain⟨a1,a2,_⟩:=zeq p xs cs hx e.symm
   obtain⟨b1,b2,_⟩:=zeq q xs cs hx (e.symm.trans h)
   have e1:=zc0 (a1.symm.trans b1)
   have e2:=zc0 (a2.symm.trans b2)
   exact⟨e1,by omega⟩
  ·obtain⟨a1,a2⟩:=zdF p _ hs rfl
   obtain⟨b1,b2⟩:=zdF q _ hs h
   exact⟨zc0 (a2.symm.trans b2),by omega⟩
 exact Rat.ext key.1 key.2
theorem zcc.one {most:Nat} {bs:List Int} {p q:Rat} (h:zcc most bs p) (g:zcc most bs q):p=q:=by
 rcases h with ⟨h1,h2⟩|⟨h1,h2⟩ <;> rcases g with ⟨g1,g2⟩|⟨g1,g2⟩
 ·exact zhW (h1.symm.trans g1)
 ·exact absurd ⟨p,h1,h2⟩ g1
 ·exact absurd ⟨q,g1,g2⟩ h1
 ·rw[h2,g2]
theorem zc2 {x:Int} {n:Nat} (h0:0<x) (h:x<10^n):(decText x).length<=n:=by
 unfold decText
 rw[if_neg (by omega),List.length_reverse,zau]
 exact zcJ x.toNat n (by omega)
theorem FracQ.one (n:Nat) (hn:1<=n):FracQ n (Rat.divInt 1 1):=by
 have hp:(10:Int)^1<=10^n:=zt (by omega) hn
 have e:Rat.divInt 1 1=(1:Rat):=Rat.num_divInt_den (1:Rat)
 rw[e]
 exact⟨by show ((1:Int).natAbs:Int)<_;simp;omega,by show ((1:Nat):Int)<_;omega⟩
theorem zgF (n:Nat):(10:Int)^n<=1000000000^(n / 9+1):=by
 rw[ziP]
 exact zt (by omega) (by omega)
theorem zjK (n:Nat):(1000000000:Int)^n<=4294967296^n:=by
 induction n with
 | zero=>simp
 | succ n ih=>
  rw[Int.pow_succ,Int.pow_succ]
  have h0:(0:Int)<1000000000^n:=Int.pow_pos (by omega)
  omega
theorem FracQ.fit {n:Nat} {q:Rat} (h:FracQ n q):FitQ (n / 9+1) q:=by
 have h1:=zgF n
 have h2:=zjK (n / 9+1)
 obtain⟨a,b⟩:=h
 exact⟨by omega,by omega⟩
theorem QV.fit {w:World} {v:Value} {q:Rat} {L n:Nat} (h:QV w v q L) (hq:FracQ n q):QV w v q (n / 9+1):=by
 have h1:=zgF n
 obtain⟨a,b,rfl,g1,g2⟩:=h
 exact⟨a,b,rfl,g1.fit (by have:=hq.1;omega),g2.fit (by have:=hq.2;omega)⟩
theorem zlj {q:Rat} {n:Nat} (h:FracQ n q) (hn:1<=n):(ratText q).length<=2*n+2:=by
 obtain⟨h1,h2⟩:=h
 have a:(intText q.num).length<=n+1:=by
  have b:(decText (q.num.natAbs:Int)).length<=n:=by
   by_cases h0:q.num.natAbs=0
   ·rw[h0];simp[decText];omega
   ·exact zc2 (by omega) h1
  unfold intText
  rw[List.length_append]
  split <;> simp <;> omega
 have hd:=zG q
 have b:(decText (q.den:Int)).length<=n:=zc2 (by omega) h2
 unfold ratText
 rw[List.length_append]
 split
 ·simp;omega
 ·rw[List.length_cons];omega
theorem zjL (n:Nat) (hn:n<=20000):(10:Int)^n<=2^mostBits:=by
 have h1:(10:Int)^n<=16^n:=by
  induction n with
  | zero=>simp
  | succ n ih=>
   have:=ih (by omega)
   rw[Int.pow_succ,Int.pow_succ]
   have h0:(0:Int)<10^n:=Int.pow_pos (by omega)
   omega
 have h2:(16:Int)^n=2^(4*n):=by rw[Int.pow_mul];rfl
 have h3:(2:Int)^(4*n)<=2^mostBits:=zt (by omega) (by unfold mostBits;omega)
 omega
theorem FracQ.small {n:Nat} {q:Rat} (h:FracQ n q) (hn:n<=20000):SmallQ q:=by
 have:=zjL n hn
 exact⟨by have:=h.1;unfold Small;omega,by have:=h.2;unfold Small;omega⟩
theorem Arr.put {w:World} {A:Option Addr} {k:IntKind} {xs:List Int} {B i:Nat} {v:Value} (h:Arr w A k xs) (ht:∀b,Typed w b (tyOf k)->b≠B):Arr (w.setCell ⟨B,i,none⟩ v) A k xs:=by
 intro hx
 obtain⟨b,o,rfl,hty,hc⟩:=h hx
 have hne:=ht b hty
 refine⟨b,o,rfl,hty.setCell _ _,fun j hj=>?_⟩
 rw[World.cell?_setCell_other _ _ _ _ (by intro e;injection e with e1;exact hne e1.symm)]
 exact hc j hj
theorem zbp {w:World} {b B i:Nat} {e:TypeId} {v:Value} (h:Typed (w.setCell ⟨B,i,none⟩ v) b e):Typed w b e:=by
 obtain⟨cs,m,h⟩:=h
 simp only[World.setCell,Array.getElem?_modify] at h
 split at h
 ·cases hh:w.heap[b]? with
  | none=>rw[hh] at h;simp at h
  | some o=>
   rw[hh] at h
   cases o <;> simp at h
   obtain⟨_,rfl,rfl⟩:=h
   exact⟨_,_,hh⟩
 ·exact⟨cs,m,h⟩
theorem NatV.putq {w:World} {v:Value} {x:Int} {L B i:Nat} {u:Value} (h:NatV w v x L) (ht:∀b,Typed w b (tyOf .u32)->b≠B):NatV (w.setCell ⟨B,i,none⟩ u) v x L:=by
 obtain⟨A,c,xs,rfl,h1,h2,h3,h4⟩:=h
 exact⟨A,c,xs,rfl,h1,h2,h3.put ht,h4⟩
theorem LimV.putq {w:World} {v:Value} {x:Int} {L B i:Nat} {u:Value} (h:LimV w v x L) (ht:∀b,Typed w b (tyOf .i64)->b≠B):LimV (w.setCell ⟨B,i,none⟩ u) v x L:=by
 obtain⟨A,c,xs,rfl,h1,h2,h3,h4⟩:=h
 exact⟨A,c,xs,rfl,h1,h2,h3.put ht,h4⟩
theorem zlk {w:World} {B:Nat} {cs:Array Value} {e f:TypeId} (hB:w.heap[B]?=some (.cells cs e (0,0))) (he:e≠f):∀b,Typed w b f->b≠B:=
 fun b hb=>Typed.ne hb ⟨_,_,hB⟩ (fun e'=>he e'.symm)
theorem RatV.put4 {w:World} {v:Value} {q:Rat} {L B:Nat} {a b c d:Value} (h:RatV w v q L) {cs:Array Value} {e:TypeId} (hB:w.heap[B]?=some (.cells cs e (0,0))) (he:e≠190):
  RatV ((((w.setCell ⟨B,0,none⟩ a).setCell ⟨B,1,none⟩ b).setCell ⟨B,2,none⟩ c).setCell ⟨B,3,none⟩ d) v q L:=by
 obtain⟨n,l,rfl,h1,h2⟩:=h
 have ht:∀b,Typed w b (tyOf .u32)->b≠B:=zlk hB he
 have k:∀{x:Int} {v:Value},NatV w v x L->NatV ((((w.setCell ⟨B,0,none⟩ a).setCell ⟨B,1,none⟩ b).setCell ⟨B,2,none⟩ c).setCell ⟨B,3,none⟩ d) v x L:=fun h=>
  (((h.putq ht).putq fun b hb=>ht b (zbp hb)).putq fun b hb=>ht b (zbp (zbp hb))).putq fun b hb=>ht b (zbp (zbp (zbp hb)))
 exact⟨n,l,rfl,k h1,k h2⟩
theorem zdI (n d:Int) (hd:0<d):(Rat.divInt n d).num.natAbs<=n.natAbs/\((Rat.divInt n d).den:Int)<=d:=by
 have hg:0<Int.gcd d n:=Int.gcd_pos_of_ne_zero_left n (by omega)
 constructor
 ·rw[Rat.num_divInt,Int.sign_eq_one_of_pos hd,Int.one_mul,Int.natAbs_ediv_of_dvd (Int.gcd_dvd_right d n)]
  exact Nat.div_le_self _ _
 ·rw[Rat.den_divInt,if_neg (by omega)]
  have:=Nat.div_le_self d.natAbs (Int.gcd d n)
  omega
theorem zaG {L:Nat} {n d:Int} (hd:0<d) (h1:(n.natAbs:Int)<4294967296^L) (h2:d<=4294967296^L):FitQ L (Rat.divInt n d):=by
 obtain⟨a,b⟩:=zdI n d hd
 exact⟨by omega,by omega⟩
theorem FitQ.more {L L':Nat} {q:Rat} (h:FitQ L q) (hL:L<=L'):FitQ L' q:=by
 have:=zt (B:=4294967296) (by omega) hL
 exact⟨by have:=h.1;omega,by have:=h.2;omega⟩
theorem zc3 {a b B:Int} (ha:0<=a) (hb:0<=b) (h1:a<=B) (h2:b<=B):a*b<=B*B:=
 Int.mul_le_mul h1 h2 hb (by omega)
theorem zim (B:Int) (L:Nat):B^(2*L)=B^L*B^L:=by rw[<-Int.pow_add];congr 1;omega
theorem FitQ.add {L:Nat} {p q:Rat} (hp:FitQ L p) (hq:FitQ L q):FitQ (2*L+1) (p+q):=by
 have hpd:=zG p
 have hqd:=zG q
 have e:p+q=Rat.divInt (p.num*q.den+q.num*p.den) (p.den*q.den):=by
  conv=>lhs;rw[<-Rat.num_divInt_den p,<-Rat.num_divInt_den q]
  exact Rat.divInt_add_divInt _ _ (by omega) (by omega)
 rw[e]
 have hB:=zim 4294967296 L
 have hB1:(4294967296:Int)^(2*L+1)=4294967296^(2*L)*4294967296:=Int.pow_succ _ _
 have hB0:(0:Int)<4294967296^L:=Int.pow_pos (by omega)
 have h1:=zc3 (a:=(p.num.natAbs:Int)) (b:=(q.den:Int)) (by omega) (by omega) (by have:=hp.1;omega) hq.2
 have h2:=zc3 (a:=(q.num.natAbs:Int)) (b:=(p.den:Int)) (by omega) (by omega) (by have:=hq.1;omega) hp.2
 have h3:=zc3 (a:=(p.den:Int)) (b:=(q.den:Int)) (by omega) (by omega) hp.2 hq.2
 have h0:(0:Int)<4294967296^L*4294967296^L:=Int.mul_pos hB0 hB0
 refine zaG (Int.mul_pos hpd hqd) ?_ (by omega)
 have t:=Int.natAbs_add_le (p.num*q.den) (q.num*p.den)
 rw[Int.natAbs_mul,Int.natAbs_mul,Int.natAbs_natCast,Int.natAbs_natCast] at t
 have t2:((p.num*q.den+q.num*p.den).natAbs:Int)<=(p.num.natAbs:Int)*(q.den:Int)+(q.num.natAbs:Int)*(p.den:Int):=by exact_mod_cast t
 omega
theorem FitQ.mul {L:Nat} {p q:Rat} (hp:FitQ L p) (hq:FitQ L q):FitQ (2*L+1) (p*q):=by
 have hpd:=zG p
 have hqd:=zG q
 have e:p*q=Rat.divInt (p.num*q.num) (p.den*q.den):=by
  conv=>lhs;rw[<-Rat.num_divInt_den p,<-Rat.num_divInt_den q]
  exact Rat.divInt_mul_divInt _ _
 rw[e]
 have hB:=zim 4294967296 L
 have hB1:(4294967296:Int)^(2*L+1)=4294967296^(2*L)*4294967296:=Int.pow_succ _ _
 have hB0:(0:Int)<4294967296^L:=Int.pow_pos (by omega)
 have h1:=zc3 (a:=(p.num.natAbs:Int)) (b:=(q.num.natAbs:Int)) (B:=4294967296^L) (by omega) (by omega) (by have:=hp.1;omega) (by have:=hq.1;omega)
 have h3:=zc3 (a:=(p.den:Int)) (b:=(q.den:Int)) (by omega) (by omega) hp.2 hq.2
 have h0:(0:Int)<4294967296^L*4294967296^L:=Int.mul_pos hB0 hB0
 refine zaG (Int.mul_pos hpd hqd) ?_ (by omega)
 rw[Int.natAbs_mul,Int.natCast_mul]
 omega
theorem FitQ.neg {L:Nat} {p:Rat} (hp:FitQ L p):FitQ L (-p):=by
 refine⟨?_,hp.2⟩
 rw[Rat.neg_num,Int.natAbs_neg]
 exact hp.1
theorem FitQ.sub {L:Nat} {p q:Rat} (hp:FitQ L p) (hq:FitQ L q):FitQ (2*L+1) (p-q):=by
 rw[Rat.sub_eq_add_neg]
 exact hp.add hq.neg
theorem FitQ.inv {L:Nat} {q:Rat} (hq:FitQ L q) (h0:q≠0):FitQ (L+1) q⁻¹:=by
 have hqd:=zG q
 have hn:q.num≠0:=fun e=>h0 (Rat.num_eq_zero.1 e)
 have hB1:(4294967296:Int)^(L+1)=4294967296^L*4294967296:=Int.pow_succ _ _
 have hB0:(0:Int)<4294967296^L:=Int.pow_pos (by omega)
 obtain⟨a,b⟩:=hq
 rw[Rat.inv_def]
 by_cases hneg:q.num<0
 ·rw[<-Rat.neg_divInt_neg]
  refine zaG (by omega) ?_ (by omega)
  rw[Int.natAbs_neg,Int.natAbs_natCast]
  omega
 ·exact zaG (by omega) (by rw[Int.natAbs_natCast];omega) (by omega)
theorem FitQ.div {L:Nat} {p q:Rat} (hp:FitQ L p) (hq:FitQ L q) (h0:q≠0):FitQ (2*L+3) (p / q):=by
 rw[Rat.div_def]
 have:=(hp.more (show L<=L+1 by omega)).mul (hq.inv h0)
 exact this.more (by omega)
theorem FitQ.smallQ {L:Nat} {q:Rat} (h:FitQ L q) (hL:L<=3000):SmallQ q:=by
 have h1:(4294967296:Int)^L=2^(32*L):=by rw[Int.pow_mul];rfl
 have h2:(2:Int)^(32*L+1)<=2^mostBits:=zt (by omega) (by unfold mostBits;omega)
 have h3:(2:Int)^(32*L+1)=2^(32*L)*2:=Int.pow_succ _ _
 have h4:(0:Int)<2^(32*L):=Int.pow_pos (by omega)
 exact⟨by have:=h.1;unfold Small;omega,by have:=h.2;unfold Small;omega⟩
theorem BoxR.below {w w':World} {g:Nat} {q:Rat} {L:Nat} (h:BoxR w g q L) (hb:Below w.heap.size w w'):BoxR w' g q L:=by
 obtain⟨s,A,n,c,B,m,d,h1,h2⟩:=h
 exact⟨s,A,n,c,B,m,d,at_later h1 hb,h2.below hb⟩
def BoxQ (w:World) (g:Nat) (q:Rat) (L:Nat):Prop:=∃t A n c B m d,w.heap[g]?=some (.cells #[.bool t,.slice A n c,.bool false,.slice B m d] 55 (0,0))/\QV w (.agg #[.bool t,.slice A n c,.bool false,.slice B m d]) q L
theorem BoxQ.below {w w':World} {g:Nat} {q:Rat} {L:Nat} (h:BoxQ w g q L) (hb:Below w.heap.size w w'):BoxQ w' g q L:=by
 obtain⟨s,A,n,c,B,m,d,h1,h2⟩:=h
 exact⟨s,A,n,c,B,m,d,at_later h1 hb,h2.below hb⟩
theorem zjM {p q:Rat} (h:p=q):sgnQ (p-q)=0:=by
 subst h
 rw[Rat.sub_self]
 rfl
theorem zmD (q:Rat):0<q↔0<q.num:=by
 rw[Rat.lt_iff]
 show (0:Int)*q.den<q.num*((1:Nat):Int)↔_
 simp
theorem zmE (q:Rat):q<0↔q.num<0:=by
 rw[Rat.lt_iff]
 show q.num*((1:Nat):Int)<(0:Int)*q.den↔_
 simp
theorem zbR (q:Rat):(sgnQ q=1/\0<q)\/(sgnQ q=0/\q=0)\/(sgnQ q=-1/\q<0):=by
 unfold sgnQ
 by_cases h1:q.num<0
 ·right;right
  rw[if_pos h1]
  exact⟨rfl,(zmE q).2 h1⟩
 ·rw[if_neg h1]
  by_cases h2:0<q.num
  ·left
   rw[if_pos h2]
   exact⟨rfl,(zmD q).2 h2⟩
  ·right;left
   rw[if_neg h2]
   exact⟨rfl,Rat.num_eq_zero.1 (by omega)⟩
end Go.Proofs.YtpoahodnakhmiaaGreat
