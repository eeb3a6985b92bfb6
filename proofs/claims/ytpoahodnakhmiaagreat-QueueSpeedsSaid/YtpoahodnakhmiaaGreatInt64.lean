import Derived.Test.YtpoahodnakhmiaaGreatQop9
import Derived.Deep.RegionHeld3
import Derived.Deep.DeepCutAuto
set_option maxRecDepth 100000
namespace Go.Proofs.YtpoahodnakhmiaaGreat
open Go.RowKit
set_option linter.unusedVariables false
set_option linter.unusedSimpArgs false
theorem zdW (z:Int):zfI (intText z):=by
 unfold intText
 intro b hb
 rw[List.mem_append] at hb
 rcases hb with hb|hb
 ·split at hb
  ·simp at hb;exact Or.inl hb
  ·simp at hb
 ·exact Or.inr (zaR _ b hb)
theorem RatV.shape {w:World} {v:Value} {q:Rat} {L:Nat} (h:RatV w v q L):∃s A n c B m d,v=.agg #[.bool s,.slice A n c,.slice B m d]:=by
 obtain⟨N,l,rfl,h1,h2⟩:=h
 obtain⟨A,c,xs,rfl,_⟩:=h1.open_
 obtain⟨B,d,ys,rfl,_⟩:=h2.open_
 exact⟨_,_,_,_,_,_,_,rfl⟩
theorem zdy (w:World) (o:Obj):(w.alloc o).heap.size=w.heap.size+1:=by simp
theorem ze8 (w:World) (o:Obj):(w.alloc o).drew.heap.size=w.heap.size+1:=by simp
theorem box3d {w w':World} {a b c:Value} {e:TypeId} (h:Below (w.heap.size+1) (w.alloc (.cells #[a,b,c] e)) w') (B:Nat) (hB:w.heap.size=B):
  w'.cell? ⟨B,0,none⟩=some a/\w'.cell? ⟨B,1,none⟩=some b/\w'.cell? ⟨B,2,none⟩=some c/\w'.frozen? ⟨B,0,none⟩=false/\w'.frozen? ⟨B,1,none⟩=false/\w'.frozen? ⟨B,2,none⟩=false/\Hid (w'.heap[B]?=some (.cells #[a,b,c] e (0,0))):=by
 subst hB
 obtain⟨k0,k1,k2,f0,f1,f2,_⟩:=box3 h
 exact⟨k0,k1,k2,f0,f1,f2,(h.block _ (by omega)).trans (heap_alloc_new w _)⟩
theorem keep3 {w w':World} {B:Nat} {a b c:Value} {e:TypeId} (h:Below w.heap.size w w') (kb:Hid (w.heap[B]?=some (.cells #[a,b,c] e (0,0)))):
  w'.cell? ⟨B,0,none⟩=some a/\w'.cell? ⟨B,1,none⟩=some b/\w'.cell? ⟨B,2,none⟩=some c/\w'.frozen? ⟨B,0,none⟩=false/\w'.frozen? ⟨B,1,none⟩=false/\w'.frozen? ⟨B,2,none⟩=false/\Hid (w'.heap[B]?=some (.cells #[a,b,c] e (0,0))):=by
 have hh:=at_later kb.out h
 exact⟨by simp[World.cell?,hh],by simp[World.cell?,hh],by simp[World.cell?,hh],by simp[World.frozen?,hh],by simp[World.frozen?,hh],by simp[World.frozen?,hh],hh⟩
theorem zmF {w:World} {g:Nat} {a b c x y z:Value} {e:TypeId} (kb:w.heap[g]?=some (.cells #[a,b,c] e (0,0))):
  (((w.setCell ⟨g,0,none⟩ x).setCell ⟨g,1,none⟩ y).setCell ⟨g,2,none⟩ z).heap[g]?=some (.cells #[x,y,z] e (0,0)):=by
 simp[World.setCell,Array.getElem?_modify,kb]
theorem zlr (z:Int) (w:World):
  Calls Tryz.prog 134 #[.string (str (intText z)),.string ⟨#[45]⟩] w (zbn (.string (str (decText (z.natAbs:Int)))) w):=by
 unfold intText
 by_cases hz:z<0
 ·rw[if_pos hz]
  exact zfr _ w
 ·rw[if_neg hz,List.nil_append]
  have hd:=zaR (z.natAbs:Int)
  cases h:decText (z.natAbs:Int) with
  | nil=>
   exfalso
   by_cases h0:z=0
   ·subst h0;simp[decText] at h
   ·have:=(zaS (z.natAbs:Int) (by omega)).1
    rw[h] at this;simp at this
  | cons b t=>
   have hb:=hd b (by rw[h];exact List.mem_cons_self)
   exact zdc b t hb.1 hb.2 w
theorem zgU (P:Program) (t:TypeId) (bs:List Int) (b:Int) (hs:bs.getD 0 0=b) (hp:0<bs.length) (h0:0<=b) (h1:b<256) (h:P.underlying t=some .string) (w:World):
  (Instr.index t (.string (str bs)) (.int .i64 0)).run P w=.ok (.int .u8 b) w:=by
 have hz:=zM bs
 rw[run_index_string w t (str bs) .i64 0 h,dif_pos (by omega)]
 cases bs with
 | nil=>simp at hp
 | cons c l=>
  have hc:c=b:=by simpa[List.getD] using hs
  subst hc
  have e:(((str (c::l))[(0:Int).toNat]'(by omega)).toNat:Int)=c:=by
   have h2:(0:Int).toNat=0:=rfl
   simp only[h2]
   show ((((str (c::l)).data[0]'(by simp[str])).toNat:Nat):Int)=c
   simp[str]
   omega
  rw[e]
theorem zgx (z:Int):∃b,(intText z).getD 0 0=b/\0<(intText z).length/\0<=b/\b<256/\(b == 45)=decide (z<0):=by
 by_cases hz:z<0
 ·refine⟨45,?_,?_,by omega,by omega,by simp[hz]⟩ <;> (unfold intText;rw[if_pos hz];simp)
 ·have hd:=zaR (z.natAbs:Int)
  have he:intText z=decText (z.natAbs:Int):=by unfold intText;rw[if_neg hz];rfl
  rw[he]
  have hp:0<(decText (z.natAbs:Int)).length:=by
   by_cases h0:z=0
   ·subst h0;simp[decText]
   ·exact(zaS (z.natAbs:Int) (by omega)).1
  have hb:=hd ((decText (z.natAbs:Int)).getD 0 0) (by simp[List.getD,List.getElem?_eq_getElem hp])
  refine⟨_,rfl,hp,by omega,by omega,?_⟩
  rw[show decide (z<0)=false by simp[hz],beq_eq_false_iff_ne]
  omega
theorem zh5 (q:Rat) (n:Nat) (h:(ratText q).length<=n):(intText q.num).length<=n/\(decText (q.den:Int)).length<=n+1:=by
 unfold ratText at h
 rw[List.length_append] at h
 refine⟨by omega,?_⟩
 by_cases h1:q.den=1
 ·rw[h1];simp[decText,asc];rw[decOf];simp;rw[decOf];simp
 ·rw[if_neg h1,List.length_cons] at h;omega
theorem zmG:decText 1=[49]:=by
 simp[decText,asc];rw[decOf];simp;rw[decOf];simp
theorem zcX (z:Int):(decText (z.natAbs:Int)).length<=(intText z).length:=by
 unfold intText
 rw[List.length_append]
 omega
theorem zmH (z:Int):sgd (decide (z<0)) (z.natAbs:Int)=z:=by
 unfold sgd
 by_cases h:z<0 <;> simp[h] <;> omega
def zbd (w:World) (g:Nat) (q:Rat) (L:Nat):Prop:=∃s A n c B m d,w.heap[g]?=some (.cells #[.bool s,.slice A n c,.slice B m d] 43 (0,0))/\RatV w (.agg #[.bool s,.slice A n c,.slice B m d]) q L
theorem zj {w:World} {B:Nat} {a b c:Value} {e:TypeId} (hh:w.heap[B]?=some (.cells #[a,b,c] e (0,0))):
  w.cell? ⟨B,0,none⟩=some a/\w.cell? ⟨B,1,none⟩=some b/\w.cell? ⟨B,2,none⟩=some c:=
 ⟨by simp[World.cell?,hh],by simp[World.cell?,hh],by simp[World.cell?,hh]⟩
theorem zr {w:World} {B:Nat} {a b c:Value} {e:TypeId} (hh:w.heap[B]?=some (.cells #[a,b,c] e (0,0))):
  w.frozen? ⟨B,0,none⟩=false/\w.frozen? ⟨B,1,none⟩=false/\w.frozen? ⟨B,2,none⟩=false:=
 ⟨by simp[World.frozen?,hh],by simp[World.frozen?,hh],by simp[World.frozen?,hh]⟩
theorem RatV.put3 {w:World} {v:Value} {q:Rat} {L g:Nat} {a0:Bool} {A1 A2:Option Addr} {n1 c1 n2 c2:Nat} {x y z:Value} {e:TypeId} (h:RatV w v q L) (hh:w.heap[g]?=some (.cells #[.bool a0,.slice A1 n1 c1,.slice A2 n2 c2] e (0,0))):
  RatV (((w.setCell ⟨g,0,none⟩ x).setCell ⟨g,1,none⟩ y).setCell ⟨g,2,none⟩ z) v q L:=by
 obtain⟨N,l,e,h1,h2⟩:=h
 obtain⟨k0,k1,k2⟩:=zj hh
 exact⟨N,l,e,h1.set3 k0 k1 k2,h2.set3 k0 k1 k2⟩
theorem zbd.made {w0 w:World} {q:Rat} {L:Nat} {s:Bool} {A B:Option Addr} {n c m d:Nat} (hb:Below w0.heap.size w0 w) (hq:RatV w (.agg #[.bool s,.slice A n c,.slice B m d]) q L):
  ∃g:Nat,Value.pointer (some ⟨w.heap.size,0,none⟩)=.pointer (some ⟨g,0,none⟩)/\w0.heap.size<=g/\zbd (w.alloc (.cells #[.bool s,.slice A n c,.slice B m d] 43)) g q L/\Below w0.heap.size w0 (w.alloc (.cells #[.bool s,.slice A n c,.slice B m d] 43)):=
 ⟨_,rfl,hb.size,⟨s,A,n,c,B,m,d,heap_alloc_new w _,hq.below ((blr _ _).alloc (nr _) _)⟩,hb.alloc hb.size _⟩
theorem zbd.stored {w0 w:World} {g:Nat} {q:Rat} {L:Nat} {s:Bool} {A B:Option Addr} {n c m d:Nat} (hg:w0.heap.size<=g) (hb:Below w0.heap.size w0 w) (hq:RatV w (.agg #[.bool s,.slice A n c,.slice B m d]) q L) (kb:Hid (w.heap[g]?=some (.cells #[.bool false,.slice none 0 0,.slice none 0 0] 43 (0,0)))):
  ∃g':Nat,Value.pointer (some ⟨g,0,none⟩)=.pointer (some ⟨g',0,none⟩)/\w0.heap.size<=g'/\zbd (((w.setCell ⟨g,0,none⟩ (.bool s)).setCell ⟨g,1,none⟩ (.slice A n c)).setCell ⟨g,2,none⟩ (.slice B m d)) g' q L/\Below w0.heap.size w0 (((w.setCell ⟨g,0,none⟩ (.bool s)).setCell ⟨g,1,none⟩ (.slice A n c)).setCell ⟨g,2,none⟩ (.slice B m d)):=by
 obtain⟨N,l,e,h1,h2⟩:=hq
 have hh:=kb.out
 have k0:w.cell? ⟨g,0,none⟩=some (.bool false):=by simp[World.cell?,hh]
 have k1:w.cell? ⟨g,1,none⟩=some (.slice none 0 0):=by simp[World.cell?,hh]
 have k2:w.cell? ⟨g,2,none⟩=some (.slice none 0 0):=by simp[World.cell?,hh]
 exact⟨g,rfl,hg,⟨s,A,n,c,B,m,d,zmF hh,N,l,e,h1.set3 k0 k1 k2,h2.set3 k0 k1 k2⟩,zl hb hg _ _ _⟩
set_option maxHeartbeats 4000000 in
theorem zmI (w:World) (q:Rat) (hl:(ratText q).length<=70000):
  Calls Tryz.prog 77 #[.string (str (ratText q))] w (Ret (doneR w q 70002)):=by
 obtain⟨hlt,hlb⟩:=zh5 q 70000 hl
 have hsz:(str (ratText q)).size<=70000:=by rw[zM];exact hl
 have hsz2:¬70000<(str (ratText q)).size:=by omega
 obtain⟨b0,hb0,hp0,hb1,hb2,hb3⟩:=zgx q.num
 have hix:=zgU Tryz.prog 9 (intText q.num) b0 hb0 hp0 hb1 hb2 (by kernel_rfl)
 obtain⟨S,hS⟩:∃S,S=str (ratText q):=⟨_,rfl⟩
 rw[<-hS] at hsz hsz2 ⊢
 have hdp:=zK q
 obtain⟨hd0,hd1⟩:=zaS (q.den:Int) (by omega)
 have hdd:=zaR (q.den:Int)
 obtain⟨c0,hc0⟩:∃c,(decText (q.den:Int)).getD 0 0=c:=⟨_,rfl⟩
 have hcb:=hdd c0 (by rw[<-hc0];simp[List.getD,List.getElem?_eq_getElem hd0])
 have hix2:=zgU Tryz.prog 9 (decText (q.den:Int)) c0 hc0 hd0 (by omega) (by omega) (by kernel_rfl)
 have hc45:(c0 == 45)=false:=by rw[beq_eq_false_iff_ne];omega
 obtain⟨D,hD⟩:∃D,D=str (decText (q.den:Int)):=⟨_,rfl⟩
 rw[<-hD] at hix2
 have hD48:¬D.toList=[48]:=by
  intro e
  rw[hD,Lib.toList_data,zdK] at e
  cases h:decText (q.den:Int) with
  | nil=>rw[h] at hd0;simp at hd0
  | cons a l=>
   rw[h] at e hc0
   simp at e hc0
   have h2:(UInt8.ofNat a.toNat).toNat=48:=by rw[e.1];rfl
   rw[UInt8.toNat_ofNat'] at h2
   rw[h] at hd1;simp at hd1
   omega
 have hD48b:(D.toList == [48])=false:=by rw[beq_eq_false_iff_ne];exact hD48
 obtain⟨T,hT⟩:∃T,T=str (intText q.num):=⟨_,rfl⟩
 rw[<-hT] at hix
 have HZ:=hide (ai hS (ai hD (ai hT (ai hlt (ai hlb (ai hdp (ai hd0 (ai hdd (ai hd1 hc0)))))))));clear hl hb0 hp0 hS hD hT hlt hlb hdp hd0 hdd hd1 hc0 hcb
 obtain⟨n,hn⟩:∃n,n=decide (q.num<0):=⟨_,rfl⟩
 rw[<-hn] at hb3
 have HN:=hide hn;clear hn
 obtain⟨W,hW⟩:∃W,W=w.alloc (.cells #[.bool false,.slice none 0 0,.slice none 0 0] 43):=⟨_,rfl⟩
 have hb0:Below w.heap.size w W:=by rw[hW];exact(blr _ _).alloc (nr _) _
 have hr:W.heap[w.heap.size]?=some (.cells #[.bool false,.slice none 0 0,.slice none 0 0] 43):=by rw[hW];exact zg _ _
 have HW:=hide (ai hW (ai hb0 hr));clear hW hb0 hr
 go_enter Tryz.func77,Tryz.ntmps77
 go_upto_region 3 with fail
 rw[<-HW.out.1]
 go_cut [4,5,6] (fun s4 s5 s6 wx=>∃c:Bool,s4=.string T/\s6=.bool c/\(c=true->s5=.string D)/\(c=false->q.den=1)/\Below W.heap.size W wx)
 case first=>
  by_cases h1:q.den=1
  ·have hS1:S=T:=by rw[HZ.out.1,HZ.out.2.2.1];unfold ratText;rw[if_pos h1,List.append_nil]
   have H1:=hide (ai h1 hS1);clear h1 hS1
   go_wp2_with fail
   refine(show Calls _ _ _ _ _ from by rw[H1.out.2,HZ.out.2.2.1];exact zlZ _ (zdW q.num) _).mono ?_
   rintro e w1 ⟨rfl,hd1⟩
   rw[<-HZ.out.2.2.1]
   go_wp2
   go_meet
   exact⟨false,rfl,rfl,fun h=>(by cases h),fun _=>H1.out.1,hd1⟩
  ·have hS1:S=str (intText q.num++47::decText (q.den:Int)):=by rw[HZ.out.1];unfold ratText;rw[if_neg h1]
   have H1:=hide (ai h1 hS1);clear h1 hS1
   go_wp2_with fail
   refine(show Calls _ _ _ _ _ from by rw[H1.out.2];exact zm6 _ _ (zdW q.num) (by have:=HZ.out.2.2.2.1;omega) (by have:=HZ.out.2.2.2.2.1;omega) _).mono ?_
   rintro e w1 ⟨rfl,hd1⟩
   rw[<-HZ.out.2.2.1,<-HZ.out.2.1]
   go_wp2
   go_meet
   exact⟨true,rfl,rfl,fun _=>rfl,fun h=>(by cases h),hd1⟩
 case rest=>
  obtain⟨c,rfl,rfl,h5t,h5f,hbel⟩:=hcut
  go_upto_if 19 with fail
  go_cut [5] (fun s5 wx=>s5=.string D/\Below W.heap.size W wx)
  case first=>
   cases c with
   | true=>
    have h5:=h5t rfl
    subst h5
    clear h5t h5f
    go_wp2
    go_meet
    exact⟨rfl,hbel⟩
   | false=>
    have h5:Value.string ⟨#[49]⟩=.string D:=by
     rw[HZ.out.2.1,h5f rfl]
     congr 1
     show _=str (decText 1)
     rw[zmG];rfl
    have H5:=hide h5;clear h5 h5t h5f
    go_wp2
    go_meet
    exact⟨H5.out,hbel⟩
  case rest=>
   obtain⟨rfl,hbel⟩:=hcut
   clear h5t h5f
   go_wp2_with fail
   refine(show Calls _ _ _ _ _ from by rw[HZ.out.2.2.1];exact zfs q.num (by have:=HZ.out.2.2.2.1;omega) _).mono ?_
   rintro e w2 ⟨rfl,hd2⟩
   go_wp2_with fail
   refine(show Calls _ _ _ _ _ from by rw[HZ.out.2.1,<-zbD _ (by have:=HZ.out.2.2.2.2.2.1;omega)];exact zfs (q.den:Int) (by rw[zbD _ (by have:=HZ.out.2.2.2.2.2.1;omega)];have:=HZ.out.2.2.2.2.1;omega) _).mono ?_
   rintro e w3 ⟨rfl,hd3⟩
   have hbel3:Below W.heap.size W w3:=hbel.trans ((bnx hd2 hd3).mono (by exact hbel.size))
   clear hd2 hd3
   go_wp2
   go_cut [7] (fun s7 wx=>∃g:Nat,s7=.pointer (some ⟨g,0,none⟩)/\w3.heap.size<=g/\zbd wx g q 70002/\Below w3.heap.size w3 wx)
   case first=>
    go_region_held3 (fun _=>True) (trivial)
     (first
      | (go_at_call 134;refine(show Calls _ _ _ _ _ from by rw[HZ.out.2.2.1];exact zlr q.num _).mono ?_;rintro e w4 ⟨rfl,hd4⟩
         have hg4:Below w3.heap.size w3 w4:=by (first|exact(blr _ _).drew.trans hd4|exact((blr _ _).drew.alloc (nr _) _).trans (hd4.mono (by simp))|exact((blr _ _).alloc (nr _) _).drew.trans (hd4.mono (by simp)))
         try (simp only[ze8] at hd4;obtain⟨k0,k1,k2,f0,f1,f2,kb⟩:=box3d (w:=w3) ((blr _ _).drew.trans hd4) w3.heap.size rfl)
         clear hd4)
      | (have hsecond:=hg5;go_at_call 133;refine(show Calls _ _ _ _ _ from by rw[HZ.out.2.1];exact zgb _ _ HZ.out.2.2.2.2.2.2.2.1 (by have:=HZ.out.2.2.2.2.1;omega)).mono ?_;rintro e w6 ⟨v6,rfl,q6,hd6⟩;clear hsecond
         have he6:Below w5.heap.size w5 w6:=by (first|exact hd6|exact((blr _ _).alloc (nr _) _).trans (hd6.mono (by simp)))
         have hg6:Below w3.heap.size w3 w6:=hg5.trans (he6.mono hg5.size)
         try (have kk:=keep3 he6 kb;clear k0 k1 k2 f0 f1 f2 kb;obtain⟨k0,k1,k2,f0,f1,f2,kb⟩:=kk)
         try (simp only[zdy] at hd6;obtain⟨k0,k1,k2,f0,f1,f2,kb⟩:=box3d hd6 w5.heap.size rfl)
         have q5':=HQ5.out.below he6
         rw[ziG _ (by have:=HZ.out.2.2.2.2.2.1;omega)] at q6
         have HQ6:=hide (ai (q5'.more (show _<=70002 by (have:=HZ.out.2.2.2.1;have:=zcX q.num;omega))) (q6.more (show _<=70002 by (have:=HZ.out.2.2.2.2.1;omega))));clear q5' q6
         clear hd6)
      | (go_at_call 133;refine(zgb _ _ (zaR _) (by have:=HZ.out.2.2.2.1;have:=zcX q.num;omega)).mono ?_;rintro e w5 ⟨v5,rfl,q5,hd5⟩
         have he5:Below w4.heap.size w4 w5:=by (first|exact hd5|exact((blr _ _).alloc (nr _) _).trans (hd5.mono (by simp)))
         have hg5:Below w3.heap.size w3 w5:=hg4.trans (he5.mono hg4.size)
         rw[ziG _ (by omega)] at q5
         have HQ5:=hide q5;clear q5
         try (have kk:=keep3 he5 kb;clear k0 k1 k2 f0 f1 f2 kb;obtain⟨k0,k1,k2,f0,f1,f2,kb⟩:=kk)
         try (simp only[zdy] at hd5;obtain⟨k0,k1,k2,f0,f1,f2,kb⟩:=box3d hd5 w4.heap.size rfl)
         clear hd5)
      | (go_at_call 127;refine(zb8 _ n _ _ (q.num.natAbs:Int) (q.den:Int) 70002 (by (first|exact HQ6.out.1|exact HQ6.out.1.below ((blr _ _).alloc (nr _) _))) (by (first|exact HQ6.out.2|exact HQ6.out.2.below ((blr _ _).alloc (nr _) _))) (by omega) HZ.out.2.2.2.2.2.1).mono ?_;rintro e w7 ⟨v7,rfl,q7,hd7⟩
         have he7:Below w6.heap.size w6 w7:=by (first|exact hd7|exact((blr _ _).alloc (nr _) _).trans (hd7.mono (by simp)))
         have hg7:Below w3.heap.size w3 w7:=hg6.trans (he7.mono hg6.size)
         rw[HN.out,zmH,Rat.num_divInt_den] at q7
         try (have kk:=keep3 he7 kb;clear k0 k1 k2 f0 f1 f2 kb;obtain⟨k0,k1,k2,f0,f1,f2,kb⟩:=kk)
         try (simp only[zdy] at hd7;obtain⟨k0,k1,k2,f0,f1,f2,kb⟩:=box3d hd7 w6.heap.size rfl)
         (obtain⟨s7,A7,n7,c7,B7,m7,d7,rfl⟩:=q7.shape)
         have HQ7:=hide q7;clear q7 hd7))
    all_goals go_wp2_with fail
    all_goals go_meet
    all_goals (first|with_reducible exact zbd.made hg7 HQ7.out|exact zbd.stored (by have:=hg4.size;have:=hg5.size;have:=hg6.size;omega) hg7 HQ7.out kb)
   case rest=>
    obtain⟨g,rfl,hg0,⟨s,A,m,c',B,m',d',hbx,hrat⟩,hbel4⟩:=hcut
    obtain⟨k0,k1,k2⟩:=zj hbx
    have HR:=hide (ai hrat (ai hbx (hbel3.trans (hbel4.mono hbel3.size))));clear hrat hbx hbel4 hbel3 hbel
    go_wp2_with fail
    refine(za9 _ _ q 70002 HR.out.1 (by omega)).mono ?_
    rintro e w5 ⟨_,rfl,rfl,hd5⟩
    rw[<-HZ.out.1]
    obtain⟨k0',k1',k2'⟩:=zj (at_later HR.out.2.1 hd5)
    clear k0 k1 k2
    have HB5:=hide (ai (HR.out.1.below hd5) (HR.out.2.2.trans (hd5.mono HR.out.2.2.size)));clear hd5
    have hmf:=hmf0 Tryz.prog
    go_wp2_with fail
    refine(zbk _ _ q 70002 HB5.out.1 (by omega)).mono ?_
    rintro e w6 ⟨_,rfl,hd6,hor⟩
    have hbl6:=HB5.out.2.trans (hd6.mono HB5.out.2.size)
    have hr6:=at_later HW.out.2.2 hbl6
    obtain⟨x0,x1,x2⟩:=zj hr6
    obtain⟨f0,f1,f2⟩:=zr hr6
    have hlt:=lt_of_block hr6
    rcases hor with ⟨hq,u2,rfl,hu⟩|⟨hq,u2,rfl,hu⟩
    all_goals
     obtain⟨s1,A1,n1,c1,B1,m1,d1,rfl⟩:=hu.shape
     have HF:=hide (ai hq (ai hu (ai hr6 (bnx HW.out.2.1 hbl6))));clear hq hu hr6 hbl6 hd6
     go_wp2
    ·refine bodyPost_ret (v:=.tuple #[.agg #[.bool s1,.slice A1 n1 c1,.slice B1 m1 d1],.int .i64 0]) ?_ rfl ?_
     ·simp[results,Tryz.results77,go_sem,x0,x1,x2,hlt]
     obtain⟨hq,hu,hr6,hb⟩:=HF.out
     exact⟨_,rfl,zl hb (nr _) _ _ _,Or.inl ⟨hq,_,rfl,hu.put3 hr6⟩⟩
    ·refine bodyPost_ret (v:=.tuple #[.agg #[.bool s1,.slice A1 n1 c1,.slice B1 m1 d1],.int .i64 11]) ?_ rfl ?_
     ·simp[results,Tryz.results77,go_sem,x0,x1,x2,hlt]
     obtain⟨hq,hu,hr6,hb⟩:=HF.out
     exact⟨_,rfl,zl hb (nr _) _ _ _,Or.inr ⟨hq,_,rfl,hu.put3 hr6⟩⟩
theorem zn9 (w:World) (a:Value) (p:Rat) (L:Nat) (ha:RatV w a p L):
  Calls Tryz.prog 163 #[a] w (Ret (ratR w ((p.num:Int):Rat) L)):=by
 obtain⟨n,l,rfl,h1,g1⟩:=ha
 obtain⟨A1,c1,xs,rfl,-⟩:=h1.open_
 obtain⟨A2,c2,ys,rfl,-⟩:=g1.open_
 obtain⟨neg,hneg⟩:∃b,b=decide (p.num<0):=⟨_,rfl⟩
 rw[<-hneg]
 have HX:=hide (ai h1 hneg)
 clear h1 g1 hneg
 go_enter Tryz.func163,Tryz.ntmps163
 go_wp2
 have hb:Below w.heap.size w ((w.alloc (.cells #[.bool neg,.slice A1 xs.length c1,.slice A2 ys.length c2] 43)).alloc (.cells #[.bool neg,.slice A1 xs.length c1,.slice none 0 0] 43)):=((blr _ _).alloc (nr _) _).alloc (by simp) _
 have e1:(((p.num:Int):Rat)).num=p.num:=Rat.num_intCast _
 have e2:(((p.num:Int):Rat)).den=1:=Rat.den_intCast _
 refine bodyPost_ret (v:=.agg #[.bool neg,.slice A1 xs.length c1,.slice none 0 0]) ?_ rfl ?_
 ·simp[results,Tryz.results163,go_sem]
 exact⟨_,rfl,⟨_,_,by rw[e1,HX.out.2],by rw[e1];exact HX.out.1.below hb,by rw[e2];exact NatV.nil _ _⟩,hb⟩
theorem zmn (w:World) (a:Value) (p:Rat) (L:Nat) (ha:RatV w a p L) (hL:L<=1073741800):
  Calls Tryz.prog 164 #[a] w (Ret (ratR w ((p.den:Int):Rat) (L+2))):=by
 obtain⟨n,l,rfl,h1,g1⟩:=ha
 obtain⟨A1,c1,xs,rfl,-⟩:=h1.open_
 obtain⟨A2,c2,ys,rfl,-⟩:=g1.open_
 obtain⟨neg,hneg⟩:∃b,b=decide (p.num<0):=⟨_,rfl⟩
 rw[<-hneg]
 obtain⟨W,hW⟩:∃W,W=(w.alloc (.cells #[.bool neg,.slice A1 xs.length c1,.slice A2 ys.length c2] 43)).alloc (.cells #[.bool false,.slice none 0 0,.slice none 0 0] 43):=⟨_,rfl⟩
 have hbW:Below w.heap.size w W:=by rw[hW];exact((blr _ _).alloc (nr _) _).alloc (by simp) _
 have hr:W.heap[w.heap.size+1]?=some (.cells #[.bool false,.slice none 0 0,.slice none 0 0] 43):=by rw[hW];exact zv _ (by simp)
 have HX:=hide (ai g1 (ai hbW hr))
 have HL:=hide hW
 clear h1 g1 hneg hW hbW hr
 go_enter Tryz.func164,Tryz.ntmps164
 go_wp2_with fail
 rw[<-HL.out]
 refine(zao _ _ _ _ _ L (HX.out.1.below HX.out.2.1) hL).mono ?_
 rintro e w1 ⟨v1,rfl,q1,hd1⟩
 have hr1:=at_later HX.out.2.2 hd1
 obtain⟨x0,x1,x2⟩:=zj hr1
 obtain⟨f0,f1,f2⟩:=zr hr1
 have hlt:=lt_of_block hr1
 rw[show ((p.den:Int)-1+1)=(p.den:Int) by omega] at q1
 obtain⟨A3,c3,zs,rfl,-⟩:=q1.open_
 have HF:=hide (ai q1 (ai hr1 (bnx HX.out.2.1 hd1)))
 clear q1 hr1 hd1
 go_wp2
 refine bodyPost_ret (v:=.agg #[.bool false,.slice A3 zs.length c3,.slice none 0 0]) ?_ rfl ?_
 ·simp[results,Tryz.results164,go_sem,x0,x1,x2,hlt]
 have e1:(((p.den:Int):Rat)).num=(p.den:Int):=Rat.num_intCast _
 have e2:(((p.den:Int):Rat)).den=1:=Rat.den_intCast _
 have hq:RatV w1 (.agg #[.bool false,.slice A3 zs.length c3,.slice none 0 0]) ((p.den:Int):Rat) (L+2):=
  ⟨_,_,by rw[e1,decide_eq_false (show ¬(p.den:Int)<0 by omega)],by rw[e1];exact HF.out.1,by rw[e2];exact NatV.nil _ _⟩
 exact⟨_,rfl,hq.put3 HF.out.2.1,zl HF.out.2.2 (by omega) _ _ _⟩
end Go.Proofs.YtpoahodnakhmiaaGreat
