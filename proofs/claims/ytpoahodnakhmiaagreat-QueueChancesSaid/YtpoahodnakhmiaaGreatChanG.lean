import Derived.Test.YtpoahodnakhmiaaGreatBotR
set_option maxRecDepth 100000
namespace Go.Proofs.YtpoahodnakhmiaaGreat
set_option linter.unusedVariables false
set_option linter.unusedSimpArgs false
open Go.RowKit
set_option maxHeartbeats 8000000 in
theorem zjN (w:World) (gx L c:Nat) (A:Option Addr) (most:Int) (ks:List Int) (R V Ld:List Rat) (Ws:List (List Rat)) (hx:zbt w gx R Ws V Ld L) (hk:Arr w A .i64 ks) (hc:ks.length<=c) (hm:c<=maxLen) (h8:R.length<=8) (hmost0:0<=most) (hmost:most<=12) (hbad:stE R.length most ks≠0):
  Calls Tryz.prog 82 #[.pointer (some ⟨gx,0,none⟩),.slice A ks.length c,.int .i64 most] w (Ret (fun v w'=>v=.tuple #[.agg #[.int .i64 0,.int .i64 0,.int .i64 0,.int .i64 0,.int .i64 0,.int .i64 0,.int .i64 0,.int .i64 0],.int .i64 (stE R.length most ks)]/\Below w.heap.size w w')):=by
 obtain⟨va,vb,vc,vd,hbox,hvR,-,-,-⟩:=hx.box
 obtain⟨AR,cR,rfl,-,-,-⟩:=id hvR
 unfold maxLen at hm
 by_cases hl:ks.length=R.length
 ·have hnok:¬OkS most ks:=fun h=>hbad (by unfold stE;rw[if_neg (by omega),if_pos h])
  have hee:stE R.length most ks=1:=by unfold stE;rw[if_neg (by omega),if_neg hnok]
  have HEE:=hide hee
  have HNO:=hide hnok
  have hl':=hide hl
  obtain⟨W,hW⟩:∃W,W=(w.alloc (.cells #[.int .i64 0,.int .i64 0,.int .i64 0,.int .i64 0,.int .i64 0,.int .i64 0,.int .i64 0,.int .i64 0] 116)).alloc (.cells #[.int .i64 0,.int .i64 0,.int .i64 0,.int .i64 0,.int .i64 0,.int .i64 0,.int .i64 0,.int .i64 0] 116):=⟨_,rfl⟩
  have hb0:Below w.heap.size w W:=by rw[hW];exact za (za (blr _ _) _) _
  have hbr:Blk W w.heap.size 116 .i64 [0,0,0,0,0,0,0,0]:=by rw[hW];exact(Blk.new w 116 .i64 [0,0,0,0,0,0,0,0]).keep (za (blr _ _) _)
  have hbs:Blk W (w.heap.size+1) 116 .i64 (stI ks 0):=by
   have h1:=Blk.new (w.alloc (.cells #[.int .i64 0,.int .i64 0,.int .i64 0,.int .i64 0,.int .i64 0,.int .i64 0,.int .i64 0,.int .i64 0] 116)) 116 .i64 [0,0,0,0,0,0,0,0]
   rw[show (w.alloc (.cells #[.int .i64 0,.int .i64 0,.int .i64 0,.int .i64 0,.int .i64 0,.int .i64 0,.int .i64 0,.int .i64 0] 116)).heap.size=w.heap.size+1 by simp] at h1
   rw[hW];exact h1
  obtain⟨y0,y1,y2,y3,-⟩:=zq hbox
  have hgl:=lt_of_block hbox
  have HAR:=hide hk
  have H0:=hide (ai hb0 (ai hbr hbs))
  have HL:=hide hW
  have i0:((ks.length:Int) != (R.length:Int))=false:=by rw[hl];simp
  clear hx hbox hvR hb0 hbr hbs hW hk hl hbad hnok hee
  go_enter Tryz.func82,Tryz.ntmps82
  go_upto_region 4 with fail
  rw[<-HL.out]
  go_wp2_with fail
  go_loopw [24,9] (fun s24 s9 wr=>∃(i:Nat) (n:Int),i<=ks.length/\s24=.int .i64 i/\s9=.int .i64 n/\n=(ks.take i).sum/\(0<=n/\n<=most)/\OkT most ks i/\Blk wr (w.heap.size+1) 116 .i64 (stI ks i)/\Blk wr w.heap.size 116 .i64 [0,0,0,0,0,0,0,0]/\Below w.heap.size w wr) (fun s24 _ _=>ks.length-(intOf s24).toNat)
  case atStart=>exact⟨0,0,Nat.zero_le _,rfl,rfl,rfl,⟨Int.le_refl _,hmost0⟩,fun j hj=>absurd hj (Nat.not_lt_zero _),H0.out.2.2,H0.out.2.1,H0.out.1⟩
  case round=>
   obtain⟨i,n,hi,rfl,rfl,hn,⟨hn0,hn1⟩,hok,hbs,hbr,hbel⟩:=hrel
   by_cases hlt:i<ks.length
   ·have h8':=hl'.out
    obtain⟨bl,ol,rfl,-,hcl⟩:=HAR.out.at_ (by omega)
    have z0:=(hbel.cell (zf (hcl i hlt))).trans (hcl i hlt)
    have s3:=zah ks i hlt
    have i1:(i:Int)<(ks.length:Int):=by omega
    obtain⟨x,hx⟩:∃x,x=ks.getD i 0:=⟨_,rfl⟩
    rw[<-hx] at z0 s3
    have HB:=hide hbel
    have HXX:=hide hx
    have HN:=hide (ai hn s3)
    have HOK:=hide hok
    clear hcl hx hbel hok hn s3
    by_cases q1:x<0
    ·clear hbs
     have u0:wr.cell? ⟨w.heap.size,0,none⟩=some (.int .i64 0):=hbr.cell (j:=0) (by simp)
     have f0:=hbr.frozen 0
     have u1:wr.cell? ⟨w.heap.size,1,none⟩=some (.int .i64 0):=hbr.cell (j:=1) (by simp)
     have f1:=hbr.frozen 1
     have u2:wr.cell? ⟨w.heap.size,2,none⟩=some (.int .i64 0):=hbr.cell (j:=2) (by simp)
     have f2:=hbr.frozen 2
     have u3:wr.cell? ⟨w.heap.size,3,none⟩=some (.int .i64 0):=hbr.cell (j:=3) (by simp)
     have f3:=hbr.frozen 3
     have u4:wr.cell? ⟨w.heap.size,4,none⟩=some (.int .i64 0):=hbr.cell (j:=4) (by simp)
     have f4:=hbr.frozen 4
     have u5:wr.cell? ⟨w.heap.size,5,none⟩=some (.int .i64 0):=hbr.cell (j:=5) (by simp)
     have f5:=hbr.frozen 5
     have u6:wr.cell? ⟨w.heap.size,6,none⟩=some (.int .i64 0):=hbr.cell (j:=6) (by simp)
     have f6:=hbr.frozen 6
     have u7:wr.cell? ⟨w.heap.size,7,none⟩=some (.int .i64 0):=hbr.cell (j:=7) (by simp)
     have f7:=hbr.frozen 7
     have hlr:=hbr.lt
     clear hbr
     go_wp2
     refine bodyPost_ret (v:=.tuple #[.agg #[.int .i64 0,.int .i64 0,.int .i64 0,.int .i64 0,.int .i64 0,.int .i64 0,.int .i64 0,.int .i64 0],.int .i64 1]) ?_ rfl ⟨_,rfl,by rw[HEE.out],?_⟩
     ·simp[results,Tryz.results82,go_sem,u0,u1,u2,u3,u4,u5,u6,u7,hlr]
     ·exact((((((((HB.out.setCell (nr _) _).setCell (nr _) _).setCell (nr _) _).setCell (nr _) _).setCell (nr _) _).setCell (nr _) _).setCell (nr _) _).setCell (nr _) _)
    ·by_cases q2:most<x
     ·clear hbs
      have u0:wr.cell? ⟨w.heap.size,0,none⟩=some (.int .i64 0):=hbr.cell (j:=0) (by simp)
      have f0:=hbr.frozen 0
      have u1:wr.cell? ⟨w.heap.size,1,none⟩=some (.int .i64 0):=hbr.cell (j:=1) (by simp)
      have f1:=hbr.frozen 1
      have u2:wr.cell? ⟨w.heap.size,2,none⟩=some (.int .i64 0):=hbr.cell (j:=2) (by simp)
      have f2:=hbr.frozen 2
      have u3:wr.cell? ⟨w.heap.size,3,none⟩=some (.int .i64 0):=hbr.cell (j:=3) (by simp)
      have f3:=hbr.frozen 3
      have u4:wr.cell? ⟨w.heap.size,4,none⟩=some (.int .i64 0):=hbr.cell (j:=4) (by simp)
      have f4:=hbr.frozen 4
      have u5:wr.cell? ⟨w.heap.size,5,none⟩=some (.int .i64 0):=hbr.cell (j:=5) (by simp)
      have f5:=hbr.frozen 5
      have u6:wr.cell? ⟨w.heap.size,6,none⟩=some (.int .i64 0):=hbr.cell (j:=6) (by simp)
      have f6:=hbr.frozen 6
      have u7:wr.cell? ⟨w.heap.size,7,none⟩=some (.int .i64 0):=hbr.cell (j:=7) (by simp)
      have f7:=hbr.frozen 7
      have hlr:=hbr.lt
      clear hbr
      go_wp2
      refine bodyPost_ret (v:=.tuple #[.agg #[.int .i64 0,.int .i64 0,.int .i64 0,.int .i64 0,.int .i64 0,.int .i64 0,.int .i64 0,.int .i64 0],.int .i64 1]) ?_ rfl ⟨_,rfl,by rw[HEE.out],?_⟩
      ·simp[results,Tryz.results82,go_sem,u0,u1,u2,u3,u4,u5,u6,u7,hlr]
      ·exact((((((((HB.out.setCell (nr _) _).setCell (nr _) _).setCell (nr _) _).setCell (nr _) _).setCell (nr _) _).setCell (nr _) _).setCell (nr _) _).setCell (nr _) _)
     ·have i5:IntKind.i64.wrap (n+x)=n+x:=IntWalk.i64_in _ (by omega)
      by_cases q3:most<n+x
      ·clear hbs
       have u0:wr.cell? ⟨w.heap.size,0,none⟩=some (.int .i64 0):=hbr.cell (j:=0) (by simp)
       have f0:=hbr.frozen 0
       have u1:wr.cell? ⟨w.heap.size,1,none⟩=some (.int .i64 0):=hbr.cell (j:=1) (by simp)
       have f1:=hbr.frozen 1
       have u2:wr.cell? ⟨w.heap.size,2,none⟩=some (.int .i64 0):=hbr.cell (j:=2) (by simp)
       have f2:=hbr.frozen 2
       have u3:wr.cell? ⟨w.heap.size,3,none⟩=some (.int .i64 0):=hbr.cell (j:=3) (by simp)
       have f3:=hbr.frozen 3
       have u4:wr.cell? ⟨w.heap.size,4,none⟩=some (.int .i64 0):=hbr.cell (j:=4) (by simp)
       have f4:=hbr.frozen 4
       have u5:wr.cell? ⟨w.heap.size,5,none⟩=some (.int .i64 0):=hbr.cell (j:=5) (by simp)
       have f5:=hbr.frozen 5
       have u6:wr.cell? ⟨w.heap.size,6,none⟩=some (.int .i64 0):=hbr.cell (j:=6) (by simp)
       have f6:=hbr.frozen 6
       have u7:wr.cell? ⟨w.heap.size,7,none⟩=some (.int .i64 0):=hbr.cell (j:=7) (by simp)
       have f7:=hbr.frozen 7
       have hlr:=hbr.lt
       clear hbr
       go_wp2
       refine bodyPost_ret (v:=.tuple #[.agg #[.int .i64 0,.int .i64 0,.int .i64 0,.int .i64 0,.int .i64 0,.int .i64 0,.int .i64 0,.int .i64 0],.int .i64 1]) ?_ rfl ⟨_,rfl,by rw[HEE.out],?_⟩
       ·simp[results,Tryz.results82,go_sem,u0,u1,u2,u3,u4,u5,u6,u7,hlr]
       ·exact((((((((HB.out.setCell (nr _) _).setCell (nr _) _).setCell (nr _) _).setCell (nr _) _).setCell (nr _) _).setCell (nr _) _).setCell (nr _) _).setCell (nr _) _)
      ·have z1:=hbs.cell (j:=i) (by rw[zbu];omega)
       have f1:=hbs.frozen i
       have hz:=hbs.lt
       have i6:(i:Int)<8:=by omega
       have HI:=hide (ai hbs hbr)
       clear hbs hbr h8'
       go_wp2
       case roundEnd=>
        obtain⟨hbs,hbr⟩:=HI.out
        have t1:=hbs.set_ i x
        rw[HXX.out,zhj ks i (by omega)] at t1
        have o1:=zp wr (w.heap.size+1) i (.int .i64 x)
        refine⟨⟨i+1,n+x,by omega,by go_num,rfl,by have:=HN.out;omega,⟨by omega,by omega⟩,?_,?_,?_,?_⟩,by simp[intOf];omega⟩
        ·intro j hj
         by_cases hji:j<i
         ·exact HOK.out j hji
         ·obtain rfl:j=i:=by omega
          have:=HXX.out;omega
        ·rw[HXX.out];exact t1
        ·exact hbr.only o1 (by omega)
        ·exact HB.out.setCell (show w.heap.size<=w.heap.size+1 by omega) _
   ·obtain rfl:i=ks.length:=by omega
    exact absurd ⟨hok.all,by rw[List.take_length] at hn;omega⟩ HNO.out
 ·have hee:stE R.length most ks=7:=by unfold stE;rw[if_pos hl]
  have HEE:=hide hee
  obtain⟨W,hW⟩:∃W,W=w.alloc (.cells #[.int .i64 0,.int .i64 0,.int .i64 0,.int .i64 0,.int .i64 0,.int .i64 0,.int .i64 0,.int .i64 0] 116):=⟨_,rfl⟩
  have hb0:Below w.heap.size w W:=by rw[hW];exact za (blr _ _) _
  have hbr:Blk W w.heap.size 116 .i64 [0,0,0,0,0,0,0,0]:=by rw[hW];exact Blk.new w 116 .i64 [0,0,0,0,0,0,0,0]
  obtain⟨y0,y1,y2,y3,-⟩:=zq (at_later hbox hb0)
  have hgl:=lt_of_block (at_later hbox hb0)
  have HB:=hide hb0
  have HL:=hide hW
  have i0:((ks.length:Int) != (R.length:Int))=true:=by rw[bne_iff_ne];omega
  have i0b:¬((ks.length:Int)=(R.length:Int)):=by omega
  clear hx hbox hvR hb0 hW hk hl hbad hee
  go_enter Tryz.func82,Tryz.ntmps82
  go_upto_region 1 with fail
  rw[<-HL.out]
  have u0:W.cell? ⟨w.heap.size,0,none⟩=some (.int .i64 0):=hbr.cell (j:=0) (by simp)
  have f0:=hbr.frozen 0
  have u1:W.cell? ⟨w.heap.size,1,none⟩=some (.int .i64 0):=hbr.cell (j:=1) (by simp)
  have f1:=hbr.frozen 1
  have u2:W.cell? ⟨w.heap.size,2,none⟩=some (.int .i64 0):=hbr.cell (j:=2) (by simp)
  have f2:=hbr.frozen 2
  have u3:W.cell? ⟨w.heap.size,3,none⟩=some (.int .i64 0):=hbr.cell (j:=3) (by simp)
  have f3:=hbr.frozen 3
  have u4:W.cell? ⟨w.heap.size,4,none⟩=some (.int .i64 0):=hbr.cell (j:=4) (by simp)
  have f4:=hbr.frozen 4
  have u5:W.cell? ⟨w.heap.size,5,none⟩=some (.int .i64 0):=hbr.cell (j:=5) (by simp)
  have f5:=hbr.frozen 5
  have u6:W.cell? ⟨w.heap.size,6,none⟩=some (.int .i64 0):=hbr.cell (j:=6) (by simp)
  have f6:=hbr.frozen 6
  have u7:W.cell? ⟨w.heap.size,7,none⟩=some (.int .i64 0):=hbr.cell (j:=7) (by simp)
  have f7:=hbr.frozen 7
  have hlr:=hbr.lt
  clear hbr
  go_wp2
  refine bodyPost_ret (v:=.tuple #[.agg #[.int .i64 0,.int .i64 0,.int .i64 0,.int .i64 0,.int .i64 0,.int .i64 0,.int .i64 0,.int .i64 0],.int .i64 7]) ?_ rfl ⟨_,rfl,by rw[HEE.out],?_⟩
  ·simp[results,Tryz.results82,go_sem,u0,u1,u2,u3,u4,u5,u6,u7,hlr]
  ·exact((((((((HB.out.setCell (nr _) _).setCell (nr _) _).setCell (nr _) _).setCell (nr _) _).setCell (nr _) _).setCell (nr _) _).setCell (nr _) _).setCell (nr _) _)
set_option maxHeartbeats 4000000 in
theorem zll (w:World) (v:Value) (m c:Nat) (A:Option Addr) (ks:List Int) (R:List Rat) (Ws:List (List Rat)) (hv:ShopV w v R Ws 3000) (hs:zW m R Ws) (hk:Arr w A .i64 ks) (hc:ks.length<=c) (hm:c<=maxLen) (hbad:stE m 12 ks≠0):
  Calls Tryz.prog 33 #[v,.slice A ks.length c] w (Ret (erR w (stE m 12 ks))):=by
 have hmf:=hmf0 Tryz.prog
 have HV:=hide hv
 obtain⟨va,vb,rfl,hR,hWs⟩:=hv
 obtain⟨A1,c1,rfl,-,-,-⟩:=id hR
 obtain⟨A2,c2,rfl,-,-,-⟩:=id hWs
 have hrl:=hide hs.ok.shop.rl
 have hm8:=hs.ok.shop.n8
 have HBAD:=hide hbad
 obtain⟨W,hWW⟩:∃W,W=(w.alloc (.cells #[.slice A1 R.length c1,.slice A2 Ws.length c2] 33)).alloc (.cells #[.bool false,.slice none 0 0,.slice none 0 0] 43):=⟨_,rfl⟩
 have hb0:Below w.heap.size w W:=by rw[hWW];exact za (za (blr _ _) _) _
 have hbr:W.heap[w.heap.size+1]?=some (.cells #[.bool false,.slice none 0 0,.slice none 0 0] 43):=by rw[hWW];exact zu _ (by simp)
 have H0:=hide (ai hb0 (ai hbr (hk.below hb0)))
 have HL:=hide hWW
 clear hR hWs hb0 hbr hWW hk hbad
 go_enter Tryz.func33,Tryz.ntmps33
 go_wp2_with fail
 rw[<-HL.out]
 refine(zcD _ _ R Ws 3000 m (HV.out.below H0.out.1) hs.ok).mono ?_
 rintro e w1 ⟨_,rfl,gx,rfl,hg,hx,hd1⟩
 obtain⟨W2,hW2⟩:∃W2,W2=w1.alloc (.cells #[.pointer (some ⟨gx,0,none⟩)] 95):=⟨_,rfl⟩
 have hb2:Below w1.heap.size w1 W2:=by rw[hW2];exact za (blr _ _) _
 have hbx:W2.heap[w1.heap.size]?=some (.cells #[.pointer (some ⟨gx,0,none⟩)] 95 (0,0)):=by rw[hW2];exact zj _ _
 have hd2:=bnx hd1 hb2
 obtain⟨y0,-⟩:=zE hbx
 have H2:=hide (ai hbx (ai (zaU.below hx hb2) (ai hd2 (bnx H0.out.1 hd2))))
 have HL2:=hide hW2
 clear hd1 hx hbx hb2 hd2 hW2
 go_upto_region 4 with fail
 rw[<-HL2.out]
 go_wp2_with fail
 refine(zjN W2 gx 3000 c A 12 ks R _ _ Ws H2.out.2.1 (H0.out.2.2.below H2.out.2.2.1) hc hm (by rw[hrl.out];exact hm8) (by omega) (by omega) (by rw[hrl.out];exact HBAD.out)).mono ?_
 rintro e w3 ⟨_,rfl,rfl,hd3⟩
 rw[hrl.out]
 have hne:=HBAD.out
 obtain⟨x,hx⟩:∃x,x=stE m 12 ks:=⟨_,rfl⟩
 rw[<-hx] at hne ⊢
 have hne2:(x == 0)=false:=by rw[beq_eq_false_iff_ne];exact hne
 have hne3:(x != 0)=true:=by rw[bne_iff_ne];exact hne
 have hrb:=at_later (at_later H0.out.2.1 H2.out.2.2.1) hd3
 have HBE:=hide (bnx H2.out.2.2.2 hd3)
 have HXE:=hide hx
 clear hd3 y0 hx
 obtain⟨W4,hW4⟩:∃W4,W4=w3.alloc (.cells #[.int .i64 0,.int .i64 0,.int .i64 0,.int .i64 0,.int .i64 0,.int .i64 0,.int .i64 0,.int .i64 0] 116):=⟨_,rfl⟩
 have hb4:Below w3.heap.size w3 W4:=by rw[hW4];exact za (blr _ _) _
 replace hrb:=at_later hrb hb4
 replace HBE:=hide (bnx HBE.out hb4)
 have HL4:=hide hW4
 obtain⟨w0x,w1x,w2x⟩:=zk hrb
 obtain⟨f0,f1,f2⟩:=zA hrb
 have hlt:=lt_of_block hrb
 clear hrb hb4 hW4
 go_upto_region 5 with fail
 rw[<-HL4.out]
 go_wp2
 refine bodyPost_ret (v:=.tuple #[.agg #[.bool false,.slice none 0 0,.slice none 0 0],.int .i64 x]) ?_ rfl ?_
 ·simp[results,Tryz.results33,go_sem,w0x,w1x,w2x,hlt]
 exact⟨_,rfl,_,by rw[HXE.out];rfl,⟨_,_,rfl,NatV.nil _ _,NatV.nil _ _⟩,zm HBE.out (by omega) _ _ _⟩
theorem zhX (w:World) (v:Value) (n:Int) (m:Nat) (R:List Rat) (Ws:List (List Rat)) (hv:ShopV w v R Ws 3000) (hs:zW m R Ws) (hn:n<0\/12<n):
  Calls Tryz.prog 15 #[v,.int .i64 n] w (Ret (fun v w'=>v=.tuple #[.slice none 0 0,.int .i64 1]/\Below w.heap.size w w')):=by
 have hmf:=hmf0 Tryz.prog
 have HV:=hide hv
 obtain⟨va,vb,rfl,hR,hW⟩:=hv
 obtain⟨A1,c1,rfl,-,-,-⟩:=id hR
 obtain⟨A2,c2,rfl,-,-,-⟩:=id hW
 obtain⟨W,hWW⟩:∃W,W=(w.alloc (.cells #[.slice A1 R.length c1,.slice A2 Ws.length c2] 33)).alloc (.cells #[.int .i64 n] 3):=⟨_,rfl⟩
 have hb0:Below w.heap.size w W:=by rw[hWW];exact za (za (blr _ _) _) _
 have hbn:W.heap[w.heap.size+1]?=some (.cells #[.int .i64 n] 3 (0,0)):=by rw[hWW];exact zu _ (by simp)
 have HBN:=hide hn
 have H0:=hide (ai hb0 hbn)
 have HL:=hide hWW
 clear hR hW hb0 hbn hWW hn
 go_enter Tryz.func15,Tryz.ntmps15
 go_wp2_with fail
 rw[<-HL.out]
 refine(zcD _ _ R Ws 3000 m (HV.out.below H0.out.1) hs.ok).mono ?_
 rintro e w1 ⟨_,rfl,gx,rfl,hg,hx,hd1⟩
 obtain⟨W2,hW2⟩:∃W2,W2=w1.alloc (.cells #[.pointer (some ⟨gx,0,none⟩)] 95):=⟨_,rfl⟩
 have hb2:Below w1.heap.size w1 W2:=by rw[hW2];exact za (blr _ _) _
 have hbx:W2.heap[w1.heap.size]?=some (.cells #[.pointer (some ⟨gx,0,none⟩)] 95 (0,0)):=by rw[hW2];exact zj _ _
 have hxb:=hx.below hb2
 have hbn2:=at_later (at_later H0.out.2 hd1) hb2
 have hbb:=bnx (bnx H0.out.1 hd1) hb2
 obtain⟨x1,-⟩:=zE hbn2
 have H2:=hide (ai hbx (ai hbn2 (ai hxb hbb)))
 have HL2:=hide hW2
 clear hd1 hx hbx hxb hbn2 hbb hb2 hW2
 go_upto_region 4 with fail
 rw[<-HL2.out]
 go_wp2_with fail
 refine(zlv _ n HBN.out).mono ?_
 rintro e w3 ⟨_,rfl,rfl,rfl⟩
 have HBE:=hide H2.out.2.2.2
 go_wp2
 refine bodyPost_ret (v:=.tuple #[.slice none 0 0,.int .i64 1]) ?_ rfl ⟨_,rfl,rfl,HBE.out⟩
 simp[results,Tryz.results15,go_sem]
theorem ziY (w:World) (a v:Value) (q:Rat) (L:Nat) (ha:RatV w a q L) (hq:QV w v q L) (hL:L<=1073741000):
  Calls Tryz.prog 30 #[a,v] w (Ret (fun v w'=>v=.bool true/\Below w.heap.size w w')):=by
 have ha':=ha
 obtain⟨n1,l1,rfl,g1,g2⟩:=ha
 obtain⟨A1,c1,xs1,rfl,_⟩:=g1.open_
 obtain⟨A2,c2,xs2,rfl,_⟩:=g2.open_
 obtain⟨s,A,n,c,B,m,d,rfl,hz,hy⟩:=hq.parts
 clear g1 g2 hz hy
 obtain⟨t,ht⟩:∃t,t=decide (q.num<0):=⟨_,rfl⟩
 rw[<-ht] at ha' ⊢;clear ht
 obtain⟨W,hW⟩:∃W,W=(w.alloc (.cells #[.bool t,.slice A1 xs1.length c1,.slice A2 xs2.length c2] 43)).alloc (.cells #[.bool s,.slice A n c,.bool false,.slice B m d] 55):=⟨_,rfl⟩
 have hb0:Below w.heap.size w W:=by rw[hW];exact((blr _ _).alloc (nr _) _).alloc (by simp) _
 have hr:W.heap[w.heap.size]?=some (.cells #[.bool t,.slice A1 xs1.length c1,.slice A2 xs2.length c2] 43):=by rw[hW];exact zy (zj _ _) _
 have hr2:W.heap[w.heap.size+1]?=some (.cells #[.bool s,.slice A n c,.bool false,.slice B m d] 55):=by rw[hW];exact zu _ (by simp)
 have HW:=hide (ai hW (ai hb0 (ai hr (ai hr2 (ai (ha'.below hb0) (hq.below hb0))))));clear hW hb0 hr hr2 ha' hq
 have hS:∀w',Below W.heap.size W w'->(w'.cell? ⟨w.heap.size,0,none⟩=some (.bool t)/\w'.cell? ⟨w.heap.size,1,none⟩=some (.slice A1 xs1.length c1)/\w'.cell? ⟨w.heap.size,2,none⟩=some (.slice A2 xs2.length c2))/\w'.cell? ⟨w.heap.size+1,0,none⟩=some (.bool s)/\w'.cell? ⟨w.heap.size+1,1,none⟩=some (.slice A n c)/\w'.cell? ⟨w.heap.size+1,2,none⟩=some (.bool false)/\w'.cell? ⟨w.heap.size+1,3,none⟩=some (.slice B m d):=fun w' h=>by
  obtain⟨a,b,c,d,_⟩:=zq (at_later HW.out.2.2.2.1 h)
  have e:=at_later HW.out.2.2.1 h
  exact⟨⟨by simp[World.cell?,e],by simp[World.cell?,e],by simp[World.cell?,e]⟩,a,b,c,d⟩
 have hdr:Below W.heap.size W W.drew:=(blr _ _).drew
 have hS0:=hS _ hdr
 have HS:=hide hS;clear hS
 go_enter Tryz.func30,Tryz.ntmps30
 go_wp2
 rw[<-HW.out.1]
 go_region_held3 (fun w'=>(w'.cell? ⟨w.heap.size,0,none⟩=some (.bool t)/\w'.cell? ⟨w.heap.size,1,none⟩=some (.slice A1 xs1.length c1)/\w'.cell? ⟨w.heap.size,2,none⟩=some (.slice A2 xs2.length c2))/\w'.cell? ⟨w.heap.size+1,0,none⟩=some (.bool s)/\w'.cell? ⟨w.heap.size+1,1,none⟩=some (.slice A n c)/\w'.cell? ⟨w.heap.size+1,2,none⟩=some (.bool false)/\w'.cell? ⟨w.heap.size+1,3,none⟩=some (.slice B m d))
  (first|exact hS0|exact HS.out _ hg6|exact HS.out _ hg7|(go_keep;done))
  (first
   | (go_at_call 80;refine(za9 _ _ q L (HW.out.2.2.2.2.1.below hdr) (by omega)).mono ?_;rintro e w6 ⟨_,rfl,rfl,hd6⟩;have hg6:Below W.heap.size W w6:=hdr.trans (hd6.mono hdr.size);clear hd6)
   | (go_at_call 78;refine(ziQ _ _ q L (HW.out.2.2.2.2.2.below hg6) hL).mono ?_;rintro e w7 ⟨_,rfl,rfl,hd7⟩;have hg7:Below W.heap.size W w7:=hg6.trans (hd7.mono hg6.size);clear hd7))
 have HB:=hide (bnx HW.out.2.1 hg7)
 go_wp2
 go_ret
 exact⟨_,rfl,rfl,HB.out⟩
set_option maxHeartbeats 4000000 in
theorem znw (w:World) (va vb:Value) (qs:List Rat) (L:Nat) (ha:RowV w va qs L) (hb:QRowE L w vb qs) (hL:L<=1073741000):
  Calls Tryz.prog 44 #[va,vb] w (Ret (fun v w'=>v=.bool true/\Below w.heap.size w w')):=by
 obtain⟨A1,c1,rfl,hl1,hm1,-⟩:=id ha
 obtain⟨A2,c2,rfl,hl2,hm2,-⟩:=id hb
 unfold maxLen at hm1 hm2
 have HA:=hide ha
 have HQ:=hide hb
 clear ha hb
 go_enter Tryz.func44,Tryz.ntmps44
 go_wp2_with fail
 go_loopw [5] (fun s5 wr=>∃i:Nat,i<=qs.length/\s5=.int .i64 i/\Below w.heap.size w wr) (fun s5 _=>qs.length-(intOf s5).toNat)
 case atStart=>exact⟨0,Nat.zero_le _,rfl,blr _ _⟩
 case round=>
  obtain⟨i,hi,rfl,hbel⟩:=hrel
  have HB:=hide hbel
  by_cases hk:i<qs.length
  ·have i1:(i:Int)<(qs.length:Int):=by omega
   obtain⟨ba,oa,ea,hA1⟩:=RowV.x (HA.out.below hbel) (by omega) (fun j=>qs.getD j 0) (fun j hj=>rfl)
   obtain rfl:=ea
   obtain⟨bb,ob,eb,hB1⟩:=QRowE.x (QRowE.below HQ.out hbel) (by omega)
   obtain rfl:=eb
   have HA1:=hide hA1
   have HB1:=hide hB1
   clear hA1 hB1 hbel
   go_upto_region 6 with fail
   obtain⟨s21,A21,n21,c21,B21,m21,d21,e21a,e21b,e21c,hq21⟩:=(HA1.out (i) hk).rat
   obtain⟨s22,A22,n22,c22,B22,m22,d22,e22a,e22b,e22c,e22d,hq22⟩:=HB1.out (i) hk
   have hS:∀w',Below wr.heap.size wr w'->(w'.cell? ⟨ba,oa+(i)*3,none⟩=some (.bool s21)/\w'.cell? ⟨ba,oa+(i)*3+1,none⟩=some (.slice A21 n21 c21)/\w'.cell? ⟨ba,oa+(i)*3+2,none⟩=some (.slice B21 m21 d21))/\(w'.cell? ⟨bb,ob+(i)*4,none⟩=some (.bool s22)/\w'.cell? ⟨bb,ob+(i)*4+1,none⟩=some (.slice A22 n22 c22)/\w'.cell? ⟨bb,ob+(i)*4+2,none⟩=some (.bool false)/\w'.cell? ⟨bb,ob+(i)*4+3,none⟩=some (.slice B22 m22 d22)):=fun w' h=>by
    have eC:∀b o v,wr.cell? ⟨b,o,none⟩=some v->w'.cell? ⟨b,o,none⟩=some v:=fun b o v hv=>(h.cell (zf hv)).trans hv
    exact⟨⟨eC _ _ _ e21a,eC _ _ _ e21b,eC _ _ _ e21c⟩,⟨eC _ _ _ e22a,eC _ _ _ e22b,eC _ _ _ e22c,eC _ _ _ e22d⟩⟩
   have hdr:Below wr.heap.size wr wr.drew:=(blr _ _).drew
   have HSS:=hide hS
   have HQS:=hide (ai hq21 (ai hq22 trivial))
   clear hS e21a e21b e21c hq21 e22a e22b e22c e22d hq22
   refine zv (fun w'=>(w'.cell? ⟨ba,oa+(i)*3,none⟩=some (.bool s21)/\w'.cell? ⟨ba,oa+(i)*3+1,none⟩=some (.slice A21 n21 c21)/\w'.cell? ⟨ba,oa+(i)*3+2,none⟩=some (.slice B21 m21 d21))/\(w'.cell? ⟨bb,ob+(i)*4,none⟩=some (.bool s22)/\w'.cell? ⟨bb,ob+(i)*4+1,none⟩=some (.slice A22 n22 c22)/\w'.cell? ⟨bb,ob+(i)*4+2,none⟩=some (.bool false)/\w'.cell? ⟨bb,ob+(i)*4+3,none⟩=some (.slice B22 m22 d22))) [0,1,2,3,4,5,6,7,8,9] (by kernel_rfl) (HSS.out _ hdr) (fun hh=>?_)
   refine tt 0 hh 17 ?_
   try simp only[Act.put,ptA,ptB,ptC]
   refine tt 1 hh 18 ?_
   try simp only[Act.put,ptA,ptB,ptC]
   refine tt 2 hh 19 ?_
   try simp only[Act.put,ptA,ptB,ptC]
   refine tt 4 hh 21 ?_
   try simp only[Act.put,ptA,ptB,ptC]
   refine tt 5 hh 22 ?_
   try simp only[Act.put,ptA,ptB,ptC]
   refine tt 6 hh 23 ?_
   try simp only[Act.put,ptA,ptB,ptC]
   refine tt 3 hh 20 ?_
   try simp only[Act.put,ptA,ptB,ptC]
   refine tt 7 hh 24 ?_
   try simp only[Act.put,ptA,ptB,ptC]
   refine zb (rs:=[8]) (by kernel_rfl) (by simp) ?_
   refine mem1 ?_
   refine zd rfl (fun K hK=>?_)
   go_simp
   go_at_call 30
   refine(ziY _ _ _ (qs.getD i 0) L (HQS.out.1.below hdr) (HQS.out.2.1.below hdr) hL).mono ?_
   rintro e w1 ⟨_,rfl,rfl,hd⟩
   have hg1:Below wr.heap.size wr w1:=hdr.trans (hd.mono hdr.size)
   clear hd
   go_wp2_with fail
   refine hK.out _ _ (HSS.out _ hg1) (fun hh=>?_)
   clear hK K
   try simp only[Act.put,ptA,ptB,ptC]
   refine tt 9 hh 26 ?_
   try simp only[Act.put,ptA,ptB,ptC]
   refine zM (by kernel_rfl) ?_ _
   clear hh
   have HE:=hide (bnx HB.out hg1)
   go_wp2
   case roundEnd=>exact⟨⟨i+1,by omega,by go_num,HE.out⟩,by simp[intOf];omega⟩
  ·obtain rfl:i=qs.length:=by omega
   have i1:¬(qs.length:Int)<(qs.length:Int):=by omega
   clear hbel
   go_wp2
   refine bodyPost_ret (v:=.bool true) ?_ rfl ⟨_,rfl,rfl,HB.out⟩
   simp[results,Tryz.results44,go_sem]
theorem zjO (w:World):IntsT w (.slice none 0 0) []:=⟨none,0,rfl,nr _,by unfold maxLen;omega,fun h=>absurd h (Nat.lt_irrefl 0)⟩
theorem znx {P:Program} {t:TypeId} {bytes:Nat} (S:ElT P t 3 1 bytes) (w:World) {ops:Array Oper} {rest:List Oper} {o:Oper} {a:Act} {Q:Exit->Act->World->Prop} (hgd:o.guard=none) (s x:Operand)
  (ho:o.op=.call { callee:=.builtin .append,args:=#[s,x],argTypes:=#[t,t] })
  (ys:List Int) (hs:a.eval s=.slice none 0 0) (T:TypeId) (v2:Value) (hx:a.eval x=v2) (hl2:zx T 1 IntE w v2 ys) (hlen:ys.length<=1000000)
  (h:∀A c w',IntsT w' (.slice A ys.length c) ys->ys.length<=c->c<=maxLen->Below w.heap.size w w'->wpList P ops Q rest (a.put o.dst (.slice A ys.length c)) w'):wpList P ops Q (o::rest) a w:=by
 rcases Nat.eq_zero_or_pos ys.length with h0|h0
 ·obtain rfl:ys=[]:=List.eq_nil_of_length_eq_zero h0
  obtain⟨A,c,rfl,-,-,-⟩:=hl2
  obtain⟨z,hz0,hz1⟩:=S.hi
  obtain⟨i,hi,hz,hsz,hby⟩:=info_parts hz1
  refine wpList_plain hgd fun K hK=>?_
  have hrun:=zbS (P:=P) (w:=w) t o.type 3 i S.ht hi A c
  unfold Oper.wp
  simp[execOp,ho,resolve,invoke,builtin,hs,hx,hrun,Result.andThen]
  exact hK _ _ (h none 0 w (zjO w) (nr _) (by unfold maxLen;omega) (blr _ _))
 ·refine appL S (zeI _) ziK w hgd s x ho w.heap.size (.slice none 0 0) [] ys hs (OwnG.nil _ _ _ _ _) T v2 hx hl2 h0 (by simp;omega) (nr _) ?_
  intro g c' w' hown hb _
  have hl:=hown.lst
  rw[List.length_nil,Nat.zero_add] at hl ⊢
  rw[List.nil_append] at hl
  obtain⟨A,c,e,h1,h2,-⟩:=id hl
  injection e with e1 e2 e3
  subst e3
  exact h _ _ w' hl h1 h2 hb
theorem zlm (l:Nat->Rat) (ks:List Int) (h8:ks.length<=8):chQ l ks.length (stOf ks)=chQ l ks.length ks:=by
 unfold chQ
 rw[zg2 ks h8]
 congr 1
 unfold wtQ
 have:∀k,k<=8->prodN (wfQ l (stOf ks)) k=prodN (wfQ l ks) k:=fun k=>by
  induction k with
  | zero=>intro _;rfl
  | succ k ih=>
   intro hk
   simp only[prodN]
   rw[ih (by omega)]
   unfold wfQ
   rw[zhh ks k (by omega)]
 exact this _ h8
def reR (w:World) (e:Int) (q:Rat) (v:Value) (w':World):Prop:=∃r,v=.tuple #[r,.int .i64 e]/\RatV w' r q 3000/\Below w.heap.size w w'
theorem zjP {m:Nat} {most:Int} {ks:List Int} (h:stE m most ks=0):ks.length=m/\OkS most ks:=by
 unfold stE at h
 by_cases h1:ks.length≠m
 ·rw[if_pos h1] at h;omega
 ·rw[if_neg h1] at h
  by_cases h2:OkS most ks
  ·exact⟨by omega,h2⟩
  ·rw[if_neg h2] at h;omega
theorem zln (w:World) (v:Value) (m c:Nat) (A:Option Addr) (ks:List Int) (R:List Rat) (Ws:List (List Rat)) (hv:ShopV w v R Ws 3000) (hs:zW m R Ws) (hk:IntsT w (.slice A ks.length c) ks):
  Calls Tryz.prog 33 #[v,.slice A ks.length c] w (Ret (reR w (stE m 12 ks) (if stE m 12 ks=0 then chQ (ldF m R Ws) m ks else 0))):=by
 obtain⟨A',c',e,hc,hm,-⟩:=id hk
 injection e with e1 e2 e3
 subst e1 e3
 have h8:=hs.ok.shop.n8
 by_cases h0:stE m 12 ks=0
 ·obtain⟨hl,hok⟩:=zjP h0
  rw[h0,if_pos rfl]
  refine(zg3 w v m c A ks R Ws hv hs hk.arr hc hm hl hok.1 hok.2).mono ?_
  rintro e w1 ⟨_,rfl,r,rfl,hr,hd⟩
  rw[<-hl,zlm _ ks (by omega),hl] at hr
  exact⟨_,rfl,r,rfl,hr,hd⟩
 ·rw[if_neg h0]
  refine(zll w v m c A ks R Ws hv hs hk.arr hc hm h0).mono ?_
  rintro e w1 ⟨_,rfl,r,rfl,hr,hd⟩
  exact⟨_,rfl,r,rfl,hr,hd⟩
theorem zlo (w:World) (L:Nat):RowV w (.slice none 0 0) [] L:=⟨none,0,rfl,nr _,by unfold maxLen;omega,fun h=>absurd h (Nat.lt_irrefl 0)⟩
def cnL (l:Nat->Rat) (s:Nat) (n:Int):List Rat:=if n<0\/12<n then [] else gL l s n.toNat
theorem zmF (l:Nat->Rat) (s:Nat) (n:Int) (j:Nat) (hj:j<(cnL l s n).length):j<=12/\(cnL l s n).getD j 0=gN l s j:=by
 unfold cnL at hj ⊢
 by_cases h:n<0\/12<n
 ·rw[if_pos h] at hj;simp at hj
 ·rw[if_neg h] at hj ⊢
  rw[zaK] at hj
  exact⟨by omega,zcC l s n.toNat j (by omega)⟩
def coR (w:World) (l:Nat->Rat) (s:Nat) (n:Int) (v:Value) (w':World):Prop:=∃A c,v=.tuple #[.slice A (cnL l s n).length c,.int .i64 (if n<0\/12<n then 1 else 0)]/\RowV w' (.slice A (cnL l s n).length c) (cnL l s n) 3000/\Below w.heap.size w w'
theorem zhY (w:World) (v:Value) (n:Int) (m:Nat) (R:List Rat) (Ws:List (List Rat)) (hv:ShopV w v R Ws 3000) (hs:zW m R Ws):
  Calls Tryz.prog 15 #[v,.int .i64 n] w (Ret (coR w (ldF m R Ws) m n)):=by
 unfold coR cnL
 by_cases h:n<0\/12<n
 ·simp only[if_pos h]
  refine(zhX w v n m R Ws hv hs h).mono ?_
  rintro e w1 ⟨_,rfl,rfl,hd⟩
  exact⟨_,rfl,none,0,rfl,zlo _ _,hd⟩
 ·simp only[if_neg h]
  obtain⟨k,rfl⟩:∃k:Nat,n=(k:Int):=⟨n.toNat,by omega⟩
  rw[Int.toNat_natCast]
  refine(zeo w v k m R Ws hv hs (by omega)).mono ?_
  rintro e w1 ⟨_,rfl,r,rfl,hr,hd⟩
  obtain⟨A,c,rfl,-,-,-⟩:=id hr
  exact⟨_,rfl,A,c,rfl,hr,hd⟩
theorem zdJ.refG {m:Nat} {R:List Rat} {Ws:List (List Rat)} (h:zdJ m R Ws):RefG m R (visV m (ent Ws)):=by
 cases m with
 | zero=>have:=h.ok.ok.shop.n1;omega
 | succ s=>exact h.ok.refG h.m4
theorem ziZ (w:World) (vs ve:Value) (R E:List Rat) (Ws:List (List Rat)) (m n:Nat) (hs:za2 w vs R Ws 3) (he:QRowE 1000001 w ve E) (hG:RefG m R E) (hn:n<=12):
  Calls Tryz.prog 46 #[vs,ve,.int .i64 (n:Int)] w (Ret (qR w (gN (ldR E R) m n) 1000001)):=by
 cases m with
 | zero=>have:=hG.ld.s0;omega
 | succ s=>exact zeV w vs ve R E Ws s n hs he hG hn
theorem zao.rng {w:World} {v:Value} {xs:List Int} (h:zao w v xs) (i:Nat) (hi:i<xs.length):I64 (xs.getD i 0):=by
 obtain⟨T,A,c,rfl,h1,h2,h3⟩:=h
 obtain⟨b,o,rfl,-,hc⟩:=h3 (by omega)
 obtain⟨u,-,-,-,h4⟩:=hc i (xs.getD i 0) (by simp[List.getD,hi])
 exact h4
theorem zx.takeI {T:TypeId} {w:World} {A:Option Addr} {n c:Nat} {xs:List Int} (h:zx T 1 IntE w (.slice A n c) xs) (k:Nat) (hk:k<=xs.length):zx T 1 IntE w (.slice A k c) (xs.take k):=by
 obtain⟨A',c',e,h1,h2,h3⟩:=h
 injection e with e1 e2 e3
 subst e1 e3
 have hl:(xs.take k).length=k:=by rw[List.length_take];omega
 refine⟨A,c,by rw[hl],by omega,h2,fun h0=>?_⟩
 obtain⟨b,o,rfl,ht,hc⟩:=h3 (by omega)
 refine⟨b,o,rfl,ht,fun i x hx=>?_⟩
 have hik:i<k:=by have:=(List.getElem?_eq_some_iff.1 hx).1;omega
 rw[List.getElem?_take_of_lt hik] at hx
 exact hc i x hx
end Go.Proofs.YtpoahodnakhmiaaGreat
