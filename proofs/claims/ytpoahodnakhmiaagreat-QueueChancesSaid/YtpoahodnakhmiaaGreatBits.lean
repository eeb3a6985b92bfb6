import Derived.Test.YtpoahodnakhmiaaGreatDig
import Derived.Lib.BitFns
set_option maxRecDepth 100000
namespace Go.Proofs.YtpoahodnakhmiaaGreat
set_option linter.unusedVariables false
set_option linter.unusedSimpArgs false
open Go.RowKit
theorem Tryz.u32T:zdj Tryz.prog 40 190 .u32 4:=⟨Tryz.underlying40,by kernel_rfl,by omega⟩
theorem zms (w:World) (A A':Option Addr) (c c':Nat) (xs ys:List Int) (h:Arr w A .u32 xs) (hc:xs.length<=c) (hm:c<=maxLen) (h':Arr w A' .u32 ys) (hc':ys.length<=c') (hm':c'<=maxLen)
  (hd:Dig 4294967296 xs) (hd':Dig 4294967296 ys) (hl:xs.length<=1073741824) (hyx:ys.length<=xs.length):
  Calls Tryz.prog 140 #[.slice A xs.length c,.slice A' ys.length c'] w (Ret (natR w (val 4294967296 xs+val 4294967296 ys) (xs.length+1))):=by
 unfold maxLen at hm hm'
 have hdec:decide (xs.length<ys.length)=false:=by simp;omega
 go_enter Tryz.func140,Tryz.ntmps140
 go_wp2
 go_loopw [5,6,18] (fun s5 s6 s18 wr=>∃(k:Nat) (os:List Int) (cy:Int),k<=xs.length/\s18=.int .i64 k/\s6=.int .u64 cy/\0<=cy/\cy<=1/\os.length=k/\Dig 4294967296 os /\
   val 4294967296 os+4294967296^k*cy=val 4294967296 (xs.take k)+val 4294967296 (ys.take k)/\OwnI wr w.heap.size 190 .u32 s5 os/\Below w.heap.size w wr)
  (fun _ _ s18 _=>xs.length-(intOf s18).toNat)
 case atStart=>exact⟨0,[],0,Nat.zero_le _,rfl,rfl,by omega,by omega,rfl,Dig.nil _,by simp[val],OwnI.nil _ _ _ _,blr _ _⟩
 case round=>
  obtain⟨k,os,cy,hk,rfl,rfl,hy0,hy1,hos,hdos,hval,hown,hbel⟩:=hrel
  have hosl:os.length<=17592186044000:=by omega
  by_cases hkx:k<xs.length
  ·obtain⟨b,o,rfl,hbl,hcell⟩:=h.at_ (by omega)
   obtain⟨x,hx⟩:∃x,x=xs.getD k 0:=⟨_,rfl⟩
   have hxc:=(hbel.cell (p:=⟨b,o+k,none⟩) hbl).trans (hcell k hkx)
   have hxb:=hd.at_ hkx
   have htx:=zo 4294967296 xs k hkx
   rw[<-hx] at hxc hxb htx
   obtain⟨hx0,hx1⟩:=hxb
   by_cases hky:k<ys.length
   ·obtain⟨b',o',rfl,hbl',hcell'⟩:=h'.at_ (by omega)
    obtain⟨y,hy⟩:∃y,y=ys.getD k 0:=⟨_,rfl⟩
    have hyc:=(hbel.cell (p:=⟨b',o'+k,none⟩) hbl').trans (hcell' k hky)
    have hyb:=hd'.at_ hky
    have hty:=zo 4294967296 ys k hky
    rw[<-hy] at hyc hyb hty
    obtain⟨hyl,hyu⟩:=hyb
    have HT:=hide (ai htx hty);clear htx hty
    have HV:=hide hval;clear hval
    have HX:=hide (ai hx hy);clear hx hy
    have HL:=hide hos;clear hos
    clear hcell hcell' h h' hd hd'
    go_wp2_with (at_builtin;refine app1 Tryz.u32T _ rfl _ _ rfl w.heap.size _ os ((cy+x+y)%4294967296) rfl (hown.keep ((blr _ _).alloc (nr _) _)) ⟨wr.heap.size,0,none⟩ _ rfl (by simp[World.cell?_alloc_new]) hosl (by have:=hbel.size;simp;omega) ?_;intro g c1 w1 hown1 _ _ hb1)
    go_roundw
    case rel=>
     refine⟨k+1,os++[(cy+x+y)%4294967296],(cy+x+y) / 4294967296,by omega,by go_num,rfl,by omega,by omega,by simp[HL.out],hdos.snoc (by omega) (by omega),?_,hown1,(hbel.alloc hbel.size _).trans hb1⟩
     rw[zF,HL.out,HT.out.1,HT.out.2]
     have:=HV.out
     have e:(cy+x+y)%4294967296+4294967296*((cy+x+y) / 4294967296)=cy+x+y:=Int.emod_add_mul_ediv _ _
     grind
    case measure=>simp[intOf];omega
   ·have hty1:=zn 4294967296 ys k (by omega)
    have hty2:=zn 4294967296 ys (k+1) (by omega)
    have HT:=hide (ai htx (ai hty1 hty2));clear htx hty1 hty2
    have HV:=hide hval;clear hval
    have HX:=hide hx;clear hx
    have HL:=hide hos;clear hos
    clear hcell h h' hd hd'
    go_wp2_with (at_builtin;refine app1 Tryz.u32T _ rfl _ _ rfl w.heap.size _ os ((cy+x)%4294967296) rfl (hown.keep ((blr _ _).alloc (nr _) _)) ⟨wr.heap.size,0,none⟩ _ rfl (by simp[World.cell?_alloc_new]) hosl (by have:=hbel.size;simp;omega) ?_;intro g c1 w1 hown1 _ _ hb1)
    go_roundw
    case rel=>
     refine⟨k+1,os++[(cy+x)%4294967296],(cy+x) / 4294967296,by omega,by go_num,rfl,by omega,by omega,by simp[HL.out],hdos.snoc (by omega) (by omega),?_,hown1,(hbel.alloc hbel.size _).trans hb1⟩
     rw[zF,HL.out,HT.out.1,HT.out.2.2]
     have:=HV.out
     rw[HT.out.2.1] at this
     have e:(cy+x)%4294967296+4294967296*((cy+x) / 4294967296)=cy+x:=Int.emod_add_mul_ediv _ _
     grind
    case measure=>simp[intOf];omega
  ·obtain rfl:k=xs.length:=by omega
   rw[List.take_of_length_le (nr _),zn _ ys _ (by omega)] at hval
   have HV:=hide hval;clear hval
   have HL:=hide hos;clear hos
   have hD:=hide (ai hd hd')
   clear h h' hd hd'
   go_wp2_with (first
    | (at_builtin;refine app1 Tryz.u32T _ rfl _ _ rfl w.heap.size _ os cy rfl (hown.keep ((blr _ _).alloc (nr _) _)) ⟨wr.heap.size,0,none⟩ _ rfl (by simp[World.cell?_alloc_new]) hosl (by have:=hbel.size;simp;omega) ?_;intro g c1 w1 hown1 hc1 hm1 hb1)
    | (go_at_call 170;refine(zbz _ _ _ _ (os++[cy]) (by simp) (Arr.of_own (n:=os.length+1) (c:=c1) (by simpa[OwnI] using hown1)).2 hc1 hm1).mono ?_;rintro e w' ⟨v,rfl,n,hn,rfl,rfl⟩;have HN:=hide hn;clear hn))
   go_ret
   have hv:=NatV.of_trim (Arr.of_own (n:=os.length+1) (c:=c1) (by simpa[OwnI] using hown1)).2 (hdos.snoc hy0 (by omega)) (by simp[HL.out,maxLen];omega) HN.out
   refine⟨_,rfl,?_,(hbel.alloc hbel.size _).trans hb1⟩
   rw[zF,HL.out,HV.out] at hv
   refine hv.more (by simp[HL.out])
theorem zmt (w:World) (A A':Option Addr) (c c':Nat) (xs ys:List Int) (h:Arr w A .u32 xs) (hc:xs.length<=c) (hm:c<=maxLen) (h':Arr w A' .u32 ys) (hc':ys.length<=c') (hm':c'<=maxLen)
  (hd:Dig 4294967296 xs) (hd':Dig 4294967296 ys) (hl:xs.length<=1073741824) (hyx:ys.length<xs.length):
  Calls Tryz.prog 140 #[.slice A' ys.length c',.slice A xs.length c] w (Ret (natR w (val 4294967296 xs+val 4294967296 ys) (xs.length+1))):=by
 unfold maxLen at hm hm'
 have hdec:decide (ys.length<xs.length)=true:=by simp;omega
 go_enter Tryz.func140,Tryz.ntmps140
 go_wp2
 go_loopw [5,6,18] (fun s5 s6 s18 wr=>∃(k:Nat) (os:List Int) (cy:Int),k<=xs.length/\s18=.int .i64 k/\s6=.int .u64 cy/\0<=cy/\cy<=1/\os.length=k/\Dig 4294967296 os /\
   val 4294967296 os+4294967296^k*cy=val 4294967296 (xs.take k)+val 4294967296 (ys.take k)/\OwnI wr w.heap.size 190 .u32 s5 os/\Below w.heap.size w wr)
  (fun _ _ s18 _=>xs.length-(intOf s18).toNat)
 case atStart=>exact⟨0,[],0,Nat.zero_le _,rfl,rfl,by omega,by omega,rfl,Dig.nil _,by simp[val],OwnI.nil _ _ _ _,blr _ _⟩
 case round=>
  obtain⟨k,os,cy,hk,rfl,rfl,hy0,hy1,hos,hdos,hval,hown,hbel⟩:=hrel
  have hosl:os.length<=17592186044000:=by omega
  by_cases hkx:k<xs.length
  ·obtain⟨b,o,rfl,hbl,hcell⟩:=h.at_ (by omega)
   obtain⟨x,hx⟩:∃x,x=xs.getD k 0:=⟨_,rfl⟩
   have hxc:=(hbel.cell (p:=⟨b,o+k,none⟩) hbl).trans (hcell k hkx)
   have hxb:=hd.at_ hkx
   have htx:=zo 4294967296 xs k hkx
   rw[<-hx] at hxc hxb htx
   obtain⟨hx0,hx1⟩:=hxb
   by_cases hky:k<ys.length
   ·obtain⟨b',o',rfl,hbl',hcell'⟩:=h'.at_ (by omega)
    obtain⟨y,hy⟩:∃y,y=ys.getD k 0:=⟨_,rfl⟩
    have hyc:=(hbel.cell (p:=⟨b',o'+k,none⟩) hbl').trans (hcell' k hky)
    have hyb:=hd'.at_ hky
    have hty:=zo 4294967296 ys k hky
    rw[<-hy] at hyc hyb hty
    obtain⟨hyl,hyu⟩:=hyb
    have HT:=hide (ai htx hty);clear htx hty
    have HV:=hide hval;clear hval
    have HX:=hide (ai hx hy);clear hx hy
    have HL:=hide hos;clear hos
    clear hcell hcell' h h' hd hd'
    go_wp2_with (at_builtin;refine app1 Tryz.u32T _ rfl _ _ rfl w.heap.size _ os ((cy+x+y)%4294967296) rfl (hown.keep ((blr _ _).alloc (nr _) _)) ⟨wr.heap.size,0,none⟩ _ rfl (by simp[World.cell?_alloc_new]) hosl (by have:=hbel.size;simp;omega) ?_;intro g c1 w1 hown1 _ _ hb1)
    go_roundw
    case rel=>
     refine⟨k+1,os++[(cy+x+y)%4294967296],(cy+x+y) / 4294967296,by omega,by go_num,rfl,by omega,by omega,by simp[HL.out],hdos.snoc (by omega) (by omega),?_,hown1,(hbel.alloc hbel.size _).trans hb1⟩
     rw[zF,HL.out,HT.out.1,HT.out.2]
     have:=HV.out
     have e:(cy+x+y)%4294967296+4294967296*((cy+x+y) / 4294967296)=cy+x+y:=Int.emod_add_mul_ediv _ _
     grind
    case measure=>simp[intOf];omega
   ·have hty1:=zn 4294967296 ys k (by omega)
    have hty2:=zn 4294967296 ys (k+1) (by omega)
    have HT:=hide (ai htx (ai hty1 hty2));clear htx hty1 hty2
    have HV:=hide hval;clear hval
    have HX:=hide hx;clear hx
    have HL:=hide hos;clear hos
    clear hcell h h' hd hd'
    go_wp2_with (at_builtin;refine app1 Tryz.u32T _ rfl _ _ rfl w.heap.size _ os ((cy+x)%4294967296) rfl (hown.keep ((blr _ _).alloc (nr _) _)) ⟨wr.heap.size,0,none⟩ _ rfl (by simp[World.cell?_alloc_new]) hosl (by have:=hbel.size;simp;omega) ?_;intro g c1 w1 hown1 _ _ hb1)
    go_roundw
    case rel=>
     refine⟨k+1,os++[(cy+x)%4294967296],(cy+x) / 4294967296,by omega,by go_num,rfl,by omega,by omega,by simp[HL.out],hdos.snoc (by omega) (by omega),?_,hown1,(hbel.alloc hbel.size _).trans hb1⟩
     rw[zF,HL.out,HT.out.1,HT.out.2.2]
     have:=HV.out
     rw[HT.out.2.1] at this
     have e:(cy+x)%4294967296+4294967296*((cy+x) / 4294967296)=cy+x:=Int.emod_add_mul_ediv _ _
     grind
    case measure=>simp[intOf];omega
  ·obtain rfl:k=xs.length:=by omega
   rw[List.take_of_length_le (nr _),zn _ ys _ (by omega)] at hval
   have HV:=hide hval;clear hval
   have HL:=hide hos;clear hos
   have hD:=hide (ai hd hd')
   clear h h' hd hd'
   go_wp2_with (first
    | (at_builtin;refine app1 Tryz.u32T _ rfl _ _ rfl w.heap.size _ os cy rfl (hown.keep ((blr _ _).alloc (nr _) _)) ⟨wr.heap.size,0,none⟩ _ rfl (by simp[World.cell?_alloc_new]) hosl (by have:=hbel.size;simp;omega) ?_;intro g c1 w1 hown1 hc1 hm1 hb1)
    | (go_at_call 170;refine(zbz _ _ _ _ (os++[cy]) (by simp) (Arr.of_own (n:=os.length+1) (c:=c1) (by simpa[OwnI] using hown1)).2 hc1 hm1).mono ?_;rintro e w' ⟨v,rfl,n,hn,rfl,rfl⟩;have HN:=hide hn;clear hn))
   go_ret
   have hv:=NatV.of_trim (Arr.of_own (n:=os.length+1) (c:=c1) (by simpa[OwnI] using hown1)).2 (hdos.snoc hy0 (by omega)) (by simp[HL.out,maxLen];omega) HN.out
   refine⟨_,rfl,?_,(hbel.alloc hbel.size _).trans hb1⟩
   rw[zF,HL.out,HV.out] at hv
   refine hv.more (by simp[HL.out])
theorem zgC (w:World) (v v':Value) (x y:Int) (L L':Nat) (hx:NatV w v x L) (hy:NatV w v' y L') (hL:L<=1073741824) (hL':L'<=1073741824):
  Calls Tryz.prog 140 #[v,v'] w (Ret (natR w (x+y) (max L L'+1))):=by
 obtain⟨A,c,xs,rfl,hc,hm,ha,hd,hn,rfl,hl⟩:=hx
 obtain⟨A',c',ys,rfl,hc',hm',ha',hd',hn',rfl,hl'⟩:=hy
 rcases Nat.lt_or_ge xs.length ys.length with h|h
 ·refine(zmt w A' A c' c ys xs ha' hc' hm' ha hc hm hd' hd (by omega) h).mono ?_
  rintro e w' ⟨v,rfl,h1,h2⟩
  rw[Int.add_comm] at h1
  exact⟨v,rfl,h1.more (by omega),h2⟩
 ·refine(zms w A A' c c' xs ys ha hc hm ha' hc' hm' hd hd' (by omega) h).mono ?_
  rintro e w' ⟨v,rfl,h1,h2⟩
  exact⟨v,rfl,h1.more (by omega),h2⟩
def zjH (w:World) (x d:Int) (L:Nat) (v:Value) (w':World):Prop:=∃q,v=.tuple #[q,.int .u32 (x%d)]/\NatV w' q (x / d) L/\Below w.heap.size w w'
def zjI (w:World) (x d:Int) (L:Nat) (v:Value) (w':World):Prop:=∃b n c,v=.tuple #[.slice (some ⟨b,0,none⟩) n c,.int .u32 (x%d)]/\w.heap.size<=b/\b<w'.heap.size/\NatV w' (.slice (some ⟨b,0,none⟩) n c) (x / d) L/\Below w.heap.size w w'
theorem zeQ (w:World) (v:Value) (x dv:Int) (L:Nat) (hx:NatV w v x L) (hL:L<=1073741824) (h0:0<dv) (h1:dv<4294967296):
  Calls Tryz.prog 177 #[v,.int .u32 dv] w (Ret (zjI w x dv L)):=by
 obtain⟨A,c,xs,rfl,hc,hm,h,hd,hn,rfl,hlL⟩:=hx
 unfold maxLen at hm
 have hl:xs.length<=1073741824:=by omega
 have hmk:=zby Tryz.u32T xs.length (by omega)
 go_enter Tryz.func177,Tryz.ntmps177
 go_wp2
 go_loopw [7,8] (fun s7 s8 wr=>∃(k:Nat) (os:List Int) (r:Int),k<=xs.length/\s8=.int .i64 ((k:Int)-1)/\s7=.int .u64 r/\0<=r/\r<dv/\os.length=xs.length/\Dig 4294967296 os /\
  val 4294967296 (xs.drop k)=val 4294967296 (os.drop k)*dv+r/\Blk wr w.heap.size 190 .u32 os/\Below w.heap.size w wr) (fun _ s8 _=>(intOf s8+1).toNat)
 case atStart=>exact⟨xs.length,List.replicate xs.length 0,0,nr _,rfl,rfl,by omega,h0,by simp,Dig.replicate _ (by omega) _,by simp[val],Blk.new _ _ _ _,(blr _ _).alloc (nr _) _⟩
 case round=>
  obtain⟨k,os,r,hk,rfl,rfl,hr0,hr1,hos,hdos,hval,hblk,hbel⟩:=hrel
  by_cases hk0:0<k
  ·obtain⟨b,o,rfl,hbl,hcell⟩:=h.at_ (by omega)
   obtain⟨x,hx⟩:∃x,x=xs.getD (k-1) 0:=⟨_,rfl⟩
   have hxc:=(hbel.cell (p:=⟨b,o+(k-1),none⟩) hbl).trans (hcell (k-1) (by omega))
   have hxd:=zcd xs (k-1) (by omega)
   have hxb:=hd.at_ (k:=k-1) (by omega)
   rw[<-hx] at hxb hxc hxd
   obtain⟨hx0,hx1⟩:=hxb
   obtain⟨q,hq⟩:∃q,q=os.getD (k-1) 0:=⟨_,rfl⟩
   have hqc:=hblk.cell (j:=k-1) (by omega)
   rw[<-hq] at hqc
   have hqf:=hblk.frozen (k-1)
   have hor:=or64 r x hr0 (by omega) hx0 hx1
   have HQ:=hide (ai hx hq);clear hx hq
   have HL:=hide hos;clear hos
   have HV:=hide hval;clear hval
   have HXD:=hide hxd;clear hxd
   have hb1:r*4294967296+x<dv*4294967296:=by omega
   have hq1:(r*4294967296+x) / dv<4294967296:=Int.ediv_lt_of_lt_mul h0 (by omega)
   have hq0:0<=(r*4294967296+x) / dv:=Int.ediv_nonneg (by omega) (by omega)
   have hr2:0<=(r*4294967296+x)%dv:=Int.emod_nonneg _ (by omega)
   have hr3:(r*4294967296+x)%dv<dv:=Int.emod_lt_of_pos _ h0
   clear h hd hcell hmk
   go_wp2
   go_roundw
   case rel=>
    refine⟨k-1,os.set (k-1) ((r*4294967296+x) / dv),(r*4294967296+x)%dv,by omega,by go_num,by go_num,hr2,hr3,by simp[HL.out],hdos.set_ _ hq0 hq1,?_,?_,hbel.setCell (by simp) _⟩
    ·rw[HXD.out,zbG _ _ _ (by have:=HL.out;omega),show k-1+1=k by omega]
     simp only[val]
     rw[HV.out]
     have e:=Int.emod_add_mul_ediv (r*4294967296+x) dv
     grind
    ·exact hblk.set_ _ _
   case measure=>simp[intOf];omega
  ·obtain rfl:k=0:=by omega
   simp only[List.drop_zero] at hval
   have HV:=hide hval;clear hval
   have HL:=hide hos;clear hos
   have hml:xs.length<=maxLen:=by unfold maxLen;omega
   clear h hd hmk
   go_wp2_with fail
   refine(zbz _ _ _ _ os HL.out hblk.arr (nr _) hml).mono ?_
   rintro e w' ⟨v,rfl,n,hn,rfl,rfl⟩
   have HN:=hide hn;clear hn
   go_wp2_with fail
   go_ret2
   have hv:=NatV.of_trim hblk.arr hdos (by rw[HL.out];exact hml) HN.out
   have e1:val 4294967296 os=val 4294967296 xs / dv/\r=val 4294967296 xs%dv:=by
    have e:=HV.out
    have:=(Int.ediv_emod_unique (a:=val 4294967296 xs) (b:=dv) (r:=r) (q:=val 4294967296 os) h0).2 ⟨by rw[e,Int.mul_comm];exact Int.add_comm _ _,hr0,hr1⟩
    exact⟨this.1.symm,this.2.symm⟩
   refine⟨_,rfl,w.heap.size,n,n,?_,nr _,hblk.lt,?_,hbel⟩
   ·rw[<-e1.2];rfl
   ·rw[<-e1.1];exact hv.more (by rw[HL.out];exact hlL)
theorem ziX (w:World) (v:Value) (x dv:Int) (L:Nat) (hx:NatV w v x L) (hL:L<=1073741824) (h0:0<dv) (h1:dv<4294967296):
  Calls Tryz.prog 177 #[v,.int .u32 dv] w (Ret (zjH w x dv L)):=by
 refine(zeQ w v x dv L hx hL h0 h1).mono ?_
 rintro e w' ⟨v,rfl,b,n,c,rfl,_,_,h1,h2⟩
 exact⟨_,rfl,_,rfl,h1,h2⟩
theorem zhU:∀(f x:Nat),x<2^f->0<x->0<Lib.bitLenAux f x/\2^(Lib.bitLenAux f x-1)<=x/\x<2^Lib.bitLenAux f x:=by
 intro f
 induction f with
 | zero=>intro x h h0;simp at h;omega
 | succ f ih=>
  intro x h h0
  rw[Lib.bitLenAux,if_neg (by omega)]
  by_cases h1:x / 2=0
  ·have hx:x=1:=by omega
   subst hx
   have:Lib.bitLenAux f 0=0:=by cases f <;> simp[Lib.bitLenAux]
   simp[this]
  ·obtain⟨a,b,c⟩:=ih (x / 2) (by rw[Nat.pow_succ] at h;omega) (by omega)
   refine⟨by omega,?_,?_⟩
   ·rw[show 1+Lib.bitLenAux f (x / 2)-1=(Lib.bitLenAux f (x / 2)-1)+1 by omega,Nat.pow_succ];omega
   ·rw[Nat.add_comm,Nat.pow_succ];omega
theorem zex:Lib.len8tab.size=256:=by decide +kernel
theorem zmu:∀n:Fin 256,(Lib.len8tab[n.val]'(by rw[zex];exact n.isLt)).toNat=Lib.bitLen n.val:=by decide +kernel
theorem znt (n:Nat) (h:n<Lib.len8tab.size):(Lib.len8tab[n]'h).toNat=Lib.bitLen n:=zmu ⟨n,by rw[zex] at h;exact h⟩
theorem zmv (x:Int) (w:World) (h0:0<=x) (h1:x<=4294967295):
  Calls Tryz.prog 208 #[.int .u32 x] w fun e w'=>e=.returned (.int .i64 (Lib.bitLen x.toNat))/\w=w':=by
 have hsz:=zex
 have fin:∀(y k:Int) (h:y.toNat<Lib.len8tab.size),0<=k->k<=24->(Lib.bitLen x.toNat:Int)=k+Lib.bitLen y.toNat->Lib.bitLen y.toNat<=8->wrap64 (k+wrap64 ((Lib.len8tab[y.toNat]'h).toNat:Int))=(Lib.bitLen x.toNat:Int):=by
  intro y k h hk hk' he hl
  rw[znt,IntWalk.wrap64_in (Lib.bitLen y.toNat:Int) ⟨by omega,by omega⟩,IntWalk.wrap64_in _ ⟨by omega,by omega⟩,he]
 have HF:=hide fin;clear fin
 have b8:∀y:Int,0<=y->y<=255->Lib.bitLen y.toNat<=8:=Lib.bitLen_le8'
 have HB:=hide b8;clear b8
 by_cases c1:65536<=x
 ·by_cases c2:256<=x / 65536
  ·skip
   have s:=Lib.bitLen_shift24 x.toNat (by omega) (by omega)
   have H:=hide s;clear s
   go_enter Tryz.func208,Tryz.ntmps208
   go_wp2
   go_ret
   exact⟨congrArg Ending.returned (congrArg (Value.int IntKind.i64) (HF.out (x / 65536 / 256) 24 _ (by omega) (by omega) (by rw[show (x / 65536 / 256).toNat=x.toNat / 16777216 by omega];have:=H.out;omega) (HB.out _ (by omega) (by omega)))),rfl⟩
  ·have c3:x / 65536<256:=by omega
   have s:=Lib.bitLen_shift16 x.toNat (by omega) (by omega)
   have H:=hide s;clear s
   go_enter Tryz.func208,Tryz.ntmps208
   go_wp2
   go_ret
   exact⟨congrArg Ending.returned (congrArg (Value.int IntKind.i64) (HF.out (x / 65536) 16 _ (by omega) (by omega) (by rw[show (x / 65536).toNat=x.toNat / 65536 by omega];have:=H.out;omega) (HB.out _ (by omega) (by omega)))),rfl⟩
 ·have c3:x<65536:=by omega
  by_cases c2:256<=x
  ·skip
   have s:=Lib.bitLen_shift8 x.toNat (by omega) (by omega)
   have H:=hide s;clear s
   go_enter Tryz.func208,Tryz.ntmps208
   go_wp2
   go_ret
   exact⟨congrArg Ending.returned (congrArg (Value.int IntKind.i64) (HF.out (x / 256) 8 _ (by omega) (by omega) (by rw[show (x / 256).toNat=x.toNat / 256 by omega];have:=H.out;omega) (HB.out _ (by omega) (by omega)))),rfl⟩
  ·have c4:x<256:=by omega
   go_enter Tryz.func208,Tryz.ntmps208
   go_wp2
   go_ret
   have hh:=HF.out (x) 0 (by rw[hsz];omega) (by omega) (by omega) (by rw[show (x).toNat=x.toNat by omega];omega) (HB.out _ (by omega) (by omega))
   rw[Int.zero_add] at hh
   exact⟨congrArg Ending.returned (congrArg (Value.int IntKind.i64) hh),rfl⟩
def ClzR (w:World) (x:Int) (v:Value) (w':World):Prop:=∃n:Nat,v=.int .i64 (32-(n:Int))/\0<n/\n<=32/\2^(n-1)<=x/\x<2^n/\w=w'
theorem zmh (x:Int) (w:World) (h0:0<x) (h1:x<4294967296):Calls Tryz.prog 196 #[.int .u32 x] w (Ret (ClzR w x)):=by
 obtain⟨a,b,c⟩:=zhU 64 x.toNat (by omega) (by omega)
 have hle:=Lib.bitLen_le x.toNat 32 (by omega) (by omega)
 have HB:Hid (0<Lib.bitLen x.toNat/\2^(Lib.bitLen x.toNat-1)<=x/\x<2^Lib.bitLen x.toNat):=by
  refine⟨a,?_,?_⟩
  ·have:((2^(Lib.bitLen x.toNat-1):Nat):Int)<=(x.toNat:Int):=Int.ofNat_le.2 b
   rw[Int.toNat_of_nonneg (by omega)] at this
   simpa using this
  ·have:(x.toNat:Int)<((2^Lib.bitLen x.toNat:Nat):Int):=Int.ofNat_lt.2 c
   rw[Int.toNat_of_nonneg (by omega)] at this
   simpa using this
 clear a b c
 go_enter Tryz.func196,Tryz.ntmps196
 go_wp2_with (go_at_call 208;refine(zmv x _ (by omega) (by omega)).mono ?_;rintro e w' ⟨rfl,rfl⟩)
 go_ret
 exact⟨_,rfl,Lib.bitLen x.toNat,rfl,HB.out.1,hle,HB.out.2.1,HB.out.2.2,rfl⟩
def zn5 (w:World) (x:Int) (v:Value) (w':World):Prop:=∃s:Nat,v=.int .i64 s/\s<32/\2^(31-s)<=x/\x<2^(32-s)/\w=w'
theorem znu (x:Int) (w:World) (h0:0<x) (h1:x<4294967296):Calls Tryz.prog 196 #[.int .u32 x] w (Ret (zn5 w x)):=by
 refine(zmh x w h0 h1).mono ?_
 rintro e w' ⟨v,rfl,n,rfl,a,b,c,d,rfl⟩
 refine⟨_,rfl,32-n,?_,by omega,?_,?_,rfl⟩
 ·congr 1;omega
 ·rw[show 31-(32-n)=n-1 by omega];exact c
 ·rw[show 32-(32-n)=n by omega];exact d
def zn6 (w:World) (x:Int) (v:Value) (w':World):Prop:=∃n:Nat,v=.int .i64 n/\(x=0->n=0)/\(0<x->0<n/\2^(n-1)<=x/\x<2^n)/\w=w'
theorem zjJ (w:World) (v:Value) (x:Int) (L:Nat) (hx:NatV w v x L) (hL:L<=1073741824):Calls Tryz.prog 174 #[v] w (Ret (zn6 w x)):=by
 obtain⟨A,c,xs,rfl,hc,hm,h,hd,hn,rfl,hlL⟩:=hx
 unfold maxLen at hm
 by_cases hx0:0<xs.length
 ·have hb0:((xs.length:Int) == 0)=false:=by simp;intro e;subst e;simp at hx0
  obtain⟨b,o,rfl,hbl,hcell⟩:=h.at_ hx0
  obtain⟨d,hd0⟩:∃d,d=xs.getD (xs.length-1) 0:=⟨_,rfl⟩
  have hxc:=hcell (xs.length-1) (by omega)
  have hxb:=hd.at_ (k:=xs.length-1) (by omega)
  have hxn:=hn.last hx0
  rw[<-hd0] at hxc hxb hxn
  obtain⟨hx1,hx2⟩:=hxb
  have hx3:0<d:=by omega
  have htx:=zo 4294967296 xs (xs.length-1) (by omega)
  rw[show xs.length-1+1=xs.length by omega,List.take_of_length_le (nr _),<-hd0] at htx
  have hv0:=zC (B:=4294967296) (by omega) (hd.take (xs.length-1))
  have hv1:=zam (B:=4294967296) (by omega) (hd.take (xs.length-1))
  rw[List.length_take,Nat.min_eq_left (by omega)] at hv1
  have HV:=hide (ai htx (ai hv0 hv1))
  clear htx hv0 hv1 hxn
  have HX:=hide hd0;clear hd0
  clear h hd hn hcell
  go_enter Tryz.func174,Tryz.ntmps174
  go_wp2_with (go_at_call 196;refine(zmh d _ hx3 hx2).mono ?_;rintro e w' ⟨v,rfl,n,rfl,hn0,hn1,hn2,hn3,rfl⟩;have HN:=hide (ai hn2 hn3);clear hn2 hn3)
  go_ret
  obtain⟨e1,e2,e3⟩:=HV.out
  obtain⟨f1,f2⟩:=HN.out
  have ep:(4294967296:Int)^(xs.length-1)=2^(32*(xs.length-1)):=by
   rw[Int.pow_mul];rfl
  have hpos:(0:Int)<4294967296^(xs.length-1):=Int.pow_pos (by omega)
  have g1:=Int.mul_le_mul_of_nonneg_left f1 (Int.le_of_lt hpos)
  have g2:=Int.mul_le_mul_of_nonneg_left (show d+1<=2^n by omega) (Int.le_of_lt hpos)
  refine⟨_,rfl,32*(xs.length-1)+n,?_,?_,fun _=>⟨by omega,?_,?_⟩,rfl⟩
  ·show Value.int .i64 _=_
   congr 1
   omega
  ·intro hz
   have:=Int.mul_pos hpos hx3
   omega
  ·rw[show 32*(xs.length-1)+n-1=32*(xs.length-1)+(n-1) by omega,Int.pow_add,<-ep]
   omega
  ·rw[Int.pow_add,<-ep]
   rw[Int.mul_add] at g2
   omega
 ·obtain rfl:xs=[]:=List.eq_nil_of_length_eq_zero (by omega)
  go_enter Tryz.func174,Tryz.ntmps174
  go_wp2
  go_ret
  exact⟨_,rfl,0,rfl,fun _=>rfl,fun h=>by simp[val] at h,rfl⟩
end Go.Proofs.YtpoahodnakhmiaaGreat
