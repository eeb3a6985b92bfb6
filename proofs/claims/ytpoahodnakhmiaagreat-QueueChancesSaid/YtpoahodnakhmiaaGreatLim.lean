import Derived.Test.YtpoahodnakhmiaaGreatText
import Derived.Deep.Upon
import Derived.Deep.LoopGhost
set_option maxRecDepth 100000
namespace Go.Proofs.YtpoahodnakhmiaaGreat
set_option linter.unusedVariables false
set_option linter.unusedSimpArgs false
open Go.RowKit
theorem Tryz.limT:zdj Tryz.prog 51 3 .i64 8:=⟨by kernel_rfl,by kernel_rfl,by decide⟩
def LimV (w:World) (v:Value) (x:Int) (L:Nat):Prop:=
 ∃A c xs,v=.slice A xs.length c/\xs.length<=c/\c<=maxLen/\Arr w A .i64 xs/\Dig 1000000000 xs/\Norm xs/\val 1000000000 xs=x/\xs.length<=L
theorem LimV.below {w w':World} {v:Value} {x:Int} {L:Nat} (h:LimV w v x L) (hb:Below w.heap.size w w'):LimV w' v x L:=by
 obtain⟨A,c,xs,rfl,h1,h2,h3,h4⟩:=h
 exact⟨A,c,xs,rfl,h1,h2,h3.below hb,h4⟩
theorem LimV.more {w:World} {v:Value} {x:Int} {L L':Nat} (h:LimV w v x L) (hL:L<=L'):LimV w v x L':=by
 obtain⟨A,c,xs,rfl,h1,h2,h3,h4,h5,h6,h7⟩:=h
 exact⟨A,c,xs,rfl,h1,h2,h3,h4,h5,h6,by omega⟩
theorem LimV.nonneg {w:World} {v:Value} {x:Int} {L:Nat} (h:LimV w v x L):0<=x:=by
 obtain⟨A,c,xs,rfl,h1,h2,h3,h4,h5,h6,h7⟩:=h
 rw[<-h6];exact zC (by omega) h4
theorem LimV.open_ {w:World} {v:Value} {x:Int} {L:Nat} (h:LimV w v x L):
 ∃A c xs,v=.slice A xs.length c/\xs.length<=c/\c<=maxLen/\Arr w A .i64 xs/\Dig 1000000000 xs/\Norm xs/\val 1000000000 xs=x/\xs.length<=L:=h
theorem LimV.nil (w:World) (L:Nat):LimV w (.slice none 0 0) 0 L:=⟨none,0,[],rfl,nr _,by simp,Arr.nil,Dig.nil _,Norm.nil,rfl,Nat.zero_le _⟩
theorem LimV.lt {w:World} {v:Value} {x:Int} {L:Nat} (h:LimV w v x L):x<1000000000^L:=by
 obtain⟨A,c,xs,rfl,h1,h2,h3,h4,h5,rfl,h7⟩:=h
 exact Int.lt_of_lt_of_le (zam (by omega) h4) (zt (by omega) h7)
theorem LimV.fit {w:World} {v:Value} {x:Int} {L L':Nat} (h:LimV w v x L) (hx:x<1000000000^L'):LimV w v x L':=by
 obtain⟨A,c,xs,rfl,h1,h2,h3,h4,h5,rfl,h7⟩:=h
 refine⟨A,c,xs,rfl,h1,h2,h3,h4,h5,rfl,?_⟩
 rcases Nat.lt_or_ge L' xs.length with hlt|hge
 ·have a:=zZ (B:=1000000000) (by omega) h4 h5 (by intro e;subst e;simp at hlt)
  have b:=zt (B:=1000000000) (by omega) (show L'<=xs.length-1 by omega)
  omega
 ·exact hge
theorem LimV.of_trim {w:World} {A:Option Addr} {xs:List Int} {n c:Nat} (h:Arr w A .i64 xs) (hd:Dig 1000000000 xs) (hc:xs.length<=c) (hm:c<=maxLen) (ht:zeW xs n):
  LimV w (.slice A n c) (val 1000000000 xs) xs.length:=by
 obtain⟨h1,h2,h3⟩:=ht
 have hl:(xs.take n).length=n:=by rw[List.length_take];omega
 refine⟨A,c,xs.take n,by rw[hl],by omega,by omega,h.take n,hd.take n,Norm.of_last fun h0=>?_,zbq _ _ _ h3,by omega⟩
 rw[hl] at h0 ⊢
 have:=h2 h0
 simpa[List.getD,List.getElem?_take,show n-1<n by omega] using this
theorem zcv {w:World} {A:Option Addr} {c:Nat} {xs:List Int} {x:Int} {L:Nat} (h:LimV w (.slice A xs.length c) x L):xs.length=0↔x=0:=by
 obtain⟨A',c',ys,e,h1,h2,h3,h4,h5,h6,h7⟩:=h
 injection e with e1 e2 e3
 have:xs.length=ys.length:=e2
 rw[this,<-h6]
 constructor
 ·intro h;rw[List.eq_nil_of_length_eq_zero h];rfl
 ·intro h
  rcases Nat.eq_zero_or_pos ys.length with h0|h0
  ·exact h0
  ·have:=zaQ (B:=1000000000) (by omega) h4 h5 (by intro e;rw[e] at h0;simp at h0);omega
def limR (w:World) (x:Int) (L:Nat) (v:Value) (w':World):Prop:=LimV w' v x L/\Below w.heap.size w w'
def trimL (w:World) (A:Option Addr) (c:Nat) (xs:List Int) (v:Value) (w':World):Prop:=∃n,zeW xs n/\v=.slice A n c/\w=w'
theorem zcr (w:World) (A:Option Addr) (c n:Nat) (xs:List Int) (hn:xs.length=n) (h:Arr w A .i64 xs) (hc:n<=c) (hm:c<=maxLen):
  Calls Tryz.prog 179 #[.slice A n c] w (Ret (trimL w A c xs)):=by
 subst hn
 unfold maxLen at hm
 go_enter Tryz.func179,Tryz.ntmps179
 go_wp2
 go_loop [0] (fun s=>∃k:Nat,k<=xs.length/\s=.slice A k c/\∀j,k<=j->xs.getD j 0=0) (fun s=>match s with | .slice _ n _=>n|_=>0)
 case atStart=>exact⟨xs.length,nr _,rfl,fun j hj=>by simp[List.getD,List.getElem?_eq_none hj]⟩
 case round=>
  obtain⟨k,hk,rfl,hz⟩:=hrel
  by_cases hk0:0<k
  ·obtain⟨b,o,rfl,_,hcell⟩:=h (by omega)
   obtain⟨d,hd⟩:∃d,d=xs.getD (k-1) 0:=⟨_,rfl⟩
   have hx:=hcell (k-1) (by omega)
   rw[<-hd] at hx
   have hc0:¬c=0:=by omega
   have HZ:=hide hz;clear hz
   have HD:=hide hd;clear hd
   clear h hcell
   by_cases h0:d=0
   ·have hd0:(d == 0)=true:=by rw[h0];rfl
    have H0:=hide h0;clear h0
    go_wp2
    go_round
    case rel=>
     refine⟨k-1,by omega,?_,fun j hj=>?_⟩
     ·first|rfl|(congr 1;omega)|simp
     ·by_cases hjk:j=k-1
      ·subst hjk;rw[<-HD.out];exact H0.out
      ·exact HZ.out j (by omega)
    case measure=>simp;omega
   ·have hd0:(d == 0)=false:=by rw[beq_eq_false_iff_ne];exact h0
    have H0:=hide h0;clear h0
    go_wp2
    go_ret
    exact⟨_,rfl,k,⟨hk,fun _=>by rw[<-HD.out];exact H0.out,HZ.out⟩,rfl,rfl⟩
  ·obtain rfl:k=0:=by omega
   have HZ:=hide hz;clear hz
   go_wp2
   go_ret
   exact⟨_,rfl,0,⟨Nat.zero_le _,fun h=>absurd h (by omega),HZ.out⟩,rfl,rfl⟩
theorem ze0 (w:World) (v v':Value) (x y:Int) (L L':Nat) (hx:LimV w v x L) (hy:LimV w v' y L'):
  Calls Tryz.prog 159 #[v,v'] w (Ret (zkb w (sgn x y))):=by
 obtain⟨A,c,xs,rfl,hc,hm,ha,hd,hn,rfl,_⟩:=hx
 obtain⟨A',c',ys,rfl,hc',hm',ha',hd',hn',rfl,_⟩:=hy
 unfold maxLen at hm hm'
 by_cases hl:xs.length=ys.length
 ·have hl1:((xs.length:Int) != (ys.length:Int))=false:=by simp[hl]
  have HL:=hide hl;clear hl
  go_enter Tryz.func159,Tryz.ntmps159
  go_wp2
  go_loopw [5] (fun s5 wr=>∃k:Nat,k<=xs.length/\s5=.int .i64 ((k:Int)-1)/\(∀j,k<=j->xs.getD j 0=ys.getD j 0)/\∃m,wr=w.drewN m) (fun s5 _=>(intOf s5+1).toNat)
  case atStart=>
   refine⟨xs.length,nr _,rfl,fun j hj=>?_,0,rfl⟩
   have:=HL.out
   rw[List.getD,List.getD,List.getElem?_eq_none hj,List.getElem?_eq_none (by omega)]
  case round=>
   obtain⟨k,hk,rfl,heq,m,rfl⟩:=hrel
   by_cases hk0:0<k
   ·have hkl:k-1<xs.length:=by omega
    have hkl':k-1<ys.length:=by have:=HL.out;omega
    have hm0:(0:Int)<=(k:Int)-1:=by omega
    have hm1:(k:Int)-1<(xs.length:Int):=by omega
    have hm2:(k:Int)-1<(ys.length:Int):=by omega
    obtain⟨b,o,rfl,hb,hcell⟩:=ha.at_ (by omega)
    obtain⟨b',o',rfl,hb',hcell'⟩:=ha'.at_ (by omega)
    obtain⟨x,hx⟩:∃x,x=xs.getD (k-1) 0:=⟨_,rfl⟩
    obtain⟨y,hy⟩:∃y,y=ys.getD (k-1) 0:=⟨_,rfl⟩
    have hxc:=hcell (k-1) hkl
    have hyc:=hcell' (k-1) hkl'
    rw[<-hx] at hxc
    rw[<-hy] at hyc
    have HX:=hide (ai hx hy);clear hx hy
    have HE:=hide heq;clear heq
    have HD:=hide (ai hd hd');clear hd hd'
    clear hcell hcell' ha ha'
    rcases Int.lt_trichotomy x y with hlt|heq|hgt
    ·have HS:=hide (zbU (zbe (B:=1000000000) (by omega) HD.out.1 HD.out.2 HL.out (k-1) hkl (fun j hj=>HE.out j (by omega)) (by rw[<-HX.out.1,<-HX.out.2];exact hlt)))
     go_wp2
     go_quiet (fail)
     go_wp2
     go_ret
     exact⟨_,rfl,by rw[HS.out];rfl,by (first|exact⟨_,rfl⟩|(simp only[World.drewN_drewN];exact⟨_,rfl⟩))⟩
    ·subst heq
     go_wp2
     go_quiet (fail)
     go_wp2
     go_quiet (fail)
     go_wp2
     go_roundw
     case rel=>
      refine⟨k-1,by omega,by go_num,fun j hj=>?_,by (first|exact⟨_,rfl⟩|(simp only[World.drewN_drewN];exact⟨_,rfl⟩))⟩
      by_cases hjk:j=k-1
      ·subst hjk;rw[<-HX.out.1,<-HX.out.2]
      ·exact HE.out j (by omega)
     case measure=>simp[intOf];omega
    ·have HS:=hide (zbC (zbe (B:=1000000000) (by omega) HD.out.2 HD.out.1 HL.out.symm (k-1) hkl' (fun j hj=>(HE.out j (by omega)).symm) (by rw[<-HX.out.1,<-HX.out.2];exact hgt)))
     have hge:¬x<y:=by omega
     go_wp2
     go_quiet (fail)
     go_wp2
     go_quiet (fail)
     go_wp2
     go_ret
     exact⟨_,rfl,by rw[HS.out];rfl,by (first|exact⟨_,rfl⟩|(simp only[World.drewN_drewN];exact⟨_,rfl⟩))⟩
   ·obtain rfl:k=0:=by omega
    have hxy:xs=ys:=by
     apply List.ext_getElem HL.out
     intro i h1 h2
     have:=heq i (by omega)
     rw[List.getD,List.getD,List.getElem?_eq_getElem h1,List.getElem?_eq_getElem h2] at this
     simpa using this
    have HS:=hide (zcz (congrArg (val 1000000000) hxy));clear hxy heq
    go_wp2
    go_ret
    exact⟨_,rfl,by rw[HS.out];rfl,by (first|exact⟨_,rfl⟩|(simp only[World.drewN_drewN];exact⟨_,rfl⟩))⟩
 ·have hl1:((xs.length:Int) != (ys.length:Int))=true:=by simp;omega
  rcases Nat.lt_or_gt_of_ne hl with h|h
  ·have HS:=hide (zbU (zV (B:=1000000000) (by omega) hd hd' hn' h))
   clear ha ha' hd hd' hn hn' hl
   go_enter Tryz.func159,Tryz.ntmps159
   go_wp2
   all_goals (first|(exfalso;omega)|(go_ret;exact⟨_,rfl,by rw[HS.out];rfl,0,rfl⟩))
  ·have HS:=hide (zbC (zV (B:=1000000000) (by omega) hd' hd hn h))
   clear ha ha' hd hd' hn hn' hl
   go_enter Tryz.func159,Tryz.ntmps159
   go_wp2
   all_goals (first|(exfalso;omega)|(go_ret;exact⟨_,rfl,by rw[HS.out];rfl,0,rfl⟩))
theorem zj1 (V P cy T x m:Int) (h:V+P*cy=T*m):V+P*((cy+x*m)%1000000000)+P*1000000000*((cy+x*m) / 1000000000)=(T+P*x)*m:=by
 have e:(cy+x*m)%1000000000+1000000000*((cy+x*m) / 1000000000)=cy+x*m:=Int.emod_add_mul_ediv _ _
 grind
theorem zj2 (w:World) (A:Option Addr) (c:Nat) (xs:List Int) (m:Int) (h:Arr w A .i64 xs) (hc:xs.length<=c) (hm:c<=maxLen) (hd:Dig 1000000000 xs) (hl:xs.length<=17592186000000) (hm0:0<=m) (hm1:m<=1000000000):
  Calls Tryz.prog 202 #[.slice A xs.length c,.int .i64 m] w (Ret (limR w (val 1000000000 xs*m) (xs.length+1))):=by
 unfold maxLen at hm
 go_enter Tryz.func202,Tryz.ntmps202
 go_wp2
 go_loopw [5,6,7] (fun s5 s6 s7 wr=>∃(k:Nat) (os:List Int) (cy:Int),k<=xs.length+1/\(k<=xs.length\/cy=0)/\s7=.int .i64 k/\s6=.int .i64 cy/\0<=cy/\(cy=0\/cy<m)/\os.length=k/\Dig 1000000000 os /\
   val 1000000000 os+1000000000^k*cy=val 1000000000 (xs.take k)*m/\OwnI wr w.heap.size 3 .i64 s5 os/\Below w.heap.size w wr)
  (fun _ _ s7 _=>xs.length+1-(intOf s7).toNat)
 case atStart=>exact⟨0,[],0,Nat.zero_le _,.inl (Nat.zero_le _),rfl,rfl,by omega,.inl rfl,rfl,Dig.nil _,by simp[val],OwnI.nil _ _ _ _,blr _ _⟩
 case round=>
  obtain⟨k,os,cy,hk,hkc,rfl,rfl,hy0,hy1,hos,hdos,hval,hown,hbel⟩:=hrel
  have hosl:os.length<=17592186044000:=by omega
  have hy2:cy<1000000000:=by omega
  by_cases hkx:k<xs.length
  ·obtain⟨b,o,rfl,hbl,hcell⟩:=h.at_ (by omega)
   obtain⟨x,hx⟩:∃x,x=xs.getD k 0:=⟨_,rfl⟩
   have hxc:=(hbel.cell (p:=⟨b,o+k,none⟩) hbl).trans (hcell k hkx)
   have hxb:=hd.at_ hkx
   have htx:=zo 1000000000 xs k hkx
   rw[<-hx] at hxc hxb htx
   obtain⟨hx0,hx1⟩:=hxb
   have hxm0:0<=x*m:=Int.mul_nonneg hx0 hm0
   have hxm1:x*m<=999999999*m:=Int.mul_le_mul_of_nonneg_right (by omega) hm0
   have HT:=hide htx;clear htx
   have HV:=hide hval;clear hval
   have HX:=hide hx;clear hx
   have HL:=hide hos;clear hos
   have HK:=hide hkc;clear hkc
   have HY:=hide hy1;clear hy1
   clear hcell h hd
   go_wp2_with (at_builtin;refine app1 Tryz.limT _ rfl _ _ rfl w.heap.size _ os ((cy+x*m)%1000000000) rfl (hown.keep ((blr _ _).alloc (nr _) _)) ⟨wr.heap.size,0,none⟩ _ rfl (by simp[World.cell?_alloc_new]) hosl (by have:=hbel.size;simp;omega) ?_;intro g c1 w1 hown1 _ _ hb1)
   go_roundw
   case rel=>
    refine⟨k+1,os++[(cy+x*m)%1000000000],(cy+x*m) / 1000000000,by omega,.inl (by omega),by go_num,rfl,by omega,?_,by simp[HL.out],hdos.snoc (by omega) (by omega),?_,hown1,(hbel.alloc hbel.size _).trans hb1⟩
    ·rcases HY.out with h|h <;> omega
    ·rw[zF,HL.out,HT.out]
     have:=zj1 _ _ _ _ x _ HV.out
     rw[<-this];grind
   case measure=>simp[intOf];omega
  ·by_cases hcy:0<cy
   ·have hkl:k=xs.length:=by omega
    have hcd:decide (0<cy)=true:=by simp[hcy]
    rw[zn _ xs _ (by omega)] at hval
    have HV:=hide hval;clear hval
    have HL:=hide hos;clear hos
    have HK:=hide (ai hkc hkl);clear hkc hkl
    have HY:=hide hy1;clear hy1
    clear h hd
    go_wp2_with (at_builtin;refine app1 Tryz.limT _ rfl _ _ rfl w.heap.size _ os (cy%1000000000) rfl (hown.keep ((blr _ _).alloc (nr _) _)) ⟨wr.heap.size,0,none⟩ _ rfl (by simp[World.cell?_alloc_new]) hosl (by have:=hbel.size;simp;omega) ?_;intro g c1 w1 hown1 _ _ hb1)
    go_roundw
    case rel=>
     have e1:cy / 1000000000=0:=by omega
     have e2:cy%1000000000=cy:=by omega
     refine⟨k+1,os++[cy%1000000000],cy / 1000000000,by have:=HK.out.2;omega,.inr e1,by go_num,rfl,by omega,.inl e1,by simp[HL.out],hdos.snoc (by omega) (by omega),?_,hown1,(hbel.alloc hbel.size _).trans hb1⟩
     rw[zF,HL.out,zn _ xs _ (by have:=HK.out.2;omega),e1,e2,<-HV.out]
     simp
    case measure=>have:=HK.out.2;simp[intOf];omega
   ·have hc0:cy=0:=by omega
    subst hc0
    rw[zn _ xs _ (by omega)] at hval
    have HV:=hide hval;clear hval
    have HL:=hide hos
    have hos1:os.length<=xs.length+1:=by omega
    clear hos
    obtain⟨Ao,co,rfl,hco,hmo,harr⟩:=hown.form
    have HW:=hide (ai hown (ai harr (ai hco hmo)));clear hown harr hco hmo
    clear h hd
    go_wp2_with fail
    refine(zcr _ _ _ _ os rfl HW.out.2.1 HW.out.2.2.1 HW.out.2.2.2).mono ?_
    rintro e w' ⟨v,rfl,n,hn,rfl,rfl⟩
    have HN:=hide hn;clear hn
    go_wp2_with fail
    go_ret
    have hv:=LimV.of_trim HW.out.2.1 hdos HW.out.2.2.1 HW.out.2.2.2 HN.out
    have:=HV.out
    rw[Int.mul_zero,Int.add_zero] at this
    rw[this] at hv
    exact⟨_,rfl,hv.more hos1,hbel⟩
theorem zdL (w:World) (v:Value) (x m:Int) (L:Nat) (hx:LimV w v x L) (hL:L<=17592186000000) (hm0:0<=m) (hm1:m<=1000000000):
  Calls Tryz.prog 202 #[v,.int .i64 m] w (Ret (limR w (x*m) (L+1))):=by
 obtain⟨A,c,xs,rfl,hc,hm,h,hd,hn,rfl,hlL⟩:=hx
 refine(zj2 w A c xs m h hc hm hd (by omega) hm0 hm1).mono ?_
 rintro e w' ⟨v,rfl,h1,h2⟩
 exact⟨v,rfl,h1.more (by omega),h2⟩
def znE (w:World) (x d:Int) (L:Nat) (v:Value) (w':World):Prop:=∃q,v=.tuple #[q,.int .i64 (x%d)]/\LimV w' q (x / d) L/\Below w.heap.size w w'
theorem zly (w:World) (v:Value) (x dv:Int) (L:Nat) (hx:LimV w v x L) (hL:L<=17592186000000) (h0:0<dv) (h1:dv<=1000000000):
  Calls Tryz.prog 203 #[v,.int .i64 dv] w (Ret (znE w x dv L)):=by
 obtain⟨A,c,xs,rfl,hc,hm,h,hd,hn,rfl,hlL⟩:=hx
 unfold maxLen at hm
 have hl:xs.length<=17592186000000:=by omega
 have hmk:=zby Tryz.limT xs.length (by omega)
 go_enter Tryz.func203,Tryz.ntmps203
 go_wp2
 go_loopw [7,8] (fun s7 s8 wr=>∃(k:Nat) (os:List Int) (r:Int),k<=xs.length/\s8=.int .i64 ((k:Int)-1)/\s7=.int .i64 r/\0<=r/\r<dv/\os.length=xs.length/\Dig 1000000000 os /\
  val 1000000000 (xs.drop k)=val 1000000000 (os.drop k)*dv+r/\Blk wr w.heap.size 3 .i64 os/\Below w.heap.size w wr) (fun _ s8 _=>(intOf s8+1).toNat)
 case atStart=>exact⟨xs.length,List.replicate xs.length 0,0,nr _,rfl,rfl,by omega,h0,by simp,Dig.replicate _ (by omega) _,by simp[val],Blk.new _ _ _ _,(blr _ _).alloc (nr _) _⟩
 case round=>
  obtain⟨k,os,r,hk,rfl,rfl,hr0,hr1,hos,hdos,hval,hblk,hbel⟩:=hrel
  by_cases hk0:0<k
  ·obtain⟨b,o,rfl,hbl,hcell⟩:=h.at_ (by omega)
   obtain⟨x,hx⟩:∃x,x=xs.getD (k-1) 0:=⟨_,rfl⟩
   have hxc:=(hbel.cell (p:=⟨b,o+(k-1),none⟩) hbl).trans (hcell (k-1) (by omega))
   have hxd:=zcd xs (k-1) (by omega)
   have hxb:=hd.at_ (k:=k-1) (by omega)
   rw[<-hx] at hxb hxc hxd
   obtain⟨hx0,hx1⟩:=hxb
   obtain⟨q,hq⟩:∃q,q=os.getD (k-1) 0:=⟨_,rfl⟩
   have hqc:=hblk.cell (j:=k-1) (by omega)
   rw[<-hq] at hqc
   have hqf:=hblk.frozen (k-1)
   have HQ:=hide (ai hx hq);clear hx hq
   have HL:=hide hos;clear hos
   have HV:=hide hval;clear hval
   have HXD:=hide hxd;clear hxd
   have hb1:r*1000000000+x<dv*1000000000:=by omega
   have hq1:(r*1000000000+x) / dv<1000000000:=Int.ediv_lt_of_lt_mul h0 (by omega)
   have hq0:0<=(r*1000000000+x) / dv:=Int.ediv_nonneg (by omega) (by omega)
   have hr2:0<=(r*1000000000+x)%dv:=Int.emod_nonneg _ (by omega)
   have hr3:(r*1000000000+x)%dv<dv:=Int.emod_lt_of_pos _ h0
   clear h hd hcell hmk
   go_wp2
   go_roundw
   case rel=>
    refine⟨k-1,os.set (k-1) ((r*1000000000+x) / dv),(r*1000000000+x)%dv,by omega,by go_num,by go_num,hr2,hr3,by simp[HL.out],hdos.set_ _ hq0 hq1,?_,?_,hbel.setCell (by simp) _⟩
    ·rw[HXD.out,zbG _ _ _ (by have:=HL.out;omega),show k-1+1=k by omega]
     simp only[val]
     rw[HV.out]
     have e:=Int.emod_add_mul_ediv (r*1000000000+x) dv
     grind
    ·exact hblk.set_ _ _
   case measure=>simp[intOf];omega
  ·obtain rfl:k=0:=by omega
   simp only[List.drop_zero] at hval
   have HV:=hide hval;clear hval
   have HL:=hide hos;clear hos
   have hml:xs.length<=maxLen:=by unfold maxLen;omega
   clear h hd hmk
   go_wp2_with fail
   refine(zcr _ _ _ _ os HL.out hblk.arr (nr _) hml).mono ?_
   rintro e w' ⟨v,rfl,n,hn,rfl,rfl⟩
   have HN:=hide hn;clear hn
   go_wp2_with fail
   go_ret2
   have hv:=LimV.of_trim hblk.arr hdos (by rw[HL.out];exact nr _) hml HN.out
   have e1:val 1000000000 os=val 1000000000 xs / dv/\r=val 1000000000 xs%dv:=by
    have e:=HV.out
    have:=(Int.ediv_emod_unique (a:=val 1000000000 xs) (b:=dv) (r:=r) (q:=val 1000000000 os) h0).2 ⟨by rw[e,Int.mul_comm];exact Int.add_comm _ _,hr0,hr1⟩
    exact⟨this.1.symm,this.2.symm⟩
   refine⟨_,rfl,.slice (some ⟨w.heap.size,0,none⟩) n xs.length,?_,?_,hbel⟩
   ·rw[<-e1.2];rfl
   ·rw[<-e1.1];exact hv.more (by rw[HL.out];exact hlL)
def Fresh (n:Nat) (v:Value):Prop:=∀a l c,v=.slice (some a) l c->n<=a.block
theorem Fresh.len {n:Nat} {A:Option Addr} {l c l' c':Nat} (h:Fresh n (.slice A l c)):Fresh n (.slice A l' c'):=by
 intro a m d e
 injection e with e1 e2 e3
 exact h a l c (by rw[e1])
theorem Fresh.mono {n m:Nat} {v:Value} (h:Fresh n v) (hm:m<=n):Fresh m v:=fun a l c e=>Nat.le_trans hm (h a l c e)
theorem OwnI.fresh {w:World} {base:Nat} {e:TypeId} {k:IntKind} {v:Value} {xs:List Int} (h:OwnI w base e k v xs):Fresh base v:=by
 intro a l c e
 rcases h.2 with ⟨h2,_⟩|⟨g,cap,cur,hv,hg,_⟩
 ·rw[h2] at e;cases e
 ·rw[hv] at e;injection e with e1 e2 e3;injection e1 with e1;rw[<-e1];exact hg
def limF (w:World) (x:Int) (L:Nat) (v:Value) (w':World):Prop:=LimV w' v x L/\Below w.heap.size w w'/\Fresh w.heap.size v
theorem zmR (V P bo T U x y:Int) (k:Nat) (hP:P=1000000000^k) (h:V-1000000000^k*bo=T-U):V+1000000000^k*(x-bo-y+1000000000)-1000000000^(k+1)*1=T+1000000000^k*x-(U+1000000000^k*y):=by
 rw[Int.pow_succ,<-hP] at *
 grind
theorem zmS (V P bo T U x y:Int) (k:Nat) (hP:P=1000000000^k) (h:V-1000000000^k*bo=T-U):V+1000000000^k*(x-bo-y)-1000000000^(k+1)*0=T+1000000000^k*x-(U+1000000000^k*y):=by
 rw[<-hP] at *
 grind
theorem zmT (V P bo T U x:Int) (k:Nat) (hP:P=1000000000^k) (h:V-1000000000^k*bo=T-U):V+1000000000^k*(x-bo+1000000000)-1000000000^(k+1)*1=T+1000000000^k*x-U:=by
 rw[Int.pow_succ,<-hP] at *
 grind
theorem zmU (V P bo T U x:Int) (k:Nat) (hP:P=1000000000^k) (h:V-1000000000^k*bo=T-U):V+1000000000^k*(x-bo)-1000000000^(k+1)*0=T+1000000000^k*x-U:=by
 rw[<-hP] at *
 grind
theorem zj3 (w:World) (A A':Option Addr) (c c':Nat) (xs ys:List Int) (h:Arr w A .i64 xs) (hc:xs.length<=c) (hm:c<=maxLen) (h':Arr w A' .i64 ys) (hc':ys.length<=c') (hm':c'<=maxLen)
  (hd:Dig 1000000000 xs) (hd':Dig 1000000000 ys) (hl:xs.length<=17592186000000) (hyx:ys.length<=xs.length) (hle:val 1000000000 ys<=val 1000000000 xs):
  Calls Tryz.prog 160 #[.slice A xs.length c,.slice A' ys.length c'] w (Ret (limF w (val 1000000000 xs-val 1000000000 ys) xs.length)):=by
 unfold maxLen at hm hm'
 go_enter Tryz.func160,Tryz.ntmps160
 go_wp2
 go_loopw [5,6,7] (fun s5 s6 s7 wr=>∃(k:Nat) (os:List Int) (bo:Int),k<=xs.length/\s7=.int .i64 k/\s6=.int .i64 bo/\0<=bo/\bo<=1/\os.length=k/\Dig 1000000000 os /\
   val 1000000000 os-1000000000^k*bo=val 1000000000 (xs.take k)-val 1000000000 (ys.take k)/\OwnI wr w.heap.size 3 .i64 s5 os/\Below w.heap.size w wr)
  (fun _ _ s7 _=>xs.length-(intOf s7).toNat)
 case atStart=>exact⟨0,[],0,Nat.zero_le _,rfl,rfl,by omega,by omega,rfl,Dig.nil _,by simp[val],OwnI.nil _ _ _ _,blr _ _⟩
 case round=>
  obtain⟨k,os,bo,hk,rfl,rfl,hy0,hy1,hos,hdos,hval,hown,hbel⟩:=hrel
  have hosl:os.length<=17592186044000:=by omega
  by_cases hkx:k<xs.length
  ·obtain⟨b,o,rfl,hbl,hcell⟩:=h.at_ (by omega)
   obtain⟨x,hx⟩:∃x,x=xs.getD k 0:=⟨_,rfl⟩
   have hxc:=(hbel.cell (p:=⟨b,o+k,none⟩) hbl).trans (hcell k hkx)
   have hxb:=hd.at_ hkx
   have htx:=zo 1000000000 xs k hkx
   rw[<-hx] at hxc hxb htx
   obtain⟨hx0,hx1⟩:=hxb
   have HLE:=hide hle;clear hle
   by_cases hky:k<ys.length
   ·obtain⟨b',o',rfl,hbl',hcell'⟩:=h'.at_ (by omega)
    obtain⟨y,hy⟩:∃y,y=ys.getD k 0:=⟨_,rfl⟩
    have hyc:=(hbel.cell (p:=⟨b',o'+k,none⟩) hbl').trans (hcell' k hky)
    have hyb:=hd'.at_ hky
    have hty:=zo 1000000000 ys k hky
    rw[<-hy] at hyc hyb hty
    obtain⟨hyl,hyu⟩:=hyb
    have HT:=hide (ai htx hty);clear htx hty
    have HX:=hide (ai hx hy);clear hx hy
    clear hcell hcell' h h' hd hd'
    have HV:=hide hval;clear hval
    have HL:=hide hos;clear hos
    by_cases hneg:x-bo-y<0
    ·have hnd:decide (x-bo-y<0)=true:=by simp[hneg]
     go_wp2_with (at_builtin;refine app1 Tryz.limT _ rfl _ _ rfl w.heap.size _ os (x-bo-y+1000000000) rfl (hown.keep ((blr _ _).alloc (nr _) _)) ⟨wr.heap.size,0,none⟩ _ rfl (by simp[World.cell?_alloc_new]) hosl (by have:=hbel.size;simp;omega) ?_;intro g c1 w1 hown1 _ _ hb1)
     go_roundw
     case rel=>
      refine⟨k+1,os++[x-bo-y+1000000000],1,by omega,by go_num,rfl,by omega,by omega,by simp[HL.out],hdos.snoc (by omega) (by omega),?_,hown1,(hbel.alloc hbel.size _).trans hb1⟩
      rw[zF,HL.out,HT.out.1,HT.out.2]
      have:=HV.out
      exact zmR _ _ _ _ _ _ _ k rfl this
     case measure=>simp[intOf];omega
    ·have hnd:decide (x-bo-y<0)=false:=by rw[decide_eq_false_iff_not];exact hneg
     go_wp2_with (at_builtin;refine app1 Tryz.limT _ rfl _ _ rfl w.heap.size _ os (x-bo-y) rfl (hown.keep ((blr _ _).alloc (nr _) _)) ⟨wr.heap.size,0,none⟩ _ rfl (by simp[World.cell?_alloc_new]) hosl (by have:=hbel.size;simp;omega) ?_;intro g c1 w1 hown1 _ _ hb1)
     go_roundw
     case rel=>
      refine⟨k+1,os++[x-bo-y],0,by omega,by go_num,rfl,by omega,by omega,by simp[HL.out],hdos.snoc (by omega) (by omega),?_,hown1,(hbel.alloc hbel.size _).trans hb1⟩
      rw[zF,HL.out,HT.out.1,HT.out.2]
      have:=HV.out
      exact zmS _ _ _ _ _ _ _ k rfl this
     case measure=>simp[intOf];omega
   ·have hty1:=zn 1000000000 ys k (by omega)
    have hty2:=zn 1000000000 ys (k+1) (by omega)
    have HT:=hide (ai htx (ai hty1 hty2));clear htx hty1 hty2
    have HX:=hide hx;clear hx
    clear hcell h h' hd hd'
    have HV:=hide hval;clear hval
    have HL:=hide hos;clear hos
    by_cases hneg:x-bo<0
    ·have hnd:decide (x-bo<0)=true:=by simp[hneg]
     go_wp2_with (at_builtin;refine app1 Tryz.limT _ rfl _ _ rfl w.heap.size _ os (x-bo+1000000000) rfl (hown.keep ((blr _ _).alloc (nr _) _)) ⟨wr.heap.size,0,none⟩ _ rfl (by simp[World.cell?_alloc_new]) hosl (by have:=hbel.size;simp;omega) ?_;intro g c1 w1 hown1 _ _ hb1)
     go_roundw
     case rel=>
      refine⟨k+1,os++[x-bo+1000000000],1,by omega,by go_num,rfl,by omega,by omega,by simp[HL.out],hdos.snoc (by omega) (by omega),?_,hown1,(hbel.alloc hbel.size _).trans hb1⟩
      rw[zF,HL.out,HT.out.1,HT.out.2.2]
      have:=HV.out
      rw[HT.out.2.1] at this
      exact zmT _ _ _ _ _ _ k rfl this
     case measure=>simp[intOf];omega
    ·have hnd:decide (x-bo<0)=false:=by rw[decide_eq_false_iff_not];exact hneg
     go_wp2_with (at_builtin;refine app1 Tryz.limT _ rfl _ _ rfl w.heap.size _ os (x-bo) rfl (hown.keep ((blr _ _).alloc (nr _) _)) ⟨wr.heap.size,0,none⟩ _ rfl (by simp[World.cell?_alloc_new]) hosl (by have:=hbel.size;simp;omega) ?_;intro g c1 w1 hown1 _ _ hb1)
     go_roundw
     case rel=>
      refine⟨k+1,os++[x-bo],0,by omega,by go_num,rfl,by omega,by omega,by simp[HL.out],hdos.snoc (by omega) (by omega),?_,hown1,(hbel.alloc hbel.size _).trans hb1⟩
      rw[zF,HL.out,HT.out.1,HT.out.2.2]
      have:=HV.out
      rw[HT.out.2.1] at this
      exact zmU _ _ _ _ _ _ k rfl this
     case measure=>simp[intOf];omega
  ·obtain rfl:k=xs.length:=by omega
   rw[List.take_of_length_le (nr _),zn _ ys _ hyx] at hval
   have hvl:=zam (B:=1000000000) (by omega) hdos
   rw[hos] at hvl
   have hb0:bo=0:=by
    have hp:=zbJ (B:=1000000000) (by omega) xs.length
    have hbo:bo=0\/bo=1:=by omega
    rcases hbo with h0|h0
    ·exact h0
    ·rw[h0] at hval;omega
   subst hb0
   rw[Int.mul_zero,Int.sub_zero] at hval
   have HV:=hide hval;clear hval hvl
   have HL:=hide hos;clear hos
   have HLE:=hide hle;clear hle
   obtain⟨Ao,co,rfl,hco,hmo,harr⟩:=hown.form
   have HW:=hide (ai hown (ai harr (ai hco hmo)));clear hown harr hco hmo
   clear h h' hd hd'
   go_wp2_with fail
   refine(zcr _ _ _ _ os rfl HW.out.2.1 HW.out.2.2.1 HW.out.2.2.2).mono ?_
   rintro e w' ⟨v,rfl,n,hn,rfl,rfl⟩
   have HN:=hide hn;clear hn
   go_wp2_with fail
   go_ret
   have hv:=LimV.of_trim HW.out.2.1 hdos HW.out.2.2.1 HW.out.2.2.2 HN.out
   rw[HV.out] at hv
   exact⟨_,rfl,hv.more (by rw[HL.out];exact nr _),hbel,HW.out.1.fresh.len⟩
theorem zdM (w:World) (v v':Value) (x y:Int) (L L':Nat) (hx:LimV w v x L) (hy:LimV w v' y L') (hL:L<=17592186000000) (hle:y<=x):
  Calls Tryz.prog 160 #[v,v'] w (Ret (limF w (x-y) L)):=by
 obtain⟨A,c,xs,rfl,hc,hm,ha,hd,hn,rfl,hl⟩:=hx
 obtain⟨A',c',ys,rfl,hc',hm',ha',hd',hn',rfl,hl'⟩:=hy
 have hyx:ys.length<=xs.length:=by
  rcases Nat.lt_or_ge xs.length ys.length with h|h
  ·have:=zV (B:=1000000000) (by omega) hd hd' hn' h;omega
  ·exact h
 refine(zj3 w A A' c c' xs ys ha hc hm ha' hc' hm' hd hd' (by omega) hyx hle).mono ?_
 rintro e w' ⟨v,rfl,h1,h2,h3⟩
 exact⟨v,rfl,h1.more (by omega),h2,h3⟩
def guess9 (top high:Int):Int:=max 1 (min 999999999 (top / high))
theorem zlz (B:Int) (xs:List Int) (k:Nat) (h:k<=xs.length):val B xs=val B (xs.take k)+B^k*val B (xs.drop k):=by
 have e:=zag B (xs.take k) (xs.drop k)
 rw[List.take_append_drop,List.length_take,Nat.min_eq_left h] at e
 exact e
theorem zbN (top high:Int):1<=guess9 top high/\guess9 top high<=999999999:=by
 unfold guess9;omega
theorem zdN (rs ys:List Int) (hd:Dig 1000000000 rs) (hd':Dig 1000000000 ys) (hy:0<ys.length) (hr:ys.length<=rs.length) (hle:val 1000000000 ys<=val 1000000000 rs):
  val 1000000000 ys*guess9 (val 1000000000 (rs.drop (ys.length-1))) (ys.getD (ys.length-1) 0+1)<=val 1000000000 rs:=by
 obtain⟨m,hm⟩:∃m,m=ys.length-1:=⟨_,rfl⟩
 rw[<-hm]
 have hP:=zbJ (B:=1000000000) (by omega) m
 have e1:=zlz 1000000000 rs m (by omega)
 have e2:=zo 1000000000 ys m (by omega)
 rw[List.take_of_length_le (show ys.length<=m+1 by omega)] at e2
 have b1:=zC (B:=1000000000) (by omega) (hd.take m)
 have b2:=zC (B:=1000000000) (by omega) (hd.drop m)
 have b3:=zam (B:=1000000000) (by omega) (hd'.take m)
 rw[List.length_take,Nat.min_eq_left (by omega)] at b3
 have b4:=hd'.at_ (k:=m) (by omega)
 have b5:=zC (B:=1000000000) (by omega) hd'
 have hdiv:=Int.ediv_mul_le (val 1000000000 (rs.drop m)) (show ys.getD m 0+1≠0 by omega)
 have hdn:0<=val 1000000000 (rs.drop m) / (ys.getD m 0+1):=Int.ediv_nonneg b2 (by omega)
 generalize hT:val 1000000000 (rs.drop m)=top at *
 generalize hY:ys.getD m 0=yt at *
 generalize hP2:(1000000000:Int)^m=P at *
 have hy1:val 1000000000 ys<=P*(yt+1):=by rw[e2];grind
 unfold guess9
 generalize hq:top / (yt+1)=q at *
 by_cases hq1:q<1
 ·rw[show max 1 (min 999999999 q)=1 by omega,Int.mul_one];exact hle
 ·have h1:max 1 (min 999999999 q)<=q:=by omega
  have h2:val 1000000000 ys*max 1 (min 999999999 q)<=(P*(yt+1))*q:=
   Int.le_trans (Int.mul_le_mul_of_nonneg_right hy1 (by omega)) (Int.mul_le_mul_of_nonneg_left h1 (Int.mul_nonneg (by omega) (by omega)))
  have h3:P*(yt+1)*q<=P*top:=by
   have:=Int.mul_le_mul_of_nonneg_left hdiv (show 0<=P by omega)
   rw[Int.mul_assoc,Int.mul_comm (yt+1) q];exact this
  rw[e1];omega
theorem zj4 (V Y q t z r T:Int) (h1:T=z+1000000000*r) (h2:T=q*Y+t):z+1000000000*(V*Y+r)=(q+1000000000*V)*Y+t:=by
 rw[h1] at h2
 have e:(q+1000000000*V)*Y=q*Y+1000000000*(V*Y):=by rw[Int.add_mul,Int.mul_assoc]
 rw[e];omega
theorem ze1 (Y q t T:Int) (hY:0<Y) (h2:T=q*Y+t) (ht:0<=t) (hT:T<Y*1000000000):q<1000000000:=by
 rcases Int.lt_or_le q 1000000000 with h|h
 ·exact h
 ·exfalso
  have:=Int.mul_le_mul_of_nonneg_right h (show 0<=Y by omega)
  rw[Int.mul_comm 1000000000 Y] at this
  omega
theorem zlA (x y d V r:Int) (hd:0<d) (hy:0<y) (h:x*d=V*(y*d)+r) (h0:0<=r) (h1:r<y*d):V=x / y/\r / d=x%y:=by
 have e:r=(x-V*y)*d:=by rw[Int.sub_mul,Int.mul_assoc];omega
 have e1:r / d=x-V*y:=by rw[e,Int.mul_ediv_cancel _ (by omega)]
 have b0:0<=x-V*y:=by rw[<-e1];exact Int.ediv_nonneg h0 (by omega)
 have b1:x-V*y<y:=by rw[<-e1];exact Int.ediv_lt_of_lt_mul hd h1
 have:=(Int.ediv_emod_unique (a:=x) (b:=y) (r:=x-V*y) (q:=V) hy).2 ⟨by rw[Int.mul_comm y V];omega,b0,b1⟩
 exact⟨this.1.symm,by rw[e1,<-this.2]⟩
theorem LimV.put {w:World} {v:Value} {x:Int} {L n Q i:Nat} {u:Value} (h:LimV w v x L) (hf:Fresh n v) (hQ:Q<n):LimV (w.setCell ⟨Q,i,none⟩ u) v x L:=by
 obtain⟨A,c,xs,rfl,h1,h2,h3,h4⟩:=h
 refine⟨A,c,xs,rfl,h1,h2,?_,h4⟩
 intro hx
 obtain⟨b,o,rfl,ht,hc⟩:=h3 hx
 have hb:n<=b:=hf _ _ _ rfl
 refine⟨b,o,rfl,ht.setCell _ _,fun j hj=>?_⟩
 rw[World.cell?_setCell_other _ _ _ _ (by intro e;injection e with e1;omega)]
 exact hc j hj
theorem appN {P:Program} {t e:TypeId} {k:IntKind} {bytes:Nat} (S:zdj P t e k bytes) (w:World) {ops:Array Oper} {rest:List Oper} {o:Oper} {a:Act} {Q:Exit->Act->World->Prop} (hgd:o.guard=none) (s x:Operand)
  (ho:o.op=.call { callee:=.builtin .append,args:=#[s,x],argTypes:=#[t,t] })
  (base:Nat) (v:Value) (xs ys:List Int) (hs:a.eval s=v) (hown:OwnI w base e k v xs)
  (A:Option Addr) (c:Nat) (hx:a.eval x=.slice A ys.length c) (hy:Arr w A k ys) (hx0:0<xs.length)
  (hlen:xs.length+ys.length<=17592186044000) (hbase:base<=w.heap.size)
  (zs:List Int) (hzs:zs=xs++ys) (h:∀g c' w',OwnI w' base e k (.slice (some ⟨g,0,none⟩) zs.length c') zs->zs.length<=c'->c'<=maxLen->base<=g->Below base w w' ->
   wpList P ops Q rest (a.put o.dst (.slice (some ⟨g,0,none⟩) zs.length c')) w'):wpList P ops Q (o::rest) a w:=by
 subst hzs
 rw[List.length_append] at h
 obtain⟨i,hi,hz,hsz,hby⟩:=info_parts S.hi
 have hb:=S.hb
 rcases Nat.eq_zero_or_pos ys.length with hy0|hy0
 ·obtain rfl:ys=[]:=List.eq_nil_of_length_eq_zero hy0
  rcases hown.2 with ⟨_,h00⟩|⟨g,cap,cur,rfl,hgb,hh,hc,hm,_,_⟩
  ·omega
  have hsrc:Src P i.size t (.slice A ([]:List Int).length c) 0 [] w:=by
   cases A with
   | none=>exact Src.ofNil w S.ht c
   | some ad=>exact Src.ofSlice w S.ht ad 0 c [] (by simp) (fun j u hj=>by simp at hj) (fun u hu=>by cases hu)
  have hr:=run_append_nothing w t t o.type e i S.ht hi (some ⟨g,0,none⟩) xs.length cap hc _ hsrc
  refine wpList_plain hgd fun _ hK=>?_
  unfold Oper.wp execOp
  simp only[ho,resolve,invoke,builtin,Sem.run_bind,Sem.run_pure,Result.andThen_ok,List.map_toArray,List.map_cons,List.map_nil,hs,hx,hr]
  exact hK _ _ (h g cap w (by rw[List.append_nil];exact hown) hc hm hgb (blr _ _))
 obtain⟨b,oo,rfl,_,hc⟩:=hy hy0
 refine wpList_append_lies w hgd s x t ho base e i (.int k 0) 1 bytes S.ht hi hz hsz hby rfl (by decide) v xs.length (xs.map (Value.int k)) hs hown ⟨b,oo,none⟩ ys.length c (ys.map (Value.int k)) hx (by simp) ?_ ?_ hy0 ?_ ?_ hbase w.heap.size rfl ?_
 ·intro j u hj
  rw[List.getElem?_map,Option.map_eq_some_iff] at hj
  obtain⟨d,hd,rfl⟩:=hj
  have hjl:=(List.getElem?_eq_some_iff.1 hd).1
  have:=hc j hjl
  rw[List.getD,hd] at this
  rw[show (Addr.add ⟨b,oo,none⟩ j)=⟨b,oo+j,none⟩ by unfold Addr.add;split <;> simp_all]
  exact this
 ·intro u hu
  rw[List.mem_map] at hu
  obtain⟨d,_,rfl⟩:=hu
  rfl
 ·unfold maxLen;omega
 ·have:=Nat.mul_le_mul_left (xs.length+ys.length) hb;omega
 ·intro g cap w' hown' hg hor hlt
  have hbl:Below base w w':=(blr _ _).grown hg hbase fun g hgv=>(hown.lt g hgv).1
  have hown2:OwnI w' base e k (.slice (some ⟨g,0,none⟩) (xs.length+ys.length) cap) (xs++ys):=by unfold OwnI;simpa using hown'
  rcases hown'.2 with ⟨_,h0⟩|⟨g',cap',cur,hv,hgb,_,hc,hm,_,_⟩
  ·omega
  ·injection hv with e1 e2 e3
   injection e1 with e1
   injection e1 with e1
   subst e1 e3
   exact h g cap w' hown2 hc hm hgb hbl
def divR9 (w:World) (x y:Int) (L L':Nat) (v:Value) (w':World):Prop:=∃q r,v=.tuple #[q,r]/\LimV w' q (x / y) L/\LimV w' r (x%y) L'/\Below w.heap.size w w'
theorem ziw (w:World) (x:Int):OwnI (w.alloc (.cells #[.int .i64 x] 3)) w.heap.size 3 .i64 (.slice (some ⟨w.heap.size,0,none⟩) 1 1) [x]:=
 ⟨rfl,.inr ⟨w.heap.size,1,#[.int .i64 x],rfl,nr _,heap_alloc_new w _,nr _,by simp[maxLen],rfl,rfl⟩⟩
theorem zix {w:World} {base g c n:Nat} {xs:List Int} (h:OwnI w base 3 .i64 (.slice (some ⟨g,0,none⟩) n c) xs):Arr w (some ⟨g,0,none⟩) .i64 xs:=by
 obtain⟨A,c',e,_,_,ha⟩:=h.form
 injection e with e1 e2 e3
 rw[e1];exact ha
theorem zj5 {x:Int} {rs:List Int} (h0:0<=x) (h1:x<1000000000) (h:Dig 1000000000 rs):Dig 1000000000 (x::rs):=Dig.cons.2 ⟨⟨h0,h1⟩,h⟩
set_option maxHeartbeats 4000000 in
theorem zj6 (w:World) (v v':Value) (x y:Int) (L L':Nat) (hx:LimV w v x L) (hy:LimV w v' y L') (hL:L<=17592185000000) (hL':L'<=17592185000000) (hy0:0<y):
  Calls Tryz.prog 184 #[v,v'] w (Ret (divR9 w x y L L')):=by
 have HA:=hide (ai hx hy)
 have hx0:=hx.nonneg
 obtain⟨A,c,xs,rfl,hc,hm,_⟩:=hx
 obtain⟨A',c',ys,rfl,hc',hm',ha',hd',hn',hvy,hl'⟩:=hy
 have hyl:0<ys.length:=by
  rcases Nat.eq_zero_or_pos ys.length with h|h
  ·rw[List.eq_nil_of_length_eq_zero h] at hvy;simp[val] at hvy;omega
  ·exact h
 obtain⟨b',o',rfl,hbl',hcell'⟩:=ha'.at_ hyl
 obtain⟨yt,hyt⟩:∃yt,yt=ys.getD (ys.length-1) 0:=⟨_,rfl⟩
 have hyc:=hcell' (ys.length-1) (by omega)
 have hyb:=hd'.at_ (k:=ys.length-1) (by omega)
 have hyn:=hn'.last hyl
 rw[<-hyt] at hyc hyb hyn
 unfold maxLen at hm hm'
 obtain⟨hyb0,hyb1⟩:=hyb
 have hdv0:1<=1000000000 / (yt+1):=(Int.le_ediv_iff_mul_le (by omega)).2 (by omega)
 have hdv1:1000000000 / (yt+1)<=1000000000:=Int.ediv_le_self _ (by omega)
 have HY:=hide (ai hyt (ai hvy hyn));clear hyt hvy hyn hn' hd' ha' hcell'
 obtain⟨d,hd⟩:∃d,d=1000000000 / (yt+1):=⟨_,rfl⟩
 rw[<-hd] at hdv0 hdv1
 have HD:=hide hd;clear hd
 go_enter Tryz.func184,Tryz.ntmps184
 go_wp2_with fail
 rw[<-HD.out]
 refine(zdL _ _ x d L HA.out.1 (by omega) (by omega) hdv1).mono ?_
 rintro e w1 ⟨v1,rfl,hv1,hd1⟩
 have HV1:=hide hv1;clear hv1
 go_wp2_with fail
 refine(zdL _ _ y d L' (HA.out.2.below hd1) (by omega) (by omega) hdv1).mono ?_
 rintro e w2 ⟨v2,rfl,hv2,hd2⟩
 have hv1:=HV1.out.below hd2
 have hb2:=bnx hd1 hd2
 obtain⟨X,hX⟩:∃X,X=x*d:=⟨_,rfl⟩
 obtain⟨Y,hY⟩:∃Y,Y=y*d:=⟨_,rfl⟩
 rw[<-hX] at hv1
 rw[<-hY] at hv2
 have hY0:0<Y:=by rw[hY];exact Int.mul_pos hy0 (by omega)
 clear HV1 hyc hyb0 hyb1 hbl'
 obtain⟨A1,c1,zs,rfl,hc1,hm1,ha1,hzd,hzn,hzv,hzl⟩:=hv1.open_
 obtain⟨A2,c2,us,rfl,hc2,hm2,ha2,hud,hun,huv,hul⟩:=hv2.open_
 have hul0:0<us.length:=by
  rcases Nat.eq_zero_or_pos us.length with h|h
  ·rw[List.eq_nil_of_length_eq_zero h] at huv;simp[val] at huv;omega
  ·exact h
 obtain⟨b2,o2,rfl,hbl2,hcell2⟩:=ha2.at_ hul0
 obtain⟨ut,hut⟩:∃ut,ut=us.getD (us.length-1) 0:=⟨_,rfl⟩
 have huc:=hcell2 (us.length-1) (by omega)
 have hub:=hud.at_ (k:=us.length-1) (by omega)
 rw[<-hut] at huc hub
 obtain⟨hub0,hub1⟩:=hub
 unfold maxLen at hm1 hm2
 have HZ:=hide (ai hv1 (ai ha1 (ai hzd (ai hzn hzv))))
 have HU:=hide (ai hv2 (ai ha2 (ai hud (ai hun (ai huv hut)))))
 have HX:=hide (ai hX (ai hY hb2))
 clear hv1 ha1 hzd hzn hzv hv2 ha2 hud hun huv hut hX hY hb2 hcell2 hd1 hd2
 have hmk:=zby Tryz.limT zs.length (by omega)
 have hu1:(0:Int)<=(us.length:Int)-1:=by omega
 have hu2:(us.length:Int)-1<(us.length:Int):=by omega
 go_wp2
 go_loopw [11,12] (fun s11 s12 wr=>∃(k:Nat) (os:List Int) (r:Int),k<=zs.length/\s12=.int .i64 ((k:Int)-1)/\LimV wr s11 r us.length/\Fresh (w2.heap.size+1) s11/\os.length=zs.length/\Dig 1000000000 os /\
   val 1000000000 (zs.drop k)=val 1000000000 (os.drop k)*Y+r/\0<=r/\r<Y/\Blk wr w2.heap.size 3 .i64 os/\Below w2.heap.size w2 wr/\∀j,j<k->os.getD j 0=0) (fun _ s12 _=>(intOf s12+1).toNat)
 case atStart=>exact⟨zs.length,List.replicate zs.length 0,0,nr _,rfl,LimV.nil _ _,(by intro a l c e;cases e),by simp,Dig.replicate _ (by omega) _,by simp[val],Int.le_refl _,hY0,Blk.new _ _ _ _,(blr _ _).alloc (nr _) _,fun j hj=>by simp[List.getD,hj]⟩
 case round=>
  obtain⟨wo,rfl⟩:∃wo:World,wo=wr:=⟨_,rfl⟩
  obtain⟨k,os,r,hk,rfl,hr,hfr,hos,hdos,hval,hr0,hr1,hblk,hbel,hzero⟩:=hrel
  by_cases hk0:0<k
  ·have hkl:k-1<zs.length:=by omega
   obtain⟨b1,o1,rfl,hbl1,hcell1⟩:=HZ.out.2.1.at_ (by omega)
   obtain⟨z,hz⟩:∃z,z=zs.getD (k-1) 0:=⟨_,rfl⟩
   have hzc:=(hbel.cell (p:=⟨b1,o1+(k-1),none⟩) hbl1).trans (hcell1 (k-1) hkl)
   have hzx:=zcd zs (k-1) hkl
   have hzb:=HZ.out.2.2.1.at_ (k:=k-1) hkl
   rw[<-hz] at hzb hzc hzx
   obtain⟨hzb0,hzb1⟩:=hzb
   obtain⟨Ar,cr,rs,rfl,hcr,hmr,har,hrd,hrn,hrv,hrl⟩:=hr.open_
   have HR:=hide (ai hr (ai har (ai hrd (ai hrn (ai hrv (ai hval (ai hos (ai hdos (ai hblk (ai hbel (ai hzx (ai hz (ai hfr (ai hmr hzero))))))))))))))
   clear hr har hrd hrn hrv hval hos hdos hblk hzx hz hcell1 hmk hmr hfr hzero
   have hbs:w2.heap.size<=wo.heap.size:=hbel.size
   go_wp2_with (at_builtin;refine appN Tryz.limT _ rfl _ _ rfl wo.heap.size _ [z] rs rfl (ziw wo z) _ cr rfl (HR.out.2.1.below ((blr _ _).alloc (nr _) _)) (by simp) (by simp;omega) (by simp) (z::rs) rfl ?_;intro g3 c3 w3 hown3 hc3 hm3 hg3 hd3)
   have hb3:Below wo.heap.size wo w3:=((blr _ _).alloc (nr _) _).trans hd3
   have harr3:=hown3.form
   have hfr3:=hown3.fresh
   have HO:=hide (ai hown3 (ai harr3 (ai hfr3 (ai hc3 (ai hm3 hb3)))));clear hown3 harr3 hfr3 hc3 hm3 hd3 hb3
   have hdg:Dig 1000000000 (z::rs):=zj5 hzb0 hzb1 HR.out.2.2.1
   refine(zcr _ _ _ _ (z::rs) rfl (zix HO.out.1) HO.out.2.2.2.1 HO.out.2.2.2.2.1).mono ?_
   rintro e w4 ⟨_,rfl,nn,hnn,rfl,rfl⟩
   have hr4:=LimV.of_trim (zix HO.out.1) hdg HO.out.2.2.2.1 HO.out.2.2.2.2.1 hnn
   obtain⟨T,hT⟩:∃T,T=z+1000000000*r:=⟨_,rfl⟩
   have hTv:val 1000000000 (z::rs)=T:=by rw[hT,<-HR.out.2.2.2.2.1];rfl
   rw[hTv] at hr4
   have hT0:0<=T:=by rw[hT];omega
   have hTY:T<Y*1000000000:=by rw[hT];omega
   have hYb:Y<1000000000^us.length:=by have:=zam (B:=1000000000) (by omega) HU.out.2.2.1;rw[HU.out.2.2.2.2.1] at this;exact this
   replace hr4:=hr4.fit (L':=us.length+1) (by rw[Int.pow_succ];omega)
   have hfr4:Fresh (w2.heap.size+1) (.slice (some ⟨g3,0,none⟩) nn c3):=by
    have h1:=HO.out.2.2.1
    have h2:=HR.out.2.2.2.2.2.2.2.2.1.lt
    exact(h1.mono (by omega)).len
   have hb4:Below w2.heap.size w2 w3:=HR.out.2.2.2.2.2.2.2.2.2.1.trans (HO.out.2.2.2.2.2.mono hbs)
   have hset:os.set (k-1) 0=os:=by
    have h1:=HR.out.2.2.2.2.2.2.2.2.2.2.2.2.2.2 (k-1) (by omega)
    apply List.ext_getElem (by simp)
    intro i h2 h3
    rw[List.getElem_set]
    split
    ·rename_i h4;subst h4;rw[List.getD,List.getElem?_eq_getElem h3] at h1;simpa using h1.symm
    ·rfl
   have hblk4:Blk w3 w2.heap.size 3 .i64 (os.set (k-1) 0):=by rw[hset];exact HR.out.2.2.2.2.2.2.2.2.1.below HO.out.2.2.2.2.2 HR.out.2.2.2.2.2.2.2.2.1.lt
   have HT:=hide (ai hr4 (ai hfr4 (ai hb4 (ai hblk4 (ai hT hnn)))))
   have HYB:=hide hYb
   clear hr4 hfr4 hb4 hblk4 hT hnn hset hdg hTv hYb hzc
   go_wp2
   go_loopg [11] (T.toNat) (fun g s11 wr=>∃(t q:Int),LimV wr s11 t (us.length+1)/\Fresh (w2.heap.size+1) s11/\g=t.toNat/\0<=q/\T=q*Y+t/\0<=t/\Blk wr w2.heap.size 3 .i64 (os.set (k-1) q)/\Below w2.heap.size w2 wr)
   case atStart=>exact⟨T,0,HT.out.1,HT.out.2.1,rfl,Int.le_refl _,by omega,hT0,HT.out.2.2.2.1,HT.out.2.2.1⟩
   case round=>
    obtain⟨w5,rfl⟩:∃w5:World,w5=wr:=⟨_,rfl⟩
    obtain⟨t,q,ht,hft,rfl,hq0,hTq,ht0,hbq,hb5⟩:=hrel
    by_cases hlt:t<Y
    ·have hsg:=zbU hlt
     have hv2:=HU.out.1.below hb5
     have HH:=hide (ai ht (ai hft (ai hTq (ai hbq (ai hb5 hsg)))));clear ht hft hTq hbq hb5 hsg
     obtain⟨At,ct,ts,rfl,_⟩:=HH.out.1.open_
     have HV2:=hide hv2;clear hv2
     go_wp2_with fail
     refine(ze0 _ _ _ t Y _ _ HH.out.1 HV2.out).mono ?_
     rintro e w6 ⟨_,rfl,rfl,m,rfl⟩
     rw[HH.out.2.2.2.2.2]
     go_wp2
     go_roundw
     case rel=>
      obtain⟨h1,h2,h3,h4,h5,_⟩:=HH.out
      have hbd:=(blr w5.heap.size w5)
      have hqB:=ze1 Y q t T hY0 h3 ht0 hTY
      have hol:=HR.out.2.2.2.2.2.2.1
      refine⟨k-1,os.set (k-1) q,t,by omega,by go_num,?_,h2,by rw[List.length_set];exact hol,HR.out.2.2.2.2.2.2.2.1.set_ _ hq0 hqB,?_,ht0,hlt,h4.keep (zw hbd m),zw h5 m,?_⟩
      ·exact(h1.below (zw hbd m)).fit (Int.lt_trans hlt HYB.out)
      ·rw[HR.out.2.2.2.2.2.2.2.2.2.2.1,zbG _ _ _ (by rw[hol];omega),show k-1+1=k by omega]
       simp only[val]
       rw[HR.out.2.2.2.2.2.1]
       exact zj4 _ _ _ _ _ _ _ HT.out.2.2.2.2.1 h3
      ·intro j hj
       rw[zaZ (by omega)]
       exact HR.out.2.2.2.2.2.2.2.2.2.2.2.2.2.2 j (by omega)
     case measure=>simp[intOf];omega
    ·obtain⟨sg,hsg,hsg0⟩:∃sg,sgn t Y=sg/\0<=sg:=by
      rcases Int.lt_or_eq_of_le (show Y<=t by omega) with h|h
      ·exact⟨1,zbC h,by omega⟩
      ·exact⟨0,zcz h.symm,by omega⟩
     have hv2:=HU.out.1.below hb5
     obtain⟨At,ct,ts,rfl,hct,hmt,hta,htd,htn,htv,htl⟩:=ht.open_
     have hul:us.length<=ts.length:=by
      rcases Nat.lt_or_ge ts.length us.length with h|h
      ·have:=zV (B:=1000000000) (by omega) htd HU.out.2.2.1 HU.out.2.2.2.1 h
       rw[htv,HU.out.2.2.2.2.1] at this;omega
      ·exact h
     obtain⟨bt,ot,rfl,hbt,hct2⟩:=hta.at_ (by omega)
     have HH:=hide (ai ht (ai hft (ai hTq (ai hbq (ai hb5 (ai hsg (ai hv2 (ai htd (ai htv hct2)))))))));clear ht hft hTq hbq hb5 hsg hv2 htd htv hta htn hct2
     unfold maxLen at hmt
     go_wp2_with fail
     refine(ze0 _ _ _ t Y _ _ HH.out.1 HH.out.2.2.2.2.2.2.1).mono ?_
     rintro e w6 ⟨_,rfl,rfl,m,rfl⟩
     rw[HH.out.2.2.2.2.2.1]
     go_wp2
     go_loop [14,15] (fun s14 s15=>∃j:Nat,us.length<=j+1/\j<=ts.length/\s15=.int .i64 ((j:Int)-1)/\s14=.int .i64 (val 1000000000 (ts.drop j))) (fun _ s15=>(intOf s15+1).toNat)
     case atStart=>exact⟨ts.length,by omega,nr _,rfl,by rw[List.drop_length];rfl⟩
     case round=>
      obtain⟨j,hj0,hj1,rfl,rfl⟩:=hrel
      have hV0:=zC (B:=1000000000) (by omega) (HH.out.2.2.2.2.2.2.2.1.drop j)
      by_cases hjl:us.length<=j
      ·have hV1:val 1000000000 (ts.drop j)<=999999999:=by
        have h1:=zam (B:=1000000000) (by omega) (HH.out.2.2.2.2.2.2.2.1.drop j)
        have h2:=zt (B:=1000000000) (by omega) (show (ts.drop j).length<=1 by rw[List.length_drop];omega)
        omega
       obtain⟨dd,hdd⟩:∃dd,dd=ts.getD (j-1) 0:=⟨_,rfl⟩
       have hdc:=HH.out.2.2.2.2.2.2.2.2.2 (j-1) (by omega)
       have hdb:=HH.out.2.2.2.2.2.2.2.1.at_ (k:=j-1) (by omega)
       have hdx:=zcd ts (j-1) (by omega)
       rw[<-hdd] at hdc hdb hdx
       obtain⟨hdb0,hdb1⟩:=hdb
       have HJ:=hide (ai hdd hdx);clear hdd hdx
       have hnext:val 1000000000 (ts.drop (j-1))=val 1000000000 (ts.drop j)*1000000000+dd:=by
        rw[HJ.out.2,show j-1+1=j by omega];simp only[val];omega
       have HN:=hide hnext;clear hnext
       generalize val 1000000000 (ts.drop j)=V at *
       go_wp2
       go_round
       case rel=>exact⟨j-1,by omega,by omega,by go_num,by rw[HN.out]⟩
       case measure=>simp[intOf];omega
      ·obtain⟨top,htop⟩:∃top,top=val 1000000000 (ts.drop j):=⟨_,rfl⟩
       have hjj:j=us.length-1:=by omega
       have htopb:top<=999999999999999999:=by
        have h1:=zam (B:=1000000000) (by omega) (HH.out.2.2.2.2.2.2.2.1.drop j)
        have h2:=zt (B:=1000000000) (by omega) (show (ts.drop j).length<=2 by rw[List.length_drop];omega)
        rw[htop];omega
       rw[<-htop] at hV0 ⊢
       have hg1:0<=top / (ut+1):=Int.ediv_nonneg hV0 (by omega)
       have hg2:top / (ut+1)<=999999999999999999:=Int.le_trans (Int.ediv_le_self _ hV0) htopb
       have HJ:=hide (ai htop hjj);clear htop hjj
       obtain⟨qn,hqn⟩:∃qn,qn=top / (ut+1):=⟨_,rfl⟩
       rw[<-hqn] at hg1 hg2
       have hqd:top / (ut+1)=qn:=hqn.symm
       have HQN:=hide hqn;clear hqn
       rcases (show 999999999<=qn\/(1<qn/\qn<999999999)\/qn<=1 by omega) with h|⟨h,h'⟩|h
       ·have hgm:guess9 top (ut+1)=999999999:=by unfold guess9;rw[<-HQN.out];omega
        have HG:=hide hgm;clear hgm
        go_wp2_with fail
        refine(zdL _ _ Y 999999999 (L'+1) (HH.out.2.2.2.2.2.2.1.below (zw (blr _ _) m)) (by omega) (by omega) (by omega)).mono ?_
        rintro e w7 ⟨v7,rfl,hv7,hd7⟩
        rw[<-HG.out] at hv7
        have hb7:Below w5.heap.size w5 w7:=(zw (blr _ _) m).trans hd7
        have hle:Y*guess9 top (ut+1)<=t:=by
         have h1:=zdN ts us HH.out.2.2.2.2.2.2.2.1 HU.out.2.2.1 hul0 hul (by rw[HU.out.2.2.2.2.1,HH.out.2.2.2.2.2.2.2.2.1];omega)
         rw[HU.out.2.2.2.2.1,HH.out.2.2.2.2.2.2.2.2.1,<-HJ.out.2,<-HJ.out.1,HJ.out.2,<-HU.out.2.2.2.2.2] at h1
         exact h1
        have HV7:=hide (ai hv7 (ai hb7 hle));clear hv7 hb7 hle
        go_wp2_with fail
        refine(zdM _ _ _ t _ (us.length+1) _ (HH.out.1.below HV7.out.2.1) HV7.out.1 (by omega) HV7.out.2.2).mono ?_
        rintro e w8 ⟨v8,rfl,hv8,hd8,hf8⟩
        have hb8:=bnx HV7.out.2.1 hd8
        have hbq8:Blk w8 w2.heap.size 3 .i64 (os.set (k-1) q):=HH.out.2.2.2.1.keep hb8
        have hqc:=hbq8.cell (j:=k-1) (by rw[List.length_set,HR.out.2.2.2.2.2.2.1];omega)
        rw[za0 (by rw[HR.out.2.2.2.2.2.2.1];omega)] at hqc
        have hqf:=hbq8.frozen (k-1)
        have hqB:=ze1 Y q t T hY0 HH.out.2.2.1 ht0 hTY
        have hff:Fresh (w2.heap.size+1) v8:=hf8.mono (by have h1:=HH.out.2.2.2.2.1.size;have h2:=HV7.out.2.1.size;have h3:=HH.out.2.2.2.1.lt;omega)
        have H8:=hide (ai hv8 (ai hb8 (ai hbq8 hff)));clear hv8 hb8 hbq8 hff hf8 hd7 hd8
        go_wp2
        go_roundg (t-Y*guess9 top (ut+1)).toNat
        case measure=>
         have h1:=HV7.out.2.2
         have h2:=zbN top (ut+1)
         have h3:Y*1<=Y*guess9 top (ut+1):=Int.mul_le_mul_of_nonneg_left h2.1 (by omega)
         omega
        case rel=>
         have h1:=HV7.out.2.2
         refine⟨t-Y*guess9 top (ut+1),q+guess9 top (ut+1),H8.out.1.put H8.out.2.2.2 (Nat.lt_succ_self _),H8.out.2.2.2,rfl,?_,?_,by omega,?_,(HH.out.2.2.2.2.1.trans (H8.out.2.1.mono HH.out.2.2.2.2.1.size)).setCell (nr _) _⟩
         ·have:=(zbN top (ut+1)).1;omega
         ·have h2:=HH.out.2.2.1
          rw[Int.add_mul,Int.mul_comm (guess9 top (ut+1)) Y];omega
         ·have h2:=H8.out.2.2.1.set_ (k-1) (q+guess9 top (ut+1))
          rw[List.set_set,HG.out] at h2
          rw[HG.out]
          exact h2
       ·have hgm:guess9 top (ut+1)=qn:=by unfold guess9;rw[<-HQN.out];omega
        have HG:=hide hgm;clear hgm
        go_wp2_with fail
        refine(zdL _ _ Y qn (L'+1) (HH.out.2.2.2.2.2.2.1.below (zw (blr _ _) m)) (by omega) (by omega) (by omega)).mono ?_
        rintro e w7 ⟨v7,rfl,hv7,hd7⟩
        rw[<-HG.out] at hv7
        have hb7:Below w5.heap.size w5 w7:=(zw (blr _ _) m).trans hd7
        have hle:Y*guess9 top (ut+1)<=t:=by
         have h1:=zdN ts us HH.out.2.2.2.2.2.2.2.1 HU.out.2.2.1 hul0 hul (by rw[HU.out.2.2.2.2.1,HH.out.2.2.2.2.2.2.2.2.1];omega)
         rw[HU.out.2.2.2.2.1,HH.out.2.2.2.2.2.2.2.2.1,<-HJ.out.2,<-HJ.out.1,HJ.out.2,<-HU.out.2.2.2.2.2] at h1
         exact h1
        have HV7:=hide (ai hv7 (ai hb7 hle));clear hv7 hb7 hle
        go_wp2_with fail
        refine(zdM _ _ _ t _ (us.length+1) _ (HH.out.1.below HV7.out.2.1) HV7.out.1 (by omega) HV7.out.2.2).mono ?_
        rintro e w8 ⟨v8,rfl,hv8,hd8,hf8⟩
        have hb8:=bnx HV7.out.2.1 hd8
        have hbq8:Blk w8 w2.heap.size 3 .i64 (os.set (k-1) q):=HH.out.2.2.2.1.keep hb8
        have hqc:=hbq8.cell (j:=k-1) (by rw[List.length_set,HR.out.2.2.2.2.2.2.1];omega)
        rw[za0 (by rw[HR.out.2.2.2.2.2.2.1];omega)] at hqc
        have hqf:=hbq8.frozen (k-1)
        have hqB:=ze1 Y q t T hY0 HH.out.2.2.1 ht0 hTY
        have hff:Fresh (w2.heap.size+1) v8:=hf8.mono (by have h1:=HH.out.2.2.2.2.1.size;have h2:=HV7.out.2.1.size;have h3:=HH.out.2.2.2.1.lt;omega)
        have H8:=hide (ai hv8 (ai hb8 (ai hbq8 hff)));clear hv8 hb8 hbq8 hff hf8 hd7 hd8
        go_wp2
        go_roundg (t-Y*guess9 top (ut+1)).toNat
        case measure=>
         have h1:=HV7.out.2.2
         have h2:=zbN top (ut+1)
         have h3:Y*1<=Y*guess9 top (ut+1):=Int.mul_le_mul_of_nonneg_left h2.1 (by omega)
         omega
        case rel=>
         have h1:=HV7.out.2.2
         refine⟨t-Y*guess9 top (ut+1),q+guess9 top (ut+1),H8.out.1.put H8.out.2.2.2 (Nat.lt_succ_self _),H8.out.2.2.2,rfl,?_,?_,by omega,?_,(HH.out.2.2.2.2.1.trans (H8.out.2.1.mono HH.out.2.2.2.2.1.size)).setCell (nr _) _⟩
         ·have:=(zbN top (ut+1)).1;omega
         ·have h2:=HH.out.2.2.1
          rw[Int.add_mul,Int.mul_comm (guess9 top (ut+1)) Y];omega
         ·have h2:=H8.out.2.2.1.set_ (k-1) (q+guess9 top (ut+1))
          rw[List.set_set,HG.out] at h2
          rw[HG.out]
          exact h2
       ·have hgm:guess9 top (ut+1)=1:=by unfold guess9;rw[<-HQN.out];omega
        have HG:=hide hgm;clear hgm
        go_wp2_with fail
        refine(zdL _ _ Y 1 (L'+1) (HH.out.2.2.2.2.2.2.1.below (zw (blr _ _) m)) (by omega) (by omega) (by omega)).mono ?_
        rintro e w7 ⟨v7,rfl,hv7,hd7⟩
        rw[<-HG.out] at hv7
        have hb7:Below w5.heap.size w5 w7:=(zw (blr _ _) m).trans hd7
        have hle:Y*guess9 top (ut+1)<=t:=by
         have h1:=zdN ts us HH.out.2.2.2.2.2.2.2.1 HU.out.2.2.1 hul0 hul (by rw[HU.out.2.2.2.2.1,HH.out.2.2.2.2.2.2.2.2.1];omega)
         rw[HU.out.2.2.2.2.1,HH.out.2.2.2.2.2.2.2.2.1,<-HJ.out.2,<-HJ.out.1,HJ.out.2,<-HU.out.2.2.2.2.2] at h1
         exact h1
        have HV7:=hide (ai hv7 (ai hb7 hle));clear hv7 hb7 hle
        go_wp2_with fail
        refine(zdM _ _ _ t _ (us.length+1) _ (HH.out.1.below HV7.out.2.1) HV7.out.1 (by omega) HV7.out.2.2).mono ?_
        rintro e w8 ⟨v8,rfl,hv8,hd8,hf8⟩
        have hb8:=bnx HV7.out.2.1 hd8
        have hbq8:Blk w8 w2.heap.size 3 .i64 (os.set (k-1) q):=HH.out.2.2.2.1.keep hb8
        have hqc:=hbq8.cell (j:=k-1) (by rw[List.length_set,HR.out.2.2.2.2.2.2.1];omega)
        rw[za0 (by rw[HR.out.2.2.2.2.2.2.1];omega)] at hqc
        have hqf:=hbq8.frozen (k-1)
        have hqB:=ze1 Y q t T hY0 HH.out.2.2.1 ht0 hTY
        have hff:Fresh (w2.heap.size+1) v8:=hf8.mono (by have h1:=HH.out.2.2.2.2.1.size;have h2:=HV7.out.2.1.size;have h3:=HH.out.2.2.2.1.lt;omega)
        have H8:=hide (ai hv8 (ai hb8 (ai hbq8 hff)));clear hv8 hb8 hbq8 hff hf8 hd7 hd8
        go_wp2
        go_roundg (t-Y*guess9 top (ut+1)).toNat
        case measure=>
         have h1:=HV7.out.2.2
         have h2:=zbN top (ut+1)
         have h3:Y*1<=Y*guess9 top (ut+1):=Int.mul_le_mul_of_nonneg_left h2.1 (by omega)
         omega
        case rel=>
         have h1:=HV7.out.2.2
         refine⟨t-Y*guess9 top (ut+1),q+guess9 top (ut+1),H8.out.1.put H8.out.2.2.2 (Nat.lt_succ_self _),H8.out.2.2.2,rfl,?_,?_,by omega,?_,(HH.out.2.2.2.2.1.trans (H8.out.2.1.mono HH.out.2.2.2.2.1.size)).setCell (nr _) _⟩
         ·have:=(zbN top (ut+1)).1;omega
         ·have h2:=HH.out.2.2.1
          rw[Int.add_mul,Int.mul_comm (guess9 top (ut+1)) Y];omega
         ·have h2:=H8.out.2.2.1.set_ (k-1) (q+guess9 top (ut+1))
          rw[List.set_set,HG.out] at h2
          rw[HG.out]
          exact h2
  ·obtain rfl:k=0:=by omega
   simp only[List.drop_zero] at hval
   have HR:=hide (ai hr (ai hval (ai hos (ai hdos (ai hblk hbel)))));clear hr hval hos hdos hblk hbel hzero hfr
   obtain⟨Ar,cr,rs,rfl,_⟩:=HR.out.1.open_
   have hml:zs.length<=maxLen:=by unfold maxLen;omega
   clear hmk
   go_wp2_with fail
   refine(zly _ _ r d us.length HR.out.1 (by omega) (by omega) hdv1).mono ?_
   rintro e w3 ⟨_,rfl,s,rfl,hs,hd3⟩
   have hb3:=HR.out.2.2.2.2.1.keep hd3
   have HS:=hide (ai hs (ai hb3 hd3));clear hs hb3 hd3
   go_wp2_with fail
   refine(zcr _ _ _ _ os HR.out.2.2.1 HS.out.2.1.arr (nr _) hml).mono ?_
   rintro e w4 ⟨_,rfl,nn,hnn,rfl,rfl⟩
   have HN:=hide hnn;clear hnn
   go_wp2
   go_ret2
   have hq:=LimV.of_trim HS.out.2.1.arr HR.out.2.2.2.1 (by rw[HR.out.2.2.1];exact nr _) hml HN.out
   have he:=zlA x y d (val 1000000000 os) r (by omega) hy0 (by rw[<-HX.out.1,<-HX.out.2.1,<-HZ.out.2.2.2.2];exact HR.out.2.1) hr0 (by rw[<-HX.out.2.1];exact hr1)
   have hxl:=HA.out.1.lt
   have hyl:=HA.out.2.lt
   have hdx:x / y<=x:=Int.ediv_le_self _ hx0
   have hmy:x%y<y:=Int.emod_lt_of_pos _ hy0
   refine⟨_,rfl,_,_,rfl,?_,?_,?_⟩
   ·rw[he.1] at hq;exact hq.fit (by omega)
   ·have h1:=HS.out.1
    rw[he.2] at h1;exact h1.fit (by omega)
   ·exact(HX.out.2.2.trans (HR.out.2.2.2.2.2.mono HX.out.2.2.size)).trans (HS.out.2.2.mono (Nat.le_trans HX.out.2.2.size HR.out.2.2.2.2.2.size))
end Go.Proofs.YtpoahodnakhmiaaGreat
