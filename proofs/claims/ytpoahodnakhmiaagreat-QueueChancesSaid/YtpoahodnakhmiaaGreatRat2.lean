import Derived.Test.YtpoahodnakhmiaaGreatOver
import Derived.Deep.RegionHeld3
namespace Go.Proofs.YtpoahodnakhmiaaGreat
set_option linter.unusedVariables false
set_option linter.unusedSimpArgs false
open Go.RowKit
theorem zjq (V P c T x y q:Int) (h:V+P*c=T):V+P*((c+(x*y+q))%4294967296-q)+P*4294967296*((c+(x*y+q)) / 4294967296)=T+P*(x*y):=by
 have e:=Int.emod_add_mul_ediv (c+(x*y+q)) 4294967296
 grind
set_option maxHeartbeats 1000000 in
theorem zjr (w:World) (A A':Option Addr) (c c':Nat) (xs ys:List Int) (h:Arr w A .u32 xs) (hc:xs.length<=c) (hm:c<=maxLen) (h':Arr w A' .u32 ys) (hc':ys.length<=c') (hm':c'<=maxLen)
  (hd:Dig 4294967296 xs) (hd':Dig 4294967296 ys) (hl:xs.length<=1073741824) (hl':ys.length<=1073741824):
  Calls Tryz.prog 128 #[.slice A xs.length c,.slice A' ys.length c'] w (Ret (natR w (val 4294967296 xs*val 4294967296 ys) (xs.length+ys.length))):=by
 unfold maxLen at hm hm'
 have hmk:=zby Tryz.u32T (xs.length+ys.length) (by omega)
 rw[Int.natCast_add] at hmk
 go_enter Tryz.func128,Tryz.ntmps128
 go_wp2
 go_loopw [19] (fun s19 wr=>∃(i:Nat) (os:List Int),i<=xs.length/\s19=.int .i64 i/\os.length=xs.length+ys.length/\Dig 4294967296 os /\
   val 4294967296 os=val 4294967296 (xs.take i)*val 4294967296 ys/\(∀j,i+ys.length<=j->os.getD j 0=0)/\Blk wr w.heap.size 190 .u32 os/\Below w.heap.size w wr)
  (fun s19 _=>xs.length-(intOf s19).toNat)
 case atStart=>exact⟨0,List.replicate (xs.length+ys.length) 0,Nat.zero_le _,rfl,by simp,Dig.replicate _ (by omega) _,by rw[zcj];simp[val],fun j _=>by simp[List.getD,List.getElem?_replicate];split <;> rfl,Blk.new _ _ _ _,(blr _ _).alloc (nr _) _⟩
 case round=>
  obtain⟨i,os,hi,rfl,hos,hdos,hval,hz,hblk,hbel⟩:=hrel
  by_cases hix:i<xs.length
  ·obtain⟨b,o,rfl,hbl,hcell⟩:=h.at_ (by omega)
   obtain⟨x,hx⟩:∃x,x=xs.getD i 0:=⟨_,rfl⟩
   have hxc:=(hbel.cell (p:=⟨b,o+i,none⟩) hbl).trans (hcell i hix)
   have hxb:=hd.at_ hix
   have htx:=zo 4294967296 xs i hix
   rw[<-hx] at hxc hxb htx
   obtain⟨hx0,hx1⟩:=hxb
   have HT:=hide htx;clear htx
   have HX:=hide hx;clear hx
   have HL:=hide hos;clear hos
   have HV:=hide hval;clear hval
   have HZ:=hide hz;clear hz
   have HC:=hide hcell;clear hcell
   have HMK:=hide hmk;clear hmk
   have HD:=hide (ai hd hd');clear hd hd'
   have HB:=hide (ai hblk hdos);clear hblk hdos
   obtain⟨wo,rfl⟩:∃wo:World,wo=wr:=⟨_,rfl⟩
   go_wp2
   go_loopw [8,26] (fun s8 s26 wr=>∃(j:Nat) (ps:List Int) (cy:Int),j<=ys.length/\s26=.int .i64 j/\s8=.int .u64 cy/\0<=cy/\cy<4294967296/\ps.length=xs.length+ys.length/\Dig 4294967296 ps /\
     val 4294967296 ps+4294967296^(i+j)*cy=val 4294967296 (xs.take i)*val 4294967296 ys+4294967296^i*x*val 4294967296 (ys.take j)/\(∀j,i+ys.length<=j->ps.getD j 0=0)/\Blk wr w.heap.size 190 .u32 ps/\Below w.heap.size w wr)
    (fun _ s26 _=>ys.length-(intOf s26).toNat)
   case atStart=>exact⟨0,os,0,Nat.zero_le _,rfl,rfl,by omega,by omega,HL.out,HB.out.2,by rw[HV.out];simp[val],HZ.out,HB.out.1,hbel⟩
   case round=>
    obtain⟨j,ps,cy,hj,rfl,rfl,hy0,hy1,hps,hdps,hvalp,hzp,hblkp,hbelp⟩:=hrel
    by_cases hjy:j<ys.length
    ·obtain⟨b',o',rfl,hbl',hcell'⟩:=h'.at_ (by omega)
     obtain⟨y,hy⟩:∃y,y=ys.getD j 0:=⟨_,rfl⟩
     have hyc:=(hbelp.cell (p:=⟨b',o'+j,none⟩) hbl').trans (hcell' j hjy)
     have hyb:=HD.out.2.at_ hjy
     have hty:=zo 4294967296 ys j hjy
     rw[<-hy] at hyc hyb hty
     obtain⟨hyl,hyu⟩:=hyb
     obtain⟨q,hq⟩:∃q,q=ps.getD (i+j) 0:=⟨_,rfl⟩
     have hqc:=hblkp.cell (j:=i+j) (by omega)
     have hqb:=hdps.at_ (k:=i+j) (by omega)
     rw[<-hq] at hqc hqb
     obtain⟨hq0,hq1⟩:=hqb
     have hqf:=hblkp.frozen (i+j)
     have hxy0:0<=x*y:=Int.mul_nonneg hx0 hyl
     have hxy1:x*y<=18446744065119617025:=Int.mul_le_mul (show x<=4294967295 by omega) (show y<=4294967295 by omega) hyl (by omega)
     have HT2:=hide hty;clear hty
     have HV2:=hide hvalp;clear hvalp
     have HY:=hide (ai hy hq);clear hy hq
     have HP:=hide hps;clear hps
     have HZ2:=hide hzp;clear hzp
     clear hcell' h h'
     go_wp2
     go_roundw
     case rel=>
      refine⟨j+1,ps.set (i+j) ((cy+(x*y+q))%4294967296),(cy+(x*y+q)) / 4294967296,by omega,by go_num,rfl,by omega,by omega,by simp[HP.out],hdps.set_ _ (by omega) (by omega),?_,?_,hblkp.set_ _ _,hbelp.setCell (by simp) _⟩
      ·rw[zee _ _ _ _ (by have:=HP.out;omega),HT2.out,<-HY.out.2,show i+(j+1)=i+j+1 by omega,Int.pow_succ]
       have:=zjq _ _ _ _ x y q HV2.out
       rw[this,Int.pow_add]
       grind
      ·intro m hm
       rw[zaZ (by omega)];exact HZ2.out m hm
     case measure=>simp[intOf];omega
    ·obtain rfl:j=ys.length:=by omega
     rw[List.take_of_length_le (nr _)] at hvalp
     obtain⟨q,hq⟩:∃q,q=ps.getD (i+ys.length) 0:=⟨_,rfl⟩
     have hqc:=hblkp.cell (j:=i+ys.length) (by omega)
     rw[<-hq] at hqc
     have hq0:q=0:=by rw[hq];exact hzp _ (nr _)
     have hqf:=hblkp.frozen (i+ys.length)
     have HV2:=hide hvalp;clear hvalp
     have HY:=hide (ai hq hq0);clear hq hq0
     have HP:=hide hps;clear hps
     have HZ2:=hide hzp;clear hzp
     clear h h'
     go_wp2
     go_roundw
     case rel=>
      refine⟨i+1,ps.set (i+ys.length) cy,by omega,by go_num,by simp[HP.out],hdps.set_ _ hy0 hy1,?_,?_,hblkp.set_ _ _,hbelp.setCell (by simp) _⟩
      ·rw[zee _ _ _ _ (by have:=HP.out;omega),<-HY.out.1,HY.out.2,HT.out]
       have:=HV2.out
       grind
      ·intro m hm
       rw[zaZ (by omega)];exact HZ2.out m (by omega)
     case measure=>simp[intOf];omega
  ·obtain rfl:i=xs.length:=by omega
   rw[List.take_of_length_le (nr _)] at hval
   have hml:xs.length+ys.length<=maxLen:=by unfold maxLen;omega
   have HV:=hide hval;clear hval
   have HL:=hide hos;clear hos
   have HZ:=hide hz;clear hz
   clear h h' hd hd' hmk
   go_wp2_with (go_at_call 170;refine(zbz _ _ _ _ os HL.out hblk.arr (nr _) hml).mono ?_;rintro e w' ⟨v,rfl,n,hn,rfl,rfl⟩;have HN:=hide hn;clear hn)
   go_ret
   have hv:=NatV.of_trim hblk.arr hdos (by rw[HL.out];exact hml) HN.out
   rw[HV.out] at hv
   exact⟨_,rfl,hv.more (by rw[HL.out];exact nr _),hbel⟩
theorem zaz (w:World) (v v':Value) (x y:Int) (L L':Nat) (hx:NatV w v x L) (hy:NatV w v' y L') (hL:L<=1073741824) (hL':L'<=1073741824):
  Calls Tryz.prog 128 #[v,v'] w (Ret (natR w (x*y) (L+L'))):=by
 obtain⟨A,c,xs,rfl,hc,hm,ha,hd,hn,rfl,hl⟩:=hx
 obtain⟨A',c',ys,rfl,hc',hm',ha',hd',hn',rfl,hl'⟩:=hy
 refine(zjr w A A' c c' xs ys ha hc hm ha' hc' hm' hd hd' (by omega) (by omega)).mono ?_
 rintro e w' ⟨v,rfl,h1,h2⟩
 exact⟨v,rfl,h1.more (by omega),h2⟩
theorem zjs (w:World) (A A':Option Addr) (c c':Nat) (xs ys:List Int) (h:Arr w A .u32 xs) (hc:xs.length<=c) (hm:c<=maxLen) (h':Arr w A' .u32 ys) (hc':ys.length<=c') (hm':c'<=maxLen)
  (hd:Dig 4294967296 xs) (hd':Dig 4294967296 ys) (hl:xs.length<=1073741824) (hyx:ys.length<=xs.length) (hle:val 4294967296 ys<=val 4294967296 xs):
  Calls Tryz.prog 142 #[.slice A xs.length c,.slice A' ys.length c'] w (Ret (natR w (val 4294967296 xs-val 4294967296 ys) xs.length)):=by
 unfold maxLen at hm hm'
 go_enter Tryz.func142,Tryz.ntmps142
 go_wp2
 go_loopw [5,6,11] (fun s5 s6 s11 wr=>∃(k:Nat) (os:List Int) (cy:Int),k<=xs.length/\s11=.int .i64 k/\s6=.int .i64 cy/\-1<=cy/\cy<=0/\os.length=k/\Dig 4294967296 os /\
   val 4294967296 os+4294967296^k*cy=val 4294967296 (xs.take k)-val 4294967296 (ys.take k)/\OwnI wr w.heap.size 190 .u32 s5 os/\Below w.heap.size w wr)
  (fun _ _ s11 _=>xs.length-(intOf s11).toNat)
 case atStart=>exact⟨0,[],0,Nat.zero_le _,rfl,rfl,by omega,by omega,rfl,Dig.nil _,by simp[val],OwnI.nil _ _ _ _,blr _ _⟩
 case round=>
  obtain⟨k,os,cy,hk,rfl,rfl,hy0,hy1,hos,hdos,hval,hown,hbel⟩:=hrel
  have hosl:os.length<=17592186044000:=by omega
  by_cases hkx:k<xs.length
  ·obtain⟨b,o,rfl,hbl,hcell⟩:=h.at_ (by omega)
   obtain⟨x,hx⟩:∃x,x=xs.getD k 0:=⟨_,rfl⟩
   have hxc:=(hbel.cell (p:=⟨b,o+k,none⟩) hbl).trans (hcell k hkx)
   have hxb:=hd.at_ hkx
   have htx:=zo 4294967296 xs k hkx
   rw[<-hx] at hxc hxb htx
   obtain⟨hx0,hx1⟩:=hxb
   by_cases hky:k<ys.length
   ·obtain⟨b',o',rfl,hbl',hcell'⟩:=h'.at_ (by omega)
    obtain⟨y,hy⟩:∃y,y=ys.getD k 0:=⟨_,rfl⟩
    have hyc:=(hbel.cell (p:=⟨b',o'+k,none⟩) hbl').trans (hcell' k hky)
    have hyb:=hd'.at_ hky
    have hty:=zo 4294967296 ys k hky
    rw[<-hy] at hyc hyb hty
    obtain⟨hyl,hyu⟩:=hyb
    have HT:=hide (ai htx hty);clear htx hty
    have HV:=hide hval;clear hval
    have HX:=hide (ai hx hy);clear hx hy
    have HL:=hide hos;clear hos
    have HLE:=hide hle;clear hle
    clear hcell hcell' h h' hd hd'
    go_wp2_with (at_builtin;refine app1 Tryz.u32T _ rfl _ _ rfl w.heap.size _ os ((cy+x-y)%4294967296) rfl (hown.keep ((blr _ _).alloc (nr _) _)) ⟨wr.heap.size,0,none⟩ _ rfl (by simp[World.cell?_alloc_new]) hosl (by have:=hbel.size;simp;omega) ?_;intro g c1 w1 hown1 _ _ hb1)
    go_roundw
    case rel=>
     refine⟨k+1,os++[(cy+x-y)%4294967296],(cy+x-y) / 4294967296,by omega,by go_num,rfl,by omega,by omega,by simp[HL.out],hdos.snoc (by omega) (by omega),?_,hown1,(hbel.alloc hbel.size _).trans hb1⟩
     rw[zF,HL.out,HT.out.1,HT.out.2]
     have:=HV.out
     have e:(cy+x-y)%4294967296+4294967296*((cy+x-y) / 4294967296)=cy+x-y:=Int.emod_add_mul_ediv _ _
     grind
    case measure=>simp[intOf];omega
   ·have hty1:=zn 4294967296 ys k (by omega)
    have hty2:=zn 4294967296 ys (k+1) (by omega)
    have HT:=hide (ai htx (ai hty1 hty2));clear htx hty1 hty2
    have HV:=hide hval;clear hval
    have HX:=hide hx;clear hx
    have HL:=hide hos;clear hos
    have HLE:=hide hle;clear hle
    clear hcell h h' hd hd'
    go_wp2_with (at_builtin;refine app1 Tryz.u32T _ rfl _ _ rfl w.heap.size _ os ((cy+x)%4294967296) rfl (hown.keep ((blr _ _).alloc (nr _) _)) ⟨wr.heap.size,0,none⟩ _ rfl (by simp[World.cell?_alloc_new]) hosl (by have:=hbel.size;simp;omega) ?_;intro g c1 w1 hown1 _ _ hb1)
    go_roundw
    case rel=>
     refine⟨k+1,os++[(cy+x)%4294967296],(cy+x) / 4294967296,by omega,by go_num,rfl,by omega,by omega,by simp[HL.out],hdos.snoc (by omega) (by omega),?_,hown1,(hbel.alloc hbel.size _).trans hb1⟩
     rw[zF,HL.out,HT.out.1,HT.out.2.2]
     have:=HV.out
     rw[HT.out.2.1] at this
     have e:(cy+x)%4294967296+4294967296*((cy+x) / 4294967296)=cy+x:=Int.emod_add_mul_ediv _ _
     grind
    case measure=>simp[intOf];omega
  ·obtain rfl:k=xs.length:=by omega
   rw[List.take_of_length_le (nr _),zn _ ys _ (by omega)] at hval
   have hv:=zam (by omega) hdos
   rw[hos] at hv
   obtain rfl:cy=0:=by
    have h1:cy=0\/cy=-1:=by omega
    rcases h1 with h1|h1
    ·exact h1
    ·subst h1;omega
   have HV:=hide hval;clear hval
   have HL:=hide hos;clear hos
   have HX:=hide hv;clear hv
   have HLE:=hide hle;clear hle
   obtain⟨Ao,co,rfl,hco,hmo,hao⟩:=hown.form
   clear h h' hd hd'
   go_wp2_with (go_at_call 170;refine(zbz _ _ _ _ os rfl hao hco hmo).mono ?_;rintro e w' ⟨v,rfl,n,hn,rfl,rfl⟩;have HN:=hide hn;clear hn)
   go_ret
   have hv:=NatV.of_trim hao hdos (by omega) HN.out
   refine⟨_,rfl,?_,hbel⟩
   have e:=HV.out
   rw[show val 4294967296 xs-val 4294967296 ys=val 4294967296 os by simpa using e.symm]
   exact hv.more (by simp[HL.out])
theorem zda (w:World) (v v':Value) (x y:Int) (L L':Nat) (hx:NatV w v x L) (hy:NatV w v' y L') (hL:L<=1073741824) (hle:y<=x):
  Calls Tryz.prog 142 #[v,v'] w (Ret (natR w (x-y) L)):=by
 obtain⟨A,c,xs,rfl,hc,hm,ha,hd,hn,rfl,hl⟩:=hx
 obtain⟨A',c',ys,rfl,hc',hm',ha',hd',hn',rfl,hl'⟩:=hy
 have hyx:ys.length<=xs.length:=by
  rcases Nat.lt_or_ge xs.length ys.length with h|h
  ·have:=zV (by omega) hd hd' hn' h;omega
  ·exact h
 refine(zjs w A A' c c' xs ys ha hc hm ha' hc' hm' hd hd' (by omega) hyx hle).mono ?_
 rintro e w' ⟨v,rfl,h1,h2⟩
 exact⟨v,rfl,h1.more hl,h2⟩
theorem zgy (w:World):Calls Tryz.prog 173 #[] w (Ret (natR w 1 1)):=by
 go_enter Tryz.func173,Tryz.ntmps173
 go_wp2
 go_ret
 refine⟨_,rfl,?_,(blr _ _).alloc (nr _) _⟩
 exact⟨some ⟨w.heap.size,0,none⟩,1,[1],rfl,nr _,by simp[maxLen],Arr.new (xs:=[1]) rfl,by intro d hd;simp at hd;subst hd;omega,by simp[Norm],by simp[val],nr _⟩
theorem zar (w:World) (b:Bool) (n l:Value) (x:Int) (L:Nat) (hl:NatV w l x L) (hL:L<=1073741800):
  Calls Tryz.prog 129 #[.agg #[.bool b,n,l]] w (Ret (natR w (x+1) (L+2))):=by
 obtain⟨A,c,xs,rfl,hrest⟩:=hl.open_
 have HL:=hide hl;clear hl hrest
 go_enter Tryz.func129,Tryz.ntmps129
 go_wp2_with fail
 have hb0:Below w.heap.size w (w.alloc (.cells #[.bool b,n,.slice A xs.length c] 43)).drew:=((blr _ _).alloc (nr _) _).drew
 have hk:∀w',Below (w.heap.size+1) (w.alloc (.cells #[.bool b,n,.slice A xs.length c] 43)) w'->w'.cell? ⟨w.heap.size,2,none⟩=some (.slice A xs.length c):=
  fun w' h=>(h.cell (p:=⟨w.heap.size,2,none⟩) (by simp)).trans (by simp[World.cell?_alloc_new])
 have HK:=hide hk;clear hk
 go_region_held3 (fun w'=>w'.cell? ⟨w.heap.size,2,none⟩=some (.slice A xs.length c))
  (first|go_keep|exact HK.out _ hc2|exact HK.out _ hc1)
  (first
   | (go_at_call 173;refine(zgy _).mono ?_;rintro e w1 ⟨u,rfl,h1,hb1⟩;have hc1:Below (w.heap.size+1) (w.alloc (.cells #[.bool b,n,.slice A xs.length c] 43)) w1:=(blr _ _).drew.trans (hb1.mono (by simp)))
   | (go_at_call 140;refine(zgC _ _ _ x 1 L 1 ((HL.out.below hb0).below hb1) h1 (by omega) (by omega)).mono ?_;rintro e w2 ⟨u2,rfl,h2,hb2⟩;have hc2:=hc1.trans (hb2.mono (by have:=hc1.size;simp at this;omega))))
 go_wp2
 go_ret
 exact⟨_,rfl,h2.more (by omega),bnx (bnx hb0 hb1) hb2⟩
def sgd (b:Bool) (x:Int):Int:=if b then -x else x
theorem ze9 (b:Bool) (x y:Int) (hx:0<=x) (hy:0<y):
  (Rat.divInt (sgd b x) y).num=sgd b (x / Int.gcd x y)/\((Rat.divInt (sgd b x) y).den:Int)=y / Int.gcd x y:=by
 have hg:(y.gcd (sgd b x):Int)=Int.gcd x y:=by
  unfold sgd;cases b <;> simp[Int.gcd_comm]
 constructor
 ·rw[Rat.num_divInt,hg,Int.sign_eq_one_of_pos hy,Int.one_mul]
  unfold sgd
  cases b
  ·simp
  ·simp only[if_true]
   rw[Int.neg_ediv_of_dvd (Int.gcd_dvd_left x y)]
 ·rw[Rat.den_divInt,if_neg (by omega)]
  rw[Int.natCast_ediv,hg,Int.natAbs_of_nonneg (by omega)]
theorem zho (b:Bool) (x y:Int) (hx:0<=x) (hy:0<y):
  (((Rat.divInt (sgd b x) y).num.natAbs:Int)=x / Int.gcd x y)/\((Rat.divInt (sgd b x) y).den:Int)-1=y / Int.gcd x y-1 /\
  decide ((Rat.divInt (sgd b x) y).num<0)=(b&&decide (0<x / Int.gcd x y)):=by
 obtain⟨h1,h2⟩:=ze9 b x y hx hy
 have h3:0<=x / Int.gcd x y:=Int.ediv_nonneg hx (by omega)
 refine⟨?_,by rw[h2],?_⟩
 ·rw[h1];unfold sgd;cases b <;> simp <;> omega
 ·rw[h1];unfold sgd;cases b <;> simp <;> omega
theorem zb7 (w:World) (b:Bool) (n d:Value) (x y:Int) (L:Nat) (hx:NatV w n x L) (hy:NatV w d y L) (hL:L<=1073741800) (hy0:0<y):
  Calls Tryz.prog 127 #[.bool b,n,d] w (Ret (ratR w (Rat.divInt (sgd b x) y) L)):=by
 have hx0:=hx.nonneg
 have hg0:(0:Int)<Int.gcd x y:=by
  have:=Int.gcd_pos_of_ne_zero_right x (show y≠0 by omega)
  omega
 have hdg:0<y / Int.gcd x y:=Int.ediv_pos_of_pos_of_dvd hy0 (by omega) (Int.gcd_dvd_right x y)
 have HX:=hide (ai hx hy);clear hx hy
 go_enter Tryz.func127,Tryz.ntmps127
 go_wp2_with fail
 have hb0:Below w.heap.size w (w.alloc (.cells #[.bool false,.slice none 0 0,.slice none 0 0] 43)):=(blr _ _).alloc (nr _) _
 refine(zkf _ _ _ x y L (HX.out.1.below hb0) (HX.out.2.below hb0) hL).mono ?_
 rintro e w1 ⟨g,rfl,hg,hb1⟩
 have hc1:=zh (zL w _) hb1 (by simp)
 have hd1:=bnx hb0 hb1
 have HG:=hide hg;clear hg hb0 hb1
 go_wp2_with fail
 refine(zgY _ _ _ x _ L L (HX.out.1.below hd1) HG.out hL hg0).mono ?_
 rintro e w2 ⟨u,rfl,q1,r1,rfl,hq1,hr1,hb2⟩
 have hc2:=zh hc1 hb2 (by simp)
 have hd2:=bnx hd1 hb2
 obtain⟨A1,c1,xs1,rfl,hrest⟩:=hq1.open_
 have HQ1:=hide hq1;clear hq1 hr1
 go_wp2_with fail
 refine(zgY _ _ _ y _ L L (HX.out.2.below hd2) (HG.out.below hb2) hL hg0).mono ?_
 rintro e w3 ⟨u,rfl,q2,r2,rfl,hq2,hr2,hb3⟩
 have hc3:=zh hc2 hb3 (by simp)
 have hd3:=bnx hd2 hb3
 have HQ2:=hide hq2;clear hq2 hr2
 have HR:=hide hrest;clear hrest
 have HB3:=hide hb3
 have lp:=zho b x y hx0 hy0
 have hpos:decide (0<x / Int.gcd x y)=decide (0<xs1.length):=by
  obtain⟨_,_,_,r4,r5,r6,_⟩:=HR.out
  rw[<-r6,decide_eq_decide]
  constructor
  ·intro h
   rcases Nat.eq_zero_or_pos xs1.length with h0|h0
   ·rw[List.eq_nil_of_length_eq_zero h0] at h;simp[val] at h
   ·exact h0
  ·intro h
   exact zaQ (by omega) r4 r5 (by intro e;rw[e] at h;simp at h)
 rw[hpos] at lp
 have LP:=hide lp;clear lp hpos
 cases b
 ·go_wp2_with fail
  refine(zgy _).mono ?_
  rintro e w4 ⟨o1,rfl,ho1,hb4⟩
  have hc4:=zh hc3 hb4 (by simp)
  go_wp2_with fail
  refine(zda _ _ _ _ 1 L 1 (HQ2.out.below hb4) ho1 (by omega) (by omega)).mono ?_
  rintro e w5 ⟨l,rfl,hl,hb5⟩
  have hc5:=zh hc4 hb5 (by simp)
  have hd5:=bnx (bnx hd3 hb4) hb5
  obtain⟨k0,k1,k2,f0,f1,f2,ks⟩:=box3 hc5
  obtain⟨A2,c2,xs2,rfl,hrest2⟩:=hl.open_
  have HL:=hide hl;clear hl hrest2
  go_wp2
  refine bodyPost_ret (v:=.agg #[.bool false,.slice A1 xs1.length c1,.slice A2 xs2.length c2]) ?_ rfl ?_
  ·simp[results,Tryz.results127,go_sem,k0,k1,k2,ks]
  have hq:=HQ1.out.below (bnx (bnx hb3 hb4) hb5)
  obtain⟨p1,p2,p3⟩:=LP.out
  refine⟨_,rfl,⟨.slice A1 xs1.length c1,.slice A2 xs2.length c2,?_,?_,?_⟩,zm hd5 (nr _) _ _ _⟩
  ·rw[p3];rfl
  ·rw[p1];exact hq.set3 k0 k1 k2
  ·rw[p2];exact HL.out.set3 k0 k1 k2
 ·by_cases hxl:0<xs1.length
  ·have hp:(true&&decide (0<xs1.length))=true:=by simp[hxl]
   have HP:=hide hp;clear hp
   go_wp2_with fail
   refine(zgy _).mono ?_
   rintro e w4 ⟨o1,rfl,ho1,hb4⟩
   have hc4:=zh hc3 hb4 (by simp)
   go_wp2_with fail
   refine(zda _ _ _ _ 1 L 1 (HQ2.out.below hb4) ho1 (by omega) (by omega)).mono ?_
   rintro e w5 ⟨l,rfl,hl,hb5⟩
   have hc5:=zh hc4 hb5 (by simp)
   have hd5:=bnx (bnx hd3 hb4) hb5
   obtain⟨k0,k1,k2,f0,f1,f2,ks⟩:=box3 hc5
   obtain⟨A2,c2,xs2,rfl,hrest2⟩:=hl.open_
   have HL:=hide hl;clear hl hrest2
   go_wp2
   refine bodyPost_ret (v:=.agg #[.bool true,.slice A1 xs1.length c1,.slice A2 xs2.length c2]) ?_ rfl ?_
   ·simp[results,Tryz.results127,go_sem,k0,k1,k2,ks]
   have hq:=HQ1.out.below (bnx (bnx hb3 hb4) hb5)
   obtain⟨p1,p2,p3⟩:=LP.out
   refine⟨_,rfl,⟨.slice A1 xs1.length c1,.slice A2 xs2.length c2,?_,?_,?_⟩,zm hd5 (nr _) _ _ _⟩
   ·rw[p3,HP.out]
   ·rw[p1];exact hq.set3 k0 k1 k2
   ·rw[p2];exact HL.out.set3 k0 k1 k2
  ·have hp:(true&&decide (0<xs1.length))=false:=by rw[Bool.true_and];exact decide_eq_false hxl
   have HP:=hide hp;clear hp
   obtain rfl:xs1=[]:=List.eq_nil_of_length_eq_zero (by omega)
   go_wp2_with fail
   refine(zgy _).mono ?_
   rintro e w4 ⟨o1,rfl,ho1,hb4⟩
   have hc4:=zh hc3 hb4 (by simp)
   go_wp2_with fail
   refine(zda _ _ _ _ 1 L 1 (HQ2.out.below hb4) ho1 (by omega) (by omega)).mono ?_
   rintro e w5 ⟨l,rfl,hl,hb5⟩
   have hc5:=zh hc4 hb5 (by simp)
   have hd5:=bnx (bnx hd3 hb4) hb5
   obtain⟨k0,k1,k2,f0,f1,f2,ks⟩:=box3 hc5
   obtain⟨A2,c2,xs2,rfl,hrest2⟩:=hl.open_
   have HL:=hide hl;clear hl hrest2
   go_wp2
   refine bodyPost_ret (v:=.agg #[.bool false,.slice A1 0 c1,.slice A2 xs2.length c2]) ?_ rfl ?_
   ·simp[results,Tryz.results127,go_sem,k0,k1,k2,ks]
   have hq:=HQ1.out.below (bnx (bnx hb3 hb4) hb5)
   obtain⟨p1,p2,p3⟩:=LP.out
   refine⟨_,rfl,⟨.slice A1 0 c1,.slice A2 xs2.length c2,?_,?_,?_⟩,zm hd5 (nr _) _ _ _⟩
   ·rw[p3,HP.out]
   ·rw[p1];exact hq.set3 k0 k1 k2
   ·rw[p2];exact HL.out.set3 k0 k1 k2
@[reducible] def Two (w':World) (B:Nat) (a0 b0 c0 a1 b1 c1:Value):Prop:=
 w'.cell? ⟨B,0,none⟩=some a0/\w'.cell? ⟨B,1,none⟩=some b0/\w'.cell? ⟨B,2,none⟩=some c0/\w'.cell? ⟨B+1,0,none⟩=some a1/\w'.cell? ⟨B+1,1,none⟩=some b1/\w'.cell? ⟨B+1,2,none⟩=some c1
theorem two_of {w w':World} {a0 b0 c0 a1 b1 c1 a2 b2 c2:Value} {e:TypeId}
  (h:Below (w.heap.size+3) (((w.alloc (.cells #[a0,b0,c0] e)).alloc (.cells #[a1,b1,c1] e)).alloc (.cells #[a2,b2,c2] e)) w'):Two w' w.heap.size a0 b0 c0 a1 b1 c1:=by
 obtain⟨⟨h0,h1,h2⟩,⟨g0,g1,g2⟩,_⟩:=zaE h
 exact⟨h0,h1,h2,g0,g1,g2⟩
theorem zkD (w:World) (b1 b2:Bool) (n1 l1 n2 l2:Value) (x1 y1 x2 y2:Int) (L:Nat) (h1:NatV w n1 x1 L) (g1:NatV w l1 y1 L) (h2:NatV w n2 x2 L) (g2:NatV w l2 y2 L) (hL:L<=268435456):
  Calls Tryz.prog 73 #[.agg #[.bool b1,n1,l1],.agg #[.bool b2,n2,l2]] w (Ret (ratR w (Rat.divInt (sgd (!(b1 == b2)) (x1*x2)) ((y1+1)*(y2+1))) (2*L+4))):=by
 have hy1:=g1.nonneg
 have hy2:=g2.nonneg
 obtain⟨A1,c1,xs1,rfl,_⟩:=h1.open_
 obtain⟨A2,c2,xs2,rfl,_⟩:=g1.open_
 obtain⟨A3,c3,xs3,rfl,_⟩:=h2.open_
 obtain⟨A4,c4,xs4,rfl,_⟩:=g2.open_
 have HA:=hide (ai h1 (ai g1 (ai h2 g2)));clear h1 g1 h2 g2
 go_enter Tryz.func73,Tryz.ntmps73
 go_wp2_with fail
 have hb0:Below w.heap.size w (((w.alloc (.cells #[.bool b1,.slice A1 xs1.length c1,.slice A2 xs2.length c2] 43)).alloc (.cells #[.bool b2,.slice A3 xs3.length c3,.slice A4 xs4.length c4] 43)).alloc (.cells #[.bool false,.slice none 0 0,.slice none 0 0] 43)).drew:=((((blr _ _).alloc (nr _) _).alloc (by simp) _).alloc (by simp;omega) _).drew
 have hs0:Below (w.heap.size+3) (((w.alloc (.cells #[.bool b1,.slice A1 xs1.length c1,.slice A2 xs2.length c2] 43)).alloc (.cells #[.bool b2,.slice A3 xs3.length c3,.slice A4 xs4.length c4] 43)).alloc (.cells #[.bool false,.slice none 0 0,.slice none 0 0] 43)) (((w.alloc (.cells #[.bool b1,.slice A1 xs1.length c1,.slice A2 xs2.length c2] 43)).alloc (.cells #[.bool b2,.slice A3 xs3.length c3,.slice A4 xs4.length c4] 43)).alloc (.cells #[.bool false,.slice none 0 0,.slice none 0 0] 43)).drew:=(blr _ _).drew
 have HK:=hide (fun w' (h:Below (w.heap.size+3) (((w.alloc (.cells #[.bool b1,.slice A1 xs1.length c1,.slice A2 xs2.length c2] 43)).alloc (.cells #[.bool b2,.slice A3 xs3.length c3,.slice A4 xs4.length c4] 43)).alloc (.cells #[.bool false,.slice none 0 0,.slice none 0 0] 43)) w')=>(two_of h:w'.cell? ⟨w.heap.size,0,none⟩=some (.bool b1)/\w'.cell? ⟨w.heap.size,1,none⟩=some (.slice A1 xs1.length c1)/\w'.cell? ⟨w.heap.size,2,none⟩=some (.slice A2 xs2.length c2)/\w'.cell? ⟨w.heap.size+1,0,none⟩=some (.bool b2)/\w'.cell? ⟨w.heap.size+1,1,none⟩=some (.slice A3 xs3.length c3)/\w'.cell? ⟨w.heap.size+1,2,none⟩=some (.slice A4 xs4.length c4)))
 go_region_held3 (fun w'=>w'.cell? ⟨w.heap.size,0,none⟩=some (.bool b1)/\w'.cell? ⟨w.heap.size,1,none⟩=some (.slice A1 xs1.length c1)/\w'.cell? ⟨w.heap.size,2,none⟩=some (.slice A2 xs2.length c2)/\w'.cell? ⟨w.heap.size+1,0,none⟩=some (.bool b2)/\w'.cell? ⟨w.heap.size+1,1,none⟩=some (.slice A3 xs3.length c3)/\w'.cell? ⟨w.heap.size+1,2,none⟩=some (.slice A4 xs4.length c4))
  (first|(go_keep;done)|(have hq:=HK.out _ hs5;simp only[zi (show w.heap.size≠w.heap.size+1+1 by omega),zi (show w.heap.size+1≠w.heap.size+1+1 by omega)];exact hq)|(exact HK.out _ hs5)|(exact HK.out _ hs4)|(exact HK.out _ hs3)|(exact HK.out _ hs2)|(exact HK.out _ hs1))
  (first
   | (go_at_call_of 128 (Value.slice A1 xs1.length c1);refine(zaz _ _ _ x1 x2 L L (HA.out.1.below hb0) (HA.out.2.2.1.below hb0) (by omega) (by omega)).mono ?_;rintro e w1 ⟨u1,rfl,q1,hd1⟩;have hs1:=zh hs0 hd1 (by simp);have hb1:=bnx hb0 hd1)
   | (go_at_call_of 129 (Value.agg #[.bool b1,.slice A1 xs1.length c1,.slice A2 xs2.length c2]);refine(zar _ _ _ _ y1 L (HA.out.2.1.below hb1) (by omega)).mono ?_;rintro e w2 ⟨u2,rfl,q2,hd2⟩;have hs2:=zh hs1 hd2 (by simp);have hb2:=bnx hb1 hd2)
   | (go_at_call_of 129 (Value.agg #[.bool b2,.slice A3 xs3.length c3,.slice A4 xs4.length c4]);refine(zar _ _ _ _ y2 L (HA.out.2.2.2.below hb2) (by omega)).mono ?_;rintro e w3 ⟨u3,rfl,q3,hd3⟩;have hs3:=zh hs2 hd3 (by simp);have hb3:=bnx hb2 hd3)
   | (go_at_call_of 128 u2;refine(zaz _ _ _ (y1+1) (y2+1) (L+2) (L+2) (q2.below hd3) q3 (by omega) (by omega)).mono ?_;rintro e w4 ⟨u4,rfl,q4,hd4⟩;have hs4:=zh hs3 hd4 (by simp);have hb4:=bnx hb3 hd4)
   | (go_at_call 127;refine(zb7 _ _ _ _ (x1*x2) ((y1+1)*(y2+1)) (2*L+4) ((q1.below (bnx (bnx hd2 hd3) hd4)).more (by omega)) (q4.more (by omega)) (by omega) (Int.mul_pos (by omega) (by omega))).mono ?_;rintro e w5 ⟨u5,rfl,⟨rn,rl,rfl,q5,q6⟩,hd5⟩;have hs5:=zh hs4 hd5 (by simp);have hb5:=bnx hb4 hd5;obtain⟨A5,c5,xs5,rfl,_⟩:=q5.open_;obtain⟨A6,c6,xs6,rfl,_⟩:=q6.open_;obtain⟨_,_,⟨m0,m1,m2⟩,⟨f0,f1,f2⟩,hz⟩:=zaE hs5))
 go_wp2
 refine bodyPost_ret (v:=.agg #[.bool (decide ((Rat.divInt (sgd (!(b1 == b2)) (x1*x2)) ((y1+1)*(y2+1))).num<0)),.slice A5 xs5.length c5,.slice A6 xs6.length c6]) ?_ rfl ?_
 ·simp[results,Tryz.results73,go_sem,m0,m1,m2,hz]
 refine⟨_,rfl,⟨.slice A5 xs5.length c5,.slice A6 xs6.length c6,rfl,?_,?_⟩,zm hb5 (by omega) _ _ _⟩
 ·exact q5.set3 m0 m1 m2
 ·exact q6.set3 m0 m1 m2
theorem zlV (w:World) (b1 b2:Bool) (n1 l1 n2 l2:Value) (x1 y1 x2 y2:Int) (L:Nat) (h1:NatV w n1 x1 L) (g1:NatV w l1 y1 L) (h2:NatV w n2 x2 L) (g2:NatV w l2 y2 L) (hL:L<=268435456) (hx2:0<x2):
  Calls Tryz.prog 76 #[.agg #[.bool b1,n1,l1],.agg #[.bool b2,n2,l2]] w (Ret (ratR w (Rat.divInt (sgd (!(b1 == b2)) (x1*(y2+1))) ((y1+1)*x2)) (2*L+4))):=by
 have hy1:=g1.nonneg
 have hy2:=g2.nonneg
 obtain⟨A1,c1,xs1,rfl,_⟩:=h1.open_
 obtain⟨A2,c2,xs2,rfl,_⟩:=g1.open_
 obtain⟨A3,c3,xs3,rfl,_⟩:=h2.open_
 obtain⟨A4,c4,xs4,rfl,_⟩:=g2.open_
 have HA:=hide (ai h1 (ai g1 (ai h2 g2)));clear h1 g1 h2 g2
 go_enter Tryz.func76,Tryz.ntmps76
 go_wp2_with fail
 have hb0:Below w.heap.size w (((w.alloc (.cells #[.bool b1,.slice A1 xs1.length c1,.slice A2 xs2.length c2] 43)).alloc (.cells #[.bool b2,.slice A3 xs3.length c3,.slice A4 xs4.length c4] 43)).alloc (.cells #[.bool false,.slice none 0 0,.slice none 0 0] 43)).drew:=((((blr _ _).alloc (nr _) _).alloc (by simp) _).alloc (by simp;omega) _).drew
 have hs0:Below (w.heap.size+3) (((w.alloc (.cells #[.bool b1,.slice A1 xs1.length c1,.slice A2 xs2.length c2] 43)).alloc (.cells #[.bool b2,.slice A3 xs3.length c3,.slice A4 xs4.length c4] 43)).alloc (.cells #[.bool false,.slice none 0 0,.slice none 0 0] 43)) (((w.alloc (.cells #[.bool b1,.slice A1 xs1.length c1,.slice A2 xs2.length c2] 43)).alloc (.cells #[.bool b2,.slice A3 xs3.length c3,.slice A4 xs4.length c4] 43)).alloc (.cells #[.bool false,.slice none 0 0,.slice none 0 0] 43)).drew:=(blr _ _).drew
 have HK:=hide (fun w' (h:Below (w.heap.size+3) (((w.alloc (.cells #[.bool b1,.slice A1 xs1.length c1,.slice A2 xs2.length c2] 43)).alloc (.cells #[.bool b2,.slice A3 xs3.length c3,.slice A4 xs4.length c4] 43)).alloc (.cells #[.bool false,.slice none 0 0,.slice none 0 0] 43)) w')=>(two_of h:w'.cell? ⟨w.heap.size,0,none⟩=some (.bool b1)/\w'.cell? ⟨w.heap.size,1,none⟩=some (.slice A1 xs1.length c1)/\w'.cell? ⟨w.heap.size,2,none⟩=some (.slice A2 xs2.length c2)/\w'.cell? ⟨w.heap.size+1,0,none⟩=some (.bool b2)/\w'.cell? ⟨w.heap.size+1,1,none⟩=some (.slice A3 xs3.length c3)/\w'.cell? ⟨w.heap.size+1,2,none⟩=some (.slice A4 xs4.length c4)))
 go_region_held3 (fun w'=>w'.cell? ⟨w.heap.size,0,none⟩=some (.bool b1)/\w'.cell? ⟨w.heap.size,1,none⟩=some (.slice A1 xs1.length c1)/\w'.cell? ⟨w.heap.size,2,none⟩=some (.slice A2 xs2.length c2)/\w'.cell? ⟨w.heap.size+1,0,none⟩=some (.bool b2)/\w'.cell? ⟨w.heap.size+1,1,none⟩=some (.slice A3 xs3.length c3)/\w'.cell? ⟨w.heap.size+1,2,none⟩=some (.slice A4 xs4.length c4))
  (first|(go_keep;done)|(have hq:=HK.out _ hs5;simp only[zi (show w.heap.size≠w.heap.size+1+1 by omega),zi (show w.heap.size+1≠w.heap.size+1+1 by omega)];exact hq)|(exact HK.out _ hs5)|(exact HK.out _ hs4)|(exact HK.out _ hs3)|(exact HK.out _ hs2)|(exact HK.out _ hs1))
  (first
   | (go_at_call_of 129 (Value.agg #[.bool b2,.slice A3 xs3.length c3,.slice A4 xs4.length c4]);refine(zar _ _ _ _ y2 L (HA.out.2.2.2.below hb0) (by omega)).mono ?_;rintro e w1 ⟨u1,rfl,q1,hd1⟩;have hs1:=zh hs0 hd1 (by simp);have hb1:=bnx hb0 hd1)
   | (go_at_call_of 128 (Value.slice A1 xs1.length c1);refine(zaz _ _ _ x1 (y2+1) L (L+2) (HA.out.1.below hb1) q1 (by omega) (by omega)).mono ?_;rintro e w2 ⟨u2,rfl,q2,hd2⟩;have hs2:=zh hs1 hd2 (by simp);have hb2:=bnx hb1 hd2)
   | (go_at_call_of 129 (Value.agg #[.bool b1,.slice A1 xs1.length c1,.slice A2 xs2.length c2]);refine(zar _ _ _ _ y1 L (HA.out.2.1.below hb2) (by omega)).mono ?_;rintro e w3 ⟨u3,rfl,q3,hd3⟩;have hs3:=zh hs2 hd3 (by simp);have hb3:=bnx hb2 hd3)
   | (go_at_call_of 128 u3;refine(zaz _ _ _ (y1+1) x2 (L+2) L q3 (HA.out.2.2.1.below hb3) (by omega) (by omega)).mono ?_;rintro e w4 ⟨u4,rfl,q4,hd4⟩;have hs4:=zh hs3 hd4 (by simp);have hb4:=bnx hb3 hd4)
   | (go_at_call 127;refine(zb7 _ _ _ _ (x1*(y2+1)) ((y1+1)*x2) (2*L+4) ((q2.below (bnx hd3 hd4)).more (by omega)) (q4.more (by omega)) (by omega) (Int.mul_pos (by omega) hx2)).mono ?_;rintro e w5 ⟨u5,rfl,⟨rn,rl,rfl,q5,q6⟩,hd5⟩;have hs5:=zh hs4 hd5 (by simp);have hb5:=bnx hb4 hd5;obtain⟨A5,c5,xs5,rfl,_⟩:=q5.open_;obtain⟨A6,c6,xs6,rfl,_⟩:=q6.open_;obtain⟨_,_,⟨m0,m1,m2⟩,⟨f0,f1,f2⟩,hz⟩:=zaE hs5))
 go_wp2
 refine bodyPost_ret (v:=.agg #[.bool (decide ((Rat.divInt (sgd (!(b1 == b2)) (x1*(y2+1))) ((y1+1)*x2)).num<0)),.slice A5 xs5.length c5,.slice A6 xs6.length c6]) ?_ rfl ?_
 ·simp[results,Tryz.results76,go_sem,m0,m1,m2,hz]
 refine⟨_,rfl,⟨.slice A5 xs5.length c5,.slice A6 xs6.length c6,rfl,?_,?_⟩,zm hb5 (by omega) _ _ _⟩
 ·exact q5.set3 m0 m1 m2
 ·exact q6.set3 m0 m1 m2
end Go.Proofs.YtpoahodnakhmiaaGreat
