import Derived.Test.YtpoahodnakhmiaaGreatBits
import Derived.Deep.QuietTactic
import Derived.BigQuiet
namespace Go.Proofs.YtpoahodnakhmiaaGreat
set_option linter.unusedVariables false
set_option linter.unusedSimpArgs false
open Go.RowKit
theorem zhq (w:World) (A:Option Addr) (c:Nat) (xs:List Int) (n:Nat) (h:Arr w A .u32 xs) (hc:xs.length<=c) (hm:c<=maxLen) (hl:xs.length<=1073741824) (hd:Dig 4294967296 xs) (hn:n<32):
  Calls Tryz.prog 197 #[.slice A xs.length c,.int .i64 n] w (Ret (natR w (val 4294967296 xs*2^n) (xs.length+1))):=by
 unfold maxLen at hm
 obtain⟨hp0,hp1⟩:=zb2 n (by omega)
 obtain⟨hq0,hq1⟩:=zb2 (32-n) (by omega)
 go_enter Tryz.func197,Tryz.ntmps197
 go_wp2
 go_loopw [5,6,11] (fun s5 s6 s11 wr=>∃(k:Nat) (os:List Int) (cy:Int),k<=xs.length/\s11=.int .i64 k/\s6=.int .u32 cy/\0<=cy/\cy<2^n/\os.length=k/\Dig 4294967296 os /\
   val 4294967296 os+4294967296^k*cy=val 4294967296 (xs.take k)*2^n/\OwnI wr w.heap.size 190 .u32 s5 os/\Below w.heap.size w wr)
  (fun _ _ s11 _=>xs.length-(intOf s11).toNat)
 case atStart=>exact⟨0,[],0,Nat.zero_le _,rfl,rfl,by omega,by omega,rfl,Dig.nil _,by simp[val],OwnI.nil _ _ _ _,blr _ _⟩
 case round=>
  obtain⟨k,os,cy,hk,rfl,rfl,hy0,hy1,hos,hdos,hval,hown,hbel⟩:=hrel
  have hosl:os.length<=17592186044000:=by omega
  by_cases hkx:k<xs.length
  ·obtain⟨b,o,rfl,hbl,hcell⟩:=h.at_ (by omega)
   obtain⟨x,hx⟩:∃x,x=xs.getD k 0:=⟨_,rfl⟩
   have hxc:=(hbel.cell (p:=⟨b,o+k,none⟩) hbl).trans (hcell k hkx)
   have hxb:=hd.at_ hkx
   have htx:=zo 4294967296 xs k hkx
   rw[<-hx] at hxc hxb htx
   obtain⟨hx0,hx1⟩:=hxb
   have hor:=or32 n x cy (by omega) hx0 hy0 hy1
   have hsp:=zh6 n x (by omega)
   have hdv0:0<=x / 2^(32-n):=Int.ediv_nonneg hx0 (by omega)
   have hdv1:x / 2^(32-n)<2^n:=by
    apply Int.ediv_lt_of_lt_mul (by omega)
    rw[<-Int.pow_add,show n+(32-n)=32 by omega];exact hx1
   have hmd0:0<=x*2^n%4294967296:=Int.emod_nonneg _ (by omega)
   have hmd1:x*2^n%4294967296+2^n<=4294967296:=by
    have e:(4294967296:Int)=2^n*2^(32-n):=by
     rw[<-Int.pow_add,show n+(32-n)=32 by omega];rfl
    have e2:x*2^n%4294967296=2^n*(x%2^(32-n)):=by
     rw[e,Int.mul_comm x,Int.mul_emod_mul_of_pos _ _ (by omega)]
    have h3:x%2^(32-n)+1<=2^(32-n):=Int.emod_lt_of_pos _ (by omega)
    have h4:=Int.mul_le_mul_of_nonneg_left h3 (show (0:Int)<=2^n by omega)
    rw[<-e,Int.mul_add] at h4
    rw[e2];omega
   have HT:=hide htx;clear htx
   have HV:=hide hval;clear hval
   have HX:=hide hx;clear hx
   have HL:=hide hos;clear hos
   have HS:=hide hsp;clear hsp
   clear hcell h hd
   go_wp2_with (at_builtin;refine app1 Tryz.u32T _ rfl _ _ rfl w.heap.size _ os (x*2^n%4294967296+cy) rfl (hown.keep ((blr _ _).alloc (nr _) _)) ⟨wr.heap.size,0,none⟩ _ rfl (by simp[World.cell?_alloc_new]) hosl (by have:=hbel.size;simp;omega) ?_;intro g c1 w1 hown1 _ _ hb1)
   go_roundw
   case rel=>
    refine⟨k+1,os++[x*2^n%4294967296+cy],x / 2^(32-n),by omega,by go_num,?_,hdv0,hdv1,by simp[HL.out],hdos.snoc (by omega) (by omega),?_,hown1,(hbel.alloc hbel.size _).trans hb1⟩
    ·go_num
    rw[zF,HL.out,HT.out]
    have:=HV.out
    have e:=HS.out
    grind
   case measure=>simp[intOf];omega
  ·obtain rfl:k=xs.length:=by omega
   rw[List.take_of_length_le (nr _)] at hval
   have HV:=hide hval;clear hval
   have HL:=hide hos;clear hos
   have hD:=hide hd
   clear h hd
   go_wp2_with (first
    | (at_builtin;refine app1 Tryz.u32T _ rfl _ _ rfl w.heap.size _ os cy rfl (hown.keep ((blr _ _).alloc (nr _) _)) ⟨wr.heap.size,0,none⟩ _ rfl (by simp[World.cell?_alloc_new]) hosl (by have:=hbel.size;simp;omega) ?_;intro g c1 w1 hown1 hc1 hm1 hb1)
    | (go_at_call 170;refine(zbz _ _ _ _ (os++[cy]) (by simp) (Arr.of_own (n:=os.length+1) (c:=c1) (by simpa[OwnI] using hown1)).2 hc1 hm1).mono ?_;rintro e w' ⟨v,rfl,n,hn,rfl,rfl⟩;have HN:=hide hn;clear hn))
   go_ret
   have hv:=NatV.of_trim (Arr.of_own (n:=os.length+1) (c:=c1) (by simpa[OwnI] using hown1)).2 (hdos.snoc hy0 (by omega)) (by simp[HL.out,maxLen];omega) HN.out
   refine⟨_,rfl,?_,(hbel.alloc hbel.size _).trans hb1⟩
   rw[zF,HL.out,HV.out] at hv
   refine hv.more (by simp[HL.out])
theorem zf8 (w:World) (v:Value) (x:Int) (L n:Nat) (hx:NatV w v x L) (hL:L<=1073741824) (hn:n<32):
  Calls Tryz.prog 197 #[v,.int .i64 n] w (Ret (natR w (x*2^n) (L+1))):=by
 obtain⟨A,c,xs,rfl,hc,hm,ha,hd,hnn,rfl,hl⟩:=hx
 refine(zhq w A c xs n ha hc hm (by omega) hd hn).mono ?_
 rintro e w' ⟨v,rfl,h1,h2⟩
 exact⟨v,rfl,h1.more (by omega),h2⟩
theorem or32' (n:Nat) (y cy:Int) (hn:n<=32) (h0:0<=y) (h2:0<=cy) (h3:cy<2^n):bits .or .u32 cy (y*2^n%4294967296)=cy+y*2^n%4294967296:=by
 obtain⟨y,rfl⟩:=Int.eq_ofNat_of_zero_le h0
 obtain⟨c,rfl⟩:=Int.eq_ofNat_of_zero_le h2
 have hc:c<2^n:=by
  have:((2^n:Nat):Int)=(2:Int)^n:=by simp
  omega
 have hp:2^n<=4294967296:=by
  have:=Nat.pow_le_pow_right (show 0<2 by omega) hn
  simpa using this
 have e:(y:Int)*2^n%4294967296=((y*2^n%4294967296:Nat):Int):=by simp
 have hm:y*2^n%4294967296%2^n=0:=by
  have hd:2^n ∣ 4294967296:=by
   have:=Nat.pow_dvd_pow 2 hn
   simpa using this
  rw[Nat.mod_mod_of_dvd _ hd,Nat.mul_mod_left]
 rw[e,u32_or_nat _ _ (by omega) (by omega),Nat.or_comm,nat_join n _ c hm hc]
 omega
theorem zf9 (V P bk r0 x z p m:Int) (hv:V*p+r0=P+bk*(x%p)) (e:4294967296=p*m):
  (V+bk*(x / p+m*z))*p+r0=P+bk*x+bk*4294967296*z:=by
 have hx:=Int.emod_add_mul_ediv x p
 grind
theorem zdG (xs:List Int) (i:Nat) (d:Int) (h:i<xs.length):(xs.set i d).take (i+1)=xs.take i++[d]:=by
 rw[zfQ _ _ (by simpa using h),za0 h]
 congr 1
 simp[List.take_set_of_le]
set_option maxHeartbeats 400000 in
theorem zkL (w:World) (A:Option Addr) (c:Nat) (xs:List Int) (n:Nat) (h:Arr w A .u32 xs) (hc:xs.length<=c) (hm:c<=maxLen) (hl:xs.length<=1073741824) (hd:Dig 4294967296 xs) (hn:n<32):
  Calls Tryz.prog 199 #[.slice A xs.length c,.int .i64 n] w (Ret fun v w'=>∃y,NatV w' v y xs.length/\y*2^n+xs.getD 0 0%2^n=val 4294967296 xs/\Below w.heap.size w w'):=by
 unfold maxLen at hm
 obtain⟨hp0,hp1⟩:=zb2 n (by omega)
 obtain⟨hq0,hq1⟩:=zb2 (32-n) (by omega)
 have hmk:=zby Tryz.u32T xs.length (by omega)
 go_enter Tryz.func199,Tryz.ntmps199
 go_wp2
 go_loopw [13] (fun s13 wr=>∃(k:Nat) (os:List Int),k<=xs.length/\s13=.int .i64 k/\os.length=xs.length/\Dig 4294967296 os /\
   val 4294967296 (os.take k)*2^n+xs.getD 0 0%2^n=val 4294967296 (xs.take k)+4294967296^k*(xs.getD k 0%2^n)/\Blk wr w.heap.size 190 .u32 os/\Below w.heap.size w wr)
  (fun s13 _=>xs.length-(intOf s13).toNat)
 case atStart=>exact⟨0,List.replicate xs.length 0,Nat.zero_le _,rfl,by simp,Dig.replicate _ (by omega) _,by simp[val],Blk.new _ _ _ _,(blr _ _).alloc (nr _) _⟩
 case round=>
  obtain⟨k,os,hk,rfl,hos,hdos,hval,hblk,hbel⟩:=hrel
  by_cases hkx:k<xs.length
  ·obtain⟨b,o,rfl,hbl,hcell⟩:=h.at_ (by omega)
   obtain⟨x,hx⟩:∃x,x=xs.getD k 0:=⟨_,rfl⟩
   have hxc:=(hbel.cell (p:=⟨b,o+k,none⟩) hbl).trans (hcell k hkx)
   have hxb:=hd.at_ hkx
   have htx:=zo 4294967296 xs k hkx
   rw[<-hx] at hxc hxb htx
   obtain⟨hx0,hx1⟩:=hxb
   obtain⟨q,hq⟩:∃q,q=os.getD k 0:=⟨_,rfl⟩
   have hqc:=hblk.cell (j:=k) (by omega)
   rw[<-hq] at hqc
   have hqf:=hblk.frozen k
   have hdv0:0<=x / 2^n:=Int.ediv_nonneg hx0 (by omega)
   have e:(4294967296:Int)=2^n*2^(32-n):=by
    rw[<-Int.pow_add,show n+(32-n)=32 by omega];rfl
   have hdv1:x / 2^n<2^(32-n):=by
    apply Int.ediv_lt_of_lt_mul (by omega)
    rw[Int.mul_comm,<-e];exact hx1
   by_cases hkx1:k+1<xs.length
   ·obtain⟨y,hy⟩:∃y,y=xs.getD (k+1) 0:=⟨_,rfl⟩
    have hyc:=(hbel.cell (p:=⟨b,o+(k+1),none⟩) hbl).trans (hcell (k+1) hkx1)
    have hyb:=hd.at_ hkx1
    rw[<-hy] at hyc hyb
    obtain⟨hy0,hy1⟩:=hyb
    have hor:=or32' (32-n) y (x / 2^n) (by omega) hy0 hdv0 hdv1
    have hb2:=hblk.set_ k (x / 2^n)
    have hqc2:=hb2.cell (j:=k) (by simp;omega)
    rw[za0 (by omega)] at hqc2
    have hqf2:=hb2.frozen k
    have hmul:0<=y*2^(32-n):=Int.mul_nonneg hy0 (by omega)
    have hmul2:y*2^(32-n)<18446744073709551616:=by
     have h1:=Int.mul_le_mul (show y<=4294967295 by omega) hq1 (by omega) (by omega)
     omega
    have HE:=hide e;clear e
    have HT:=hide htx;clear htx
    have HV:=hide hval;clear hval
    have HX:=hide (ai hx hy);clear hx hy hq
    have HL:=hide hos;clear hos
    clear hcell h hd hmk
    go_wp2
    go_region
    go_wp2
    go_roundw
    case rel=>
     have e:=HE.out
     have hm0:0<=y*2^(32-n)%4294967296:=Int.emod_nonneg _ (by omega)
     have e2:y*2^(32-n)%4294967296=2^(32-n)*(y%2^n):=by
      rw[e,Int.mul_comm y,Int.mul_comm (2^n),Int.mul_emod_mul_of_pos _ _ (by omega)]
     have hm1:y*2^(32-n)%4294967296+2^(32-n)<=4294967296:=by
      have h3:y%2^n+1<=2^n:=Int.emod_lt_of_pos _ (by omega)
      have h4:=Int.mul_le_mul_of_nonneg_left h3 (show (0:Int)<=2^(32-n) by omega)
      rw[Int.mul_add,Int.mul_comm (2^(32-n)) (2^n),<-e] at h4
      rw[e2];omega
     refine⟨k+1,(os.set k (x / 2^n)).set k (x / 2^n+y*2^(32-n)%4294967296),by omega,by go_num,by simp[HL.out],(hdos.set_ _ hdv0 (by omega)).set_ _ (by omega) (by omega),?_,hb2.set_ k _,(hbel.setCell (by simp) _).trans (((blr _ _).setCell (by simp) _).drew)⟩
     rw[List.set_set,zdG _ _ _ (by have:=HL.out;omega),zF,HT.out,List.length_take,Nat.min_eq_left (by have:=HL.out;omega),<-HX.out.2,e2]
     have hv:=HV.out
     rw[<-HX.out.1] at hv
     rw[Int.pow_succ]
     exact zf9 _ _ _ _ _ _ _ _ hv e
    case measure=>simp[intOf];omega
   ·have hyz:xs.getD (k+1) 0=0:=by simp[List.getD,List.getElem?_eq_none (show xs.length<=k+1 by omega)]
    have HE:=hide e;clear e
    have HT:=hide htx;clear htx
    have HV:=hide hval;clear hval
    have HX:=hide (ai hx hyz);clear hx hq hyz
    have HL:=hide hos;clear hos
    clear hcell h hd hmk
    go_wp2
    go_roundw
    case rel=>
     have e:=HE.out
     have hm4:(2:Int)^(32-n)<=4294967296:=hq1
     refine⟨k+1,os.set k (x / 2^n),by omega,by go_num,by simp[HL.out],hdos.set_ _ hdv0 (by omega),?_,hblk.set_ k _,hbel.setCell (by simp) _⟩
     rw[zdG _ _ _ (by have:=HL.out;omega),zF,HT.out,List.length_take,Nat.min_eq_left (by have:=HL.out;omega),HX.out.2]
     have hv:=HV.out
     rw[<-HX.out.1] at hv
     have:=zf9 _ _ _ _ _ 0 _ _ hv e
     simpa using this
    case measure=>simp[intOf];omega
  ·obtain rfl:k=xs.length:=by omega
   have hz:xs.getD xs.length 0=0:=by simp[List.getD]
   rw[List.take_of_length_le (nr _),List.take_of_length_le (by omega),hz] at hval
   have hml:xs.length<=maxLen:=by unfold maxLen;omega
   have HV:=hide hval;clear hval
   have HL:=hide hos;clear hos
   clear h hd hmk hz
   go_wp2_with (go_at_call 170;refine(zbz _ _ _ _ os HL.out hblk.arr (nr _) hml).mono ?_;rintro e w' ⟨v,rfl,n,hn,rfl,rfl⟩;have HN:=hide hn;clear hn)
   go_ret
   have hv:=NatV.of_trim hblk.arr hdos (by rw[HL.out];exact hml) HN.out
   have hv2:=HV.out
   exact⟨_,rfl,_,hv.more (by rw[HL.out];exact nr _),by simpa using hv2,hbel⟩
theorem znT (w:World) (v:Value) (y:Int) (L n:Nat) (hx:NatV w v (y*2^n) L) (hL:L<=1073741824) (hn:n<32):
  Calls Tryz.prog 199 #[v,.int .i64 n] w (Ret (natR w y L)):=by
 obtain⟨A,c,xs,rfl,hc,hm,ha,hd,hnn,hv,hl⟩:=hx
 obtain⟨hp0,hp1⟩:=zb2 n (by omega)
 have e:(4294967296:Int)=2^n*2^(32-n):=by
  rw[<-Int.pow_add,show n+(32-n)=32 by omega];rfl
 refine(zkL w A c xs n ha hc hm (by omega) hd hn).mono ?_
 rintro e' w' ⟨v,rfl,z,h1,h2,h3⟩
 refine⟨v,rfl,?_,h3⟩
 have h0:xs.getD 0 0%2^n=0:=by
  have h4:val 4294967296 xs%2^n=0:=by rw[hv,Int.mul_emod_left]
  cases xs with
  | nil=>simp
  | cons d ds=>
   simp only[val] at h4
   rw[e,Int.mul_assoc,Int.add_mul_emod_self_left] at h4
   simpa using h4
 rw[h0,hv,Int.add_zero] at h2
 have:=Int.eq_of_mul_eq_mul_right (by omega) h2
 subst this
 exact h1.more hl
def zkM (w:World) (us vs:List Int) (n:Int) (v:Value) (w':World):Prop:=
 ∃A c ls,v=.tuple #[.slice A us.length c,.bool (decide (n*val 4294967296 vs<=val 4294967296 us))]/\ls.length=us.length/\Arr w' A .u32 ls/\Dig 4294967296 ls /\
  (n*val 4294967296 vs<=val 4294967296 us->val 4294967296 ls=val 4294967296 us-n*val 4294967296 vs)/\Below w.heap.size w w'
theorem zfd (L bk b c X n V d y b' c' o t:Int) (h:L+bk*(b-c)=X-n*V) (h1:t%4294967296+4294967296*(t / 4294967296)=t) (ht:t=c+n*y) (h2:o+4294967296*b'=b+(d-t%4294967296)) (hc':c'=t / 4294967296):
  L+bk*o+bk*4294967296*(b'-c')=(X+bk*d)-n*(V+bk*y):=by
 subst ht hc'
 grind
set_option maxHeartbeats 800000 in
theorem znf (w:World) (A A':Option Addr) (c c':Nat) (us vs:List Int) (n:Int) (h:Arr w A .u32 us) (h':Arr w A' .u32 vs)
  (hd:Dig 4294967296 us) (hd':Dig 4294967296 vs) (hl:us.length<=1073741824) (hyx:vs.length<us.length) (hn0:0<=n) (hn1:n<4294967296):
  Calls Tryz.prog 209 #[.slice A us.length c,.slice A' vs.length c',.int .u64 n] w (Ret (zkM w us vs n)):=by
 go_enter Tryz.func209,Tryz.ntmps209
 go_wp2
 go_loopw [6,8,9,14] (fun s6 s8 s9 s14 wr=>∃(k:Nat) (os:List Int) (cy br:Int),k<=us.length/\s14=.int .i64 k/\s8=.int .u64 cy/\s9=.int .i64 br/\0<=cy/\cy<4294967296/\-1<=br/\br<=0/\(vs.length<k->cy=0)/\os.length=k/\Dig 4294967296 os /\
   val 4294967296 os+4294967296^k*(br-cy)=val 4294967296 (us.take k)-n*val 4294967296 (vs.take k)/\OwnI wr w.heap.size 190 .u32 s6 os/\Below w.heap.size w wr)
  (fun _ _ _ s14 _=>us.length-(intOf s14).toNat)
 case atStart=>exact⟨0,[],0,0,Nat.zero_le _,rfl,rfl,rfl,by omega,by omega,by omega,by omega,fun _=>rfl,rfl,Dig.nil _,by simp[val],OwnI.nil _ _ _ _,blr _ _⟩
 case round=>
  obtain⟨k,os,cy,br,hk,rfl,rfl,rfl,hy0,hy1,hb0,hb1,hcz,hos,hdos,hval,hown,hbel⟩:=hrel
  have hosl:os.length<=17592186044000:=by omega
  by_cases hkx:k<us.length
  ·obtain⟨b,o,rfl,hbl,hcell⟩:=h.at_ (by omega)
   obtain⟨x,hx⟩:∃x,x=us.getD k 0:=⟨_,rfl⟩
   have hxc:=(hbel.cell (p:=⟨b,o+k,none⟩) hbl).trans (hcell k hkx)
   have hxb:=hd.at_ hkx
   have htx:=zo 4294967296 us k hkx
   rw[<-hx] at hxc hxb htx
   obtain⟨hx0,hx1⟩:=hxb
   by_cases hky:k<vs.length
   ·obtain⟨b',o',rfl,hbl',hcell'⟩:=h'.at_ (by omega)
    obtain⟨y,hy⟩:∃y,y=vs.getD k 0:=⟨_,rfl⟩
    have hyc:=(hbel.cell (p:=⟨b',o'+k,none⟩) hbl').trans (hcell' k hky)
    have hyb:=hd'.at_ hky
    have hty:=zo 4294967296 vs k hky
    rw[<-hy] at hyc hyb hty
    obtain⟨hyl,hyu⟩:=hyb
    have hny0:0<=n*y:=Int.mul_nonneg hn0 hyl
    have hny1:n*y<=18446744065119617025:=Int.mul_le_mul (show n<=4294967295 by omega) (show y<=4294967295 by omega) hyl (by omega)
    have HT:=hide (ai htx hty);clear htx hty
    have HV:=hide hval;clear hval
    have HX:=hide (ai hx hy);clear hx hy
    have HL:=hide hos;clear hos
    clear hcell hcell' h h' hd hd' hcz
    have hand:=and64 (cy+n*y) (by omega) (by omega)
    go_wp2_with (at_builtin;refine app1 Tryz.u32T _ rfl _ _ rfl w.heap.size _ os ((br+(x-(cy+n*y)%4294967296))%4294967296) rfl (hown.keep ((blr _ _).alloc (nr _) _)) ⟨wr.heap.size,0,none⟩ _ rfl (by simp[World.cell?_alloc_new]) hosl (by have:=hbel.size;simp;omega) ?_;intro g c1 w1 hown1 _ _ hb1)
    go_roundw
    case rel=>
     refine⟨k+1,os++[(br+(x-(cy+n*y)%4294967296))%4294967296],(cy+n*y) / 4294967296,(br+(x-(cy+n*y)%4294967296)) / 4294967296,by omega,by go_num,rfl,rfl,by omega,by omega,by omega,by omega,by omega,by simp[HL.out],hdos.snoc (by omega) (by omega),?_,hown1,(hbel.alloc hbel.size _).trans hb1⟩
     rw[zF,HL.out,HT.out.1,HT.out.2,Int.pow_succ]
     have hv:=HV.out
     have e2:(br+(x-(cy+n*y)%4294967296))%4294967296+4294967296*((br+(x-(cy+n*y)%4294967296)) / 4294967296)=br+(x-(cy+n*y)%4294967296):=Int.emod_add_mul_ediv _ _
     have:=zfd _ _ _ _ _ _ _ _ y _ _ _ (cy+n*y) hv (Int.emod_add_mul_ediv _ _) rfl e2 rfl
     exact this
    case measure=>simp[intOf];omega
   ·have hty1:=zn 4294967296 vs k (by omega)
    have hty2:=zn 4294967296 vs (k+1) (by omega)
    have HT:=hide (ai htx (ai hty1 hty2));clear htx hty1 hty2
    have HV:=hide hval;clear hval
    have HX:=hide hx;clear hx
    have HL:=hide hos;clear hos
    clear hcell h h' hd hd'
    have hand:=and64 (cy) (by omega) (by omega)
    go_wp2_with (at_builtin;refine app1 Tryz.u32T _ rfl _ _ rfl w.heap.size _ os ((br+(x-(cy)%4294967296))%4294967296) rfl (hown.keep ((blr _ _).alloc (nr _) _)) ⟨wr.heap.size,0,none⟩ _ rfl (by simp[World.cell?_alloc_new]) hosl (by have:=hbel.size;simp;omega) ?_;intro g c1 w1 hown1 _ _ hb1)
    go_roundw
    case rel=>
     refine⟨k+1,os++[(br+(x-(cy)%4294967296))%4294967296],(cy) / 4294967296,(br+(x-(cy)%4294967296)) / 4294967296,by omega,by go_num,rfl,rfl,by omega,by omega,by omega,by omega,fun _=>by omega,by simp[HL.out],hdos.snoc (by omega) (by omega),?_,hown1,(hbel.alloc hbel.size _).trans hb1⟩
     rw[zF,HL.out,HT.out.1,HT.out.2.2,Int.pow_succ]
     have hv:=HV.out
     rw[HT.out.2.1] at hv
     have e2:(br+(x-(cy)%4294967296))%4294967296+4294967296*((br+(x-(cy)%4294967296)) / 4294967296)=br+(x-(cy)%4294967296):=Int.emod_add_mul_ediv _ _
     have:=zfd _ _ _ _ _ _ _ _ 0 _ _ _ (cy) hv (Int.emod_add_mul_ediv _ _) (by omega) e2 rfl
     simpa using this
    case measure=>simp[intOf];omega
  ·obtain rfl:k=us.length:=by omega
   rw[List.take_of_length_le (nr _),zn _ vs _ (by omega)] at hval
   obtain rfl:cy=0:=hcz hyx
   have hv:=zam (by omega) hdos
   have hv0:=zC (B:=4294967296) (by omega) hdos
   rw[hos] at hv
   have HV:Hid (decide (0<=br)=decide (n*val 4294967296 vs<=val 4294967296 us)/\(n*val 4294967296 vs<=val 4294967296 us->val 4294967296 os=val 4294967296 us-n*val 4294967296 vs)):=by
    have h1:br=0\/br=-1:=by omega
    rcases h1 with rfl|rfl
    ·have:n*val 4294967296 vs<=val 4294967296 us:=by omega
     simp only[this]
     exact⟨by simp,fun _=>by omega⟩
    ·have:¬n*val 4294967296 vs<=val 4294967296 us:=by omega
     simp only[this]
     exact⟨by simp,fun h=>h.elim⟩
   clear hval hv hv0 hcz
   have HL:=hide hos;clear hos
   obtain⟨Ao,co,rfl,hco,hmo,hao⟩:=hown.form
   clear h h' hd hd'
   go_wp2
   go_ret2
   refine⟨_,rfl,Ao,co,os,?_,HL.out,hao,hdos,HV.out.2,hbel⟩
   rw[<-HV.out.1,<-HL.out];rfl
theorem zhr (w:World) (A A':Option Addr) (c c' m:Nat) (us vs:List Int) (hm:us.length=m) (n:Int) (h:Arr w A .u32 us) (h':Arr w A' .u32 vs)
  (hd:Dig 4294967296 us) (hd':Dig 4294967296 vs) (hl:us.length<=1073741824) (hyx:vs.length<us.length) (hn0:0<=n) (hn1:n<4294967296):
  Calls Tryz.prog 209 #[.slice A m c,.slice A' vs.length c',.int .u64 n] w (Ret (zkM w us vs n)):=by
 subst hm;exact znf w A A' c c' us vs n h h' hd hd' hl hyx hn0 hn1
theorem zkN (w:World) (A A':Option Addr) (c c' m:Nat) (us vs:List Int) (hm:us.length=m) (n:Int) (h:Arr w A .u32 us) (h':Arr w A' .u32 vs)
  (hd:Dig 4294967296 us) (hd':Dig 4294967296 vs) (hl:us.length<=1073741824) (hyx:vs.length<us.length) (hn0:0<=n) (hn1:n<4294967296) (hle:n*val 4294967296 vs<=val 4294967296 us):
  Calls Tryz.prog 209 #[.slice A m c,.slice A' vs.length c',.int .u64 n] w (Ret fun v w'=>∃A c ls,v=.tuple #[.slice A m c,.bool true]/\ls.length=m/\Arr w' A .u32 ls/\Dig 4294967296 ls/\val 4294967296 ls=val 4294967296 us-n*val 4294967296 vs/\Below w.heap.size w w'):=by
 refine(zhr w A A' c c' m us vs hm n h h' hd hd' hl hyx hn0 hn1).mono ?_
 rintro e w' ⟨v,rfl,A1,c1,ls,rfl,h1,h2,h3,h4,h5⟩
 exact⟨_,rfl,A1,c1,ls,by rw[hm,decide_eq_true hle],by rw[h1,hm],h2,h3,h4 hle,h5⟩
theorem zlY (w:World) (A A':Option Addr) (c c' m:Nat) (us vs:List Int) (hm:us.length=m) (n:Int) (h:Arr w A .u32 us) (h':Arr w A' .u32 vs)
  (hd:Dig 4294967296 us) (hd':Dig 4294967296 vs) (hl:us.length<=1073741824) (hyx:vs.length<us.length) (hn0:0<=n) (hn1:n<4294967296) (hle:¬n*val 4294967296 vs<=val 4294967296 us):
  Calls Tryz.prog 209 #[.slice A m c,.slice A' vs.length c',.int .u64 n] w (Ret fun v w'=>∃A c,v=.tuple #[.slice A m c,.bool false]/\Below w.heap.size w w'):=by
 refine(zhr w A A' c c' m us vs hm n h h' hd hd' hl hyx hn0 hn1).mono ?_
 rintro e w' ⟨v,rfl,A1,c1,ls,rfl,h1,h2,h3,h4,h5⟩
 exact⟨_,rfl,A1,c1,by rw[hm,decide_eq_false hle],h5⟩
def zng (w:World) (g j:Nat) (us vs:List Int) (v:Value) (w':World):Prop:=
 ∃ls q,v=.int .u32 q/\q=val 4294967296 ((us.drop j).take (vs.length+1)) / val 4294967296 vs/\q<4294967296/\0<=q/\ls.length=vs.length+1/\Dig 4294967296 ls /\
  val 4294967296 ls=val 4294967296 ((us.drop j).take (vs.length+1))%val 4294967296 vs/\Blk w' g 190 .u32 (us.take j++(ls++us.drop (j+(vs.length+1))))/\w.grownBy w' (some g)
theorem zlZ (n:Nat) (ss vs:List Int) (hs:ss.length=n+2) (hv:vs.length=n+1) (hd:Dig 4294967296 ss) (hd':Dig 4294967296 vs) (h0:0<vs.getD n 0) (hlt:val 4294967296 ss<val 4294967296 vs*4294967296):
  val 4294967296 ss / val 4294967296 vs<=(ss.getD (n+1) 0*4294967296+ss.getD n 0) / vs.getD n 0/\val 4294967296 ss / val 4294967296 vs<4294967296/\0<=val 4294967296 ss / val 4294967296 vs/\0<val 4294967296 vs:=by
 have t1:=zo 4294967296 ss (n+1) (by omega)
 have t2:=zo 4294967296 ss n (by omega)
 have t3:=zo 4294967296 vs n (by omega)
 rw[List.take_of_length_le (by omega)] at t1 t3
 have b1:=zam (B:=4294967296) (by omega) (hd.take n)
 have b2:=zC (B:=4294967296) (by omega) (hd'.take n)
 rw[List.length_take,Nat.min_eq_left (by omega)] at b1
 have hp:(0:Int)<4294967296^n:=Int.pow_pos (by omega)
 have hV:0<val 4294967296 vs:=by
  rw[t3];have:=Int.mul_pos hp h0;omega
 have hU:=zC (B:=4294967296) (by omega) hd
 have hq0:0<=val 4294967296 ss / val 4294967296 vs:=Int.ediv_nonneg hU (by omega)
 refine⟨?_,Int.ediv_lt_of_lt_mul hV (by rw[Int.mul_comm];exact hlt),hq0,hV⟩
 rw[Int.le_ediv_iff_mul_le h0]
 have h1:=Int.ediv_mul_le (val 4294967296 ss) (show val 4294967296 vs≠0 by omega)
 have h2:val 4294967296 ss / val 4294967296 vs*(4294967296^n*vs.getD n 0)<=val 4294967296 ss / val 4294967296 vs*val 4294967296 vs:=
  Int.mul_le_mul_of_nonneg_left (by omega) hq0
 have h3:val 4294967296 ss<4294967296^n*(ss.getD (n+1) 0*4294967296+ss.getD n 0+1):=by
  rw[t1,t2,Int.pow_succ];grind
 have h4:4294967296^n*(val 4294967296 ss / val 4294967296 vs*vs.getD n 0)<4294967296^n*(ss.getD (n+1) 0*4294967296+ss.getD n 0+1):=by
  have:4294967296^n*(val 4294967296 ss / val 4294967296 vs*vs.getD n 0)=val 4294967296 ss / val 4294967296 vs*(4294967296^n*vs.getD n 0):=by grind
  omega
 have:=Int.lt_of_mul_lt_mul_left h4 (Int.le_of_lt hp)
 omega
theorem zl0 (w:World) (g j cap:Nat) (A':Option Addr) (c':Nat) (us vs:List Int) (hb:Blk w g 190 .u32 us) (h':Arr w A' .u32 vs)
  (hd:Dig 4294967296 us) (hd':Dig 4294967296 vs) (hl:us.length<=1073741824) (hv0:0<vs.length) (hfit:j+(vs.length+1)<=us.length) (htop:vs.getD (vs.length-1) 0≠0)
  (hlt:val 4294967296 ((us.drop j).take (vs.length+1))<val 4294967296 vs*4294967296):
  Calls Tryz.prog 198 #[.slice (some ⟨g,j,none⟩) (vs.length+1) cap,.slice A' vs.length c'] w (Ret (zng w g j us vs)):=by
 obtain⟨ss,hss⟩:∃ss,ss=(us.drop j).take (vs.length+1):=⟨_,rfl⟩
 have hsl:ss.length=vs.length+1:=by subst hss;simp;omega
 have hds:Dig 4294967296 ss:=by subst hss;exact(hd.drop j).take _
 have hat:∀i,i<vs.length+1->ss.getD i 0=us.getD (j+i) 0:=by
  intro i hi;subst hss
  simp[List.getD,List.getElem?_take,hi,List.getElem?_drop]
 have hcell:∀i,i<vs.length+1->w.cell? ⟨g,j+i,none⟩=some (.int .u32 (ss.getD i 0)):=by
  intro i hi;rw[hat i hi];exact hb.cell (by omega)
 have has:Arr w (some ⟨g,j,none⟩) .u32 ss:=fun _=>⟨g,j,rfl,⟨_,_,hb⟩,fun i hi=>hcell i (by omega)⟩
 obtain⟨b',o',rfl,hbl',hcell'⟩:=h'.at_ hv0
 have c1:=hcell vs.length (by omega)
 have c2:=hcell (vs.length-1) (by omega)
 have c3:=hcell' (vs.length-1) (by omega)
 obtain⟨x1,hx1⟩:∃x,x=ss.getD vs.length 0:=⟨_,rfl⟩
 obtain⟨x2,hx2⟩:∃x,x=ss.getD (vs.length-1) 0:=⟨_,rfl⟩
 obtain⟨y,hy⟩:∃x,x=vs.getD (vs.length-1) 0:=⟨_,rfl⟩
 have d1:=hds.at_ (k:=vs.length) (by omega)
 have d2:=hds.at_ (k:=vs.length-1) (by omega)
 have d3:=hd'.at_ (k:=vs.length-1) (by omega)
 have hge:=zlZ (vs.length-1) ss vs (by omega) (by omega) hds hd' (by omega) (by rw[hss];exact hlt)
 rw[show vs.length-1+1=vs.length by omega] at hge
 rw[<-hx1] at c1 d1 hge
 rw[<-hx2] at c2 d2 hge
 rw[<-hy] at c3 d3 hge htop
 obtain⟨d10,d11⟩:=d1
 obtain⟨d20,d21⟩:=d2
 obtain⟨d30,d31⟩:=d3
 obtain⟨Q,hQ⟩:∃Q,Q=val 4294967296 ss / val 4294967296 vs:=⟨_,rfl⟩
 rw[<-hQ] at hge
 obtain⟨hg1,hg2,hg3,hV⟩:=hge
 have hy0:0<y:=by omega
 have hor:=or64 x1 x2 d10 d11 d20 d21
 have hin:0<=(x1*4294967296+x2) / y:=Int.ediv_nonneg (by omega) (by omega)
 have H1:=hide (ai hx1 (ai hx2 hy));clear hx1 hx2 hy
 have HQ:=hide hQ;clear hQ
 have HS:=hide hss;clear hss
 have HSL:=hide hsl;clear hsl
 rw[<-HS.out] at hlt
 have HLT:=hide hlt;clear hlt
 have HA:=hide hat;clear hat
 clear hcell hcell'
 have n1:(0:Int)<=(vs.length:Int)-1:=by omega
 have n2:((vs.length:Int)-1).toNat=vs.length-1:=by omega
 have hssl:ss.length<=1073741824:=by have:=HSL.out;omega
 have hvss:vs.length<ss.length:=by have:=HSL.out;omega
 go_enter Tryz.func198,Tryz.ntmps198
 go_wp2
 go_quiet (fail)
 go_wp2
 all_goals
  go_loopw [6] (fun s6 wr=>∃q:Int,s6=.int .u64 q/\Q<=q/\q<4294967296/\Below w.heap.size w wr) (fun s6 _=>(intOf s6).toNat)
  case atStart=>exact⟨_,rfl,by omega,by omega,zw (blr _ _) _⟩
  case round=>
   obtain⟨q,rfl,hq1,hq2,hbel⟩:=hrel
   have has2:=has.below hbel
   have h2:=h'.below hbel
   by_cases hqQ:q=Q
   ·subst hqQ
    have hle:q*val 4294967296 vs<=val 4294967296 ss:=by
     rw[HQ.out];exact Int.ediv_mul_le _ (by omega)
    have HLE:=hide hle;clear hle
    clear hq1 has h'
    go_wp2_with (first
     | (go_at_call 209;refine(zkN _ _ _ _ _ _ ss vs HSL.out q has2 h2 hds hd' hssl hvss hg3 hq2 HLE.out).mono ?_;rintro e w1 ⟨v,rfl,A1,c4,ls,rfl,hls,hal,hdl,hvl,hbw⟩;have HLS:=hide hls;clear hls;have HVL:=hide hvl;clear hvl)
     | (with_reducible refine copyI Tryz.u32T rfl (.tmp 40) (.tmp 41) 40 rfl g j (vs.length+1) cap (vs.length+1) c4 A1 rfl rfl us ls ((hb.keep hbel).keep hbw) HLS.out hal (vs.length+1) (by simp) (by omega) hfit ?_;intro w2 hblk2 hgr hsz))
    go_ret
    refine⟨_,rfl,ls,q,rfl,?_,hq2,hg3,HLS.out,hdl,?_,?_,?_⟩
    ·rw[<-HS.out,<-HQ.out]
    ·rw[HVL.out,<-HS.out,HQ.out,Int.emod_def,Int.mul_comm]
    ·rw[List.take_of_length_le (l:=ls) (by rw[HLS.out];exact nr _)] at hblk2
     exact hblk2
    ·have hb2:=bnx hbel hbw
     exact⟨hgr.os.trans hb2.os,hgr.tape.trans hb2.tape,hgr.output.trans hb2.output,Nat.le_trans hb2.size hgr.size,fun k hk hne=>(hgr.block k (Nat.lt_of_lt_of_le hk hb2.size) hne).trans (hb2.block k hk)⟩
   ·have hle:¬q*val 4294967296 vs<=val 4294967296 ss:=by
     intro hc
     have:=(Int.le_ediv_iff_mul_le hV).2 hc
     have:=HQ.out
     omega
    have HLE:=hide hle;clear hle
    have hq3:Q+1<=q:=by omega
    clear hqQ has h'
    have hq0:0<=q:=by omega
    go_wp2_with (go_at_call 209;refine(zlY _ _ _ _ _ _ ss vs HSL.out q has2 h2 hds hd' hssl hvss hq0 hq2 HLE.out).mono ?_;rintro e w1 ⟨v,rfl,A1,c4,rfl,hbw⟩)
    go_roundw
    case rel=>exact⟨q-1,by go_num,by omega,by omega,bnx hbel hbw⟩
    case measure=>simp[intOf];omega
end Go.Proofs.YtpoahodnakhmiaaGreat
