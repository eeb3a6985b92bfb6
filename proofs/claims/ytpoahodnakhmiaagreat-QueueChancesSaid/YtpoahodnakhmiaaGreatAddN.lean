import Derived.Test.YtpoahodnakhmiaaGreatZ9
set_option maxRecDepth 100000
namespace Go.Proofs.YtpoahodnakhmiaaGreat
open Go.RowKit
set_option linter.unusedVariables false
set_option linter.unusedSimpArgs false
theorem zcL (V T U cy x y:Int) (k:Nat) (h:V+1000000000^k*cy=T+U):
  V+1000000000^k*((cy+x+y)%1000000000)+1000000000^(k+1)*((cy+x+y) / 1000000000)=T+1000000000^k*x+(U+1000000000^k*y):=by
 have e:=Int.emod_add_mul_ediv (cy+x+y) 1000000000
 rw[Int.pow_succ]
 grind
theorem zlf {os:List Int} {s:Int} (hd:Dig 1000000000 os) (hv:val 1000000000 os=s) (h:os≠[]->1000000000^(os.length-1)<=s):Norm os:=by
 refine Norm.of_last fun h0 hz=>?_
 have h1:=zbq 1000000000 os (os.length-1) fun j hj=>by
  rcases Nat.lt_or_ge j os.length with h2|h2
  ·have:j=os.length-1:=by omega
   rw[this];exact hz
  ·simp[List.getD,List.getElem?_eq_none h2]
 have h2:=zam (B:=1000000000) (by omega) (hd.take (os.length-1))
 rw[h1,List.length_take,show min (os.length-1) os.length=os.length-1 by omega,hv] at h2
 have h3:=h (by intro e;rw[e] at h0;simp at h0)
 omega
set_option maxHeartbeats 1000000 in
theorem zjD (w:World) (A A':Option Addr) (c c':Nat) (xs ys:List Int) (h:Arr w A .i64 xs) (hc:xs.length<=c) (hm:c<=maxLen) (h':Arr w A' .i64 ys) (hc':ys.length<=c') (hm':c'<=maxLen)
  (hd:Dig 1000000000 xs) (hd':Dig 1000000000 ys) (hn:Norm xs) (hn':Norm ys) (hl:xs.length<=17592186000000) (hl':ys.length<=17592186000000):
  Calls Tryz.prog 158 #[.slice A xs.length c,.slice A' ys.length c'] w (Ret (limR w (val 1000000000 xs+val 1000000000 ys) (max xs.length ys.length+1))):=by
 unfold maxLen at hm hm'
 obtain⟨m,hm0⟩:∃m,m=max xs.length ys.length:=⟨_,rfl⟩
 have hmx:xs.length<=m:=by omega
 have hmy:ys.length<=m:=by omega
 have hm2:m=xs.length\/m=ys.length:=by omega
 have hml:m<=17592186000000:=by omega
 have HM:=hide (ai hm0 hm2);clear hm0 hm2
 go_enter Tryz.func158,Tryz.ntmps158
 go_wp2
 go_loopw [5,6,7] (fun s5 s6 s7 wr=>∃(k:Nat) (os:List Int) (cy:Int),k<=m+1/\(k=m+1->cy=0/\1000000000^m<=val 1000000000 xs+val 1000000000 ys)/\s7=.int .i64 k/\s6=.int .i64 cy/\0<=cy/\cy<=1/\os.length=k/\Dig 1000000000 os /\
   val 1000000000 os+1000000000^k*cy=val 1000000000 (xs.take k)+val 1000000000 (ys.take k)/\OwnI wr w.heap.size 3 .i64 s5 os/\Below w.heap.size w wr)
  (fun _ _ s7 _=>m+1-(intOf s7).toNat)
 case atStart=>exact⟨0,[],0,Nat.zero_le _,fun e=>by omega,rfl,rfl,by omega,by omega,rfl,Dig.nil _,by simp[val],OwnI.nil _ _ _ _,blr _ _⟩
 case round=>
  obtain⟨k,os,cy,hk,hkm,rfl,rfl,hy0,hy1,hos,hdos,hval,hown,hbel⟩:=hrel
  have hosl:os.length<=17592186044000:=by omega
  have hva:=zC (B:=1000000000) (by omega) hdos
  by_cases hkx:k<xs.length
  ·by_cases hky:k<ys.length
   ·skip
    obtain⟨b,o,rfl,hbl,hcell⟩:=h.at_ (by omega)
    obtain⟨x,hx⟩:∃x,x=xs.getD k 0:=⟨_,rfl⟩
    have hxc:=(hbel.cell (p:=⟨b,o+k,none⟩) hbl).trans (hcell k hkx)
    have hxb:=hd.at_ hkx
    have htx:=zo 1000000000 xs k hkx
    rw[<-hx] at hxc hxb htx
    obtain⟨hx0,hx1⟩:=hxb
    have HX:=hide hx
    clear hcell hx
    obtain⟨b',o',rfl,hbl',hcell'⟩:=h'.at_ (by omega)
    obtain⟨y,hy⟩:∃y,y=ys.getD k 0:=⟨_,rfl⟩
    have hyc:=(hbel.cell (p:=⟨b',o'+k,none⟩) hbl').trans (hcell' k hky)
    have hyb:=hd'.at_ hky
    have hty:=zo 1000000000 ys k hky
    rw[<-hy] at hyc hyb hty
    obtain⟨hyl,hyu⟩:=hyb
    have HY:=hide hy
    clear hcell' hy
    have hst:=zcL _ _ _ cy x y k hval
    have HT:=hide (ai htx (ai hty (ai hst (ai hos (ai hkm hval)))));clear htx hty hst hos hkm hval
    clear h h' hd hd' hn hn' hva
    go_wp2_with (at_builtin;refine app1 Tryz.limT _ rfl _ _ rfl w.heap.size _ os ((cy+x+y)%1000000000) rfl (hown.keep ((blr _ _).alloc (nr _) _)) ⟨wr.heap.size,0,none⟩ _ rfl (by simp[World.cell?_alloc_new]) hosl (by have:=hbel.size;simp;omega) ?_;intro g c1 w1 hown1 _ _ hb1)
    go_roundw
    case rel=>
     obtain⟨htx,hty,hst,hos,hkm,hval⟩:=HT.out
     refine⟨k+1,os++[(cy+x+y)%1000000000],(cy+x+y) / 1000000000,by omega,?_,by go_num,rfl,by omega,by omega,by simp[hos],hdos.snoc (by omega) (by omega),?_,hown1,(hbel.alloc hbel.size _).trans hb1⟩
     ·intro e;exfalso;rcases HM.out.2 with e2|e2 <;> omega
     ·rw[zF,hos,htx,hty]
      try simp only[Int.add_zero] at hst
      exact hst
    case measure=>simp[intOf];omega
   ·skip
    obtain⟨b,o,rfl,hbl,hcell⟩:=h.at_ (by omega)
    obtain⟨x,hx⟩:∃x,x=xs.getD k 0:=⟨_,rfl⟩
    have hxc:=(hbel.cell (p:=⟨b,o+k,none⟩) hbl).trans (hcell k hkx)
    have hxb:=hd.at_ hkx
    have htx:=zo 1000000000 xs k hkx
    rw[<-hx] at hxc hxb htx
    obtain⟨hx0,hx1⟩:=hxb
    have HX:=hide hx
    clear hcell hx
    have hty:val 1000000000 (ys.take (k+1))=val 1000000000 (ys.take k)+1000000000^k*0:=by rw[zn _ ys _ (by omega),zn _ ys _ (by omega)];omega
    have hst:=zcL _ _ _ cy x 0 k hval
    have HT:=hide (ai htx (ai hty (ai hst (ai hos (ai hkm hval)))));clear htx hty hst hos hkm hval
    clear h h' hd hd' hn hn' hva
    go_wp2_with (at_builtin;refine app1 Tryz.limT _ rfl _ _ rfl w.heap.size _ os ((cy+x)%1000000000) rfl (hown.keep ((blr _ _).alloc (nr _) _)) ⟨wr.heap.size,0,none⟩ _ rfl (by simp[World.cell?_alloc_new]) hosl (by have:=hbel.size;simp;omega) ?_;intro g c1 w1 hown1 _ _ hb1)
    go_roundw
    case rel=>
     obtain⟨htx,hty,hst,hos,hkm,hval⟩:=HT.out
     refine⟨k+1,os++[(cy+x)%1000000000],(cy+x) / 1000000000,by omega,?_,by go_num,rfl,by omega,by omega,by simp[hos],hdos.snoc (by omega) (by omega),?_,hown1,(hbel.alloc hbel.size _).trans hb1⟩
     ·intro e;exfalso;rcases HM.out.2 with e2|e2 <;> omega
     ·rw[zF,hos,htx,hty]
      try simp only[Int.add_zero] at hst
      simpa using hst
    case measure=>simp[intOf];omega
  ·by_cases hky:k<ys.length
   ·skip
    have htx:val 1000000000 (xs.take (k+1))=val 1000000000 (xs.take k)+1000000000^k*0:=by rw[zn _ xs _ (by omega),zn _ xs _ (by omega)];omega
    obtain⟨b',o',rfl,hbl',hcell'⟩:=h'.at_ (by omega)
    obtain⟨y,hy⟩:∃y,y=ys.getD k 0:=⟨_,rfl⟩
    have hyc:=(hbel.cell (p:=⟨b',o'+k,none⟩) hbl').trans (hcell' k hky)
    have hyb:=hd'.at_ hky
    have hty:=zo 1000000000 ys k hky
    rw[<-hy] at hyc hyb hty
    obtain⟨hyl,hyu⟩:=hyb
    have HY:=hide hy
    clear hcell' hy
    have hst:=zcL _ _ _ cy 0 y k hval
    have HT:=hide (ai htx (ai hty (ai hst (ai hos (ai hkm hval)))));clear htx hty hst hos hkm hval
    clear h h' hd hd' hn hn' hva
    go_wp2_with (at_builtin;refine app1 Tryz.limT _ rfl _ _ rfl w.heap.size _ os ((cy+y)%1000000000) rfl (hown.keep ((blr _ _).alloc (nr _) _)) ⟨wr.heap.size,0,none⟩ _ rfl (by simp[World.cell?_alloc_new]) hosl (by have:=hbel.size;simp;omega) ?_;intro g c1 w1 hown1 _ _ hb1)
    go_roundw
    case rel=>
     obtain⟨htx,hty,hst,hos,hkm,hval⟩:=HT.out
     refine⟨k+1,os++[(cy+y)%1000000000],(cy+y) / 1000000000,by omega,?_,by go_num,rfl,by omega,by omega,by simp[hos],hdos.snoc (by omega) (by omega),?_,hown1,(hbel.alloc hbel.size _).trans hb1⟩
     ·intro e;exfalso;rcases HM.out.2 with e2|e2 <;> omega
     ·rw[zF,hos,htx,hty]
      try simp only[Int.add_zero] at hst
      simpa using hst
    case measure=>simp[intOf];omega
   ·by_cases hcy:0<cy
    ·have hkm2:k≠m+1:=fun e=>by have:=hkm e;omega
     have htx:val 1000000000 (xs.take (k+1))=val 1000000000 (xs.take k)+1000000000^k*0:=by rw[zn _ xs _ (by omega),zn _ xs _ (by omega)];omega
     have hty:val 1000000000 (ys.take (k+1))=val 1000000000 (ys.take k)+1000000000^k*0:=by rw[zn _ ys _ (by omega),zn _ ys _ (by omega)];omega
     have hkk:k=m:=by rcases HM.out.2 with e|e <;> omega
     have hcd:decide (0<cy)=true:=by simp[hcy]
     have hst:=zcL _ _ _ cy 0 0 k hval
     have HT:=hide (ai htx (ai hty (ai hst (ai hos (ai hkm hval)))));clear htx hty hst hos hkm hval
     clear h h' hd hd' hn hn' hva
     go_wp2_with (at_builtin;refine app1 Tryz.limT _ rfl _ _ rfl w.heap.size _ os ((cy)%1000000000) rfl (hown.keep ((blr _ _).alloc (nr _) _)) ⟨wr.heap.size,0,none⟩ _ rfl (by simp[World.cell?_alloc_new]) hosl (by have:=hbel.size;simp;omega) ?_;intro g c1 w1 hown1 _ _ hb1)
     go_roundw
     case rel=>
      obtain⟨htx,hty,hst,hos,hkm,hval⟩:=HT.out
      refine⟨k+1,os++[(cy)%1000000000],(cy) / 1000000000,by omega,?_,by go_num,rfl,by omega,by omega,by simp[hos],hdos.snoc (by omega) (by omega),?_,hown1,(hbel.alloc hbel.size _).trans hb1⟩
      ·intro _
       have hva:=zC (B:=1000000000) (by omega) hdos
       rw[hkk,zn _ xs _ hmx,zn _ ys _ hmy,show cy=1 by omega,Int.mul_one] at hval
       exact⟨by omega,by omega⟩
      ·rw[zF,hos,htx,hty]
       try simp only[Int.add_zero] at hst
       simpa using hst
     case measure=>simp[intOf];omega
    ·have hc0:cy=0:=by omega
     subst hc0
     rw[zn _ xs _ (by omega),zn _ ys _ (by omega),Int.mul_zero,Int.add_zero] at hval
     have hmk:m<=k:=by rcases HM.out.2 with e|e <;> omega
     have hno:Norm os:=by
      refine zlf hdos hval fun hne=>?_
      have h0x:=zC (B:=1000000000) (by omega) hd
      have h0y:=zC (B:=1000000000) (by omega) hd'
      by_cases hk2:k=m+1
      ·rw[hos,hk2];exact(hkm hk2).2
      ·have hkk:k=m:=by omega
       have hm0:0<m:=by
        rcases Nat.eq_zero_or_pos m with e|e
        ·exfalso;apply hne;exact List.eq_nil_of_length_eq_zero (by omega)
        ·exact e
       rw[hos,hkk]
       rcases HM.out.2 with e|e
       ·have:=zZ (B:=1000000000) (by omega) hd hn (by intro e2;rw[e2] at e;simp at e;omega)
        rw[<-e] at this;omega
       ·have:=zZ (B:=1000000000) (by omega) hd' hn' (by intro e2;rw[e2] at e;simp at e;omega)
        rw[<-e] at this;omega
     have hol:os.length<=max xs.length ys.length+1:=by have:=HM.out.1;omega
     obtain⟨Ao,co,rfl,hco,hmo,harr⟩:=hown.form
     have HF:=hide (show LimV wr (.slice Ao os.length co) (val 1000000000 xs+val 1000000000 ys) (max xs.length ys.length+1) from ⟨Ao,co,os,rfl,hco,hmo,harr,hdos,hno,hval,hol⟩)
     clear h h' hd hd' hn hn' hown hval hno hos hkm harr hva
     go_wp2
     go_ret
     exact⟨_,rfl,HF.out,hbel⟩
theorem znr (w:World) (v v':Value) (x y:Int) (L L':Nat) (hx:LimV w v x L) (hy:LimV w v' y L') (hL:L<=17592186000000) (hL':L'<=17592186000000):
  Calls Tryz.prog 158 #[v,v'] w (Ret (limR w (x+y) (max L L'+1))):=by
 obtain⟨A,c,xs,rfl,hc,hm,ha,hd,hn,rfl,hl⟩:=hx
 obtain⟨A',c',ys,rfl,hc',hm',ha',hd',hn',rfl,hl'⟩:=hy
 refine(zjD w A A' c c' xs ys ha hc hm ha' hc' hm' hd hd' hn hn' (by omega) (by omega)).mono ?_
 rintro e w' ⟨v,rfl,h1,h2⟩
 exact⟨v,rfl,h1.more (by omega),h2⟩
theorem zjE (V P c T x y q:Int) (h:V+P*c=T):V+P*((q+c+x*y)%1000000000-q)+P*1000000000*((q+c+x*y) / 1000000000)=T+P*(x*y):=by
 have e:=Int.emod_add_mul_ediv (q+c+x*y) 1000000000
 grind
theorem Blk.drewN {w:World} {g:Nat} {e:TypeId} {k:IntKind} {xs:List Int} (h:Blk w g e k xs) (n:Nat):Blk (w.drewN n) g e k xs:=h
set_option maxHeartbeats 2000000 in
theorem zjF (w:World) (A A':Option Addr) (c c':Nat) (xs ys:List Int) (h:Arr w A .i64 xs) (hc:xs.length<=c) (hm:c<=maxLen) (h':Arr w A' .i64 ys) (hc':ys.length<=c') (hm':c'<=maxLen)
  (hd:Dig 1000000000 xs) (hd':Dig 1000000000 ys) (hl:xs.length<=8796093000000) (hl':ys.length<=8796093000000):
  Calls Tryz.prog 157 #[.slice A xs.length c,.slice A' ys.length c'] w (Ret (limR w (val 1000000000 xs*val 1000000000 ys) (xs.length+ys.length))):=by
 unfold maxLen at hm hm'
 have hmk:=zby Tryz.limT (xs.length+ys.length) (by omega)
 rw[Int.natCast_add] at hmk
 go_enter Tryz.func157,Tryz.ntmps157
 go_wp2
 go_loopw [6] (fun s6 wr=>∃(i:Nat) (os:List Int),i<=xs.length/\s6=.int .i64 i/\os.length=xs.length+ys.length/\Dig 1000000000 os /\
   val 1000000000 os=val 1000000000 (xs.take i)*val 1000000000 ys/\(∀j,i+ys.length<=j->os.getD j 0=0)/\Blk wr w.heap.size 3 .i64 os/\Below w.heap.size w wr)
  (fun s6 _=>xs.length-(intOf s6).toNat)
 case atStart=>exact⟨0,List.replicate (xs.length+ys.length) 0,Nat.zero_le _,rfl,by simp,Dig.replicate _ (by omega) _,by rw[zcj];simp[val],fun j _=>by simp[List.getD,List.getElem?_replicate];split <;> rfl,Blk.new _ _ _ _,(blr _ _).alloc (nr _) _⟩
 case round=>
  obtain⟨i,os,hi,rfl,hos,hdos,hval,hz,hblk,hbel⟩:=hrel
  by_cases hix:i<xs.length
  ·obtain⟨b,o,rfl,hbl,hcell⟩:=h.at_ (by omega)
   obtain⟨x,hx⟩:∃x,x=xs.getD i 0:=⟨_,rfl⟩
   have hxb:=hd.at_ hix
   have htx:=zo 1000000000 xs i hix
   have hci:=hcell i hix
   rw[<-hx] at hci hxb htx
   obtain⟨hx0,hx1⟩:=hxb
   have HT:=hide htx;clear htx
   have HX:=hide (ai hx hci);clear hx hci
   have HL:=hide hos;clear hos
   have HV:=hide hval;clear hval
   have HZ:=hide hz;clear hz
   have HC:=hide hcell;clear hcell
   have HMK:=hide hmk;clear hmk
   have HD:=hide (ai hd hd');clear hd hd'
   have HB:=hide (ai hblk hdos);clear hblk hdos
   obtain⟨wo,rfl⟩:∃wo:World,wo=wr:=⟨_,rfl⟩
   go_wp2
   go_loopw [7,8] (fun s7 s8 wr=>∃(j:Nat) (ps:List Int) (cy:Int),j<=ys.length+1/\(j=ys.length+1->cy=0)/\s8=.int .i64 j/\s7=.int .i64 cy/\0<=cy/\cy<1000000000/\ps.length=xs.length+ys.length/\Dig 1000000000 ps /\
     val 1000000000 ps+1000000000^(i+j)*cy=val 1000000000 (xs.take i)*val 1000000000 ys+1000000000^i*x*val 1000000000 (ys.take j)/\(∀m,i+ys.length<=m->i+j<=m->ps.getD m 0=0)/\Blk wr w.heap.size 3 .i64 ps/\Below w.heap.size w wr)
    (fun _ s8 _=>ys.length+1-(intOf s8).toNat)
   case atStart=>exact⟨0,os,0,Nat.zero_le _,fun _=>rfl,rfl,rfl,by omega,by omega,HL.out,HB.out.2,by rw[HV.out];simp[val],fun m hm _=>HZ.out m hm,HB.out.1,hbel⟩
   case round=>
    obtain⟨j,ps,cy,hj,hjc,rfl,rfl,hy0,hy1,hps,hdps,hvalp,hzp,hblkp,hbelp⟩:=hrel
    by_cases hjy:j<ys.length
    ·obtain⟨b',o',rfl,hbl',hcell'⟩:=h'.at_ (by omega)
     obtain⟨y,hy⟩:∃y,y=ys.getD j 0:=⟨_,rfl⟩
     have hxc:=(hbelp.cell (p:=⟨b,o+i,none⟩) hbl).trans HX.out.2
     have hyc:=(hbelp.cell (p:=⟨b',o'+j,none⟩) hbl').trans (hcell' j hjy)
     have hyb:=HD.out.2.at_ hjy
     have hty:=zo 1000000000 ys j hjy
     rw[<-hy] at hyc hyb hty
     obtain⟨hyl,hyu⟩:=hyb
     obtain⟨q,hq⟩:∃q,q=ps.getD (i+j) 0:=⟨_,rfl⟩
     have hqc:=hblkp.cell (j:=i+j) (by omega)
     have hqb:=hdps.at_ (k:=i+j) (by omega)
     rw[<-hq] at hqc hqb
     obtain⟨hq0,hq1⟩:=hqb
     have hqf:=hblkp.frozen (i+j)
     have hxy0:0<=x*y:=Int.mul_nonneg hx0 hyl
     have hxy1:x*y<=999999998000000001:=Int.mul_le_mul (show x<=999999999 by omega) (show y<=999999999 by omega) hyl (by omega)
     have hi0:(0:Int)<=(i:Int):=by omega
     have hi1:(i:Int)<(xs.length:Int):=by omega
     have hj0:(0:Int)<=(j:Int):=by omega
     have hj1:(j:Int)<(ys.length:Int):=by omega
     have HT2:=hide hty;clear hty
     have HV2:=hide (ai hvalp hjc);clear hvalp hjc
     have HY:=hide (ai hy hq);clear hy hq
     have HP:=hide hps;clear hps
     have HZ2:=hide hzp;clear hzp
     clear hcell' h h'
     go_wp2
     go_quiet (fail)
     go_wp2
     go_roundw
     case rel=>
      refine⟨j+1,ps.set (i+j) ((q+cy+x*y)%1000000000),(q+cy+x*y) / 1000000000,by omega,fun e=>by omega,by go_num,rfl,by omega,by omega,by simp[HP.out],hdps.set_ _ (by omega) (by omega),?_,?_,?_,?_⟩
      ·rw[zee _ _ _ _ (by have:=HP.out;omega),HT2.out,<-HY.out.2,show i+(j+1)=i+j+1 by omega,Int.pow_succ]
       have:=zjE _ _ _ _ x y q HV2.out.1
       rw[this,Int.pow_add]
       grind
      ·intro m hm hm2
       rw[zaZ (by omega)];exact HZ2.out m hm (by omega)
      ·first|exact hblkp.set_ _ _|exact(hblkp.drewN _).set_ _ _|exact(hblkp.set_ _ _).drewN _
      ·first|exact hbelp.setCell (by simp) _|exact(zw hbelp _).setCell (by simp) _|exact zw (hbelp.setCell (by simp) _) _
     case measure=>simp[intOf];omega
    ·by_cases hcy:0<cy
     ·have hjl:j=ys.length:=by
       rcases Nat.lt_or_ge ys.length j with e|e
       ·have:=hjc (by omega);omega
       ·omega
      have hcd:decide (0<cy)=true:=by simp[hcy]
      obtain⟨q,hq⟩:∃q,q=ps.getD (i+j) 0:=⟨_,rfl⟩
      have hqc:=hblkp.cell (j:=i+j) (by omega)
      rw[<-hq] at hqc
      have hq0:q=0:=by rw[hq];exact hzp _ (by omega) (by omega)
      have hq1:0<=q:=by omega
      have hq2:q<1000000000:=by omega
      have hqf:=hblkp.frozen (i+j)
      have hij:i+j<xs.length+ys.length:=by omega
      have HV2:=hide hvalp;clear hvalp
      have HY:=hide (ai hq (ai hq0 (ai hjl hjc)));clear hq hq0 hjl hjc
      have HP:=hide hps;clear hps
      have HZ2:=hide hzp;clear hzp
      clear h h'
      go_wp2
      go_roundw
      case rel=>
       obtain⟨hq,hq0,hjl,hjc⟩:=HY.out
       have e1:(q+cy) / 1000000000=0:=by omega
       have e2:(q+cy)%1000000000=cy:=by omega
       refine⟨j+1,ps.set (i+j) ((q+cy)%1000000000),(q+cy) / 1000000000,by omega,fun _=>e1,by go_num,rfl,by omega,by omega,by simp[HP.out],hdps.set_ _ (by omega) (by omega),?_,?_,hblkp.set_ _ _,hbelp.setCell (by simp) _⟩
       ·rw[zee _ _ _ _ (by have:=HP.out;omega),<-hq,e1,e2,hq0,zn _ ys (j+1) (by omega)]
        have:=HV2.out
        rw[zn _ ys j (by omega)] at this
        grind
       ·intro m hm hm2
        rw[zaZ (by omega)];exact HZ2.out m hm (by omega)
      case measure=>have:=HY.out.2.2.1;simp[intOf];omega
     ·have hc0:cy=0:=by omega
      subst hc0
      rw[zn _ ys _ (by omega),Int.mul_zero,Int.add_zero] at hvalp
      have HV2:=hide hvalp;clear hvalp
      have HP:=hide (ai hps hjc);clear hps hjc
      have HZ2:=hide hzp;clear hzp
      clear h h'
      go_wp2
      go_roundw
      case rel=>
       refine⟨i+1,ps,by omega,by go_num,by simp[HP.out],hdps,?_,fun m hm=>HZ2.out m (by omega) (by omega),hblkp,hbelp⟩
       have:=HV2.out
       rw[HT.out]
       grind
      case measure=>simp[intOf];omega
  ·obtain rfl:i=xs.length:=by omega
   rw[List.take_of_length_le (nr _)] at hval
   have hml:xs.length+ys.length<=maxLen:=by unfold maxLen;omega
   have HV:=hide hval;clear hval
   have HL:=hide hos;clear hos
   have HZ:=hide hz;clear hz
   clear h h' hd hd' hmk
   go_wp2_with fail
   refine(zcr _ _ _ _ os HL.out hblk.arr (nr _) hml).mono ?_
   rintro e w' ⟨v,rfl,n,hn,rfl,rfl⟩
   have HN:=hide hn;clear hn
   go_wp2
   go_ret
   have hv:=LimV.of_trim (c:=xs.length+ys.length) hblk.arr hdos (by rw[HL.out];exact nr _) hml HN.out
   rw[HV.out] at hv
   exact⟨_,rfl,hv.more (by rw[HL.out];exact nr _),hbel⟩
theorem zns (w:World) (v v':Value) (x y:Int) (L L':Nat) (hx:LimV w v x L) (hy:LimV w v' y L') (hL:L<=8796093000000) (hL':L'<=8796093000000):
  Calls Tryz.prog 157 #[v,v'] w (Ret (limR w (x*y) (L+L'))):=by
 obtain⟨A,c,xs,rfl,hc,hm,ha,hd,hn,rfl,hl⟩:=hx
 obtain⟨A',c',ys,rfl,hc',hm',ha',hd',hn',rfl,hl'⟩:=hy
 refine(zjF w A A' c c' xs ys ha hc hm ha' hc' hm' hd hd' (by omega) (by omega)).mono ?_
 rintro e w' ⟨v,rfl,h1,h2⟩
 exact⟨v,rfl,h1.more (by omega),h2⟩
theorem ziW (x y:Int) (h:(decide (x<0) == decide (y<0))=true):sgd (decide (x<0)) ((x.natAbs:Int)+(y.natAbs:Int))=x+y:=by
 unfold sgd
 by_cases hx:x<0 <;> by_cases hy:y<0 <;> simp[hx,hy] at h ⊢ <;> omega
theorem zlg (x y:Int):sgd (!(decide (x<0) == decide (y<0))) ((x.natAbs:Int)*(y.natAbs:Int))=x*y:=by
 unfold sgd
 by_cases hx:x<0
 ·have e1:(x.natAbs:Int)=-x:=by omega
  by_cases hy:y<0
  ·have e2:(y.natAbs:Int)=-y:=by omega
   rw[e1,e2];simp[hx,hy,Int.neg_mul_neg]
  ·have e2:(y.natAbs:Int)=y:=by omega
   rw[e1,e2];simp[hx,hy,Int.neg_mul]
 ·have e1:(x.natAbs:Int)=x:=by omega
  by_cases hy:y<0
  ·have e2:(y.natAbs:Int)=-y:=by omega
   rw[e1,e2];simp[hx,hy,Int.mul_neg]
  ·have e2:(y.natAbs:Int)=y:=by omega
   rw[e1,e2];simp[hx,hy]
theorem zmr (w:World) (v v':Value) (x y:Int) (L L':Nat) (hx:ZV w v x L) (hy:ZV w v' y L') (hL:L<=17592185000000) (hL':L'<=17592185000000) (hxy:(decide (x<0) == decide (y<0))=true):
  Calls Tryz.prog 112 #[v,v'] w (Ret (zR w (x+y) (max L L'+1))):=by
 obtain⟨s,A,n,c,rfl,hs,hm⟩:=hx.parts
 obtain⟨t,B,m,d,rfl,ht,hn⟩:=hy.parts
 have hst:(s == t)=true:=by rw[hs,ht];exact hxy
 have e1:=ziW x y hxy
 rw[<-hs] at e1
 clear hs ht hxy
 obtain⟨W,hW⟩:∃W,W=((w.alloc (.cells #[.bool s,.slice A n c] 53)).alloc (.cells #[.bool t,.slice B m d] 53)).alloc (.cells #[.bool false,.slice none 0 0] 53):=⟨_,rfl⟩
 have hb0:Below w.heap.size w W:=by rw[hW];exact(((blr _ _).alloc (nr _) _).alloc (by simp) _).alloc (by simp;omega) _
 have h0:W.heap[w.heap.size]?=some (.cells #[.bool s,.slice A n c] 53):=by rw[hW];exact zy (zy (zj _ _) _) _
 have h1:W.heap[w.heap.size+1]?=some (.cells #[.bool t,.slice B m d] 53):=by rw[hW];exact zy (zu _ (by simp)) _
 have h2:W.heap[w.heap.size+2]?=some (.cells #[.bool false,.slice none 0 0] 53):=by rw[hW];exact zu _ (by simp)
 have HW:=hide (ai hW (ai hb0 (ai h0 (ai h1 (ai h2 (ai (hm.below hb0) (ai (hn.below hb0) e1)))))));clear hW hb0 h0 h1 h2 hm hn hx hy e1
 have hS:∀w',Below W.heap.size W w'->w'.cell? ⟨w.heap.size,0,none⟩=some (.bool s)/\w'.cell? ⟨w.heap.size,1,none⟩=some (.slice A n c)/\w'.cell? ⟨w.heap.size+1,0,none⟩=some (.bool t)/\w'.cell? ⟨w.heap.size+1,1,none⟩=some (.slice B m d):=fun w' h=>by
  have k0:=ze (at_later HW.out.2.2.1 h)
  have k1:=ze (at_later HW.out.2.2.2.1 h)
  exact⟨k0.1,k0.2.1,k1.1,k1.2.1⟩
 have hdr:Below W.heap.size W W.drew:=(blr _ _).drew
 have hS0:=hS _ hdr
 have HS:=hide hS;clear hS
 obtain⟨x0,x1,_,_⟩:=ze HW.out.2.2.1
 obtain⟨y0,y1,_,_⟩:=ze HW.out.2.2.2.1
 rw[HW.out.1] at x0 x1 y0 y1
 go_enter Tryz.func112,Tryz.ntmps112
 go_wp2
 rw[<-HW.out.1]
 clear x0 x1 y0 y1
 go_region_held3 (fun w'=>w'.cell? ⟨w.heap.size,0,none⟩=some (.bool s)/\w'.cell? ⟨w.heap.size,1,none⟩=some (.slice A n c)/\w'.cell? ⟨w.heap.size+1,0,none⟩=some (.bool t)/\w'.cell? ⟨w.heap.size+1,1,none⟩=some (.slice B m d))
  (first|with_reducible exact hS0|with_reducible exact HS.out _ hg4|with_reducible exact HS.out _ hg5|exact⟨(zJ (by omega)).trans (HS.out _ hg5).1,(zJ (by omega)).trans (HS.out _ hg5).2.1,(zJ (by omega)).trans (HS.out _ hg5).2.2.1,(zJ (by omega)).trans (HS.out _ hg5).2.2.2⟩|(go_keep;done))
  (first
   | (go_at_call 158;refine(znr _ _ _ (x.natAbs:Int) (y.natAbs:Int) L L' (HW.out.2.2.2.2.2.1.below hdr) (HW.out.2.2.2.2.2.2.1.below hdr) (by omega) (by omega)).mono ?_;rintro e w4 ⟨v4,rfl,hv4,hd4⟩;have hg4:Below W.heap.size W w4:=hdr.trans hd4;(obtain⟨A4,c4,xs4,rfl,_⟩:=hv4.open_);have HV4:=hide hv4;clear hv4 hd4)
   | (go_at_call 156;refine(zb0 _ _ _ ((x.natAbs:Int)+(y.natAbs:Int)) (max L L'+1) HV4.out (by omega)).mono ?_;rintro e w5 ⟨_,rfl,hz5,hd5⟩;have hg5:Below W.heap.size W w5:=hg4.trans (hd5.mono hg4.size);(obtain⟨s5,A5,n5,c5,rfl,hs5,_⟩:=hz5.parts);clear hs5;have hr5:=at_later HW.out.2.2.2.2.1 hg5;(obtain⟨z0,z1,f0,f1⟩:=ze hr5);have HZ:=hide (ai hz5 (ai hr5 hg5));clear hz5 hr5 hd5))
 have hlt:=lt_of_block HZ.out.2.1
 clear hS0 hg4 hg5
 go_wp2
 refine bodyPost_ret (v:=.agg #[.bool s5,.slice A5 n5 c5]) ?_ rfl ?_
 ·simp[results,Tryz.results112,go_sem,z0,z1,hlt]
 obtain⟨hz5,hr5,hg5⟩:=HZ.out
 rw[HW.out.2.2.2.2.2.2.2] at hz5
 exact⟨_,rfl,zac hz5 hr5 (by decide),zl (HW.out.2.1.trans (hg5.mono HW.out.2.1.size)) (by omega)⟩
theorem zba (w:World) (v v':Value) (x y:Int) (L L':Nat) (hx:ZV w v x L) (hy:ZV w v' y L') (hL:L<=8796092000000) (hL':L'<=8796092000000):
  Calls Tryz.prog 109 #[v,v'] w (Ret (zR w (x*y) (L+L'))):=by
 obtain⟨s,A,n,c,rfl,hs,hm⟩:=hx.parts
 obtain⟨t,B,m,d,rfl,ht,hn⟩:=hy.parts
 have e1:=zlg x y
 rw[<-hs,<-ht] at e1
 clear hs ht
 obtain⟨W,hW⟩:∃W,W=((w.alloc (.cells #[.bool s,.slice A n c] 53)).alloc (.cells #[.bool t,.slice B m d] 53)).alloc (.cells #[.bool false,.slice none 0 0] 53):=⟨_,rfl⟩
 have hb0:Below w.heap.size w W:=by rw[hW];exact(((blr _ _).alloc (nr _) _).alloc (by simp) _).alloc (by simp;omega) _
 have h0:W.heap[w.heap.size]?=some (.cells #[.bool s,.slice A n c] 53):=by rw[hW];exact zy (zy (zj _ _) _) _
 have h1:W.heap[w.heap.size+1]?=some (.cells #[.bool t,.slice B m d] 53):=by rw[hW];exact zy (zu _ (by simp)) _
 have h2:W.heap[w.heap.size+2]?=some (.cells #[.bool false,.slice none 0 0] 53):=by rw[hW];exact zu _ (by simp)
 have HW:=hide (ai hW (ai hb0 (ai h0 (ai h1 (ai h2 (ai (hm.below hb0) (ai (hn.below hb0) e1)))))));clear hW hb0 h0 h1 h2 hm hn hx hy e1
 have hS:∀w',Below W.heap.size W w'->w'.cell? ⟨w.heap.size,0,none⟩=some (.bool s)/\w'.cell? ⟨w.heap.size,1,none⟩=some (.slice A n c)/\w'.cell? ⟨w.heap.size+1,0,none⟩=some (.bool t)/\w'.cell? ⟨w.heap.size+1,1,none⟩=some (.slice B m d):=fun w' h=>by
  have k0:=ze (at_later HW.out.2.2.1 h)
  have k1:=ze (at_later HW.out.2.2.2.1 h)
  exact⟨k0.1,k0.2.1,k1.1,k1.2.1⟩
 have hdr:Below W.heap.size W W.drew:=(blr _ _).drew
 have hS0:=hS _ hdr
 have HS:=hide hS;clear hS
 go_enter Tryz.func109,Tryz.ntmps109
 go_wp2
 rw[<-HW.out.1]
 go_region_held3 (fun w'=>w'.cell? ⟨w.heap.size,0,none⟩=some (.bool s)/\w'.cell? ⟨w.heap.size,1,none⟩=some (.slice A n c)/\w'.cell? ⟨w.heap.size+1,0,none⟩=some (.bool t)/\w'.cell? ⟨w.heap.size+1,1,none⟩=some (.slice B m d))
  (first|with_reducible exact hS0|with_reducible exact HS.out _ hg4|with_reducible exact HS.out _ hg5|exact⟨(zJ (by omega)).trans (HS.out _ hg5).1,(zJ (by omega)).trans (HS.out _ hg5).2.1,(zJ (by omega)).trans (HS.out _ hg5).2.2.1,(zJ (by omega)).trans (HS.out _ hg5).2.2.2⟩|(go_keep;done))
  (first
   | (go_at_call 157;refine(zns _ _ _ (x.natAbs:Int) (y.natAbs:Int) L L' (HW.out.2.2.2.2.2.1.below hdr) (HW.out.2.2.2.2.2.2.1.below hdr) (by omega) (by omega)).mono ?_;rintro e w4 ⟨v4,rfl,hv4,hd4⟩;have hg4:Below W.heap.size W w4:=hdr.trans hd4;(obtain⟨A4,c4,xs4,rfl,_⟩:=hv4.open_);have HV4:=hide hv4;clear hv4 hd4)
   | (go_at_call 156;refine(zb0 _ _ _ ((x.natAbs:Int)*(y.natAbs:Int)) (L+L') HV4.out (by omega)).mono ?_;rintro e w5 ⟨_,rfl,hz5,hd5⟩;have hg5:Below W.heap.size W w5:=hg4.trans (hd5.mono hg4.size);(obtain⟨s5,A5,n5,c5,rfl,hs5,_⟩:=hz5.parts);clear hs5;have hr5:=at_later HW.out.2.2.2.2.1 hg5;(obtain⟨z0,z1,f0,f1⟩:=ze hr5);have HZ:=hide (ai hz5 (ai hr5 hg5));clear hz5 hr5 hd5))
 have hlt:=lt_of_block HZ.out.2.1
 clear hS0 hg4 hg5
 go_wp2
 refine bodyPost_ret (v:=.agg #[.bool s5,.slice A5 n5 c5]) ?_ rfl ?_
 ·simp[results,Tryz.results109,go_sem,z0,z1,hlt]
 obtain⟨hz5,hr5,hg5⟩:=HZ.out
 try simp only[bne] at hz5
 rw[HW.out.2.2.2.2.2.2.2] at hz5
 exact⟨_,rfl,zac hz5 hr5 (by decide),zl (HW.out.2.1.trans (hg5.mono HW.out.2.1.size)) (by omega)⟩
theorem zjG (w:World) (v v':Value) (x y:Int) (L L':Nat) (hx:ZV w v x L) (hy:ZV w v' y L') (hL:L<=17592185000000) (hL':L'<=17592185000000):
  Calls Tryz.prog 112 #[v,v'] w (Ret (zR w (x+y) (max L L'+1))):=by
 cases h:(decide (x<0) == decide (y<0)) with
 | true=>exact zmr w v v' x y L L' hx hy hL hL' h
 | false=>
  refine(ziV w v v' x y L L' hx hy hL hL' h).mono ?_
  rintro e w' ⟨u,rfl,hz,hb⟩
  exact⟨u,rfl,hz.more (by omega),hb⟩
theorem zgB (w:World) (v v':Value) (x y:Int) (L L':Nat) (hx:ZV w v x L) (hy:ZV w v' y L') (hL:L<=17592185000000) (hL':L'<=17592185000000):
  Calls Tryz.prog 111 #[v,v'] w (Ret (zR w (x-y) (max L L'+1))):=by
 obtain⟨s,A,n,c,rfl,hs,hm⟩:=hx.parts
 obtain⟨t,B,m,d,rfl,ht,hn⟩:=hy.parts
 clear hs ht hm hn
 obtain⟨W,hW⟩:∃W,W=((w.alloc (.cells #[.bool s,.slice A n c] 53)).alloc (.cells #[.bool t,.slice B m d] 53)).alloc (.cells #[.bool false,.slice none 0 0] 53):=⟨_,rfl⟩
 have hb0:Below w.heap.size w W:=by rw[hW];exact(((blr _ _).alloc (nr _) _).alloc (by simp) _).alloc (by simp;omega) _
 have h0:W.heap[w.heap.size]?=some (.cells #[.bool s,.slice A n c] 53):=by rw[hW];exact zy (zy (zj _ _) _) _
 have h1:W.heap[w.heap.size+1]?=some (.cells #[.bool t,.slice B m d] 53):=by rw[hW];exact zy (zu _ (by simp)) _
 have h2:W.heap[w.heap.size+2]?=some (.cells #[.bool false,.slice none 0 0] 53):=by rw[hW];exact zu _ (by simp)
 have HW:=hide (ai hW (ai hb0 (ai h0 (ai h1 (ai h2 (ai (hx.below hb0) (hy.below hb0)))))));clear hW hb0 h0 h1 h2 hx hy
 have hS:∀w',Below W.heap.size W w'->w'.cell? ⟨w.heap.size,0,none⟩=some (.bool s)/\w'.cell? ⟨w.heap.size,1,none⟩=some (.slice A n c)/\w'.cell? ⟨w.heap.size+1,0,none⟩=some (.bool t)/\w'.cell? ⟨w.heap.size+1,1,none⟩=some (.slice B m d):=fun w' h=>by
  have k0:=ze (at_later HW.out.2.2.1 h)
  have k1:=ze (at_later HW.out.2.2.2.1 h)
  exact⟨k0.1,k0.2.1,k1.1,k1.2.1⟩
 have hdr:Below W.heap.size W W.drew:=(blr _ _).drew
 have hS0:=hS _ hdr
 have HS:=hide hS;clear hS
 go_enter Tryz.func111,Tryz.ntmps111
 go_wp2
 rw[<-HW.out.1]
 go_region_held3 (fun w'=>w'.cell? ⟨w.heap.size,0,none⟩=some (.bool s)/\w'.cell? ⟨w.heap.size,1,none⟩=some (.slice A n c)/\w'.cell? ⟨w.heap.size+1,0,none⟩=some (.bool t)/\w'.cell? ⟨w.heap.size+1,1,none⟩=some (.slice B m d))
  (first|with_reducible exact hS0|with_reducible exact HS.out _ hg4|with_reducible exact HS.out _ hg5|exact⟨(zJ (by omega)).trans (HS.out _ hg5).1,(zJ (by omega)).trans (HS.out _ hg5).2.1,(zJ (by omega)).trans (HS.out _ hg5).2.2.1,(zJ (by omega)).trans (HS.out _ hg5).2.2.2⟩|(go_keep;done))
  (first
   | (go_at_call 155;refine(zfj _ _ y L' (HW.out.2.2.2.2.2.2.below hdr) (by omega)).mono ?_;rintro e w4 ⟨v4,rfl,hv4,hd4⟩;have hg4:Below W.heap.size W w4:=hdr.trans hd4;(obtain⟨s4,A4,n4,c4,rfl,hs4,_⟩:=hv4.parts);clear hs4;have HV4:=hide hv4;clear hv4 hd4)
   | (go_at_call 112;refine(zjG _ _ _ x (-y) L L' (HW.out.2.2.2.2.2.1.below hg4) HV4.out hL hL').mono ?_;rintro e w5 ⟨_,rfl,hz5,hd5⟩;have hg5:Below W.heap.size W w5:=hg4.trans (hd5.mono hg4.size);(obtain⟨s5,A5,n5,c5,rfl,hs5,_⟩:=hz5.parts);clear hs5;have hr5:=at_later HW.out.2.2.2.2.1 hg5;(obtain⟨z0,z1,f0,f1⟩:=ze hr5);have HZ:=hide (ai hz5 (ai hr5 hg5));clear hz5 hr5 hd5))
 have hlt:=lt_of_block HZ.out.2.1
 clear hS0 hg4 hg5
 go_wp2
 refine bodyPost_ret (v:=.agg #[.bool s5,.slice A5 n5 c5]) ?_ rfl ?_
 ·simp[results,Tryz.results111,go_sem,z0,z1,hlt]
 obtain⟨hz5,hr5,hg5⟩:=HZ.out
 rw[<-Int.sub_eq_add_neg] at hz5
 exact⟨_,rfl,zac hz5 hr5 (by decide),zl (HW.out.2.1.trans (hg5.mono HW.out.2.1.size)) (by omega)⟩
theorem zlh (w:World) (v v':Value) (x y:Int) (L L':Nat) (hx:ZV w v x L) (hy:ZV w v' y L') (hL:L<=17592185000000) (hL':L'<=17592185000000):
  Calls Tryz.prog 135 #[v,v'] w (Ret (fun v w'=>v=.int .i64 (sgn x y)/\Below w.heap.size w w')):=by
 obtain⟨s,A,n,c,rfl,hs,_⟩:=hx.parts
 obtain⟨t,B,m,d,rfl,ht,_⟩:=hy.parts
 clear hs ht
 have HX:=hide (ai hx hy);clear hx hy
 have hb0:Below w.heap.size w ((w.alloc (.cells #[.bool s,.slice A n c] 53)).alloc (.cells #[.bool t,.slice B m d] 53)):=((blr _ _).alloc (nr _) _).alloc (by simp) _
 go_enter Tryz.func135,Tryz.ntmps135
 go_wp2_with fail
 refine(zgB _ _ _ x y L L' (HX.out.1.below hb0) (HX.out.2.below hb0) hL hL').mono ?_
 rintro e w1 ⟨_,rfl,hz,hd1⟩
 obtain⟨s5,A5,n5,c5,rfl,hs5,_⟩:=hz.parts
 clear hs5
 have HZ:=hide hz;clear hz
 go_wp2_with fail
 refine(zfN _ _ (x-y) _ HZ.out).mono ?_
 rintro e w2 ⟨_,rfl,rfl,hd2⟩
 rw[zhT]
 have hbf:=hide (bnx (bnx hb0 hd1) hd2)
 clear hd1 hd2 hb0
 go_wp2
 go_ret
 exact⟨_,rfl,rfl,hbf.out⟩
end Go.Proofs.YtpoahodnakhmiaaGreat
