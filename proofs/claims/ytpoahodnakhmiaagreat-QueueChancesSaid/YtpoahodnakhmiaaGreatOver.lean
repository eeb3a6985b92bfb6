import Derived.Test.YtpoahodnakhmiaaGreatReduce
import Derived.Deep.QuietTactic
import Derived.BigQuiet
import Derived.Deep.LoopGhost
set_option maxRecDepth 100000
namespace Go.Proofs.YtpoahodnakhmiaaGreat
set_option linter.unusedVariables false
set_option linter.unusedSimpArgs false
open Go.RowKit
def zkb (w:World) (n:Int) (v:Value) (w':World):Prop:=v=.int .i64 n/\∃m,w'=w.drewN m
def sgn (x y:Int):Int:=if x<y then -1 else if y<x then 1 else 0
theorem zbU {x y:Int} (h:x<y):sgn x y=-1:=by simp[sgn,h]
theorem zbC {x y:Int} (h:y<x):sgn x y=1:=by have:¬x<y:=by omega
                                            simp[sgn,h,this]
theorem zcz {x y:Int} (h:x=y):sgn x y=0:=by simp[sgn,h]
theorem zdS (w:World) (v v':Value) (x y:Int) (L L':Nat) (hx:NatV w v x L) (hy:NatV w v' y L'):
  Calls Tryz.prog 141 #[v,v'] w (Ret (zkb w (sgn x y))):=by
 obtain⟨A,c,xs,rfl,hc,hm,ha,hd,hn,rfl,_⟩:=hx
 obtain⟨A',c',ys,rfl,hc',hm',ha',hd',hn',rfl,_⟩:=hy
 unfold maxLen at hm hm'
 by_cases hl:xs.length=ys.length
 ·have hl1:((xs.length:Int) != (ys.length:Int))=false:=by simp[hl]
  have HL:=hide hl;clear hl
  go_enter Tryz.func141,Tryz.ntmps141
  go_wp2
  go_loopw [5] (fun s5 wr=>∃k:Nat,k<=xs.length/\s5=.int .i64 ((k:Int)-1)/\(∀j,k<=j->xs.getD j 0=ys.getD j 0)/\∃m,wr=w.drewN m) (fun s5 _=>(intOf s5+1).toNat)
  case atStart=>
   refine⟨xs.length,nr _,rfl,fun j hj=>?_,0,rfl⟩
   have:=HL.out
   rw[List.getD,List.getD,List.getElem?_eq_none hj,List.getElem?_eq_none (by omega)]
  case round=>
   obtain⟨k,hk,rfl,heq,m,rfl⟩:=hrel
   by_cases hk0:0<k
   ·have hkl:k-1<xs.length:=by omega
    have hkl':k-1<ys.length:=by have:=HL.out;omega
    have hm0:(0:Int)<=(k:Int)-1:=by omega
    have hm1:(k:Int)-1<(xs.length:Int):=by omega
    have hm2:(k:Int)-1<(ys.length:Int):=by omega
    obtain⟨b,o,rfl,hb,hcell⟩:=ha.at_ (by omega)
    obtain⟨b',o',rfl,hb',hcell'⟩:=ha'.at_ (by omega)
    obtain⟨x,hx⟩:∃x,x=xs.getD (k-1) 0:=⟨_,rfl⟩
    obtain⟨y,hy⟩:∃y,y=ys.getD (k-1) 0:=⟨_,rfl⟩
    have hxc:=hcell (k-1) hkl
    have hyc:=hcell' (k-1) hkl'
    rw[<-hx] at hxc
    rw[<-hy] at hyc
    have HX:=hide (ai hx hy);clear hx hy
    have HE:=hide heq;clear heq
    have HD:=hide (ai hd hd');clear hd hd'
    clear hcell hcell' ha ha'
    rcases Int.lt_trichotomy x y with hlt|heq|hgt
    ·have HS:=hide (zbU (zbe (B:=4294967296) (by omega) HD.out.1 HD.out.2 HL.out (k-1) hkl (fun j hj=>HE.out j (by omega)) (by rw[<-HX.out.1,<-HX.out.2];exact hlt)))
     go_wp2
     go_quiet (fail)
     go_wp2
     go_ret
     exact⟨_,rfl,by rw[HS.out];rfl,by (first|exact⟨_,rfl⟩|(simp only[World.drewN_drewN];exact⟨_,rfl⟩))⟩
    ·subst heq
     go_wp2
     go_quiet (fail)
     go_wp2
     go_quiet (fail)
     go_wp2
     go_roundw
     case rel=>
      refine⟨k-1,by omega,by go_num,fun j hj=>?_,by (first|exact⟨_,rfl⟩|(simp only[World.drewN_drewN];exact⟨_,rfl⟩))⟩
      by_cases hjk:j=k-1
      ·subst hjk;rw[<-HX.out.1,<-HX.out.2]
      ·exact HE.out j (by omega)
     case measure=>simp[intOf];omega
    ·have HS:=hide (zbC (zbe (B:=4294967296) (by omega) HD.out.2 HD.out.1 HL.out.symm (k-1) hkl' (fun j hj=>(HE.out j (by omega)).symm) (by rw[<-HX.out.1,<-HX.out.2];exact hgt)))
     have hge:¬x<y:=by omega
     go_wp2
     go_quiet (fail)
     go_wp2
     go_quiet (fail)
     go_wp2
     go_ret
     exact⟨_,rfl,by rw[HS.out];rfl,by (first|exact⟨_,rfl⟩|(simp only[World.drewN_drewN];exact⟨_,rfl⟩))⟩
   ·obtain rfl:k=0:=by omega
    have hxy:xs=ys:=by
     apply List.ext_getElem HL.out
     intro i h1 h2
     have:=heq i (by omega)
     rw[List.getD,List.getD,List.getElem?_eq_getElem h1,List.getElem?_eq_getElem h2] at this
     simpa using this
    have HS:=hide (zcz (congrArg (val 4294967296) hxy));clear hxy heq
    go_wp2
    go_ret
    exact⟨_,rfl,by rw[HS.out];rfl,by (first|exact⟨_,rfl⟩|(simp only[World.drewN_drewN];exact⟨_,rfl⟩))⟩
 ·have hl1:((xs.length:Int) != (ys.length:Int))=true:=by simp;omega
  rcases Nat.lt_or_gt_of_ne hl with h|h
  ·have HS:=hide (zbU (zV (B:=4294967296) (by omega) hd hd' hn' h))
   clear ha ha' hd hd' hn hn' hl
   go_enter Tryz.func141,Tryz.ntmps141
   go_wp2
   all_goals (first|(exfalso;omega)|(go_ret;exact⟨_,rfl,by rw[HS.out];rfl,0,rfl⟩))
  ·have HS:=hide (zbC (zV (B:=4294967296) (by omega) hd' hd hn h))
   clear ha ha' hd hd' hn hn' hl
   go_enter Tryz.func141,Tryz.ntmps141
   go_wp2
   all_goals (first|(exfalso;omega)|(go_ret;exact⟨_,rfl,by rw[HS.out];rfl,0,rfl⟩))
def overR (w:World) (x y:Int) (L L':Nat) (v:Value) (w':World):Prop:=∃q r,v=.tuple #[q,r]/\NatV w' q (x / y) L/\NatV w' r (x%y) L'/\Below w.heap.size w w'
theorem zjb (w:World) (v v':Value) (x y:Int) (L L':Nat) (hx:NatV w v x L) (hy:NatV w v' y L') (hxy:x<y):
  Calls Tryz.prog 172 #[v,v'] w (Ret (overR w x y L L')):=by
 have hs:=hide (zbU hxy)
 have h0:=hx.nonneg
 have HX:=hide hx
 have HY:=hide hy
 go_enter Tryz.func172,Tryz.ntmps172
 go_wp2_with (go_at_call 141;refine(zdS _ _ _ _ _ _ _ HX.out HY.out).mono ?_;rintro e w' ⟨u,rfl,rfl,m,rfl⟩;rw[hs.out])
 go_ret2
 refine⟨_,rfl,.slice none 0 0,v,rfl,?_,?_,zw (blr _ _) _⟩
 ·rw[Int.ediv_eq_zero_of_lt h0 hxy];exact NatV.nil _ _
 ·rw[Int.emod_eq_of_lt h0 hxy];exact(hx.shrink hy (by omega)).below (zw (blr _ _) _)
theorem zkc (w:World) (v:Value) (A':Option Addr) (c':Nat) (x d:Int) (L L':Nat) (hx:NatV w v x L) (hL:L<=1073741824) (hy:NatV w (.slice A' 1 c') d L') (hxy:¬x<d):
  Calls Tryz.prog 172 #[v,.slice A' 1 c'] w (Ret (overR w x d L L')):=by
 obtain⟨A,c,ys,hv,hc,hm,ha,hd,hn,hval,hl⟩:=hy.open_
 injection hv with hA hlen hcap
 subst hA hcap
 obtain⟨b,o,rfl,hbl,hcell⟩:=ha.at_ (by omega)
 have hxc:=hcell 0 (by omega)
 have hdv:val 4294967296 ys=ys.getD 0 0:=by
  match ys,hlen with
  | [e],_=>simp[val]
 rw[<-hdv,hval,Nat.add_zero] at hxc
 have hdb:=hd.at_ (k:=0) (by omega)
 rw[<-hdv,hval] at hdb
 obtain⟨hd0,hd1⟩:=hdb
 have hd2:0<d:=by
  have:=zaQ (B:=4294967296) (by omega) hd hn (by intro e;subst e;simp at hlen)
  omega
 have hs:Hid (sgn x d=0\/sgn x d=1):=by
  rcases Int.lt_trichotomy x d with h|h|h
  ·exact absurd h hxy
  ·exact .inl (zcz h)
  ·exact .inr (zbC h)
 have HX:=hide hx;clear hx
 have HY:=hide hy;clear hy
 clear ha hd hn hcell hdv hval hxy
 have HL:=hide hlen;clear hlen
 have hm0:0<=x%d:=Int.emod_nonneg _ (by omega)
 have hm1:x%d<d:=Int.emod_lt_of_pos _ hd2
 go_enter Tryz.func172,Tryz.ntmps172
 go_wp2_with (first
  | (go_at_call 141;refine(zdS _ _ _ _ _ _ _ HX.out HY.out).mono ?_;rintro e w' ⟨u,rfl,rfl,m,rfl⟩;rcases hs.out with hs1|hs1 <;> rw[hs1] <;> clear hs1)
  | (go_at_call 177;refine(ziX _ _ x d L (HX.out.below (zw (blr _ _) _)) hL hd2 hd1).mono ?_;rintro e w1 ⟨u,rfl,q,rfl,hq,hb1⟩;have HQ:=hide hq;clear hq)
  | (go_at_call 125;refine(zc4 _ (x%d) hm0 (by omega)).mono ?_;rintro e w2 ⟨r,rfl,hr,hb2⟩))
 all_goals
  go_ret2
  exact⟨_,rfl,q,r,rfl,HQ.out.below hb2,hr.shrink HY.out (by omega),bnx (bnx (zw (blr _ _) _) hb1) hb2⟩
theorem zcf (B:Int) (xs:List Int) (k:Nat) (h:k<=xs.length):val B xs=val B (xs.take k)+B^k*val B (xs.drop k):=by
 have:=zag B (xs.take k) (xs.drop k)
 rw[List.take_append_drop,List.length_take,Nat.min_eq_left h] at this
 exact this
theorem zlD (us vs:List Int) (j:Nat) (hdu:Dig 4294967296 us) (hdv:Dig 4294967296 vs) (hj0:0<j) (hfit:j+vs.length<=us.length) (htop:val 4294967296 (us.drop j)<val 4294967296 vs):
  val 4294967296 (us.drop (j-1+(vs.length+1)))=0/\val 4294967296 ((us.drop (j-1)).take (vs.length+1))<val 4294967296 vs*4294967296:=by
 have e1:=zcf 4294967296 (us.drop j) vs.length (by simp;omega)
 rw[List.drop_drop,show j+vs.length=j-1+(vs.length+1) by omega] at e1
 have n1:=zC (B:=4294967296) (by omega) ((hdu.drop j).take vs.length)
 have n2:=zC (B:=4294967296) (by omega) (hdu.drop (j-1+(vs.length+1)))
 have n3:=zam (B:=4294967296) (by omega) hdv
 have hz:val 4294967296 (us.drop (j-1+(vs.length+1)))=0:=by
  have hp:(0:Int)<4294967296^vs.length:=zbJ (by omega) _
  by_cases h:0<val 4294967296 (us.drop (j-1+(vs.length+1)))
  ·have:=Int.mul_le_mul_of_nonneg_left (show 1<=val 4294967296 (us.drop (j-1+(vs.length+1))) by omega) (Int.le_of_lt hp)
   omega
  ·omega
 refine⟨hz,?_⟩
 have e2:=zcf 4294967296 (us.drop (j-1)) (vs.length+1) (by simp;omega)
 rw[List.drop_drop,hz,Int.mul_zero,Int.add_zero] at e2
 rw[<-e2,zcd us (j-1) (by omega),show j-1+1=j by omega]
 have:=hdu.at_ (k:=j-1) (by omega)
 simp only[val]
 omega
theorem zkd (us os vs ls:List Int) (j:Nat) (q V X:Int) (hdu:Dig 4294967296 us) (hj0:0<j) (hfit:j+vs.length<=us.length) (hjo:j<=os.length)
  (hz:val 4294967296 (us.drop (j-1+(vs.length+1)))=0) (hq:q=val 4294967296 ((us.drop (j-1)).take (vs.length+1)) / V)
  (hr:val 4294967296 ls=val 4294967296 ((us.drop (j-1)).take (vs.length+1))%V) (hls:ls.length=vs.length+1)
  (hval:val 4294967296 us+V*(4294967296^j*val 4294967296 (os.drop j))=X):
  (us.take (j-1)++(ls++us.drop (j-1+(vs.length+1)))).length=us.length /\
  val 4294967296 (us.take (j-1)++(ls++us.drop (j-1+(vs.length+1))))+V*(4294967296^(j-1)*val 4294967296 ((os.set (j-1) q).drop (j-1)))=X /\
  val 4294967296 ((us.take (j-1)++(ls++us.drop (j-1+(vs.length+1)))).drop (j-1))=val 4294967296 ls:=by
 have e2:=zcf 4294967296 (us.drop (j-1)) (vs.length+1) (by simp;omega)
 rw[List.drop_drop,hz,Int.mul_zero,Int.add_zero] at e2
 have e3:=zcf 4294967296 us (j-1) (by omega)
 have lt:(us.take (j-1)).length=j-1:=by rw[List.length_take];omega
 refine⟨by simp[hls];omega,?_,?_⟩
 ·rw[zag,zag,hz,lt,zbG _ _ _ (by omega),show j-1+1=j by omega,hr]
  rw[e3,e2] at hval
  simp only[val]
  have e4:=Int.emod_add_mul_ediv (val 4294967296 ((us.drop (j-1)).take (vs.length+1))) V
  rw[<-hq] at e4
  have e5:(4294967296:Int)^j=4294967296^(j-1)*4294967296:=by rw[<-Int.pow_succ];congr 1;omega
  rw[e5] at hval
  generalize val 4294967296 ((us.drop (j-1)).take (vs.length+1))=U at *
  grind
 ·rw[List.drop_append_of_le_length (by omega),List.drop_of_length_le (by omega),List.nil_append,zag,hz]
  simp
theorem zlE (U O V X Y p:Int) (hp:0<p) (hY:0<Y) (hV:V=Y*p) (h:U+V*O=X*p) (h0:0<=U) (h1:U<V):O=X / Y/\U=(X%Y)*p:=by
 subst hV
 have e1:U=(X-Y*O)*p:=by grind
 have e2:0<=X-Y*O:=by
  by_cases hc:0<=X-Y*O
  ·exact hc
  ·exfalso
   have:=Int.mul_le_mul_of_nonneg_right (show X-Y*O<=-1 by omega) (Int.le_of_lt hp)
   omega
 have e3:X-Y*O<Y:=by
  have:(X-Y*O)*p<Y*p:=by omega
  exact Int.lt_of_mul_lt_mul_right this (Int.le_of_lt hp)
 have:=(Int.ediv_emod_unique (a:=X) (b:=Y) (r:=X-Y*O) (q:=O) hY).2 ⟨by omega,e2,e3⟩
 rw[this.1,this.2]
 exact⟨rfl,e1⟩
theorem zjc (xs ys vs us:List Int) (s k:Nat) (hd:Dig 4294967296 xs) (hd':Dig 4294967296 ys) (hn':Norm ys) (hdv:Dig 4294967296 vs) (hnv:Norm vs) (hy:0<ys.length) (htop:ys.getD (ys.length-1) 0<2^(32-s)) (hs:s<32)
  (hv:val 4294967296 vs=val 4294967296 ys*2^s) (hdu:Dig 4294967296 us) (hu:val 4294967296 us=val 4294967296 xs*2^s) (hul:us.length=xs.length+1) (hk:k+vs.length=xs.length+1):
  val 4294967296 (us.drop k)<val 4294967296 vs:=by
 obtain⟨hp0,hp1⟩:=zb2 s (by omega)
 have hy0:val 4294967296 ys≠0:=by
  have:=zaQ (B:=4294967296) (by omega) hd' hn' (by intro e;subst e;simp at hy)
  omega
 have hvl:vs.length<=ys.length:=by
  rcases Nat.lt_or_ge ys.length vs.length with h|h
  ·exfalso
   have h1:=zZ (B:=4294967296) (by omega) hdv hnv (by intro e;subst e;simp at h)
   have h2:=zt (B:=4294967296) (by omega) (show ys.length<=vs.length-1 by omega)
   have t:=zo 4294967296 ys (ys.length-1) (by omega)
   rw[show ys.length-1+1=ys.length by omega,List.take_of_length_le (nr _)] at t
   have b:=zam (B:=4294967296) (by omega) (hd'.take (ys.length-1))
   rw[List.length_take,Nat.min_eq_left (by omega)] at b
   have hp:(0:Int)<4294967296^(ys.length-1):=Int.pow_pos (by omega)
   have e:(4294967296:Int)=2^(32-s)*2^s:=by
    rw[<-Int.pow_add,show 32-s+s=32 by omega];rfl
   have g1:val 4294967296 ys<4294967296^(ys.length-1)*2^(32-s):=by
    have:=Int.mul_le_mul_of_nonneg_left (show ys.getD (ys.length-1) 0+1<=2^(32-s) by omega) (Int.le_of_lt hp)
    rw[Int.mul_add] at this
    omega
   have g2:=Int.mul_lt_mul_of_pos_right g1 (show (0:Int)<2^s by omega)
   have e':(4294967296:Int)^(ys.length-1)*4294967296=4294967296^ys.length:=by
    rw[<-Int.pow_succ];congr 1;omega
   rw[Int.mul_assoc,<-e,e',<-hv] at g2
   omega
  ·exact h
 have hvn:0<vs.length:=by
  rcases Nat.eq_zero_or_pos vs.length with h|h
  ·exfalso
   obtain rfl:=List.eq_nil_of_length_eq_zero h
   simp only[val] at hv
   have:=Int.mul_eq_zero.1 hv.symm
   omega
  ·exact h
 have h1:=zZ (B:=4294967296) (by omega) hd' hn' (by intro e;subst e;simp at hy)
 have h2:=zt (B:=4294967296) (by omega) (show vs.length-1<=ys.length-1 by omega)
 have h3:=Int.mul_le_mul_of_nonneg_right (Int.le_trans h2 h1) (show (0:Int)<=2^s by omega)
 rw[<-hv] at h3
 have h4:=zam (B:=4294967296) (by omega) hd
 have h5:=Int.mul_lt_mul_of_pos_right h4 (show (0:Int)<2^s by omega)
 rw[<-hu,zcf 4294967296 us k (by omega),show xs.length=k+(vs.length-1) by omega,Int.pow_add,Int.mul_assoc] at h5
 have h6:=zC (B:=4294967296) (by omega) (hdu.take k)
 have h7:4294967296^k*val 4294967296 (us.drop k)<4294967296^k*(4294967296^(vs.length-1)*2^s):=by omega
 have:=Int.lt_of_mul_lt_mul_left h7 (Int.le_of_lt (Int.pow_pos (by omega)))
 omega
theorem znF (ys vs:List Int) (s:Nat) (hd':Dig 4294967296 ys) (hn':Norm ys) (hy:0<ys.length) (hv:val 4294967296 vs=val 4294967296 ys*2^s):0<vs.length/\0<val 4294967296 vs:=by
 have h0:0<val 4294967296 ys:=zaQ (by omega) hd' hn' (by intro e;subst e;simp at hy)
 have h1:0<val 4294967296 vs:=by rw[hv];exact Int.mul_pos h0 (Int.pow_pos (by omega))
 refine⟨?_,h1⟩
 rcases Nat.eq_zero_or_pos vs.length with h|h
 ·obtain rfl:=List.eq_nil_of_length_eq_zero h
  simp[val] at h1
 ·exact h
theorem zke (w:World) (v:Value) (A':Option Addr) (c':Nat) (ys:List Int) (x:Int) (L:Nat) (hx:NatV w v x L) (hL:L<=1073741800) (hc':ys.length<=c') (hm':c'<=maxLen) (h':Arr w A' .u32 ys)
  (hd':Dig 4294967296 ys) (hn':Norm ys) (hl2:2<=ys.length) (hxy:¬x<val 4294967296 ys):
  Calls Tryz.prog 172 #[v,.slice A' ys.length c'] w (Ret (overR w x (val 4294967296 ys) L ys.length)):=by
 have hY:NatV w (.slice A' ys.length c') (val 4294967296 ys) ys.length:=⟨A',c',ys,rfl,hc',hm',h',hd',hn',rfl,nr _⟩
 obtain⟨A,c,xs,rfl,hc,hm,h,hd,hn,rfl,hl⟩:=hx.open_
 obtain⟨b,o,rfl,hbl,hcell⟩:=h'.at_ (by omega)
 have hyc:=hcell (ys.length-1) (by omega)
 have hyb:=hd'.at_ (k:=ys.length-1) (by omega)
 have hyn:=hn'.last (by omega)
 obtain⟨d,hd0⟩:∃d,d=ys.getD (ys.length-1) 0:=⟨_,rfl⟩
 rw[<-hd0] at hyc hyb hyn
 obtain⟨hy0,hy1⟩:=hyb
 have hy2:0<d:=by omega
 have hlen:ys.length<=xs.length:=by
  rcases Nat.lt_or_ge xs.length ys.length with h1|h1
  ·exact absurd (zV (by omega) hd hd' hn' h1) hxy
  ·exact h1
 obtain⟨sg,hsg⟩:∃sg,sg=sgn (val 4294967296 xs) (val 4294967296 ys):=⟨_,rfl⟩
 have hsg0:0<=sg:=by
  rw[hsg]
  rcases Int.lt_trichotomy (val 4294967296 xs) (val 4294967296 ys) with h|h|h
  ·exact absurd h hxy
  ·rw[zcz h];omega
  ·rw[zbC h];omega
 have HSG:=hide hsg;clear hsg
 have hsgd:decide (sg<0)=false:=by simp;omega
 have hone:((ys.length:Int) == 1)=false:=by simp;omega
 have HX:=hide hx;clear hx
 have HY:=hide hY;clear hY
 have HD:=hide hd0;clear hd0
 have HC:=hide (ai h (ai hd hn));clear h hd hn
 have HC':=hide (ai h' (ai hd' hn'));clear h' hd' hn'
 clear hcell
 have HXY:=hide hxy;clear hxy
 unfold maxLen at hm hm'
 have hmk:=zby Tryz.u32T (xs.length+1) (by omega)
 rw[show ((xs.length+1:Nat):Int)=(xs.length:Int)+1 from by omega] at hmk
 go_enter Tryz.func172,Tryz.ntmps172
 go_wp2_with fail
 refine(zdS _ _ _ _ _ _ _ HX.out HY.out).mono ?_
 rintro e w' ⟨u,rfl,rfl,m,rfl⟩
 rw[<-HSG.out]
 go_wp2_with fail
 refine(znu d _ hy2 hy1).mono ?_
 rintro e w' ⟨u,rfl,s,rfl,hs31,hs1,hs2,rfl⟩
 have HS:=hide (ai hs1 hs2);clear hs1 hs2
 go_wp2_with fail
 refine(zf8 _ _ _ ys.length s (HY.out.below (zw (blr _ _) _)) (by omega) hs31).mono ?_
 rintro e w2 ⟨u,rfl,⟨Av,cv,vs,rfl,hcv,hmv,hav,hdv,hnv,hvv,hlv⟩,hb2⟩
 have hb2':=bnx (zw (blr _ w) m) hb2
 have HV:=hide (ai hav (ai hdv (ai hnv hvv)));clear hav hdv hnv hvv hb2
 go_wp2_with fail
 refine(zf8 _ _ _ L s (HX.out.below (hb2'.alloc hb2'.size _)) (by omega) hs31).mono ?_
 rintro e w4 ⟨u,rfl,⟨Ax,cx,ss,rfl,hcx,hmx,hax,hdx,hnx,hvx,hlx⟩,hb4⟩
 obtain⟨av1,av2,av3,av4⟩:=HV.out
 obtain⟨hvp,hVp⟩:=znF ys vs s HC'.out.2.1 HC'.out.2.2 (by omega) av4
 have hssp:0<ss.length:=by
  have hx0:0<val 4294967296 xs:=zaQ (by omega) HC.out.2.1 HC.out.2.2 (by intro e;have:=congrArg List.length e;rw[List.length_nil] at this;omega)
  rcases Nat.eq_zero_or_pos ss.length with h|h
  ·obtain rfl:=List.eq_nil_of_length_eq_zero h
   have:=Int.mul_pos hx0 (zbJ (show (0:Int)<2 by omega) s)
   rw[<-hvx] at this;simp[val] at this
  ·exact h
 have hblk0:=(Blk.new w2 190 .u32 (List.replicate (xs.length+1) 0)).keep hb4
 have hssl:ss.length<=xs.length+1:=by
  rcases Nat.lt_or_ge (xs.length+1) ss.length with h|h
  ·exfalso
   have h1:=zZ (B:=4294967296) (by omega) hdx hnx (by intro e;subst e;simp at h)
   have h2:=zt (B:=4294967296) (by omega) (show xs.length+1<=ss.length-1 by omega)
   have h3:=zam (B:=4294967296) (by omega) HC.out.2.1
   obtain⟨hp0,hp1⟩:=zb2 s (by omega)
   have h4:=Int.mul_le_mul (Int.le_of_lt h3) hp1 (by omega) (Int.le_of_lt (Int.pow_pos (by omega)))
   rw[<-Int.pow_succ,<-hvx] at h4
   have h5:=Int.mul_lt_mul_of_pos_right h3 (show (0:Int)<2^s by omega)
   have h6:=Int.mul_le_mul_of_nonneg_left hp1 (Int.le_of_lt (zbJ (show (0:Int)<4294967296 by omega) xs.length))
   rw[<-Int.pow_succ] at h6
   omega
  ·exact h
 obtain⟨us0,hus0⟩:∃us0,us0=ss++List.replicate (xs.length+1-ss.length) 0:=⟨_,rfl⟩
 have hblkE:((List.replicate (xs.length+1) (0:Int)).take 0++(ss.take ss.length++(List.replicate (xs.length+1) (0:Int)).drop (0+ss.length)))=us0:=by
  rw[hus0,List.take_of_length_le (nr _)];simp
 have hus0l:us0.length=xs.length+1:=by rw[hus0];simp;omega
 have hus0d:Dig 4294967296 us0:=by rw[hus0];exact hdx.append (Dig.replicate _ (by omega) _)
 have hus0v:val 4294967296 us0=val 4294967296 xs*2^s:=by rw[hus0,zag,zcj,hvx];simp
 have HU:=hide (ai hblkE (ai hus0l (ai hus0d hus0v)));clear hblkE hus0l hus0d hus0v hus0
 have HAX:=hide (ai hax (ai hdx (ai hnx hvx)));clear hax hdx hnx hvx
 clear av1 av2 av3 av4
 obtain⟨k,hk⟩:∃k,k+vs.length=xs.length+1:=⟨xs.length+1-vs.length,by omega⟩
 have hmk2:=zby Tryz.u32T k (by omega)
 rw[show (k:Int)=(xs.length:Int)+1-(vs.length:Int) from by omega] at hmk2
 have hkb:k<=2147483648:=by omega
 have HK:=hide hk;clear hk
 clear hmk
 go_wp2_with (with_reducible refine copyI Tryz.u32T rfl (.tmp 50) (.tmp 53) 41 rfl w2.heap.size 0 (xs.length+1) (xs.length+1) ss.length cx Ax rfl rfl (List.replicate (xs.length+1) 0) ss hblk0 rfl HAX.out.1 ss.length (by omega) hssp (by rw[List.length_replicate];omega) ?_;intro w5 hblk5 hgr5 hsz5;clear hsz5)
 rw[HU.out.1] at hblk5
 have hb5:Below w2.heap.size w2 w5:=only_below (((blr _ _).alloc (nr _) _).trans (hb4.mono (by simp))) hgr5 (by have:=hb4.size;simp at this;omega) (nr _)
 have hgu:w2.heap.size<w5.heap.size:=hblk5.lt
 have hb6:=hb5.alloc hb5.size (Obj.cells (mk .u32 (List.replicate k 0)) 190)
 have hblk6:Blk (w5.alloc (Obj.cells (mk .u32 (List.replicate k 0)) 190)) w2.heap.size 190 .u32 us0:=hblk5.keep ((blr _ _).alloc (nr _) _)
 have HB:=hide (ai hb6 (ai hblk6 (Blk.new w5 190 .u32 (List.replicate k 0))));clear hb6 hblk6 hblk5 hb5 hgr5 hb4 hblk0
 go_loopw [13] (fun s13 wr=>∃(j:Nat) (us os:List Int),j<=k/\s13=.int .i64 ((j:Int)-1)/\us.length=xs.length+1/\os.length=k/\Dig 4294967296 us/\Dig 4294967296 os /\
   val 4294967296 us+val 4294967296 vs*(4294967296^j*val 4294967296 (os.drop j))=val 4294967296 xs*2^s/\val 4294967296 (us.drop j)<val 4294967296 vs /\
   Blk wr w2.heap.size 190 .u32 us/\Blk wr w5.heap.size 190 .u32 os/\Below w2.heap.size w2 wr) (fun s13 _=>(intOf s13+1).toNat)
 case atStart=>
  refine⟨k,us0,List.replicate k 0,nr _,rfl,HU.out.2.1,by simp,HU.out.2.2.1,Dig.replicate _ (by omega) _,?_,?_,HB.out.2.1,HB.out.2.2,HB.out.1⟩
  ·rw[HU.out.2.2.2];simp[val]
  ·exact zjc xs ys vs us0 s k HC.out.2.1 HC'.out.2.1 HC'.out.2.2 HV.out.2.1 HV.out.2.2.1 (by omega) (by rw[<-HD.out];exact HS.out.2) hs31 HV.out.2.2.2 HU.out.2.2.1 HU.out.2.2.2 HU.out.2.1 HK.out
 case round=>
  obtain⟨j,us,os,hj,rfl,husl,hosl,hdu,hdo,hval,htop,hbu,hbo,hbel⟩:=hrel
  have hav2:=(HV.out.1).below hbel
  by_cases hj0:0<j
  ·have HH:=hide (ai husl (ai hosl (ai hval htop)));clear husl hosl hval htop
   have k1:(k:Int)=(xs.length:Int)+1-(vs.length:Int):=by have:=HK.out;omega
   have HK1:=hide k1
   have k2:(k:Int)+(vs.length:Int)<=(xs.length:Int)+1:=by omega
   clear k1
   obtain⟨p1,p2⟩:=zlD us vs j hdu HV.out.2.1 hj0 (by have:=HH.out.1;omega) HH.out.2.2.2
   have P1:=hide p1;clear p1
   have P2:=hide p2;clear p2
   have tn:vs.getD (vs.length-1) 0≠0:=HV.out.2.2.1.last hvp
   have TN:=hide tn;clear tn
   have hgoj:j-1<os.length:=by have:=HH.out.2.1;omega
   go_wp2_with fail
   rw[show j-1+vs.length+1-(j-1)=vs.length+1 by omega]
   refine(zl0 wr w2.heap.size (j-1) _ Av cv us vs hbu hav2 hdu HV.out.2.1 (by have:=HH.out.1;omega) hvp (by have:=HH.out.1;omega) TN.out P2.out).mono ?_
   rintro e w7 ⟨u,rfl,ls,q,rfl,hq,hq1,hq0,hls,hdl,hvl,hbu7,hgr7⟩
   have HL:=hide (ai hq (ai hls hvl));clear hq hls hvl
   have hbo7:=hbo.only hgr7 (by omega)
   have hoc:=hbo7.cell (j:=j-1) hgoj
   have hof:=hbo7.frozen (j-1)
   obtain⟨z,hz⟩:∃z,z=os.getD (j-1) 0:=⟨_,rfl⟩
   rw[<-hz] at hoc
   clear hz
   go_wp2
   go_roundw
   case rel=>
    obtain⟨r1,r2,r3⟩:=zkd us os vs ls j q (val 4294967296 vs) _ hdu hj0 (by have:=HH.out.1;omega) (by have:=HH.out.2.1;omega) P1.out HL.out.1 HL.out.2.2 HL.out.2.1 HH.out.2.2.1
    refine⟨j-1,us.take (j-1)++(ls++us.drop (j-1+(vs.length+1))),os.set (j-1) q,by omega,by go_num,by rw[r1];exact HH.out.1,by simp[HH.out.2.1],((hdu.take _).append (hdl.append (hdu.drop _))),hdo.set_ _ hq0 hq1,r2,?_,?_,hbo7.set_ _ _,?_⟩
    ·rw[r3,HL.out.2.2];exact Int.emod_lt_of_pos _ hVp
    ·exact hbu7.below (B:=w5.heap.size) ((blr _ _).setCell (by simp) _) hgu
    ·exact(only_below hbel hgr7 hbel.size (nr _)).setCell (by simp;omega) _
   case measure=>simp[intOf];omega
  ·obtain rfl:j=0:=by omega
   simp only[List.drop_zero,Int.pow_zero,Int.one_mul] at hval htop
   have hml:k<=maxLen:=by unfold maxLen;omega
   have hml2:xs.length+1<=maxLen:=by unfold maxLen;omega
   have HH:=hide (ai husl (ai hosl (ai hval htop)));clear husl hosl hval htop
   have hY0:0<val 4294967296 ys:=zaQ (by omega) HC'.out.2.1 HC'.out.2.2 (by intro e;have:=congrArg List.length e;rw[List.length_nil] at this;omega)
   have oe:=zlE _ _ _ (val 4294967296 xs) (val 4294967296 ys) (2^s) (zbJ (by omega) s) hY0 HV.out.2.2.2 HH.out.2.2.1 (zC (by omega) hdu) HH.out.2.2.2
   have OE:=hide oe;clear oe
   go_wp2_with fail
   refine(zbz _ _ _ _ os HH.out.2.1 hbo.arr (nr _) hml).mono ?_
   rintro e w8 ⟨u,rfl,n1,hn1,rfl,rfl⟩
   have hq:=NatV.of_trim hbo.arr hdo (by rw[HH.out.2.1];exact hml) hn1
   rw[OE.out.1] at hq
   have HQ:=hide hq;clear hq hn1
   go_wp2_with fail
   refine(zbz _ _ _ _ us HH.out.1 hbu.arr (nr _) hml2).mono ?_
   rintro e w8 ⟨u,rfl,n2,hn2,rfl,rfl⟩
   have hr:=NatV.of_trim hbu.arr hdu (by rw[HH.out.1];exact hml2) hn2
   rw[OE.out.2] at hr
   have HR:=hide hr;clear hr hn2
   go_wp2_with fail
   refine(znT _ _ _ _ s HR.out (by rw[HH.out.1];omega) hs31).mono ?_
   rintro e w9 ⟨u,rfl,hr9,hb9⟩
   have HR9:=hide hr9;clear hr9
   go_wp2_with fail
   go_ret2
   have hb10:Below w.heap.size w wr:=hb2'.trans (hbel.mono hb2'.size)
   refine⟨_,rfl,_,_,rfl,(HQ.out.shrink HX.out ?_).below hb9,HR9.out.shrink HY.out (Int.le_of_lt (Int.emod_lt_of_pos _ hY0)),bnx hb10 hb9⟩
   exact Int.ediv_le_self _ (zC (by omega) HC.out.2.1)
theorem zgY (w:World) (v v':Value) (x y:Int) (L L':Nat) (hx:NatV w v x L) (hy:NatV w v' y L') (hL:L<=1073741800) (hy0:0<y):
  Calls Tryz.prog 172 #[v,v'] w (Ret (overR w x y L L')):=by
 by_cases hxy:x<y
 ·exact zjb w v v' x y L L' hx hy hxy
 ·obtain⟨A',c',ys,rfl,hc',hm',ha',hd',hn',rfl,hl'⟩:=hy.open_
  by_cases h1:ys.length=1
  ·rw[h1] at hy ⊢
   exact zkc w v A' c' x _ L L' hx (by omega) hy hxy
  ·have h2:2<=ys.length:=by
    rcases Nat.eq_zero_or_pos ys.length with h|h
    ·obtain rfl:=List.eq_nil_of_length_eq_zero h
     simp[val] at hy0
    ·omega
   refine(zke w v A' c' ys x L hx hL hc' hm' ha' hd' hn' h2 hxy).mono ?_
   rintro e w' ⟨u,rfl,q,r,rfl,hq,hr,hb⟩
   exact⟨_,rfl,q,r,rfl,hq,hr.more hl',hb⟩
theorem zgZ (a b:Int):Int.gcd b (a%b)=Int.gcd a b:=by
 rw[Int.gcd_comm,Int.emod_def,Int.gcd_sub_mul_left_left]
theorem zkf (w:World) (v v':Value) (x y:Int) (L:Nat) (hx:NatV w v x L) (hy:NatV w v' y L) (hL:L<=1073741800):
  Calls Tryz.prog 171 #[v,v'] w (Ret (natR w (Int.gcd x y) L)):=by
 have HX:=hide (ai hx hy)
 have hy0:=hy.nonneg
 have hx0:=hx.nonneg
 clear hx hy
 go_enter Tryz.func171,Tryz.ntmps171
 go_wp2
 go_loopg [0,1] (y.toNat) (fun g s0 s1 wr=>∃a b:Int,NatV wr s0 a L/\NatV wr s1 b L/\g=b.toNat/\Int.gcd a b=Int.gcd x y/\Below w.heap.size w wr)
 case atStart=>exact⟨x,y,HX.out.1,HX.out.2,rfl,rfl,blr _ _⟩
 case round=>
  obtain⟨a,b,ha,hb,rfl,hg,hbel⟩:=hrel
  have ha0:=ha.nonneg
  obtain⟨A,c,ys,rfl,hc,hm,hya,hd,hn,rfl,hl⟩:=hb.open_
  by_cases hy1:0<ys.length
  ·have hb0:0<val 4294967296 ys:=zaQ (by omega) hd hn (by intro e;subst e;simp at hy1)
   have hm0:0<=a%val 4294967296 ys:=Int.emod_nonneg _ (by omega)
   have hm1:a%val 4294967296 ys<val 4294967296 ys:=Int.emod_lt_of_pos _ hb0
   have HH:=hide (ai ha (ai hb hg));clear ha hb hg hya hd hn
   go_wp2_with (go_at_call 172;refine(zgY _ _ _ a _ L L HH.out.1 HH.out.2.1 hL hb0).mono ?_;rintro e w1 ⟨u,rfl,q,r,rfl,hq,hr,hb1⟩;have HQ:=hide (ai hq hr);clear hq hr)
   go_roundg (a%val 4294967296 ys).toNat
   case measure=>omega
   case rel=>exact⟨val 4294967296 ys,a%val 4294967296 ys,HH.out.2.1.below hb1,HQ.out.2,rfl,by rw[zgZ];exact HH.out.2.2,bnx hbel hb1⟩
  ·obtain rfl:ys=[]:=List.eq_nil_of_length_eq_zero (by omega)
   have HH:=hide (ai ha hg);clear ha hb hg hya hd hn
   go_wp2
   go_ret
   refine⟨_,rfl,?_,hbel⟩
   have e:=HH.out.2
   simp only[val,Int.gcd_zero_right] at e
   rw[<-e,Int.natAbs_of_nonneg ha0]
   exact HH.out.1
end Go.Proofs.YtpoahodnakhmiaaGreat
