import Derived.Test.YtpoahodnakhmiaaGreatAddN
import Derived.Test.YtpoahodnakhmiaaGreatRead9
set_option maxRecDepth 100000
namespace Go.Proofs.YtpoahodnakhmiaaGreat
set_option linter.unusedVariables false
set_option linter.unusedSimpArgs false
open Go.RowKit
theorem zlT (p q:Rat):Rat.divInt (p.num*q.den+q.num*p.den) (p.den*q.den)=p+q:=by
 have hp:=zG p
 have hq:=zG q
 conv=>rhs;rw[<-Rat.num_divInt_den p,<-Rat.num_divInt_den q]
 exact(Rat.divInt_add_divInt _ _ (by omega) (by omega)).symm
theorem zf4 (p q:Rat):Rat.divInt (p.num*q.den-q.num*p.den) (p.den*q.den)=p-q:=by
 have hp:=zG p
 have hq:=zG q
 conv=>rhs;rw[<-Rat.num_divInt_den p,<-Rat.num_divInt_den q]
 exact(Rat.divInt_sub_divInt _ _ (by omega) (by omega)).symm
theorem zkA (p q:Rat):Rat.divInt (p.num*q.num) (p.den*q.den)=p*q:=by
 conv=>rhs;rw[<-Rat.num_divInt_den p,<-Rat.num_divInt_den q]
 exact(Rat.divInt_mul_divInt _ _).symm
theorem zlU (p q:Rat):Rat.divInt (p.num*q.den) (p.den*q.num)=p / q:=by
 rw[Rat.div_def,Rat.inv_def]
 conv=>rhs;lhs;rw[<-Rat.num_divInt_den p]
 exact(Rat.divInt_mul_divInt _ _).symm
theorem zkB (n d:Int) (hd:0<d):((Rat.divInt n d).num<0↔n<0)/\(0<(Rat.divInt n d).num↔0<n):=by
 have hg:0<Int.gcd d n:=Int.gcd_pos_of_ne_zero_left n (by omega)
 have e:(Rat.divInt n d).num*(Int.gcd d n:Int)=n:=by
  rw[Rat.num_divInt,Int.sign_eq_one_of_pos hd,Int.one_mul]
  exact Int.ediv_mul_cancel (Int.gcd_dvd_right d n)
 generalize (Rat.divInt n d).num=x at e
 have hg':(0:Int)<(Int.gcd d n:Int):=by omega
 generalize (Int.gcd d n:Int)=g at e hg'
 subst e
 constructor
 ·constructor
  ·intro h;exact Int.mul_neg_of_neg_of_pos h hg'
  ·intro h
   rcases Int.lt_or_le x 0 with h1|h1
   ·exact h1
   ·have:=Int.mul_nonneg h1 (Int.le_of_lt hg');omega
 ·constructor
  ·intro h;exact Int.mul_pos h hg'
  ·intro h
   rcases Int.lt_or_le 0 x with h1|h1
   ·exact h1
   ·have:=Int.mul_nonneg (show 0<=-x by omega) (Int.le_of_lt hg');rw[Int.neg_mul] at this;omega
theorem zif (p q:Rat):sgn (p.num*q.den) (q.num*p.den)=sgnQ (p-q):=by
 have hp:=zG p
 have hq:=zG q
 rw[<-zf4]
 obtain⟨h1,h2⟩:=zkB (p.num*q.den-q.num*p.den) (p.den*q.den) (Int.mul_pos hp hq)
 by_cases a:p.num*q.den<q.num*p.den
 ·rw[zbU a]
  unfold sgnQ
  rw[if_pos (h1.2 (by omega))]
 ·by_cases b:q.num*p.den<p.num*q.den
  ·rw[zbC b]
   unfold sgnQ
   rw[if_neg (fun h=>a (by have:=h1.1 h;omega)),if_pos (h2.2 (by omega))]
  ·rw[zcz (by omega)]
   unfold sgnQ
   rw[if_neg (fun h=>a (by have:=h1.1 h;omega)),if_neg (fun h=>b (by have:=h2.1 h;omega))]
theorem zas {w:World} {B:Nat} {a b c d:Value} {e:TypeId} (hh:w.heap[B]?=some (.cells #[a,b,c,d] e (0,0))):
  w.cell? ⟨B,0,none⟩=some a/\w.cell? ⟨B,1,none⟩=some b/\w.cell? ⟨B,2,none⟩=some c/\w.cell? ⟨B,3,none⟩=some d:=by
 obtain⟨h0,h1,h2,h3,_⟩:=zq hh
 exact⟨h0,h1,h2,h3⟩
set_option maxHeartbeats 1000000 in
theorem znd (w:World) (v v':Value) (p q:Rat) (L:Nat) (hp:QV w v p L) (hq:QV w v' q L) (hL:L<=1000000000):
  Calls Tryz.prog 54 #[v,v'] w (Ret (qR w (p+q) (2*L+1))):=by
 obtain⟨s,A,n,c,B,m,d,rfl,hz,hy⟩:=hp.parts
 obtain⟨t,A',n',c',B',m',d',rfl,hz',hy'⟩:=hq.parts
 obtain⟨W,hW⟩:∃W,W=((w.alloc (.cells #[.bool s,.slice A n c,.bool false,.slice B m d] 55)).alloc (.cells #[.bool t,.slice A' n' c',.bool false,.slice B' m' d'] 55)).alloc (.cells #[.bool false,.slice none 0 0,.bool false,.slice none 0 0] 55):=⟨_,rfl⟩
 have hb0:Below w.heap.size w W:=by rw[hW];exact(((blr _ _).alloc (nr _) _).alloc (by simp) _).alloc (by simp;omega) _
 have h0:W.heap[w.heap.size]?=some (.cells #[.bool s,.slice A n c,.bool false,.slice B m d] 55):=by rw[hW];exact zy (zy (zj _ _) _) _
 have h1:W.heap[w.heap.size+1]?=some (.cells #[.bool t,.slice A' n' c',.bool false,.slice B' m' d'] 55):=by rw[hW];exact zy (zu _ (by simp)) _
 have h2:W.heap[w.heap.size+2]?=some (.cells #[.bool false,.slice none 0 0,.bool false,.slice none 0 0] 55):=by rw[hW];exact zu _ (by simp)
 have HW:=hide (ai hW (ai hb0 (ai h0 (ai h1 (ai h2 (ai (hz.below hb0) (ai (hy.below hb0) (ai (hz'.below hb0) (ai (hy'.below hb0) (trivial))))))))));clear hW hb0 h0 h1 h2 hz hy hz' hy' hp hq
 have hS:∀w',Below W.heap.size W w'->(w'.cell? ⟨w.heap.size,0,none⟩=some (.bool s)/\w'.cell? ⟨w.heap.size,1,none⟩=some (.slice A n c)/\w'.cell? ⟨w.heap.size,2,none⟩=some (.bool false)/\w'.cell? ⟨w.heap.size,3,none⟩=some (.slice B m d))/\(w'.cell? ⟨w.heap.size+1,0,none⟩=some (.bool t)/\w'.cell? ⟨w.heap.size+1,1,none⟩=some (.slice A' n' c')/\w'.cell? ⟨w.heap.size+1,2,none⟩=some (.bool false)/\w'.cell? ⟨w.heap.size+1,3,none⟩=some (.slice B' m' d')):=fun w' h=>⟨zas (at_later HW.out.2.2.1 h),zas (at_later HW.out.2.2.2.1 h)⟩
 have hdr:Below W.heap.size W W.drew:=(blr _ _).drew
 have HSS:=hide hS;clear hS
 go_enter Tryz.func54,Tryz.ntmps54
 go_wp2
 rw[<-HW.out.1]
 refine zv (fun w'=>(w'.cell? ⟨w.heap.size,0,none⟩=some (.bool s)/\w'.cell? ⟨w.heap.size,1,none⟩=some (.slice A n c)/\w'.cell? ⟨w.heap.size,2,none⟩=some (.bool false)/\w'.cell? ⟨w.heap.size,3,none⟩=some (.slice B m d))/\(w'.cell? ⟨w.heap.size+1,0,none⟩=some (.bool t)/\w'.cell? ⟨w.heap.size+1,1,none⟩=some (.slice A' n' c')/\w'.cell? ⟨w.heap.size+1,2,none⟩=some (.bool false)/\w'.cell? ⟨w.heap.size+1,3,none⟩=some (.slice B' m' d'))) [0,1,2,3,4,5,6,7,8,9,10,11,12,13,14,15,16] (by kernel_rfl) (HSS.out _ hdr) (fun hh=>?_)
 refine tt 0 hh 5 ?_
 try simp only[Act.put,ptA,ptB,ptC]
 refine tt 2 hh 7 ?_
 try simp only[Act.put,ptA,ptB,ptC]
 refine tt 5 hh 10 ?_
 try simp only[Act.put,ptA,ptB,ptC]
 refine tt 7 hh 12 ?_
 try simp only[Act.put,ptA,ptB,ptC]
 refine tt 11 hh 16 ?_
 try simp only[Act.put,ptA,ptB,ptC]
 refine tt 13 hh 18 ?_
 try simp only[Act.put,ptA,ptB,ptC]
 refine tt 1 hh 6 ?_
 try simp only[Act.put,ptA,ptB,ptC]
 refine tt 3 hh 8 ?_
 try simp only[Act.put,ptA,ptB,ptC]
 refine tt 6 hh 11 ?_
 try simp only[Act.put,ptA,ptB,ptC]
 refine tt 8 hh 13 ?_
 try simp only[Act.put,ptA,ptB,ptC]
 refine tt 12 hh 17 ?_
 try simp only[Act.put,ptA,ptB,ptC]
 refine tt 14 hh 19 ?_
 try simp only[Act.put,ptA,ptB,ptC]
 refine zb (rs:=[4]) (by kernel_rfl) (by simp) ?_
 refine mem1 ?_
 refine zd rfl (fun K hK=>?_)
 go_simp
 go_at_call 109
 refine(zba _ _ _ (p.num) (q.den) L L (HW.out.2.2.2.2.2.1.below hdr) (HW.out.2.2.2.2.2.2.2.2.1.below hdr) (by omega) (by omega)).mono ?_
 rintro e w1 ⟨v1,rfl,hv1,hd⟩
 obtain⟨s1,A1,n1,c1,rfl,hs1,_⟩:=hv1.parts
 clear hs1
 have HV1:=hide hv1
 clear hv1
 have hg1:Below W.heap.size W w1:=hdr.trans (hd.mono hdr.size)
 clear hd
 go_wp2_with fail
 refine hK.out _ _ (HSS.out _ hg1) (fun hh=>?_)
 clear hK K
 try simp only[Act.put,ptA,ptB,ptC]
 refine zb (rs:=[9]) (by kernel_rfl) (by simp) ?_
 refine mem1 ?_
 refine zd rfl (fun K hK=>?_)
 go_simp
 go_at_call 109
 refine(zba _ _ _ (q.num) (p.den) L L (HW.out.2.2.2.2.2.2.2.1.below hg1) (HW.out.2.2.2.2.2.2.1.below hg1) (by omega) (by omega)).mono ?_
 rintro e w2 ⟨v2,rfl,hv2,hd⟩
 obtain⟨s2,A2,n2,c2,rfl,hs2,_⟩:=hv2.parts
 clear hs2
 have HV2:=hide hv2
 clear hv2
 have hg2:Below W.heap.size W w2:=hg1.trans (hd.mono hg1.size)
 replace HV1:=hide (HV1.out.below hd)
 clear hd
 go_wp2_with fail
 refine hK.out _ _ (HSS.out _ hg2) (fun hh=>?_)
 clear hK K
 try simp only[Act.put,ptA,ptB,ptC]
 refine zb (rs:=[10]) (by kernel_rfl) (by simp) ?_
 refine mem1 ?_
 refine zd rfl (fun K hK=>?_)
 go_simp
 go_at_call 112
 refine(zjG _ _ _ (p.num*q.den) (q.num*p.den) (L+L) (L+L) HV1.out HV2.out (by omega) (by omega)).mono ?_
 rintro e w3 ⟨v3,rfl,hv3,hd⟩
 obtain⟨s3,A3,n3,c3,rfl,hs3,_⟩:=hv3.parts
 clear hs3
 have HV3:=hide hv3
 clear hv3
 have hg3:Below W.heap.size W w3:=hg2.trans (hd.mono hg2.size)
 replace HV1:=hide (HV1.out.below hd)
 replace HV2:=hide (HV2.out.below hd)
 clear hd
 go_wp2_with fail
 refine hK.out _ _ (HSS.out _ hg3) (fun hh=>?_)
 clear hK K
 try simp only[Act.put,ptA,ptB,ptC]
 refine zb (rs:=[15]) (by kernel_rfl) (by simp) ?_
 refine mem1 ?_
 refine zd rfl (fun K hK=>?_)
 go_simp
 go_at_call 109
 refine(zba _ _ _ (p.den) (q.den) L L (HW.out.2.2.2.2.2.2.1.below hg3) (HW.out.2.2.2.2.2.2.2.2.1.below hg3) (by omega) (by omega)).mono ?_
 rintro e w4 ⟨v4,rfl,hv4,hd⟩
 obtain⟨s4,A4,n4,c4,rfl,hs4,_⟩:=hv4.parts
 clear hs4
 have HV4:=hide hv4
 clear hv4
 have hg4:Below W.heap.size W w4:=hg3.trans (hd.mono hg3.size)
 replace HV1:=hide (HV1.out.below hd)
 replace HV2:=hide (HV2.out.below hd)
 replace HV3:=hide (HV3.out.below hd)
 clear hd
 go_wp2_with fail
 refine hK.out _ _ (HSS.out _ hg4) (fun hh=>?_)
 clear hK K
 try simp only[Act.put,ptA,ptB,ptC]
 refine zb (rs:=[16]) (by kernel_rfl) (by simp) ?_
 refine mem1 ?_
 refine zd rfl (fun K hK=>?_)
 go_simp
 go_at_call 108
 refine(zcE _ _ _ (p.num*q.den+q.num*p.den) (p.den*q.den) (2*L+1) (HV3.out.more (by omega)) (HV4.out.more (by omega)) (by omega) (by have:=Int.mul_pos (zG p) (zG q);omega)).mono ?_
 rintro e w5 ⟨v5,rfl,hv5,hd⟩
 obtain⟨s5,A5,n5,c5,B5,m5,d5,rfl,_⟩:=hv5.parts
 have HV5:=hide hv5
 clear hv5
 have hg5:Below W.heap.size W w5:=hg4.trans (hd.mono hg4.size)
 replace HV1:=hide (HV1.out.below hd)
 replace HV2:=hide (HV2.out.below hd)
 replace HV3:=hide (HV3.out.below hd)
 replace HV4:=hide (HV4.out.below hd)
 clear hd
 go_wp2_with fail
 refine hK.out _ _ (HSS.out _ hg5) (fun hh=>?_)
 clear hK K
 try simp only[Act.put,ptA,ptB,ptC]
 refine zQ (k:=17) (by rfl) (by rfl) (by kernel_rfl) ?_
 simp only[List.drop_succ_cons,List.drop_zero]
 have hr:=at_later HW.out.2.2.2.2.1 hg5
 obtain⟨y0,y1,y2,y3,f0,f1,f2,f3⟩:=zq hr
 have hlt:=lt_of_block hr
 have HF:=hide (ai hr (bnx HW.out.2.1 hg5))
 clear hr hh
 go_wp2
 refine bodyPost_ret (v:=.agg #[.bool s5,.slice A5 n5 c5,.bool false,.slice B5 m5 d5]) ?_ rfl ?_
 ·simp[results,Tryz.results54,go_sem,y0,y1,y2,y3,hlt]
 have hfin:=HV5.out
 rw[zlT] at hfin
 exact⟨_,rfl,hfin.put4 HF.out.1 (by decide),zaa HF.out.2 (by omega)⟩
set_option maxHeartbeats 1000000 in
theorem zhm (w:World) (v v':Value) (p q:Rat) (L:Nat) (hp:QV w v p L) (hq:QV w v' q L) (hL:L<=1000000000):
  Calls Tryz.prog 53 #[v,v'] w (Ret (qR w (p-q) (2*L+1))):=by
 obtain⟨s,A,n,c,B,m,d,rfl,hz,hy⟩:=hp.parts
 obtain⟨t,A',n',c',B',m',d',rfl,hz',hy'⟩:=hq.parts
 obtain⟨W,hW⟩:∃W,W=((w.alloc (.cells #[.bool s,.slice A n c,.bool false,.slice B m d] 55)).alloc (.cells #[.bool t,.slice A' n' c',.bool false,.slice B' m' d'] 55)).alloc (.cells #[.bool false,.slice none 0 0,.bool false,.slice none 0 0] 55):=⟨_,rfl⟩
 have hb0:Below w.heap.size w W:=by rw[hW];exact(((blr _ _).alloc (nr _) _).alloc (by simp) _).alloc (by simp;omega) _
 have h0:W.heap[w.heap.size]?=some (.cells #[.bool s,.slice A n c,.bool false,.slice B m d] 55):=by rw[hW];exact zy (zy (zj _ _) _) _
 have h1:W.heap[w.heap.size+1]?=some (.cells #[.bool t,.slice A' n' c',.bool false,.slice B' m' d'] 55):=by rw[hW];exact zy (zu _ (by simp)) _
 have h2:W.heap[w.heap.size+2]?=some (.cells #[.bool false,.slice none 0 0,.bool false,.slice none 0 0] 55):=by rw[hW];exact zu _ (by simp)
 have HW:=hide (ai hW (ai hb0 (ai h0 (ai h1 (ai h2 (ai (hz.below hb0) (ai (hy.below hb0) (ai (hz'.below hb0) (ai (hy'.below hb0) (trivial))))))))));clear hW hb0 h0 h1 h2 hz hy hz' hy' hp hq
 have hS:∀w',Below W.heap.size W w'->(w'.cell? ⟨w.heap.size,0,none⟩=some (.bool s)/\w'.cell? ⟨w.heap.size,1,none⟩=some (.slice A n c)/\w'.cell? ⟨w.heap.size,2,none⟩=some (.bool false)/\w'.cell? ⟨w.heap.size,3,none⟩=some (.slice B m d))/\(w'.cell? ⟨w.heap.size+1,0,none⟩=some (.bool t)/\w'.cell? ⟨w.heap.size+1,1,none⟩=some (.slice A' n' c')/\w'.cell? ⟨w.heap.size+1,2,none⟩=some (.bool false)/\w'.cell? ⟨w.heap.size+1,3,none⟩=some (.slice B' m' d')):=fun w' h=>⟨zas (at_later HW.out.2.2.1 h),zas (at_later HW.out.2.2.2.1 h)⟩
 have hdr:Below W.heap.size W W.drew:=(blr _ _).drew
 have HSS:=hide hS;clear hS
 go_enter Tryz.func53,Tryz.ntmps53
 go_wp2
 rw[<-HW.out.1]
 refine zv (fun w'=>(w'.cell? ⟨w.heap.size,0,none⟩=some (.bool s)/\w'.cell? ⟨w.heap.size,1,none⟩=some (.slice A n c)/\w'.cell? ⟨w.heap.size,2,none⟩=some (.bool false)/\w'.cell? ⟨w.heap.size,3,none⟩=some (.slice B m d))/\(w'.cell? ⟨w.heap.size+1,0,none⟩=some (.bool t)/\w'.cell? ⟨w.heap.size+1,1,none⟩=some (.slice A' n' c')/\w'.cell? ⟨w.heap.size+1,2,none⟩=some (.bool false)/\w'.cell? ⟨w.heap.size+1,3,none⟩=some (.slice B' m' d'))) [0,1,2,3,4,5,6,7,8,9,10,11,12,13,14,15,16] (by kernel_rfl) (HSS.out _ hdr) (fun hh=>?_)
 refine tt 0 hh 5 ?_
 try simp only[Act.put,ptA,ptB,ptC]
 refine tt 2 hh 7 ?_
 try simp only[Act.put,ptA,ptB,ptC]
 refine tt 5 hh 10 ?_
 try simp only[Act.put,ptA,ptB,ptC]
 refine tt 7 hh 12 ?_
 try simp only[Act.put,ptA,ptB,ptC]
 refine tt 11 hh 16 ?_
 try simp only[Act.put,ptA,ptB,ptC]
 refine tt 13 hh 18 ?_
 try simp only[Act.put,ptA,ptB,ptC]
 refine tt 1 hh 6 ?_
 try simp only[Act.put,ptA,ptB,ptC]
 refine tt 3 hh 8 ?_
 try simp only[Act.put,ptA,ptB,ptC]
 refine tt 6 hh 11 ?_
 try simp only[Act.put,ptA,ptB,ptC]
 refine tt 8 hh 13 ?_
 try simp only[Act.put,ptA,ptB,ptC]
 refine tt 12 hh 17 ?_
 try simp only[Act.put,ptA,ptB,ptC]
 refine tt 14 hh 19 ?_
 try simp only[Act.put,ptA,ptB,ptC]
 refine zb (rs:=[4]) (by kernel_rfl) (by simp) ?_
 refine mem1 ?_
 refine zd rfl (fun K hK=>?_)
 go_simp
 go_at_call 109
 refine(zba _ _ _ (p.num) (q.den) L L (HW.out.2.2.2.2.2.1.below hdr) (HW.out.2.2.2.2.2.2.2.2.1.below hdr) (by omega) (by omega)).mono ?_
 rintro e w1 ⟨v1,rfl,hv1,hd⟩
 obtain⟨s1,A1,n1,c1,rfl,hs1,_⟩:=hv1.parts
 clear hs1
 have HV1:=hide hv1
 clear hv1
 have hg1:Below W.heap.size W w1:=hdr.trans (hd.mono hdr.size)
 clear hd
 go_wp2_with fail
 refine hK.out _ _ (HSS.out _ hg1) (fun hh=>?_)
 clear hK K
 try simp only[Act.put,ptA,ptB,ptC]
 refine zb (rs:=[9]) (by kernel_rfl) (by simp) ?_
 refine mem1 ?_
 refine zd rfl (fun K hK=>?_)
 go_simp
 go_at_call 109
 refine(zba _ _ _ (q.num) (p.den) L L (HW.out.2.2.2.2.2.2.2.1.below hg1) (HW.out.2.2.2.2.2.2.1.below hg1) (by omega) (by omega)).mono ?_
 rintro e w2 ⟨v2,rfl,hv2,hd⟩
 obtain⟨s2,A2,n2,c2,rfl,hs2,_⟩:=hv2.parts
 clear hs2
 have HV2:=hide hv2
 clear hv2
 have hg2:Below W.heap.size W w2:=hg1.trans (hd.mono hg1.size)
 replace HV1:=hide (HV1.out.below hd)
 clear hd
 go_wp2_with fail
 refine hK.out _ _ (HSS.out _ hg2) (fun hh=>?_)
 clear hK K
 try simp only[Act.put,ptA,ptB,ptC]
 refine zb (rs:=[10]) (by kernel_rfl) (by simp) ?_
 refine mem1 ?_
 refine zd rfl (fun K hK=>?_)
 go_simp
 go_at_call 111
 refine(zgB _ _ _ (p.num*q.den) (q.num*p.den) (L+L) (L+L) HV1.out HV2.out (by omega) (by omega)).mono ?_
 rintro e w3 ⟨v3,rfl,hv3,hd⟩
 obtain⟨s3,A3,n3,c3,rfl,hs3,_⟩:=hv3.parts
 clear hs3
 have HV3:=hide hv3
 clear hv3
 have hg3:Below W.heap.size W w3:=hg2.trans (hd.mono hg2.size)
 replace HV1:=hide (HV1.out.below hd)
 replace HV2:=hide (HV2.out.below hd)
 clear hd
 go_wp2_with fail
 refine hK.out _ _ (HSS.out _ hg3) (fun hh=>?_)
 clear hK K
 try simp only[Act.put,ptA,ptB,ptC]
 refine zb (rs:=[15]) (by kernel_rfl) (by simp) ?_
 refine mem1 ?_
 refine zd rfl (fun K hK=>?_)
 go_simp
 go_at_call 109
 refine(zba _ _ _ (p.den) (q.den) L L (HW.out.2.2.2.2.2.2.1.below hg3) (HW.out.2.2.2.2.2.2.2.2.1.below hg3) (by omega) (by omega)).mono ?_
 rintro e w4 ⟨v4,rfl,hv4,hd⟩
 obtain⟨s4,A4,n4,c4,rfl,hs4,_⟩:=hv4.parts
 clear hs4
 have HV4:=hide hv4
 clear hv4
 have hg4:Below W.heap.size W w4:=hg3.trans (hd.mono hg3.size)
 replace HV1:=hide (HV1.out.below hd)
 replace HV2:=hide (HV2.out.below hd)
 replace HV3:=hide (HV3.out.below hd)
 clear hd
 go_wp2_with fail
 refine hK.out _ _ (HSS.out _ hg4) (fun hh=>?_)
 clear hK K
 try simp only[Act.put,ptA,ptB,ptC]
 refine zb (rs:=[16]) (by kernel_rfl) (by simp) ?_
 refine mem1 ?_
 refine zd rfl (fun K hK=>?_)
 go_simp
 go_at_call 108
 refine(zcE _ _ _ (p.num*q.den-q.num*p.den) (p.den*q.den) (2*L+1) (HV3.out.more (by omega)) (HV4.out.more (by omega)) (by omega) (by have:=Int.mul_pos (zG p) (zG q);omega)).mono ?_
 rintro e w5 ⟨v5,rfl,hv5,hd⟩
 obtain⟨s5,A5,n5,c5,B5,m5,d5,rfl,_⟩:=hv5.parts
 have HV5:=hide hv5
 clear hv5
 have hg5:Below W.heap.size W w5:=hg4.trans (hd.mono hg4.size)
 replace HV1:=hide (HV1.out.below hd)
 replace HV2:=hide (HV2.out.below hd)
 replace HV3:=hide (HV3.out.below hd)
 replace HV4:=hide (HV4.out.below hd)
 clear hd
 go_wp2_with fail
 refine hK.out _ _ (HSS.out _ hg5) (fun hh=>?_)
 clear hK K
 try simp only[Act.put,ptA,ptB,ptC]
 refine zQ (k:=17) (by rfl) (by rfl) (by kernel_rfl) ?_
 simp only[List.drop_succ_cons,List.drop_zero]
 have hr:=at_later HW.out.2.2.2.2.1 hg5
 obtain⟨y0,y1,y2,y3,f0,f1,f2,f3⟩:=zq hr
 have hlt:=lt_of_block hr
 have HF:=hide (ai hr (bnx HW.out.2.1 hg5))
 clear hr hh
 go_wp2
 refine bodyPost_ret (v:=.agg #[.bool s5,.slice A5 n5 c5,.bool false,.slice B5 m5 d5]) ?_ rfl ?_
 ·simp[results,Tryz.results53,go_sem,y0,y1,y2,y3,hlt]
 have hfin:=HV5.out
 rw[zf4] at hfin
 exact⟨_,rfl,hfin.put4 HF.out.1 (by decide),zaa HF.out.2 (by omega)⟩
set_option maxHeartbeats 1000000 in
theorem zeG (w:World) (v v':Value) (p q:Rat) (L:Nat) (hp:QV w v p L) (hq:QV w v' q L) (hL:L<=1000000000):
  Calls Tryz.prog 88 #[v,v'] w (Ret (qR w (p*q) (2*L+1))):=by
 obtain⟨s,A,n,c,B,m,d,rfl,hz,hy⟩:=hp.parts
 obtain⟨t,A',n',c',B',m',d',rfl,hz',hy'⟩:=hq.parts
 obtain⟨W,hW⟩:∃W,W=((w.alloc (.cells #[.bool s,.slice A n c,.bool false,.slice B m d] 55)).alloc (.cells #[.bool t,.slice A' n' c',.bool false,.slice B' m' d'] 55)).alloc (.cells #[.bool false,.slice none 0 0,.bool false,.slice none 0 0] 55):=⟨_,rfl⟩
 have hb0:Below w.heap.size w W:=by rw[hW];exact(((blr _ _).alloc (nr _) _).alloc (by simp) _).alloc (by simp;omega) _
 have h0:W.heap[w.heap.size]?=some (.cells #[.bool s,.slice A n c,.bool false,.slice B m d] 55):=by rw[hW];exact zy (zy (zj _ _) _) _
 have h1:W.heap[w.heap.size+1]?=some (.cells #[.bool t,.slice A' n' c',.bool false,.slice B' m' d'] 55):=by rw[hW];exact zy (zu _ (by simp)) _
 have h2:W.heap[w.heap.size+2]?=some (.cells #[.bool false,.slice none 0 0,.bool false,.slice none 0 0] 55):=by rw[hW];exact zu _ (by simp)
 have HW:=hide (ai hW (ai hb0 (ai h0 (ai h1 (ai h2 (ai (hz.below hb0) (ai (hy.below hb0) (ai (hz'.below hb0) (ai (hy'.below hb0) (trivial))))))))));clear hW hb0 h0 h1 h2 hz hy hz' hy' hp hq
 have hS:∀w',Below W.heap.size W w'->(w'.cell? ⟨w.heap.size,0,none⟩=some (.bool s)/\w'.cell? ⟨w.heap.size,1,none⟩=some (.slice A n c)/\w'.cell? ⟨w.heap.size,2,none⟩=some (.bool false)/\w'.cell? ⟨w.heap.size,3,none⟩=some (.slice B m d))/\(w'.cell? ⟨w.heap.size+1,0,none⟩=some (.bool t)/\w'.cell? ⟨w.heap.size+1,1,none⟩=some (.slice A' n' c')/\w'.cell? ⟨w.heap.size+1,2,none⟩=some (.bool false)/\w'.cell? ⟨w.heap.size+1,3,none⟩=some (.slice B' m' d')):=fun w' h=>⟨zas (at_later HW.out.2.2.1 h),zas (at_later HW.out.2.2.2.1 h)⟩
 have hdr:Below W.heap.size W W.drew:=(blr _ _).drew
 have HSS:=hide hS;clear hS
 go_enter Tryz.func88,Tryz.ntmps88
 go_wp2
 rw[<-HW.out.1]
 refine zv (fun w'=>(w'.cell? ⟨w.heap.size,0,none⟩=some (.bool s)/\w'.cell? ⟨w.heap.size,1,none⟩=some (.slice A n c)/\w'.cell? ⟨w.heap.size,2,none⟩=some (.bool false)/\w'.cell? ⟨w.heap.size,3,none⟩=some (.slice B m d))/\(w'.cell? ⟨w.heap.size+1,0,none⟩=some (.bool t)/\w'.cell? ⟨w.heap.size+1,1,none⟩=some (.slice A' n' c')/\w'.cell? ⟨w.heap.size+1,2,none⟩=some (.bool false)/\w'.cell? ⟨w.heap.size+1,3,none⟩=some (.slice B' m' d'))) [0,1,2,3,4,5,6,7,8,9,10] (by kernel_rfl) (HSS.out _ hdr) (fun hh=>?_)
 refine tt 0 hh 5 ?_
 try simp only[Act.put,ptA,ptB,ptC]
 refine tt 2 hh 7 ?_
 try simp only[Act.put,ptA,ptB,ptC]
 refine tt 5 hh 10 ?_
 try simp only[Act.put,ptA,ptB,ptC]
 refine tt 7 hh 12 ?_
 try simp only[Act.put,ptA,ptB,ptC]
 refine tt 1 hh 6 ?_
 try simp only[Act.put,ptA,ptB,ptC]
 refine tt 3 hh 8 ?_
 try simp only[Act.put,ptA,ptB,ptC]
 refine tt 6 hh 11 ?_
 try simp only[Act.put,ptA,ptB,ptC]
 refine tt 8 hh 13 ?_
 try simp only[Act.put,ptA,ptB,ptC]
 refine zb (rs:=[4]) (by kernel_rfl) (by simp) ?_
 refine mem1 ?_
 refine zd rfl (fun K hK=>?_)
 go_simp
 go_at_call 109
 refine(zba _ _ _ (p.num) (q.num) L L (HW.out.2.2.2.2.2.1.below hdr) (HW.out.2.2.2.2.2.2.2.1.below hdr) (by omega) (by omega)).mono ?_
 rintro e w1 ⟨v1,rfl,hv1,hd⟩
 obtain⟨s1,A1,n1,c1,rfl,hs1,_⟩:=hv1.parts
 clear hs1
 have HV1:=hide hv1
 clear hv1
 have hg1:Below W.heap.size W w1:=hdr.trans (hd.mono hdr.size)
 clear hd
 go_wp2_with fail
 refine hK.out _ _ (HSS.out _ hg1) (fun hh=>?_)
 clear hK K
 try simp only[Act.put,ptA,ptB,ptC]
 refine zb (rs:=[9]) (by kernel_rfl) (by simp) ?_
 refine mem1 ?_
 refine zd rfl (fun K hK=>?_)
 go_simp
 go_at_call 109
 refine(zba _ _ _ (p.den) (q.den) L L (HW.out.2.2.2.2.2.2.1.below hg1) (HW.out.2.2.2.2.2.2.2.2.1.below hg1) (by omega) (by omega)).mono ?_
 rintro e w2 ⟨v2,rfl,hv2,hd⟩
 obtain⟨s2,A2,n2,c2,rfl,hs2,_⟩:=hv2.parts
 clear hs2
 have HV2:=hide hv2
 clear hv2
 have hg2:Below W.heap.size W w2:=hg1.trans (hd.mono hg1.size)
 replace HV1:=hide (HV1.out.below hd)
 clear hd
 go_wp2_with fail
 refine hK.out _ _ (HSS.out _ hg2) (fun hh=>?_)
 clear hK K
 try simp only[Act.put,ptA,ptB,ptC]
 refine zb (rs:=[10]) (by kernel_rfl) (by simp) ?_
 refine mem1 ?_
 refine zd rfl (fun K hK=>?_)
 go_simp
 go_at_call 108
 refine(zcE _ _ _ (p.num*q.num) (p.den*q.den) (2*L+1) (HV1.out.more (by omega)) (HV2.out.more (by omega)) (by omega) (by have:=Int.mul_pos (zG p) (zG q);omega)).mono ?_
 rintro e w3 ⟨v3,rfl,hv3,hd⟩
 obtain⟨s3,A3,n3,c3,B3,m3,d3,rfl,_⟩:=hv3.parts
 have HV3:=hide hv3
 clear hv3
 have hg3:Below W.heap.size W w3:=hg2.trans (hd.mono hg2.size)
 replace HV1:=hide (HV1.out.below hd)
 replace HV2:=hide (HV2.out.below hd)
 clear hd
 go_wp2_with fail
 refine hK.out _ _ (HSS.out _ hg3) (fun hh=>?_)
 clear hK K
 try simp only[Act.put,ptA,ptB,ptC]
 refine zQ (k:=11) (by rfl) (by rfl) (by kernel_rfl) ?_
 simp only[List.drop_succ_cons,List.drop_zero]
 have hr:=at_later HW.out.2.2.2.2.1 hg3
 obtain⟨y0,y1,y2,y3,f0,f1,f2,f3⟩:=zq hr
 have hlt:=lt_of_block hr
 have HF:=hide (ai hr (bnx HW.out.2.1 hg3))
 clear hr hh
 go_wp2
 refine bodyPost_ret (v:=.agg #[.bool s3,.slice A3 n3 c3,.bool false,.slice B3 m3 d3]) ?_ rfl ?_
 ·simp[results,Tryz.results88,go_sem,y0,y1,y2,y3,hlt]
 have hfin:=HV3.out
 rw[zkA] at hfin
 exact⟨_,rfl,hfin.put4 HF.out.1 (by decide),zaa HF.out.2 (by omega)⟩
set_option maxHeartbeats 1000000 in
theorem zc9 (w:World) (v v':Value) (p q:Rat) (L:Nat) (hp:QV w v p L) (hq:QV w v' q L) (hL:L<=1000000000) (hq0:q≠0):
  Calls Tryz.prog 89 #[v,v'] w (Ret (qR w (p / q) (2*L+1))):=by
 obtain⟨s,A,n,c,B,m,d,rfl,hz,hy⟩:=hp.parts
 obtain⟨t,A',n',c',B',m',d',rfl,hz',hy'⟩:=hq.parts
 obtain⟨W,hW⟩:∃W,W=((w.alloc (.cells #[.bool s,.slice A n c,.bool false,.slice B m d] 55)).alloc (.cells #[.bool t,.slice A' n' c',.bool false,.slice B' m' d'] 55)).alloc (.cells #[.bool false,.slice none 0 0,.bool false,.slice none 0 0] 55):=⟨_,rfl⟩
 have hb0:Below w.heap.size w W:=by rw[hW];exact(((blr _ _).alloc (nr _) _).alloc (by simp) _).alloc (by simp;omega) _
 have h0:W.heap[w.heap.size]?=some (.cells #[.bool s,.slice A n c,.bool false,.slice B m d] 55):=by rw[hW];exact zy (zy (zj _ _) _) _
 have h1:W.heap[w.heap.size+1]?=some (.cells #[.bool t,.slice A' n' c',.bool false,.slice B' m' d'] 55):=by rw[hW];exact zy (zu _ (by simp)) _
 have h2:W.heap[w.heap.size+2]?=some (.cells #[.bool false,.slice none 0 0,.bool false,.slice none 0 0] 55):=by rw[hW];exact zu _ (by simp)
 have HW:=hide (ai hW (ai hb0 (ai h0 (ai h1 (ai h2 (ai (hz.below hb0) (ai (hy.below hb0) (ai (hz'.below hb0) (ai (hy'.below hb0) (show (p.den:Int)*q.num≠0 from Int.mul_ne_zero (by have:=zG p;omega) (fun e=>hq0 (Rat.num_eq_zero.1 e))))))))))));clear hW hb0 h0 h1 h2 hz hy hz' hy' hp hq
 have hS:∀w',Below W.heap.size W w'->(w'.cell? ⟨w.heap.size,0,none⟩=some (.bool s)/\w'.cell? ⟨w.heap.size,1,none⟩=some (.slice A n c)/\w'.cell? ⟨w.heap.size,2,none⟩=some (.bool false)/\w'.cell? ⟨w.heap.size,3,none⟩=some (.slice B m d))/\(w'.cell? ⟨w.heap.size+1,0,none⟩=some (.bool t)/\w'.cell? ⟨w.heap.size+1,1,none⟩=some (.slice A' n' c')/\w'.cell? ⟨w.heap.size+1,2,none⟩=some (.bool false)/\w'.cell? ⟨w.heap.size+1,3,none⟩=some (.slice B' m' d')):=fun w' h=>⟨zas (at_later HW.out.2.2.1 h),zas (at_later HW.out.2.2.2.1 h)⟩
 have hdr:Below W.heap.size W W.drew:=(blr _ _).drew
 have HSS:=hide hS;clear hS
 go_enter Tryz.func89,Tryz.ntmps89
 go_wp2
 rw[<-HW.out.1]
 refine zv (fun w'=>(w'.cell? ⟨w.heap.size,0,none⟩=some (.bool s)/\w'.cell? ⟨w.heap.size,1,none⟩=some (.slice A n c)/\w'.cell? ⟨w.heap.size,2,none⟩=some (.bool false)/\w'.cell? ⟨w.heap.size,3,none⟩=some (.slice B m d))/\(w'.cell? ⟨w.heap.size+1,0,none⟩=some (.bool t)/\w'.cell? ⟨w.heap.size+1,1,none⟩=some (.slice A' n' c')/\w'.cell? ⟨w.heap.size+1,2,none⟩=some (.bool false)/\w'.cell? ⟨w.heap.size+1,3,none⟩=some (.slice B' m' d'))) [0,1,2,3,4,5,6,7,8,9,10] (by kernel_rfl) (HSS.out _ hdr) (fun hh=>?_)
 refine tt 0 hh 5 ?_
 try simp only[Act.put,ptA,ptB,ptC]
 refine tt 2 hh 7 ?_
 try simp only[Act.put,ptA,ptB,ptC]
 refine tt 5 hh 10 ?_
 try simp only[Act.put,ptA,ptB,ptC]
 refine tt 7 hh 12 ?_
 try simp only[Act.put,ptA,ptB,ptC]
 refine tt 1 hh 6 ?_
 try simp only[Act.put,ptA,ptB,ptC]
 refine tt 3 hh 8 ?_
 try simp only[Act.put,ptA,ptB,ptC]
 refine tt 6 hh 11 ?_
 try simp only[Act.put,ptA,ptB,ptC]
 refine tt 8 hh 13 ?_
 try simp only[Act.put,ptA,ptB,ptC]
 refine zb (rs:=[4]) (by kernel_rfl) (by simp) ?_
 refine mem1 ?_
 refine zd rfl (fun K hK=>?_)
 go_simp
 go_at_call 109
 refine(zba _ _ _ (p.num) (q.den) L L (HW.out.2.2.2.2.2.1.below hdr) (HW.out.2.2.2.2.2.2.2.2.1.below hdr) (by omega) (by omega)).mono ?_
 rintro e w1 ⟨v1,rfl,hv1,hd⟩
 obtain⟨s1,A1,n1,c1,rfl,hs1,_⟩:=hv1.parts
 clear hs1
 have HV1:=hide hv1
 clear hv1
 have hg1:Below W.heap.size W w1:=hdr.trans (hd.mono hdr.size)
 clear hd
 go_wp2_with fail
 refine hK.out _ _ (HSS.out _ hg1) (fun hh=>?_)
 clear hK K
 try simp only[Act.put,ptA,ptB,ptC]
 refine zb (rs:=[9]) (by kernel_rfl) (by simp) ?_
 refine mem1 ?_
 refine zd rfl (fun K hK=>?_)
 go_simp
 go_at_call 109
 refine(zba _ _ _ (p.den) (q.num) L L (HW.out.2.2.2.2.2.2.1.below hg1) (HW.out.2.2.2.2.2.2.2.1.below hg1) (by omega) (by omega)).mono ?_
 rintro e w2 ⟨v2,rfl,hv2,hd⟩
 obtain⟨s2,A2,n2,c2,rfl,hs2,_⟩:=hv2.parts
 clear hs2
 have HV2:=hide hv2
 clear hv2
 have hg2:Below W.heap.size W w2:=hg1.trans (hd.mono hg1.size)
 replace HV1:=hide (HV1.out.below hd)
 clear hd
 go_wp2_with fail
 refine hK.out _ _ (HSS.out _ hg2) (fun hh=>?_)
 clear hK K
 try simp only[Act.put,ptA,ptB,ptC]
 refine zb (rs:=[10]) (by kernel_rfl) (by simp) ?_
 refine mem1 ?_
 refine zd rfl (fun K hK=>?_)
 go_simp
 go_at_call 108
 refine(zcE _ _ _ (p.num*q.den) (p.den*q.num) (2*L+1) (HV1.out.more (by omega)) (HV2.out.more (by omega)) (by omega) (HW.out.2.2.2.2.2.2.2.2.2)).mono ?_
 rintro e w3 ⟨v3,rfl,hv3,hd⟩
 obtain⟨s3,A3,n3,c3,B3,m3,d3,rfl,_⟩:=hv3.parts
 have HV3:=hide hv3
 clear hv3
 have hg3:Below W.heap.size W w3:=hg2.trans (hd.mono hg2.size)
 replace HV1:=hide (HV1.out.below hd)
 replace HV2:=hide (HV2.out.below hd)
 clear hd
 go_wp2_with fail
 refine hK.out _ _ (HSS.out _ hg3) (fun hh=>?_)
 clear hK K
 try simp only[Act.put,ptA,ptB,ptC]
 refine zQ (k:=11) (by rfl) (by rfl) (by kernel_rfl) ?_
 simp only[List.drop_succ_cons,List.drop_zero]
 have hr:=at_later HW.out.2.2.2.2.1 hg3
 obtain⟨y0,y1,y2,y3,f0,f1,f2,f3⟩:=zq hr
 have hlt:=lt_of_block hr
 have HF:=hide (ai hr (bnx HW.out.2.1 hg3))
 clear hr hh
 go_wp2
 refine bodyPost_ret (v:=.agg #[.bool s3,.slice A3 n3 c3,.bool false,.slice B3 m3 d3]) ?_ rfl ?_
 ·simp[results,Tryz.results89,go_sem,y0,y1,y2,y3,hlt]
 have hfin:=HV3.out
 rw[zlU] at hfin
 exact⟨_,rfl,hfin.put4 HF.out.1 (by decide),zaa HF.out.2 (by omega)⟩
set_option maxHeartbeats 1000000 in
theorem zjp (w:World) (v v':Value) (p q:Rat) (L:Nat) (hp:QV w v p L) (hq:QV w v' q L) (hL:L<=1000000000):
  Calls Tryz.prog 100 #[v,v'] w (Ret fun v w'=>v=.int .i64 (sgnQ (p-q))/\Below w.heap.size w w'):=by
 obtain⟨s,A,n,c,B,m,d,rfl,hz,hy⟩:=hp.parts
 obtain⟨t,A',n',c',B',m',d',rfl,hz',hy'⟩:=hq.parts
 obtain⟨W,hW⟩:∃W,W=((w.alloc (.cells #[.bool s,.slice A n c,.bool false,.slice B m d] 55)).alloc (.cells #[.bool t,.slice A' n' c',.bool false,.slice B' m' d'] 55)):=⟨_,rfl⟩
 have hb0:Below w.heap.size w W:=by rw[hW];exact((blr _ _).alloc (nr _) _).alloc (by simp) _
 have h0:W.heap[w.heap.size]?=some (.cells #[.bool s,.slice A n c,.bool false,.slice B m d] 55):=by rw[hW];exact zy (zj _ _) _
 have h1:W.heap[w.heap.size+1]?=some (.cells #[.bool t,.slice A' n' c',.bool false,.slice B' m' d'] 55):=by rw[hW];exact zu _ (by simp)
 have h2:True:=trivial
 have HW:=hide (ai hW (ai hb0 (ai h0 (ai h1 (ai h2 (ai (hz.below hb0) (ai (hy.below hb0) (ai (hz'.below hb0) (ai (hy'.below hb0) (trivial))))))))));clear hW hb0 h0 h1 h2 hz hy hz' hy' hp hq
 have hS:∀w',Below W.heap.size W w'->(w'.cell? ⟨w.heap.size,0,none⟩=some (.bool s)/\w'.cell? ⟨w.heap.size,1,none⟩=some (.slice A n c)/\w'.cell? ⟨w.heap.size,2,none⟩=some (.bool false)/\w'.cell? ⟨w.heap.size,3,none⟩=some (.slice B m d))/\(w'.cell? ⟨w.heap.size+1,0,none⟩=some (.bool t)/\w'.cell? ⟨w.heap.size+1,1,none⟩=some (.slice A' n' c')/\w'.cell? ⟨w.heap.size+1,2,none⟩=some (.bool false)/\w'.cell? ⟨w.heap.size+1,3,none⟩=some (.slice B' m' d')):=fun w' h=>⟨zas (at_later HW.out.2.2.1 h),zas (at_later HW.out.2.2.2.1 h)⟩
 have hdr:Below W.heap.size W W.drew:=(blr _ _).drew
 have HSS:=hide hS;clear hS
 go_enter Tryz.func100,Tryz.ntmps100
 go_wp2
 rw[<-HW.out.1]
 refine zv (fun w'=>(w'.cell? ⟨w.heap.size,0,none⟩=some (.bool s)/\w'.cell? ⟨w.heap.size,1,none⟩=some (.slice A n c)/\w'.cell? ⟨w.heap.size,2,none⟩=some (.bool false)/\w'.cell? ⟨w.heap.size,3,none⟩=some (.slice B m d))/\(w'.cell? ⟨w.heap.size+1,0,none⟩=some (.bool t)/\w'.cell? ⟨w.heap.size+1,1,none⟩=some (.slice A' n' c')/\w'.cell? ⟨w.heap.size+1,2,none⟩=some (.bool false)/\w'.cell? ⟨w.heap.size+1,3,none⟩=some (.slice B' m' d'))) [0,1,2,3,4,5,6,7,8,9,10,11] (by kernel_rfl) (HSS.out _ hdr) (fun hh=>?_)
 refine tt 0 hh 5 ?_
 try simp only[Act.put,ptA,ptB,ptC]
 refine tt 2 hh 7 ?_
 try simp only[Act.put,ptA,ptB,ptC]
 refine tt 5 hh 10 ?_
 try simp only[Act.put,ptA,ptB,ptC]
 refine tt 7 hh 12 ?_
 try simp only[Act.put,ptA,ptB,ptC]
 refine tt 1 hh 6 ?_
 try simp only[Act.put,ptA,ptB,ptC]
 refine tt 3 hh 8 ?_
 try simp only[Act.put,ptA,ptB,ptC]
 refine tt 6 hh 11 ?_
 try simp only[Act.put,ptA,ptB,ptC]
 refine tt 8 hh 13 ?_
 try simp only[Act.put,ptA,ptB,ptC]
 refine zb (rs:=[4]) (by kernel_rfl) (by simp) ?_
 refine mem1 ?_
 refine zd rfl (fun K hK=>?_)
 go_simp
 go_at_call 109
 refine(zba _ _ _ (p.num) (q.den) L L (HW.out.2.2.2.2.2.1.below hdr) (HW.out.2.2.2.2.2.2.2.2.1.below hdr) (by omega) (by omega)).mono ?_
 rintro e w1 ⟨v1,rfl,hv1,hd⟩
 obtain⟨s1,A1,n1,c1,rfl,hs1,_⟩:=hv1.parts
 clear hs1
 have HV1:=hide hv1
 clear hv1
 have hg1:Below W.heap.size W w1:=hdr.trans (hd.mono hdr.size)
 clear hd
 go_wp2_with fail
 refine hK.out _ _ (HSS.out _ hg1) (fun hh=>?_)
 clear hK K
 try simp only[Act.put,ptA,ptB,ptC]
 refine zb (rs:=[9]) (by kernel_rfl) (by simp) ?_
 refine mem1 ?_
 refine zd rfl (fun K hK=>?_)
 go_simp
 go_at_call 109
 refine(zba _ _ _ (q.num) (p.den) L L (HW.out.2.2.2.2.2.2.2.1.below hg1) (HW.out.2.2.2.2.2.2.1.below hg1) (by omega) (by omega)).mono ?_
 rintro e w2 ⟨v2,rfl,hv2,hd⟩
 obtain⟨s2,A2,n2,c2,rfl,hs2,_⟩:=hv2.parts
 clear hs2
 have HV2:=hide hv2
 clear hv2
 have hg2:Below W.heap.size W w2:=hg1.trans (hd.mono hg1.size)
 replace HV1:=hide (HV1.out.below hd)
 clear hd
 go_wp2_with fail
 refine hK.out _ _ (HSS.out _ hg2) (fun hh=>?_)
 clear hK K
 try simp only[Act.put,ptA,ptB,ptC]
 refine zb (rs:=[10]) (by kernel_rfl) (by simp) ?_
 refine mem1 ?_
 refine zd rfl (fun K hK=>?_)
 go_simp
 go_at_call 135
 refine(zlh _ _ _ (p.num*q.den) (q.num*p.den) (L+L) (L+L) HV1.out HV2.out (by omega) (by omega)).mono ?_
 rintro e w3 ⟨_,rfl,rfl,hd⟩
 have hg3:Below W.heap.size W w3:=hg2.trans (hd.mono hg2.size)
 replace HV1:=hide (HV1.out.below hd)
 replace HV2:=hide (HV2.out.below hd)
 clear hd
 go_wp2_with fail
 refine hK.out _ _ (HSS.out _ hg3) (fun hh=>?_)
 clear hK K
 try simp only[Act.put,ptA,ptB,ptC]
 refine tt 11 hh 4 ?_
 try simp only[Act.put,ptA,ptB,ptC]
 refine zM (by kernel_rfl) ?_ _
 have HB:=hide (bnx HW.out.2.1 hg3)
 clear hh
 go_wp2
 go_ret
 exact⟨_,rfl,by rw[zif];rfl,HB.out⟩
theorem zkC (q:Rat):sgnZ q.num=sgnQ q:=rfl
theorem zdX (w:World) (v:Value) (q:Rat) (L:Nat) (hq:QV w v q L):
  Calls Tryz.prog 106 #[v] w (Ret fun v w'=>v=.int .i64 (sgnQ q)/\Below w.heap.size w w'):=by
 obtain⟨s,A,n,c,B,m,d,rfl,hz,hy⟩:=hq.parts
 have hb0:Below w.heap.size w (w.alloc (.cells #[.bool s,.slice A n c,.bool false,.slice B m d] 55)):=(blr _ _).alloc (nr _) _
 have HZ:=hide (hz.below hb0)
 clear hz hy hq
 go_enter Tryz.func106,Tryz.ntmps106
 go_wp2_with fail
 refine(zfN _ _ q.num L HZ.out).mono ?_
 rintro e w1 ⟨_,rfl,rfl,hd⟩
 have HB:=hide (bnx hb0 hd)
 clear hb0 hd
 rw[zkC]
 go_wp2
 go_ret
 exact⟨_,rfl,rfl,HB.out⟩
end Go.Proofs.YtpoahodnakhmiaaGreat
