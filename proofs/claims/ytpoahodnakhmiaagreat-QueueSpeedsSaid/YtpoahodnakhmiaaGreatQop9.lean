import Derived.Test.YtpoahodnakhmiaaGreatAddN
import Derived.Test.YtpoahodnakhmiaaGreatRead9
set_option maxRecDepth 100000
namespace Go.Proofs.YtpoahodnakhmiaaGreat
set_option linter.unusedVariables false
set_option linter.unusedSimpArgs false
open Go.RowKit
theorem zlV (p q:Rat):Rat.divInt (p.num*q.den+q.num*p.den) (p.den*q.den)=p+q:=by
 have hp:=zK p
 have hq:=zK q
 conv=>rhs;rw[<-Rat.num_divInt_den p,<-Rat.num_divInt_den q]
 exact(Rat.divInt_add_divInt _ _ (by omega) (by omega)).symm
theorem zkE (p q:Rat):Rat.divInt (p.num*q.den-q.num*p.den) (p.den*q.den)=p-q:=by
 have hp:=zK p
 have hq:=zK q
 conv=>rhs;rw[<-Rat.num_divInt_den p,<-Rat.num_divInt_den q]
 exact(Rat.divInt_sub_divInt _ _ (by omega) (by omega)).symm
theorem zkF (p q:Rat):Rat.divInt (p.num*q.num) (p.den*q.den)=p*q:=by
 conv=>rhs;rw[<-Rat.num_divInt_den p,<-Rat.num_divInt_den q]
 exact(Rat.divInt_mul_divInt _ _).symm
theorem zlW (p q:Rat):Rat.divInt (p.num*q.den) (p.den*q.num)=p / q:=by
 rw[Rat.div_def,Rat.inv_def]
 conv=>rhs;lhs;rw[<-Rat.num_divInt_den p]
 exact(Rat.divInt_mul_divInt _ _).symm
theorem zaq {w:World} {B:Nat} {a b c d:Value} {e:TypeId} (hh:w.heap[B]?=some (.cells #[a,b,c,d] e (0,0))):
  w.cell? ⟨B,0,none⟩=some a/\w.cell? ⟨B,1,none⟩=some b/\w.cell? ⟨B,2,none⟩=some c/\w.cell? ⟨B,3,none⟩=some d:=by
 obtain⟨h0,h1,h2,h3,_⟩:=zq hh
 exact⟨h0,h1,h2,h3⟩
set_option maxHeartbeats 1000000 in
theorem ziE (w:World) (v v':Value) (p q:Rat) (L:Nat) (hp:QV w v p L) (hq:QV w v' q L) (hL:L<=1000000000):
  Calls Tryz.prog 54 #[v,v'] w (Ret (qR w (p+q) (2*L+1))):=by
 obtain⟨s,A,n,c,B,m,d,rfl,hz,hy⟩:=hp.parts
 obtain⟨t,A',n',c',B',m',d',rfl,hz',hy'⟩:=hq.parts
 obtain⟨W,hW⟩:∃W,W=((w.alloc (.cells #[.bool s,.slice A n c,.bool false,.slice B m d] 55)).alloc (.cells #[.bool t,.slice A' n' c',.bool false,.slice B' m' d'] 55)).alloc (.cells #[.bool false,.slice none 0 0,.bool false,.slice none 0 0] 55):=⟨_,rfl⟩
 have hb0:Below w.heap.size w W:=by rw[hW];exact(((blr _ _).alloc (nr _) _).alloc (by simp) _).alloc (by simp;omega) _
 have h0:W.heap[w.heap.size]?=some (.cells #[.bool s,.slice A n c,.bool false,.slice B m d] 55):=by rw[hW];exact zy (zy (zg _ _) _) _
 have h1:W.heap[w.heap.size+1]?=some (.cells #[.bool t,.slice A' n' c',.bool false,.slice B' m' d'] 55):=by rw[hW];exact zy (zv _ (by simp)) _
 have h2:W.heap[w.heap.size+2]?=some (.cells #[.bool false,.slice none 0 0,.bool false,.slice none 0 0] 55):=by rw[hW];exact zv _ (by simp)
 have HW:=hide (ai hW (ai hb0 (ai h0 (ai h1 (ai h2 (ai (hz.below hb0) (ai (hy.below hb0) (ai (hz'.below hb0) (ai (hy'.below hb0) (trivial))))))))));clear hW hb0 h0 h1 h2 hz hy hz' hy' hp hq
 have hS:∀w',Below W.heap.size W w'->(w'.cell? ⟨w.heap.size,0,none⟩=some (.bool s)/\w'.cell? ⟨w.heap.size,1,none⟩=some (.slice A n c)/\w'.cell? ⟨w.heap.size,2,none⟩=some (.bool false)/\w'.cell? ⟨w.heap.size,3,none⟩=some (.slice B m d))/\(w'.cell? ⟨w.heap.size+1,0,none⟩=some (.bool t)/\w'.cell? ⟨w.heap.size+1,1,none⟩=some (.slice A' n' c')/\w'.cell? ⟨w.heap.size+1,2,none⟩=some (.bool false)/\w'.cell? ⟨w.heap.size+1,3,none⟩=some (.slice B' m' d')):=fun w' h=>⟨zaq (at_later HW.out.2.2.1 h),zaq (at_later HW.out.2.2.2.1 h)⟩
 have hdr:Below W.heap.size W W.drew:=(blr _ _).drew
 have HSS:=hide hS;clear hS
 go_enter Tryz.func54,Tryz.ntmps54
 go_wp2
 rw[<-HW.out.1]
 refine zA (fun w'=>(w'.cell? ⟨w.heap.size,0,none⟩=some (.bool s)/\w'.cell? ⟨w.heap.size,1,none⟩=some (.slice A n c)/\w'.cell? ⟨w.heap.size,2,none⟩=some (.bool false)/\w'.cell? ⟨w.heap.size,3,none⟩=some (.slice B m d))/\(w'.cell? ⟨w.heap.size+1,0,none⟩=some (.bool t)/\w'.cell? ⟨w.heap.size+1,1,none⟩=some (.slice A' n' c')/\w'.cell? ⟨w.heap.size+1,2,none⟩=some (.bool false)/\w'.cell? ⟨w.heap.size+1,3,none⟩=some (.slice B' m' d'))) [0,1,2,3,4,5,6,7,8,9,10,11,12,13,14,15,16] (by kernel_rfl) (HSS.out _ hdr) (fun hh=>?_)
 refine tt 0 hh 5 ?_
 try simp only[Act.put,ptA,ptB,ptC]
 refine tt 2 hh 7 ?_
 try simp only[Act.put,ptA,ptB,ptC]
 refine tt 5 hh 10 ?_
 try simp only[Act.put,ptA,ptB,ptC]
 refine tt 7 hh 12 ?_
 try simp only[Act.put,ptA,ptB,ptC]
 refine tt 11 hh 16 ?_
 try simp only[Act.put,ptA,ptB,ptC]
 refine tt 13 hh 18 ?_
 try simp only[Act.put,ptA,ptB,ptC]
 refine tt 1 hh 6 ?_
 try simp only[Act.put,ptA,ptB,ptC]
 refine tt 3 hh 8 ?_
 try simp only[Act.put,ptA,ptB,ptC]
 refine tt 6 hh 11 ?_
 try simp only[Act.put,ptA,ptB,ptC]
 refine tt 8 hh 13 ?_
 try simp only[Act.put,ptA,ptB,ptC]
 refine tt 12 hh 17 ?_
 try simp only[Act.put,ptA,ptB,ptC]
 refine tt 14 hh 19 ?_
 try simp only[Act.put,ptA,ptB,ptC]
 refine zb (rs:=[4]) (by kernel_rfl) (by simp) ?_
 refine mem1 ?_
 refine zd rfl (fun K hK=>?_)
 go_simp
 go_at_call 109
 refine(zbz _ _ _ (p.num) (q.den) L L (HW.out.2.2.2.2.2.1.below hdr) (HW.out.2.2.2.2.2.2.2.2.1.below hdr) (by omega) (by omega)).mono ?_
 rintro e w1 ⟨v1,rfl,hv1,hd⟩
 obtain⟨s1,A1,n1,c1,rfl,hs1,_⟩:=hv1.parts
 clear hs1
 have HV1:=hide hv1
 clear hv1
 have hg1:Below W.heap.size W w1:=hdr.trans (hd.mono hdr.size)
 clear hd
 go_wp2_with fail
 refine hK.out _ _ (HSS.out _ hg1) (fun hh=>?_)
 clear hK K
 try simp only[Act.put,ptA,ptB,ptC]
 refine zb (rs:=[9]) (by kernel_rfl) (by simp) ?_
 refine mem1 ?_
 refine zd rfl (fun K hK=>?_)
 go_simp
 go_at_call 109
 refine(zbz _ _ _ (q.num) (p.den) L L (HW.out.2.2.2.2.2.2.2.1.below hg1) (HW.out.2.2.2.2.2.2.1.below hg1) (by omega) (by omega)).mono ?_
 rintro e w2 ⟨v2,rfl,hv2,hd⟩
 obtain⟨s2,A2,n2,c2,rfl,hs2,_⟩:=hv2.parts
 clear hs2
 have HV2:=hide hv2
 clear hv2
 have hg2:Below W.heap.size W w2:=hg1.trans (hd.mono hg1.size)
 replace HV1:=hide (HV1.out.below hd)
 clear hd
 go_wp2_with fail
 refine hK.out _ _ (HSS.out _ hg2) (fun hh=>?_)
 clear hK K
 try simp only[Act.put,ptA,ptB,ptC]
 refine zb (rs:=[10]) (by kernel_rfl) (by simp) ?_
 refine mem1 ?_
 refine zd rfl (fun K hK=>?_)
 go_simp
 go_at_call 112
 refine(zjN _ _ _ (p.num*q.den) (q.num*p.den) (L+L) (L+L) HV1.out HV2.out (by omega) (by omega)).mono ?_
 rintro e w3 ⟨v3,rfl,hv3,hd⟩
 obtain⟨s3,A3,n3,c3,rfl,hs3,_⟩:=hv3.parts
 clear hs3
 have HV3:=hide hv3
 clear hv3
 have hg3:Below W.heap.size W w3:=hg2.trans (hd.mono hg2.size)
 replace HV1:=hide (HV1.out.below hd)
 replace HV2:=hide (HV2.out.below hd)
 clear hd
 go_wp2_with fail
 refine hK.out _ _ (HSS.out _ hg3) (fun hh=>?_)
 clear hK K
 try simp only[Act.put,ptA,ptB,ptC]
 refine zb (rs:=[15]) (by kernel_rfl) (by simp) ?_
 refine mem1 ?_
 refine zd rfl (fun K hK=>?_)
 go_simp
 go_at_call 109
 refine(zbz _ _ _ (p.den) (q.den) L L (HW.out.2.2.2.2.2.2.1.below hg3) (HW.out.2.2.2.2.2.2.2.2.1.below hg3) (by omega) (by omega)).mono ?_
 rintro e w4 ⟨v4,rfl,hv4,hd⟩
 obtain⟨s4,A4,n4,c4,rfl,hs4,_⟩:=hv4.parts
 clear hs4
 have HV4:=hide hv4
 clear hv4
 have hg4:Below W.heap.size W w4:=hg3.trans (hd.mono hg3.size)
 replace HV1:=hide (HV1.out.below hd)
 replace HV2:=hide (HV2.out.below hd)
 replace HV3:=hide (HV3.out.below hd)
 clear hd
 go_wp2_with fail
 refine hK.out _ _ (HSS.out _ hg4) (fun hh=>?_)
 clear hK K
 try simp only[Act.put,ptA,ptB,ptC]
 refine zb (rs:=[16]) (by kernel_rfl) (by simp) ?_
 refine mem1 ?_
 refine zd rfl (fun K hK=>?_)
 go_simp
 go_at_call 108
 refine(zcN _ _ _ (p.num*q.den+q.num*p.den) (p.den*q.den) (2*L+1) (HV3.out.more (by omega)) (HV4.out.more (by omega)) (by omega) (by have:=Int.mul_pos (zK p) (zK q);omega)).mono ?_
 rintro e w5 ⟨v5,rfl,hv5,hd⟩
 obtain⟨s5,A5,n5,c5,B5,m5,d5,rfl,_⟩:=hv5.parts
 have HV5:=hide hv5
 clear hv5
 have hg5:Below W.heap.size W w5:=hg4.trans (hd.mono hg4.size)
 replace HV1:=hide (HV1.out.below hd)
 replace HV2:=hide (HV2.out.below hd)
 replace HV3:=hide (HV3.out.below hd)
 replace HV4:=hide (HV4.out.below hd)
 clear hd
 go_wp2_with fail
 refine hK.out _ _ (HSS.out _ hg5) (fun hh=>?_)
 clear hK K
 try simp only[Act.put,ptA,ptB,ptC]
 refine zG (k:=17) (by rfl) (by rfl) (by kernel_rfl) ?_
 simp only[List.drop_succ_cons,List.drop_zero]
 have hr:=at_later HW.out.2.2.2.2.1 hg5
 obtain⟨y0,y1,y2,y3,f0,f1,f2,f3⟩:=zq hr
 have hlt:=lt_of_block hr
 have HF:=hide (ai hr (bnx HW.out.2.1 hg5))
 clear hr hh
 go_wp2
 refine bodyPost_ret (v:=.agg #[.bool s5,.slice A5 n5 c5,.bool false,.slice B5 m5 d5]) ?_ rfl ?_
 ·simp[results,Tryz.results54,go_sem,y0,y1,y2,y3,hlt]
 have hfin:=HV5.out
 rw[zlV] at hfin
 exact⟨_,rfl,hfin.put4 HF.out.1 (by decide),zJ HF.out.2 (by omega)⟩
set_option maxHeartbeats 1000000 in
theorem zhn (w:World) (v v':Value) (p q:Rat) (L:Nat) (hp:QV w v p L) (hq:QV w v' q L) (hL:L<=1000000000):
  Calls Tryz.prog 53 #[v,v'] w (Ret (qR w (p-q) (2*L+1))):=by
 obtain⟨s,A,n,c,B,m,d,rfl,hz,hy⟩:=hp.parts
 obtain⟨t,A',n',c',B',m',d',rfl,hz',hy'⟩:=hq.parts
 obtain⟨W,hW⟩:∃W,W=((w.alloc (.cells #[.bool s,.slice A n c,.bool false,.slice B m d] 55)).alloc (.cells #[.bool t,.slice A' n' c',.bool false,.slice B' m' d'] 55)).alloc (.cells #[.bool false,.slice none 0 0,.bool false,.slice none 0 0] 55):=⟨_,rfl⟩
 have hb0:Below w.heap.size w W:=by rw[hW];exact(((blr _ _).alloc (nr _) _).alloc (by simp) _).alloc (by simp;omega) _
 have h0:W.heap[w.heap.size]?=some (.cells #[.bool s,.slice A n c,.bool false,.slice B m d] 55):=by rw[hW];exact zy (zy (zg _ _) _) _
 have h1:W.heap[w.heap.size+1]?=some (.cells #[.bool t,.slice A' n' c',.bool false,.slice B' m' d'] 55):=by rw[hW];exact zy (zv _ (by simp)) _
 have h2:W.heap[w.heap.size+2]?=some (.cells #[.bool false,.slice none 0 0,.bool false,.slice none 0 0] 55):=by rw[hW];exact zv _ (by simp)
 have HW:=hide (ai hW (ai hb0 (ai h0 (ai h1 (ai h2 (ai (hz.below hb0) (ai (hy.below hb0) (ai (hz'.below hb0) (ai (hy'.below hb0) (trivial))))))))));clear hW hb0 h0 h1 h2 hz hy hz' hy' hp hq
 have hS:∀w',Below W.heap.size W w'->(w'.cell? ⟨w.heap.size,0,none⟩=some (.bool s)/\w'.cell? ⟨w.heap.size,1,none⟩=some (.slice A n c)/\w'.cell? ⟨w.heap.size,2,none⟩=some (.bool false)/\w'.cell? ⟨w.heap.size,3,none⟩=some (.slice B m d))/\(w'.cell? ⟨w.heap.size+1,0,none⟩=some (.bool t)/\w'.cell? ⟨w.heap.size+1,1,none⟩=some (.slice A' n' c')/\w'.cell? ⟨w.heap.size+1,2,none⟩=some (.bool false)/\w'.cell? ⟨w.heap.size+1,3,none⟩=some (.slice B' m' d')):=fun w' h=>⟨zaq (at_later HW.out.2.2.1 h),zaq (at_later HW.out.2.2.2.1 h)⟩
 have hdr:Below W.heap.size W W.drew:=(blr _ _).drew
 have HSS:=hide hS;clear hS
 go_enter Tryz.func53,Tryz.ntmps53
 go_wp2
 rw[<-HW.out.1]
 refine zA (fun w'=>(w'.cell? ⟨w.heap.size,0,none⟩=some (.bool s)/\w'.cell? ⟨w.heap.size,1,none⟩=some (.slice A n c)/\w'.cell? ⟨w.heap.size,2,none⟩=some (.bool false)/\w'.cell? ⟨w.heap.size,3,none⟩=some (.slice B m d))/\(w'.cell? ⟨w.heap.size+1,0,none⟩=some (.bool t)/\w'.cell? ⟨w.heap.size+1,1,none⟩=some (.slice A' n' c')/\w'.cell? ⟨w.heap.size+1,2,none⟩=some (.bool false)/\w'.cell? ⟨w.heap.size+1,3,none⟩=some (.slice B' m' d'))) [0,1,2,3,4,5,6,7,8,9,10,11,12,13,14,15,16] (by kernel_rfl) (HSS.out _ hdr) (fun hh=>?_)
 refine tt 0 hh 5 ?_
 try simp only[Act.put,ptA,ptB,ptC]
 refine tt 2 hh 7 ?_
 try simp only[Act.put,ptA,ptB,ptC]
 refine tt 5 hh 10 ?_
 try simp only[Act.put,ptA,ptB,ptC]
 refine tt 7 hh 12 ?_
 try simp only[Act.put,ptA,ptB,ptC]
 refine tt 11 hh 16 ?_
 try simp only[Act.put,ptA,ptB,ptC]
 refine tt 13 hh 18 ?_
 try simp only[Act.put,ptA,ptB,ptC]
 refine tt 1 hh 6 ?_
 try simp only[Act.put,ptA,ptB,ptC]
 refine tt 3 hh 8 ?_
 try simp only[Act.put,ptA,ptB,ptC]
 refine tt 6 hh 11 ?_
 try simp only[Act.put,ptA,ptB,ptC]
 refine tt 8 hh 13 ?_
 try simp only[Act.put,ptA,ptB,ptC]
 refine tt 12 hh 17 ?_
 try simp only[Act.put,ptA,ptB,ptC]
 refine tt 14 hh 19 ?_
 try simp only[Act.put,ptA,ptB,ptC]
 refine zb (rs:=[4]) (by kernel_rfl) (by simp) ?_
 refine mem1 ?_
 refine zd rfl (fun K hK=>?_)
 go_simp
 go_at_call 109
 refine(zbz _ _ _ (p.num) (q.den) L L (HW.out.2.2.2.2.2.1.below hdr) (HW.out.2.2.2.2.2.2.2.2.1.below hdr) (by omega) (by omega)).mono ?_
 rintro e w1 ⟨v1,rfl,hv1,hd⟩
 obtain⟨s1,A1,n1,c1,rfl,hs1,_⟩:=hv1.parts
 clear hs1
 have HV1:=hide hv1
 clear hv1
 have hg1:Below W.heap.size W w1:=hdr.trans (hd.mono hdr.size)
 clear hd
 go_wp2_with fail
 refine hK.out _ _ (HSS.out _ hg1) (fun hh=>?_)
 clear hK K
 try simp only[Act.put,ptA,ptB,ptC]
 refine zb (rs:=[9]) (by kernel_rfl) (by simp) ?_
 refine mem1 ?_
 refine zd rfl (fun K hK=>?_)
 go_simp
 go_at_call 109
 refine(zbz _ _ _ (q.num) (p.den) L L (HW.out.2.2.2.2.2.2.2.1.below hg1) (HW.out.2.2.2.2.2.2.1.below hg1) (by omega) (by omega)).mono ?_
 rintro e w2 ⟨v2,rfl,hv2,hd⟩
 obtain⟨s2,A2,n2,c2,rfl,hs2,_⟩:=hv2.parts
 clear hs2
 have HV2:=hide hv2
 clear hv2
 have hg2:Below W.heap.size W w2:=hg1.trans (hd.mono hg1.size)
 replace HV1:=hide (HV1.out.below hd)
 clear hd
 go_wp2_with fail
 refine hK.out _ _ (HSS.out _ hg2) (fun hh=>?_)
 clear hK K
 try simp only[Act.put,ptA,ptB,ptC]
 refine zb (rs:=[10]) (by kernel_rfl) (by simp) ?_
 refine mem1 ?_
 refine zd rfl (fun K hK=>?_)
 go_simp
 go_at_call 111
 refine(zll _ _ _ (p.num*q.den) (q.num*p.den) (L+L) (L+L) HV1.out HV2.out (by omega) (by omega)).mono ?_
 rintro e w3 ⟨v3,rfl,hv3,hd⟩
 obtain⟨s3,A3,n3,c3,rfl,hs3,_⟩:=hv3.parts
 clear hs3
 have HV3:=hide hv3
 clear hv3
 have hg3:Below W.heap.size W w3:=hg2.trans (hd.mono hg2.size)
 replace HV1:=hide (HV1.out.below hd)
 replace HV2:=hide (HV2.out.below hd)
 clear hd
 go_wp2_with fail
 refine hK.out _ _ (HSS.out _ hg3) (fun hh=>?_)
 clear hK K
 try simp only[Act.put,ptA,ptB,ptC]
 refine zb (rs:=[15]) (by kernel_rfl) (by simp) ?_
 refine mem1 ?_
 refine zd rfl (fun K hK=>?_)
 go_simp
 go_at_call 109
 refine(zbz _ _ _ (p.den) (q.den) L L (HW.out.2.2.2.2.2.2.1.below hg3) (HW.out.2.2.2.2.2.2.2.2.1.below hg3) (by omega) (by omega)).mono ?_
 rintro e w4 ⟨v4,rfl,hv4,hd⟩
 obtain⟨s4,A4,n4,c4,rfl,hs4,_⟩:=hv4.parts
 clear hs4
 have HV4:=hide hv4
 clear hv4
 have hg4:Below W.heap.size W w4:=hg3.trans (hd.mono hg3.size)
 replace HV1:=hide (HV1.out.below hd)
 replace HV2:=hide (HV2.out.below hd)
 replace HV3:=hide (HV3.out.below hd)
 clear hd
 go_wp2_with fail
 refine hK.out _ _ (HSS.out _ hg4) (fun hh=>?_)
 clear hK K
 try simp only[Act.put,ptA,ptB,ptC]
 refine zb (rs:=[16]) (by kernel_rfl) (by simp) ?_
 refine mem1 ?_
 refine zd rfl (fun K hK=>?_)
 go_simp
 go_at_call 108
 refine(zcN _ _ _ (p.num*q.den-q.num*p.den) (p.den*q.den) (2*L+1) (HV3.out.more (by omega)) (HV4.out.more (by omega)) (by omega) (by have:=Int.mul_pos (zK p) (zK q);omega)).mono ?_
 rintro e w5 ⟨v5,rfl,hv5,hd⟩
 obtain⟨s5,A5,n5,c5,B5,m5,d5,rfl,_⟩:=hv5.parts
 have HV5:=hide hv5
 clear hv5
 have hg5:Below W.heap.size W w5:=hg4.trans (hd.mono hg4.size)
 replace HV1:=hide (HV1.out.below hd)
 replace HV2:=hide (HV2.out.below hd)
 replace HV3:=hide (HV3.out.below hd)
 replace HV4:=hide (HV4.out.below hd)
 clear hd
 go_wp2_with fail
 refine hK.out _ _ (HSS.out _ hg5) (fun hh=>?_)
 clear hK K
 try simp only[Act.put,ptA,ptB,ptC]
 refine zG (k:=17) (by rfl) (by rfl) (by kernel_rfl) ?_
 simp only[List.drop_succ_cons,List.drop_zero]
 have hr:=at_later HW.out.2.2.2.2.1 hg5
 obtain⟨y0,y1,y2,y3,f0,f1,f2,f3⟩:=zq hr
 have hlt:=lt_of_block hr
 have HF:=hide (ai hr (bnx HW.out.2.1 hg5))
 clear hr hh
 go_wp2
 refine bodyPost_ret (v:=.agg #[.bool s5,.slice A5 n5 c5,.bool false,.slice B5 m5 d5]) ?_ rfl ?_
 ·simp[results,Tryz.results53,go_sem,y0,y1,y2,y3,hlt]
 have hfin:=HV5.out
 rw[zkE] at hfin
 exact⟨_,rfl,hfin.put4 HF.out.1 (by decide),zJ HF.out.2 (by omega)⟩
set_option maxHeartbeats 1000000 in
theorem zcM (w:World) (v v':Value) (p q:Rat) (L:Nat) (hp:QV w v p L) (hq:QV w v' q L) (hL:L<=1000000000):
  Calls Tryz.prog 88 #[v,v'] w (Ret (qR w (p*q) (2*L+1))):=by
 obtain⟨s,A,n,c,B,m,d,rfl,hz,hy⟩:=hp.parts
 obtain⟨t,A',n',c',B',m',d',rfl,hz',hy'⟩:=hq.parts
 obtain⟨W,hW⟩:∃W,W=((w.alloc (.cells #[.bool s,.slice A n c,.bool false,.slice B m d] 55)).alloc (.cells #[.bool t,.slice A' n' c',.bool false,.slice B' m' d'] 55)).alloc (.cells #[.bool false,.slice none 0 0,.bool false,.slice none 0 0] 55):=⟨_,rfl⟩
 have hb0:Below w.heap.size w W:=by rw[hW];exact(((blr _ _).alloc (nr _) _).alloc (by simp) _).alloc (by simp;omega) _
 have h0:W.heap[w.heap.size]?=some (.cells #[.bool s,.slice A n c,.bool false,.slice B m d] 55):=by rw[hW];exact zy (zy (zg _ _) _) _
 have h1:W.heap[w.heap.size+1]?=some (.cells #[.bool t,.slice A' n' c',.bool false,.slice B' m' d'] 55):=by rw[hW];exact zy (zv _ (by simp)) _
 have h2:W.heap[w.heap.size+2]?=some (.cells #[.bool false,.slice none 0 0,.bool false,.slice none 0 0] 55):=by rw[hW];exact zv _ (by simp)
 have HW:=hide (ai hW (ai hb0 (ai h0 (ai h1 (ai h2 (ai (hz.below hb0) (ai (hy.below hb0) (ai (hz'.below hb0) (ai (hy'.below hb0) (trivial))))))))));clear hW hb0 h0 h1 h2 hz hy hz' hy' hp hq
 have hS:∀w',Below W.heap.size W w'->(w'.cell? ⟨w.heap.size,0,none⟩=some (.bool s)/\w'.cell? ⟨w.heap.size,1,none⟩=some (.slice A n c)/\w'.cell? ⟨w.heap.size,2,none⟩=some (.bool false)/\w'.cell? ⟨w.heap.size,3,none⟩=some (.slice B m d))/\(w'.cell? ⟨w.heap.size+1,0,none⟩=some (.bool t)/\w'.cell? ⟨w.heap.size+1,1,none⟩=some (.slice A' n' c')/\w'.cell? ⟨w.heap.size+1,2,none⟩=some (.bool false)/\w'.cell? ⟨w.heap.size+1,3,none⟩=some (.slice B' m' d')):=fun w' h=>⟨zaq (at_later HW.out.2.2.1 h),zaq (at_later HW.out.2.2.2.1 h)⟩
 have hdr:Below W.heap.size W W.drew:=(blr _ _).drew
 have HSS:=hide hS;clear hS
 go_enter Tryz.func88,Tryz.ntmps88
 go_wp2
 rw[<-HW.out.1]
 refine zA (fun w'=>(w'.cell? ⟨w.heap.size,0,none⟩=some (.bool s)/\w'.cell? ⟨w.heap.size,1,none⟩=some (.slice A n c)/\w'.cell? ⟨w.heap.size,2,none⟩=some (.bool false)/\w'.cell? ⟨w.heap.size,3,none⟩=some (.slice B m d))/\(w'.cell? ⟨w.heap.size+1,0,none⟩=some (.bool t)/\w'.cell? ⟨w.heap.size+1,1,none⟩=some (.slice A' n' c')/\w'.cell? ⟨w.heap.size+1,2,none⟩=some (.bool false)/\w'.cell? ⟨w.heap.size+1,3,none⟩=some (.slice B' m' d'))) [0,1,2,3,4,5,6,7,8,9,10] (by kernel_rfl) (HSS.out _ hdr) (fun hh=>?_)
 refine tt 0 hh 5 ?_
 try simp only[Act.put,ptA,ptB,ptC]
 refine tt 2 hh 7 ?_
 try simp only[Act.put,ptA,ptB,ptC]
 refine tt 5 hh 10 ?_
 try simp only[Act.put,ptA,ptB,ptC]
 refine tt 7 hh 12 ?_
 try simp only[Act.put,ptA,ptB,ptC]
 refine tt 1 hh 6 ?_
 try simp only[Act.put,ptA,ptB,ptC]
 refine tt 3 hh 8 ?_
 try simp only[Act.put,ptA,ptB,ptC]
 refine tt 6 hh 11 ?_
 try simp only[Act.put,ptA,ptB,ptC]
 refine tt 8 hh 13 ?_
 try simp only[Act.put,ptA,ptB,ptC]
 refine zb (rs:=[4]) (by kernel_rfl) (by simp) ?_
 refine mem1 ?_
 refine zd rfl (fun K hK=>?_)
 go_simp
 go_at_call 109
 refine(zbz _ _ _ (p.num) (q.num) L L (HW.out.2.2.2.2.2.1.below hdr) (HW.out.2.2.2.2.2.2.2.1.below hdr) (by omega) (by omega)).mono ?_
 rintro e w1 ⟨v1,rfl,hv1,hd⟩
 obtain⟨s1,A1,n1,c1,rfl,hs1,_⟩:=hv1.parts
 clear hs1
 have HV1:=hide hv1
 clear hv1
 have hg1:Below W.heap.size W w1:=hdr.trans (hd.mono hdr.size)
 clear hd
 go_wp2_with fail
 refine hK.out _ _ (HSS.out _ hg1) (fun hh=>?_)
 clear hK K
 try simp only[Act.put,ptA,ptB,ptC]
 refine zb (rs:=[9]) (by kernel_rfl) (by simp) ?_
 refine mem1 ?_
 refine zd rfl (fun K hK=>?_)
 go_simp
 go_at_call 109
 refine(zbz _ _ _ (p.den) (q.den) L L (HW.out.2.2.2.2.2.2.1.below hg1) (HW.out.2.2.2.2.2.2.2.2.1.below hg1) (by omega) (by omega)).mono ?_
 rintro e w2 ⟨v2,rfl,hv2,hd⟩
 obtain⟨s2,A2,n2,c2,rfl,hs2,_⟩:=hv2.parts
 clear hs2
 have HV2:=hide hv2
 clear hv2
 have hg2:Below W.heap.size W w2:=hg1.trans (hd.mono hg1.size)
 replace HV1:=hide (HV1.out.below hd)
 clear hd
 go_wp2_with fail
 refine hK.out _ _ (HSS.out _ hg2) (fun hh=>?_)
 clear hK K
 try simp only[Act.put,ptA,ptB,ptC]
 refine zb (rs:=[10]) (by kernel_rfl) (by simp) ?_
 refine mem1 ?_
 refine zd rfl (fun K hK=>?_)
 go_simp
 go_at_call 108
 refine(zcN _ _ _ (p.num*q.num) (p.den*q.den) (2*L+1) (HV1.out.more (by omega)) (HV2.out.more (by omega)) (by omega) (by have:=Int.mul_pos (zK p) (zK q);omega)).mono ?_
 rintro e w3 ⟨v3,rfl,hv3,hd⟩
 obtain⟨s3,A3,n3,c3,B3,m3,d3,rfl,_⟩:=hv3.parts
 have HV3:=hide hv3
 clear hv3
 have hg3:Below W.heap.size W w3:=hg2.trans (hd.mono hg2.size)
 replace HV1:=hide (HV1.out.below hd)
 replace HV2:=hide (HV2.out.below hd)
 clear hd
 go_wp2_with fail
 refine hK.out _ _ (HSS.out _ hg3) (fun hh=>?_)
 clear hK K
 try simp only[Act.put,ptA,ptB,ptC]
 refine zG (k:=11) (by rfl) (by rfl) (by kernel_rfl) ?_
 simp only[List.drop_succ_cons,List.drop_zero]
 have hr:=at_later HW.out.2.2.2.2.1 hg3
 obtain⟨y0,y1,y2,y3,f0,f1,f2,f3⟩:=zq hr
 have hlt:=lt_of_block hr
 have HF:=hide (ai hr (bnx HW.out.2.1 hg3))
 clear hr hh
 go_wp2
 refine bodyPost_ret (v:=.agg #[.bool s3,.slice A3 n3 c3,.bool false,.slice B3 m3 d3]) ?_ rfl ?_
 ·simp[results,Tryz.results88,go_sem,y0,y1,y2,y3,hlt]
 have hfin:=HV3.out
 rw[zkF] at hfin
 exact⟨_,rfl,hfin.put4 HF.out.1 (by decide),zJ HF.out.2 (by omega)⟩
set_option maxHeartbeats 1000000 in
theorem zew (w:World) (v v':Value) (p q:Rat) (L:Nat) (hp:QV w v p L) (hq:QV w v' q L) (hL:L<=1000000000) (hq0:q≠0):
  Calls Tryz.prog 89 #[v,v'] w (Ret (qR w (p / q) (2*L+1))):=by
 obtain⟨s,A,n,c,B,m,d,rfl,hz,hy⟩:=hp.parts
 obtain⟨t,A',n',c',B',m',d',rfl,hz',hy'⟩:=hq.parts
 obtain⟨W,hW⟩:∃W,W=((w.alloc (.cells #[.bool s,.slice A n c,.bool false,.slice B m d] 55)).alloc (.cells #[.bool t,.slice A' n' c',.bool false,.slice B' m' d'] 55)).alloc (.cells #[.bool false,.slice none 0 0,.bool false,.slice none 0 0] 55):=⟨_,rfl⟩
 have hb0:Below w.heap.size w W:=by rw[hW];exact(((blr _ _).alloc (nr _) _).alloc (by simp) _).alloc (by simp;omega) _
 have h0:W.heap[w.heap.size]?=some (.cells #[.bool s,.slice A n c,.bool false,.slice B m d] 55):=by rw[hW];exact zy (zy (zg _ _) _) _
 have h1:W.heap[w.heap.size+1]?=some (.cells #[.bool t,.slice A' n' c',.bool false,.slice B' m' d'] 55):=by rw[hW];exact zy (zv _ (by simp)) _
 have h2:W.heap[w.heap.size+2]?=some (.cells #[.bool false,.slice none 0 0,.bool false,.slice none 0 0] 55):=by rw[hW];exact zv _ (by simp)
 have HW:=hide (ai hW (ai hb0 (ai h0 (ai h1 (ai h2 (ai (hz.below hb0) (ai (hy.below hb0) (ai (hz'.below hb0) (ai (hy'.below hb0) (show (p.den:Int)*q.num≠0 from Int.mul_ne_zero (by have:=zK p;omega) (fun e=>hq0 (Rat.num_eq_zero.1 e))))))))))));clear hW hb0 h0 h1 h2 hz hy hz' hy' hp hq
 have hS:∀w',Below W.heap.size W w'->(w'.cell? ⟨w.heap.size,0,none⟩=some (.bool s)/\w'.cell? ⟨w.heap.size,1,none⟩=some (.slice A n c)/\w'.cell? ⟨w.heap.size,2,none⟩=some (.bool false)/\w'.cell? ⟨w.heap.size,3,none⟩=some (.slice B m d))/\(w'.cell? ⟨w.heap.size+1,0,none⟩=some (.bool t)/\w'.cell? ⟨w.heap.size+1,1,none⟩=some (.slice A' n' c')/\w'.cell? ⟨w.heap.size+1,2,none⟩=some (.bool false)/\w'.cell? ⟨w.heap.size+1,3,none⟩=some (.slice B' m' d')):=fun w' h=>⟨zaq (at_later HW.out.2.2.1 h),zaq (at_later HW.out.2.2.2.1 h)⟩
 have hdr:Below W.heap.size W W.drew:=(blr _ _).drew
 have HSS:=hide hS;clear hS
 go_enter Tryz.func89,Tryz.ntmps89
 go_wp2
 rw[<-HW.out.1]
 refine zA (fun w'=>(w'.cell? ⟨w.heap.size,0,none⟩=some (.bool s)/\w'.cell? ⟨w.heap.size,1,none⟩=some (.slice A n c)/\w'.cell? ⟨w.heap.size,2,none⟩=some (.bool false)/\w'.cell? ⟨w.heap.size,3,none⟩=some (.slice B m d))/\(w'.cell? ⟨w.heap.size+1,0,none⟩=some (.bool t)/\w'.cell? ⟨w.heap.size+1,1,none⟩=some (.slice A' n' c')/\w'.cell? ⟨w.heap.size+1,2,none⟩=some (.bool false)/\w'.cell? ⟨w.heap.size+1,3,none⟩=some (.slice B' m' d'))) [0,1,2,3,4,5,6,7,8,9,10] (by kernel_rfl) (HSS.out _ hdr) (fun hh=>?_)
 refine tt 0 hh 5 ?_
 try simp only[Act.put,ptA,ptB,ptC]
 refine tt 2 hh 7 ?_
 try simp only[Act.put,ptA,ptB,ptC]
 refine tt 5 hh 10 ?_
 try simp only[Act.put,ptA,ptB,ptC]
 refine tt 7 hh 12 ?_
 try simp only[Act.put,ptA,ptB,ptC]
 refine tt 1 hh 6 ?_
 try simp only[Act.put,ptA,ptB,ptC]
 refine tt 3 hh 8 ?_
 try simp only[Act.put,ptA,ptB,ptC]
 refine tt 6 hh 11 ?_
 try simp only[Act.put,ptA,ptB,ptC]
 refine tt 8 hh 13 ?_
 try simp only[Act.put,ptA,ptB,ptC]
 refine zb (rs:=[4]) (by kernel_rfl) (by simp) ?_
 refine mem1 ?_
 refine zd rfl (fun K hK=>?_)
 go_simp
 go_at_call 109
 refine(zbz _ _ _ (p.num) (q.den) L L (HW.out.2.2.2.2.2.1.below hdr) (HW.out.2.2.2.2.2.2.2.2.1.below hdr) (by omega) (by omega)).mono ?_
 rintro e w1 ⟨v1,rfl,hv1,hd⟩
 obtain⟨s1,A1,n1,c1,rfl,hs1,_⟩:=hv1.parts
 clear hs1
 have HV1:=hide hv1
 clear hv1
 have hg1:Below W.heap.size W w1:=hdr.trans (hd.mono hdr.size)
 clear hd
 go_wp2_with fail
 refine hK.out _ _ (HSS.out _ hg1) (fun hh=>?_)
 clear hK K
 try simp only[Act.put,ptA,ptB,ptC]
 refine zb (rs:=[9]) (by kernel_rfl) (by simp) ?_
 refine mem1 ?_
 refine zd rfl (fun K hK=>?_)
 go_simp
 go_at_call 109
 refine(zbz _ _ _ (p.den) (q.num) L L (HW.out.2.2.2.2.2.2.1.below hg1) (HW.out.2.2.2.2.2.2.2.1.below hg1) (by omega) (by omega)).mono ?_
 rintro e w2 ⟨v2,rfl,hv2,hd⟩
 obtain⟨s2,A2,n2,c2,rfl,hs2,_⟩:=hv2.parts
 clear hs2
 have HV2:=hide hv2
 clear hv2
 have hg2:Below W.heap.size W w2:=hg1.trans (hd.mono hg1.size)
 replace HV1:=hide (HV1.out.below hd)
 clear hd
 go_wp2_with fail
 refine hK.out _ _ (HSS.out _ hg2) (fun hh=>?_)
 clear hK K
 try simp only[Act.put,ptA,ptB,ptC]
 refine zb (rs:=[10]) (by kernel_rfl) (by simp) ?_
 refine mem1 ?_
 refine zd rfl (fun K hK=>?_)
 go_simp
 go_at_call 108
 refine(zcN _ _ _ (p.num*q.den) (p.den*q.num) (2*L+1) (HV1.out.more (by omega)) (HV2.out.more (by omega)) (by omega) (HW.out.2.2.2.2.2.2.2.2.2)).mono ?_
 rintro e w3 ⟨v3,rfl,hv3,hd⟩
 obtain⟨s3,A3,n3,c3,B3,m3,d3,rfl,_⟩:=hv3.parts
 have HV3:=hide hv3
 clear hv3
 have hg3:Below W.heap.size W w3:=hg2.trans (hd.mono hg2.size)
 replace HV1:=hide (HV1.out.below hd)
 replace HV2:=hide (HV2.out.below hd)
 clear hd
 go_wp2_with fail
 refine hK.out _ _ (HSS.out _ hg3) (fun hh=>?_)
 clear hK K
 try simp only[Act.put,ptA,ptB,ptC]
 refine zG (k:=11) (by rfl) (by rfl) (by kernel_rfl) ?_
 simp only[List.drop_succ_cons,List.drop_zero]
 have hr:=at_later HW.out.2.2.2.2.1 hg3
 obtain⟨y0,y1,y2,y3,f0,f1,f2,f3⟩:=zq hr
 have hlt:=lt_of_block hr
 have HF:=hide (ai hr (bnx HW.out.2.1 hg3))
 clear hr hh
 go_wp2
 refine bodyPost_ret (v:=.agg #[.bool s3,.slice A3 n3 c3,.bool false,.slice B3 m3 d3]) ?_ rfl ?_
 ·simp[results,Tryz.results89,go_sem,y0,y1,y2,y3,hlt]
 have hfin:=HV3.out
 rw[zlW] at hfin
 exact⟨_,rfl,hfin.put4 HF.out.1 (by decide),zJ HF.out.2 (by omega)⟩
theorem zkG (q:Rat):sgnZ q.num=sgnQ q:=rfl
theorem zea (w:World) (v:Value) (q:Rat) (L:Nat) (hq:QV w v q L):
  Calls Tryz.prog 106 #[v] w (Ret fun v w'=>v=.int .i64 (sgnQ q)/\Below w.heap.size w w'):=by
 obtain⟨s,A,n,c,B,m,d,rfl,hz,hy⟩:=hq.parts
 have hb0:Below w.heap.size w (w.alloc (.cells #[.bool s,.slice A n c,.bool false,.slice B m d] 55)):=(blr _ _).alloc (nr _) _
 have HZ:=hide (hz.below hb0)
 clear hz hy hq
 go_enter Tryz.func106,Tryz.ntmps106
 go_wp2_with fail
 refine(ziW _ _ q.num L HZ.out).mono ?_
 rintro e w1 ⟨_,rfl,rfl,hd⟩
 have HB:=hide (bnx hb0 hd)
 clear hb0 hd
 rw[zkG]
 go_wp2
 go_ret
 exact⟨_,rfl,rfl,HB.out⟩
end Go.Proofs.YtpoahodnakhmiaaGreat
