import Derived.Test.YtpoahodnakhmiaaGreatQStOf
set_option maxRecDepth 100000
namespace Go.Proofs.YtpoahodnakhmiaaGreat
set_option linter.unusedVariables false
set_option linter.unusedSimpArgs false
open Go.RowKit
theorem zhg (w:World) (gx i:Nat) (n:Int) (R V Ld:List Rat) (Ws:List (List Rat)) (hx:zbf w gx R Ws V Ld 3000) (hld:zS Ld.length (fun i=>Ld.getD i 0)) (hi:i<Ld.length) (hn0:0<=n) (hn:n<=12):
  Calls Tryz.prog 94 #[.pointer (some ⟨gx,0,none⟩),.int .i64 (i:Int),.int .i64 n] w (Ret (ratR w (lnQ (fun i=>Ld.getD i 0) Ld.length i n.toNat) 3000)):=by
 obtain⟨k,rfl⟩:∃k:Nat,n=(k:Int):=⟨n.toNat,by omega⟩
 rw[Int.toNat_natCast]
 exact zlO w gx i k R V Ld Ws hx hld hi (by omega)
def tmQ (m:Nat) (R:List Rat) (Ws:List (List Rat)) (st:Nat) (n:Int):Rat:=if n=0 then 0 else lnQ (ldF m R Ws) m st n.toNat / spQ m R Ws st n
theorem zO.sp_ne2 {m:Nat} {R:List Rat} {Ws:List (List Rat)} (h:zO m R Ws) (st:Nat) (hst:st<m) (n:Int) (h1:1<=n) (h2:n<=12):spQ m R Ws st n≠0:=by
 have ha:R.getD st 0≠0:=h.ok.r0 st hst
 have hb:0<atQ (ldF m R Ws) m st 1 n:=by
  unfold atQ
  rw[if_neg (by omega),if_neg (by omega)]
  have hp:0<powN (ldF m R Ws st) (1:Int).toNat:=by
   show 0<1*ldF m R Ws st
   rw[Rat.one_mul];exact h.ld.pos st hst
  exact zcP (Rat.mul_pos hp (h.ld.g_pos _)) (h.ld.g_pos _)
 unfold spQ
 grind
theorem zkr (w:World) (bst bn gx m:Nat) (st:Nat) (n:Int) (R:List Rat) (Ws:List (List Rat)) (hs:zO m R Ws) (hx:zad w gx m R Ws) (hbst:w.heap[bst]?=some (.cells #[.int .i64 (st:Int)] 3 (0,0))) (hbn:w.heap[bn]?=some (.cells #[.int .i64 n] 3 (0,0))) (hst:st<m) (hn0:0<=n) (hn:n<=12):
  Calls Tryz.prog 93 (#[.pointer (some ⟨gx,0,none⟩)]++#[.pointer (some ⟨bst,0,none⟩),.pointer (some ⟨bn,0,none⟩)]) w (Ret (ratR w (lnQ (ldF m R Ws) m st n.toNat) 3000)):=by
 generalize hq:lnQ (ldF m R Ws) m st n.toNat=q
 obtain⟨W,hW⟩:∃W,W=w.alloc (.cells #[.bool false,.slice none 0 0,.slice none 0 0] 43):=⟨_,rfl⟩
 have hb0:Below w.heap.size w W:=by rw[hW];exact za (blr _ _) _
 have hbr:W.heap[w.heap.size]?=some (.cells #[.bool false,.slice none 0 0,.slice none 0 0] 43):=by rw[hW];exact zg _ _
 obtain⟨z0,-⟩:=zo hbst
 obtain⟨y0,-⟩:=zo (at_later hbst hb0)
 have l0:=lt_of_block hbst
 obtain⟨z1,-⟩:=zo hbn
 obtain⟨y1,-⟩:=zo (at_later hbn hb0)
 have l1:=lt_of_block hbn
 have H0:=hide (ai hb0 (ai hbr (ai (zad.below hx hb0) hq)))
 have HL:=hide hW
 have hlen:=hide hs.len
 have h8:=hs.ld.s8
 clear hx hb0 hbr hW hq hbst hbn
 rw[show #[Value.pointer (some ⟨gx,0,none⟩)]++#[.pointer (some ⟨bst,0,none⟩),.pointer (some ⟨bn,0,none⟩)]=#[Value.pointer (some ⟨gx,0,none⟩),.pointer (some ⟨bst,0,none⟩),.pointer (some ⟨bn,0,none⟩)] from rfl]
 go_enter Tryz.func93,Tryz.ntmps93
 go_upto_region 1 with fail
 rw[<-HL.out]
 go_wp2_with fail
 refine(zhg _ gx st n R _ (ldV m R Ws) Ws H0.out.2.2.1 hs.ld' (by rw[hs.len];exact hst) hn0 hn).mono ?_
 rintro e w1 ⟨v6,rfl,hr6,hd⟩
 replace hr6:RatV w1 v6 q 3000:=by rw[<-H0.out.2.2.2];rw[hs.len] at hr6;exact hr6
 obtain⟨s6,A6,n6,c6,B6,m6,d6,rfl⟩:=hr6.shape
 have hrb:=at_later H0.out.2.1 hd
 clear z0 y0 z1 y1
 obtain⟨x0,x1,x2⟩:=zj hrb
 obtain⟨f0,f1,f2⟩:=zr hrb
 have hlt:=lt_of_block hrb
 have HU:=hide (ai hr6 (bnx H0.out.1 hd))
 clear hrb hr6 hd
 go_wp2
 refine bodyPost_ret (v:=.agg #[.bool s6,.slice A6 n6 c6,.slice B6 m6 d6]) ?_ rfl ?_
 ·simp[results,Tryz.results93,go_sem,x0,x1,x2,hlt]
 have hr:=HU.out.1
 obtain⟨rn,rl,e,r1,r2⟩:=hr
 injection e with e
 simp only[Array.mk.injEq,List.cons.injEq,Value.bool.injEq,and_true] at e
 obtain⟨rfl,rfl,rfl⟩:=e
 exact⟨_,rfl,⟨_,_,rfl,r1.set3 x0 x1 x2,r2.set3 x0 x1 x2⟩,zl HU.out.2 (by omega) _ _ _⟩
theorem zlE (w:World) (v:Value) (m:Nat) (st:Nat) (n:Int) (R:List Rat) (Ws:List (List Rat)) (hv:ShopV w v R Ws 3000) (hs:zO m R Ws) (hst:st<m) (hn0:0<=n) (hn:n<=12):
  Calls Tryz.prog 34 #[v,.int .i64 (st:Int),.int .i64 n] w (Ret (okR w (lnQ (ldF m R Ws) m st n.toNat) 3000)):=by
 have hmf:=hmf0 Tryz.prog
 have HV:=hide hv
 obtain⟨va,vb,rfl,hR,hW⟩:=hv
 obtain⟨A1,c1,rfl,-,-,-⟩:=id hR
 obtain⟨A2,c2,rfl,-,-,-⟩:=id hW
 generalize hq:lnQ (ldF m R Ws) m st n.toNat=q
 have hq2:∀w,ratR w q 3000=ratR w (lnQ (ldF m R Ws) m st n.toNat) 3000:=fun w=>by rw[hq]
 have HQ2:=hide hq2
 clear hq hq2
 obtain⟨W,hWW⟩:∃W,W=(((w.alloc (.cells #[.slice A1 R.length c1,.slice A2 Ws.length c2] 33)).alloc (.cells #[.int .i64 (st:Int)] 3)).alloc (.cells #[.int .i64 n] 3)).alloc (.cells #[.bool false,.slice none 0 0,.slice none 0 0] 43):=⟨_,rfl⟩
 have hb0:Below w.heap.size w W:=by rw[hWW];exact(za (za (za (za (blr _ _) _) _) _) _)
 have hbst:W.heap[w.heap.size+1]?=some (.cells #[.int .i64 (st:Int)] 3 (0,0)):=by
  have h1:=at_later (zg (w.alloc (.cells #[.slice A1 R.length c1,.slice A2 Ws.length c2] 33)) (.cells #[.int .i64 (st:Int)] 3)) (za (za (blr _ _) (.cells #[.int .i64 n] 3)) (.cells #[.bool false,.slice none 0 0,.slice none 0 0] 43))
  rw[hWW];simpa using h1
 have hbn:W.heap[w.heap.size+2]?=some (.cells #[.int .i64 n] 3 (0,0)):=by
  have h1:=at_later (zg ((w.alloc (.cells #[.slice A1 R.length c1,.slice A2 Ws.length c2] 33)).alloc (.cells #[.int .i64 (st:Int)] 3)) (.cells #[.int .i64 n] 3)) (za (blr _ _) (.cells #[.bool false,.slice none 0 0,.slice none 0 0] 43))
  rw[hWW];simpa using h1
 have hbr:W.heap[w.heap.size+3]?=some (.cells #[.bool false,.slice none 0 0,.slice none 0 0] 43):=by
  have h1:=at_later (zg (((w.alloc (.cells #[.slice A1 R.length c1,.slice A2 Ws.length c2] 33)).alloc (.cells #[.int .i64 (st:Int)] 3)).alloc (.cells #[.int .i64 n] 3)) (.cells #[.bool false,.slice none 0 0,.slice none 0 0] 43)) (blr _ _)
  rw[hWW];simpa using h1
 have hbs:W.heap[w.heap.size]?=some (.cells #[.slice A1 R.length c1,.slice A2 Ws.length c2] 33):=by
  have h1:=at_later (zg w (.cells #[.slice A1 R.length c1,.slice A2 Ws.length c2] 33)) (za (za (za (blr _ _) (.cells #[.int .i64 (st:Int)] 3)) (.cells #[.int .i64 n] 3)) (.cells #[.bool false,.slice none 0 0,.slice none 0 0] 43))
  rw[hWW];simpa using h1
 obtain⟨u0,u1,-,-⟩:=ze hbs
 clear hbs
 have H0:=hide (ai hb0 (ai hbst (ai hbn hbr)))
 obtain⟨y0,-⟩:=zo hbst
 obtain⟨y1,-⟩:=zo hbn
 have HL:=hide hWW
 have ha:=HV.out.below hb0
 have HA:=hide ha
 clear hR hW hb0 hWW ha hbst hbn hbr
 go_enter Tryz.func34,Tryz.ntmps34
 go_upto_region 1 with fail
 rw[<-HL.out]
 go_wp2_with fail
 refine(zju W _ 93 m st n #[.pointer (some ⟨w.heap.size+1,0,none⟩),.pointer (some ⟨w.heap.size+2,0,none⟩)] q R Ws HA.out hs hst hn0 hn (fun _ _=>by simp[go_sem]) (fun gx w' hb hx=>by rw[HQ2.out];exact zkr w' _ _ gx m st n  R Ws hs hx (at_later H0.out.2.1 hb) (at_later H0.out.2.2.1 hb) hst hn0 hn)).mono ?_
 rintro e w4 ⟨_,rfl,r,rfl,hr6,hd⟩
 obtain⟨s6,A6,n6,c6,B6,m6,d6,rfl⟩:=hr6.shape
 have hrb:=at_later H0.out.2.2.2 hd
 clear y0 y1 u0 u1
 obtain⟨x0,x1,x2⟩:=zj hrb
 obtain⟨f0,f1,f2⟩:=zr hrb
 have hlt:=lt_of_block hrb
 have HU:=hide (ai hr6 (bnx H0.out.1 hd))
 clear hrb hr6 hd
 go_wp2
 refine bodyPost_ret (v:=.tuple #[.agg #[.bool s6,.slice A6 n6 c6,.slice B6 m6 d6],.int .i64 0]) ?_ rfl ?_
 ·simp[results,Tryz.results34,go_sem,x0,x1,x2,hlt]
 have hr:=HU.out.1
 obtain⟨rn,rl,e,r1,r2⟩:=hr
 injection e with e
 simp only[Array.mk.injEq,List.cons.injEq,Value.bool.injEq,and_true] at e
 obtain⟨rfl,rfl,rfl⟩:=e
 exact⟨_,rfl,_,rfl,⟨_,_,rfl,r1.set3 x0 x1 x2,r2.set3 x0 x1 x2⟩,zl HU.out.2 (by omega) _ _ _⟩
set_option maxHeartbeats 4000000 in
theorem zmZ (w:World) (bst bn gx m:Nat) (st:Nat) (n:Int) (R:List Rat) (Ws:List (List Rat)) (hs:zO m R Ws) (hx:zad w gx m R Ws) (hbst:w.heap[bst]?=some (.cells #[.int .i64 (st:Int)] 3 (0,0))) (hbn:w.heap[bn]?=some (.cells #[.int .i64 n] 3 (0,0))) (hst:st<m) (hn0:0<=n) (hn:n<=12):
  Calls Tryz.prog 95 (#[.pointer (some ⟨gx,0,none⟩)]++#[.pointer (some ⟨bn,0,none⟩),.pointer (some ⟨bst,0,none⟩)]) w (Ret (ratR w (tmQ m R Ws st n) 3000)):=by
 generalize hq:tmQ m R Ws st n=q
 obtain⟨W,hW⟩:∃W,W=w.alloc (.cells #[.bool false,.slice none 0 0,.slice none 0 0] 43):=⟨_,rfl⟩
 have hb0:Below w.heap.size w W:=by rw[hW];exact za (blr _ _) _
 have hbr:W.heap[w.heap.size]?=some (.cells #[.bool false,.slice none 0 0,.slice none 0 0] 43):=by rw[hW];exact zg _ _
 obtain⟨z0,-⟩:=zo (at_later hbst hb0)
 obtain⟨z1,-⟩:=zo (at_later hbn hb0)
 have hl0:=lt_of_block hbst
 have hl1:=lt_of_block hbn
 have HX:=hide (zad.below hx hb0)
 have HB:=hide (ai hbr hb0)
 have HL:=hide hW
 have h8:=hs.ld.s8
 rw[show #[Value.pointer (some ⟨gx,0,none⟩)]++#[.pointer (some ⟨bn,0,none⟩),.pointer (some ⟨bst,0,none⟩)]=#[Value.pointer (some ⟨gx,0,none⟩),.pointer (some ⟨bn,0,none⟩),.pointer (some ⟨bst,0,none⟩)] from rfl]
 by_cases hz:n=0
 ·obtain rfl:q=0:=by rw[<-hq,tmQ,if_pos hz]
  obtain⟨x0,x1,x2⟩:=zj hbr
  obtain⟨f0,f1,f2⟩:=zr hbr
  have hlt:=lt_of_block hbr
  subst hz
  clear hx hb0 hbr hbst hbn hW hq
  go_enter Tryz.func95,Tryz.ntmps95
  go_upto_region 1 with fail
  rw[<-HL.out]
  go_wp2
  refine bodyPost_ret (v:=.agg #[.bool false,.slice none 0 0,.slice none 0 0]) ?_ rfl ?_
  ·simp[results,Tryz.results95,go_sem,x0,x1,x2,hlt]
  exact⟨_,rfl,⟨_,_,rfl,NatV.nil _ _,NatV.nil _ _⟩,zl HB.out.2 (by omega) _ _ _⟩
 ·have HQE:=hide (show lnQ (ldF m R Ws) m st n.toNat / spQ m R Ws st n=q by rw[<-hq,tmQ,if_neg hz])
  have hne:=hs.sp_ne2 st hst n (by omega) hn
  have HF:=hide (ai hne (((hs.ld.ln_fit st n.toNat n.toNat hst (by omega) (nr _)).divA ((hs.rf st hst).mulA (hs.ld.at_fit st 1 n hst hn)) hne).more (show 901+(10+74)+1<=3000 by omega)))
  have hz2:(n == 0)=false:=by simp[hz]
  have hS:∀w',Below W.heap.size W w'->w'.cell? ⟨bn,0,none⟩=some (.int .i64 n)/\w'.cell? ⟨bst,0,none⟩=some (.int .i64 (st:Int)):=fun w' h=>by
   have e:∀b o v,W.cell? ⟨b,o,none⟩=some v->w'.cell? ⟨b,o,none⟩=some v:=fun b o v hv=>(h.cell (zf hv)).trans hv
   exact⟨e _ _ _ z1,e _ _ _ z0⟩
  have hdr:Below W.heap.size W W.drew:=(blr _ _).drew
  have HSS:=hide hS
  clear hx hb0 hbr hbst hbn hW hq hS hne
  go_enter Tryz.func95,Tryz.ntmps95
  go_upto_region 1 with fail
  rw[<-HL.out]
  go_upto_region 3 with fail
  clear z0 z1
  refine zA (fun w'=>w'.cell? ⟨bn,0,none⟩=some (.int .i64 n)/\w'.cell? ⟨bst,0,none⟩=some (.int .i64 (st:Int))) [0,1,2,3,4,5,6,7,8] (by kernel_rfl) (HSS.out _ hdr) (fun hh=>?_)
  refine tt 0 hh 8 ?_
  try simp only[Act.put,ptA,ptB,ptC]
  refine tt 4 hh 12 ?_
  try simp only[Act.put,ptA,ptB,ptC]
  refine tt 1 hh 9 ?_
  try simp only[Act.put,ptA,ptB,ptC]
  refine tt 2 hh 10 ?_
  try simp only[Act.put,ptA,ptB,ptC]
  refine tt 5 hh 13 ?_
  try simp only[Act.put,ptA,ptB,ptC]
  refine tt 6 hh 14 ?_
  try simp only[Act.put,ptA,ptB,ptC]
  refine zb (rs:=[3]) (by kernel_rfl) (by simp) ?_
  refine mem1 ?_
  refine zd rfl (fun K hK=>?_)
  go_simp
  go_at_call 94
  refine(zhg _ gx st n R _ (ldV m R Ws) Ws (zad.below HX.out hdr) hs.ld' (by rw[hs.len];exact hst) hn0 hn).mono ?_
  rintro e w1 ⟨v4,rfl,hr4,hd⟩
  replace hr4:RatV w1 v4 (lnQ (ldF m R Ws) m st n.toNat) 3000:=by rw[hs.len] at hr4;exact hr4
  obtain⟨s4,A4,n4,c4,B4,m4,d4,rfl⟩:=hr4.shape
  have H4:=hide hr4
  clear hr4
  try (replace H5:=hide (H5.out.below hd))
  have hg1:Below W.heap.size W w1:=hdr.trans (hd.mono hdr.size)
  clear hd
  go_wp2_with fail
  refine hK.out _ _ (HSS.out _ hg1) (fun hh=>?_)
  clear hK K
  try simp only[Act.put,ptA,ptB,ptC]
  refine zb (rs:=[7]) (by kernel_rfl) (by simp) ?_
  refine mem1 ?_
  refine zd rfl (fun K hK=>?_)
  go_simp
  go_at_call 67
  refine(ziD _ gx st 3000 n R _ (ldV m R Ws) Ws (zad.below HX.out hg1) hs.ld' (by rw[hs.ok.shop.rl,hs.len]) (hs.rf st hst) (by rw[hs.len];exact hst) hn0 hn (by omega) (by omega)).mono ?_
  rintro e w2 ⟨v5,rfl,hr5,hd⟩
  replace hr5:RatV w2 v5 (spQ m R Ws st n) 3000:=by rw[hs.len] at hr5;exact hr5
  obtain⟨s5,A5,n5,c5,B5,m5,d5,rfl⟩:=hr5.shape
  have H5:=hide hr5
  clear hr5
  try (replace H4:=hide (H4.out.below hd))
  have hg2:Below W.heap.size W w2:=hg1.trans (hd.mono hg1.size)
  clear hd
  go_wp2_with fail
  refine hK.out _ _ (HSS.out _ hg2) (fun hh=>?_)
  clear hK K
  try simp only[Act.put,ptA,ptB,ptC]
  refine zb (rs:=[8]) (by kernel_rfl) (by simp) ?_
  refine mem1 ?_
  refine zd rfl (fun K hK=>?_)
  go_simp
  go_at_call 86
  refine(zev _ _ _ (lnQ (ldF m R Ws) m st n.toNat) (spQ m R Ws st n) 3000 3000 H4.out H5.out (by omega) HF.out.1 HF.out.2 (by omega)).mono ?_
  rintro e w3 ⟨v6,rfl,hr6,hd⟩
  replace hr6:RatV w3 v6 q 3000:=by rw[<-HQE.out];exact hr6
  obtain⟨s6,A6,n6,c6,B6,m6,d6,rfl⟩:=hr6.shape
  have H6:=hide hr6
  clear hr6
  have hg3:Below W.heap.size W w3:=hg2.trans (hd.mono hg2.size)
  clear hd
  go_wp2_with fail
  refine hK.out _ _ (HSS.out _ hg3) (fun hh=>?_)
  clear hK K
  try simp only[Act.put,ptA,ptB,ptC]
  refine zG (k:=9) (by rfl) (by rfl) (by kernel_rfl) ?_
  simp only[List.drop_succ_cons,List.drop_zero]
  clear hh
  have hrb:=at_later HB.out.1 hg3
  obtain⟨x0,x1,x2⟩:=zj hrb
  obtain⟨f0,f1,f2⟩:=zr hrb
  have hlt:=lt_of_block hrb
  have HU:=hide (ai H6.out (HB.out.2.trans (hg3.mono HB.out.2.size)))
  clear hrb
  go_wp2
  refine bodyPost_ret (v:=.agg #[.bool s6,.slice A6 n6 c6,.slice B6 m6 d6]) ?_ rfl ?_
  ·simp[results,Tryz.results95,go_sem,x0,x1,x2,hlt]
  have hr:=HU.out.1
  obtain⟨rn,rl,e,r1,r2⟩:=hr
  injection e with e
  simp only[Array.mk.injEq,List.cons.injEq,Value.bool.injEq,and_true] at e
  obtain⟨rfl,rfl,rfl⟩:=e
  exact⟨_,rfl,⟨_,_,rfl,r1.set3 x0 x1 x2,r2.set3 x0 x1 x2⟩,zl HU.out.2 (by omega) _ _ _⟩
theorem znE (w:World) (v:Value) (m:Nat) (st:Nat) (n:Int) (R:List Rat) (Ws:List (List Rat)) (hv:ShopV w v R Ws 3000) (hs:zO m R Ws) (hst:st<m) (hn0:0<=n) (hn:n<=12):
  Calls Tryz.prog 35 #[v,.int .i64 (st:Int),.int .i64 n] w (Ret (okR w (tmQ m R Ws st n) 3000)):=by
 have hmf:=hmf0 Tryz.prog
 have HV:=hide hv
 obtain⟨va,vb,rfl,hR,hW⟩:=hv
 obtain⟨A1,c1,rfl,-,-,-⟩:=id hR
 obtain⟨A2,c2,rfl,-,-,-⟩:=id hW
 generalize hq:tmQ m R Ws st n=q
 have hq2:∀w,ratR w q 3000=ratR w (tmQ m R Ws st n) 3000:=fun w=>by rw[hq]
 have HQ2:=hide hq2
 clear hq hq2
 obtain⟨W,hWW⟩:∃W,W=(((w.alloc (.cells #[.slice A1 R.length c1,.slice A2 Ws.length c2] 33)).alloc (.cells #[.int .i64 (st:Int)] 3)).alloc (.cells #[.int .i64 n] 3)).alloc (.cells #[.bool false,.slice none 0 0,.slice none 0 0] 43):=⟨_,rfl⟩
 have hb0:Below w.heap.size w W:=by rw[hWW];exact(za (za (za (za (blr _ _) _) _) _) _)
 have hbst:W.heap[w.heap.size+1]?=some (.cells #[.int .i64 (st:Int)] 3 (0,0)):=by
  have h1:=at_later (zg (w.alloc (.cells #[.slice A1 R.length c1,.slice A2 Ws.length c2] 33)) (.cells #[.int .i64 (st:Int)] 3)) (za (za (blr _ _) (.cells #[.int .i64 n] 3)) (.cells #[.bool false,.slice none 0 0,.slice none 0 0] 43))
  rw[hWW];simpa using h1
 have hbn:W.heap[w.heap.size+2]?=some (.cells #[.int .i64 n] 3 (0,0)):=by
  have h1:=at_later (zg ((w.alloc (.cells #[.slice A1 R.length c1,.slice A2 Ws.length c2] 33)).alloc (.cells #[.int .i64 (st:Int)] 3)) (.cells #[.int .i64 n] 3)) (za (blr _ _) (.cells #[.bool false,.slice none 0 0,.slice none 0 0] 43))
  rw[hWW];simpa using h1
 have hbr:W.heap[w.heap.size+3]?=some (.cells #[.bool false,.slice none 0 0,.slice none 0 0] 43):=by
  have h1:=at_later (zg (((w.alloc (.cells #[.slice A1 R.length c1,.slice A2 Ws.length c2] 33)).alloc (.cells #[.int .i64 (st:Int)] 3)).alloc (.cells #[.int .i64 n] 3)) (.cells #[.bool false,.slice none 0 0,.slice none 0 0] 43)) (blr _ _)
  rw[hWW];simpa using h1
 have hbs:W.heap[w.heap.size]?=some (.cells #[.slice A1 R.length c1,.slice A2 Ws.length c2] 33):=by
  have h1:=at_later (zg w (.cells #[.slice A1 R.length c1,.slice A2 Ws.length c2] 33)) (za (za (za (blr _ _) (.cells #[.int .i64 (st:Int)] 3)) (.cells #[.int .i64 n] 3)) (.cells #[.bool false,.slice none 0 0,.slice none 0 0] 43))
  rw[hWW];simpa using h1
 obtain⟨u0,u1,-,-⟩:=ze hbs
 clear hbs
 have H0:=hide (ai hb0 (ai hbst (ai hbn hbr)))
 obtain⟨y0,-⟩:=zo hbst
 obtain⟨y1,-⟩:=zo hbn
 have HL:=hide hWW
 have ha:=HV.out.below hb0
 have HA:=hide ha
 clear hR hW hb0 hWW ha hbst hbn hbr
 go_enter Tryz.func35,Tryz.ntmps35
 go_upto_region 1 with fail
 rw[<-HL.out]
 go_wp2_with fail
 refine(zju W _ 95 m st n #[.pointer (some ⟨w.heap.size+2,0,none⟩),.pointer (some ⟨w.heap.size+1,0,none⟩)] q R Ws HA.out hs hst hn0 hn (fun _ _=>by simp[go_sem]) (fun gx w' hb hx=>by rw[HQ2.out];exact zmZ w' _ _ gx m st n  R Ws hs hx (at_later H0.out.2.1 hb) (at_later H0.out.2.2.1 hb) hst hn0 hn)).mono ?_
 rintro e w4 ⟨_,rfl,r,rfl,hr6,hd⟩
 obtain⟨s6,A6,n6,c6,B6,m6,d6,rfl⟩:=hr6.shape
 have hrb:=at_later H0.out.2.2.2 hd
 clear y0 y1 u0 u1
 obtain⟨x0,x1,x2⟩:=zj hrb
 obtain⟨f0,f1,f2⟩:=zr hrb
 have hlt:=lt_of_block hrb
 have HU:=hide (ai hr6 (bnx H0.out.1 hd))
 clear hrb hr6 hd
 go_wp2
 refine bodyPost_ret (v:=.tuple #[.agg #[.bool s6,.slice A6 n6 c6,.slice B6 m6 d6],.int .i64 0]) ?_ rfl ?_
 ·simp[results,Tryz.results35,go_sem,x0,x1,x2,hlt]
 have hr:=HU.out.1
 obtain⟨rn,rl,e,r1,r2⟩:=hr
 injection e with e
 simp only[Array.mk.injEq,List.cons.injEq,Value.bool.injEq,and_true] at e
 obtain⟨rfl,rfl,rfl⟩:=e
 exact⟨_,rfl,_,rfl,⟨_,_,rfl,r1.set3 x0 x1 x2,r2.set3 x0 x1 x2⟩,zl HU.out.2 (by omega) _ _ _⟩
def erR (w:World) (e:Int) (v:Value) (w':World):Prop:=∃r,v=.tuple #[r,.int .i64 e]/\RatV w' r 0 3000/\Below w.heap.size w w'
def BadA (m:Nat) (st n:Int):Prop:=st<0\/(m:Int)<=st\/n<0\/12<n
theorem zlF (w:World) (n:Int) (h:n<0\/12<n):
  Calls Tryz.prog 61 #[.int .i64 n] w (Ret (fun v w'=>v=.bool false/\w'=w)):=by
 by_cases h0:n<0
 ·have h1:¬0<=n:=by omega
  go_enter Tryz.func61,Tryz.ntmps61
  go_wp2
  refine bodyPost_ret (v:=.bool false) ?_ rfl ?_
  ·simp[results,Tryz.results61,go_sem]
  exact⟨_,rfl,rfl,rfl⟩
 ·have h1:0<=n:=by omega
  have h2:¬n<=12:=by omega
  go_enter Tryz.func61,Tryz.ntmps61
  go_wp2
  refine bodyPost_ret (v:=.bool false) ?_ rfl ?_
  ·simp[results,Tryz.results61,go_sem]
  exact⟨_,rfl,rfl,rfl⟩
theorem zfl (w:World) (v:Value) (k m:Nat) (st n:Int) (caps:Array Value) (R:List Rat) (Ws:List (List Rat)) (hv:ShopV w v R Ws 3000) (hs:zO m R Ws) (hb:BadA m st n):
  Calls Tryz.prog 65 #[v,.int .i64 st,.int .i64 n,.func (.func k) #[] caps] w (Ret (erR w 1)):=by
 have hmf:=hmf0 Tryz.prog
 have HV:=hide hv
 obtain⟨va,vb,rfl,hR,hW⟩:=hv
 obtain⟨A1,c1,rfl,-,-,-⟩:=id hR
 obtain⟨A2,c2,rfl,-,-,-⟩:=id hW
 have HBAD:=hide hb
 clear hb
 have hrl:=hide hs.ok.shop.rl
 have h8:=hs.ok.shop.n8
 obtain⟨W,hWW⟩:∃W,W=((w.alloc (.cells #[.slice A1 R.length c1,.slice A2 Ws.length c2] 33)).alloc (.cells #[.func (.func k) #[] caps] 106)).alloc (.cells #[.bool false,.slice none 0 0,.slice none 0 0] 43):=⟨_,rfl⟩
 have hb0:Below w.heap.size w W:=by rw[hWW];exact za (za (za (blr _ _) _) _) _
 have hbs:W.heap[w.heap.size]?=some (.cells #[.slice A1 R.length c1,.slice A2 Ws.length c2] 33):=by
  rw[hWW];exact at_later (zg w _) (za (za (blr _ _) _) _)
 have hbf:W.heap[w.heap.size+1]?=some (.cells #[.func (.func k) #[] caps] 106 (0,0)):=by
  have h1:=at_later (zg (w.alloc (.cells #[.slice A1 R.length c1,.slice A2 Ws.length c2] 33)) (.cells #[.func (.func k) #[] caps] 106)) (za (blr _ _) (.cells #[.bool false,.slice none 0 0,.slice none 0 0] 43))
  rw[hWW];simpa using h1
 have hbr:W.heap[w.heap.size+2]?=some (.cells #[.bool false,.slice none 0 0,.slice none 0 0] 43):=by rw[hWW];exact zv _ (by simp)
 have H0:=hide (ai hb0 (ai hbs (ai hbf (ai hbr trivial))))
 have HL:=hide hWW
 clear hR hW hb0 hbs hbf hbr hWW
 go_enter Tryz.func65,Tryz.ntmps65
 go_wp2_with fail
 rw[<-HL.out]
 refine(zfo _ _ R Ws 3000 m (HV.out.below H0.out.1) hs.ok).mono ?_
 rintro e w1 ⟨_,rfl,gx,rfl,hg,hx,hd1⟩
 obtain⟨W2,hW2⟩:∃W2,W2=w1.alloc (.cells #[.pointer (some ⟨gx,0,none⟩)] 95):=⟨_,rfl⟩
 have hb2:Below w1.heap.size w1 W2:=by rw[hW2];exact za (blr _ _) _
 have hbx:W2.heap[w1.heap.size]?=some (.cells #[.pointer (some ⟨gx,0,none⟩)] 95 (0,0)):=by rw[hW2];exact zg _ _
 have hd2:=bnx hd1 hb2
 obtain⟨y0,y1,-,-⟩:=ze (at_later H0.out.2.1 hd2)
 have H2:=hide (ai hbx (ai (zad.below hx hb2) (ai hd2 (bnx H0.out.1 hd2))))
 have HL2:=hide hW2
 clear hd1 hx hbx hb2 hd2 hW2
 by_cases q1:st<0
 ·have hrb:=at_later H0.out.2.2.2.1 H2.out.2.2.1
  have HBE:=hide H2.out.2.2.2
  clear y0 y1
  go_upto_region 4 with fail
  rw[<-HL2.out]
  obtain⟨x0,x1,x2⟩:=zj hrb
  obtain⟨f0,f1,f2⟩:=zr hrb
  have hlt:=lt_of_block hrb
  clear hrb
  go_wp2
  refine bodyPost_ret (v:=.tuple #[.agg #[.bool false,.slice none 0 0,.slice none 0 0],.int .i64 1]) ?_ rfl ?_
  ·simp[results,Tryz.results65,go_sem,x0,x1,x2,hlt]
  exact⟨_,rfl,_,rfl,⟨_,_,rfl,NatV.nil _ _,NatV.nil _ _⟩,zl HBE.out (by omega) _ _ _⟩
 ·by_cases q2:(m:Int)<=st
  ·have hrb:=at_later H0.out.2.2.2.1 H2.out.2.2.1
   have HBE:=hide H2.out.2.2.2
   have i1:((R.length:Int)<=st):=by have:=hrl.out;omega
   have i3:¬(st<(R.length:Int)):=by omega
   go_upto_region 4 with fail
   rw[<-HL2.out]
   obtain⟨x0,x1,x2⟩:=zj hrb
   obtain⟨f0,f1,f2⟩:=zr hrb
   have hlt:=lt_of_block hrb
   clear hrb
   go_wp2
   refine bodyPost_ret (v:=.tuple #[.agg #[.bool false,.slice none 0 0,.slice none 0 0],.int .i64 1]) ?_ rfl ?_
   ·simp[results,Tryz.results65,go_sem,x0,x1,x2,hlt]
   exact⟨_,rfl,_,rfl,⟨_,_,rfl,NatV.nil _ _,NatV.nil _ _⟩,zl HBE.out (by omega) _ _ _⟩
  ·have q3:n<0\/12<n:=by have:=HBAD.out;unfold BadA at this;omega
   have i1:¬((R.length:Int)<=st):=by have:=hrl.out;omega
   have i3:(st<(R.length:Int)):=by have:=hrl.out;omega
   go_upto_region 4 with fail
   rw[<-HL2.out]
   go_wp2_with fail
   refine(zlF _ n q3).mono ?_
   rintro e w3 ⟨_,rfl,rfl,rfl⟩
   have hrb:=at_later H0.out.2.2.2.1 H2.out.2.2.1
   have HBE:=hide H2.out.2.2.2
   clear y0 y1
   obtain⟨x0,x1,x2⟩:=zj hrb
   obtain⟨f0,f1,f2⟩:=zr hrb
   have hlt:=lt_of_block hrb
   clear hrb
   go_wp2
   refine bodyPost_ret (v:=.tuple #[.agg #[.bool false,.slice none 0 0,.slice none 0 0],.int .i64 1]) ?_ rfl ?_
   ·simp[results,Tryz.results65,go_sem,x0,x1,x2,hlt]
   exact⟨_,rfl,_,rfl,⟨_,_,rfl,NatV.nil _ _,NatV.nil _ _⟩,zl HBE.out (by omega) _ _ _⟩
theorem zks (w:World) (v:Value) (m:Nat) (st:Int) (n:Int) (k:Int) (R:List Rat) (Ws:List (List Rat)) (hv:ShopV w v R Ws 3000) (hs:zO m R Ws) (hbad:BadA m st n):
  Calls Tryz.prog 18 #[v,.int .i64 st,.int .i64 k,.int .i64 n] w (Ret (erR w 1)):=by
 have hmf:=hmf0 Tryz.prog
 have HV:=hide hv
 obtain⟨va,vb,rfl,hR,hW⟩:=hv
 obtain⟨A1,c1,rfl,-,-,-⟩:=id hR
 obtain⟨A2,c2,rfl,-,-,-⟩:=id hW
 obtain⟨W,hWW⟩:∃W,W=((((w.alloc (.cells #[.slice A1 R.length c1,.slice A2 Ws.length c2] 33)).alloc (.cells #[.int .i64 st] 3)).alloc (.cells #[.int .i64 k] 3)).alloc (.cells #[.int .i64 n] 3)).alloc (.cells #[.bool false,.slice none 0 0,.slice none 0 0] 43):=⟨_,rfl⟩
 have hb0:Below w.heap.size w W:=by rw[hWW];exact(za (za (za (za (za (blr _ _) _) _) _) _) _)
 have hbst:W.heap[w.heap.size+1]?=some (.cells #[.int .i64 st] 3 (0,0)):=by
  have h1:=at_later (zg (w.alloc (.cells #[.slice A1 R.length c1,.slice A2 Ws.length c2] 33)) (.cells #[.int .i64 st] 3)) (za (za (za (blr _ _) (.cells #[.int .i64 k] 3)) (.cells #[.int .i64 n] 3)) (.cells #[.bool false,.slice none 0 0,.slice none 0 0] 43))
  rw[hWW];simpa using h1
 have hbk:W.heap[w.heap.size+2]?=some (.cells #[.int .i64 k] 3 (0,0)):=by
  have h1:=at_later (zg ((w.alloc (.cells #[.slice A1 R.length c1,.slice A2 Ws.length c2] 33)).alloc (.cells #[.int .i64 st] 3)) (.cells #[.int .i64 k] 3)) (za (za (blr _ _) (.cells #[.int .i64 n] 3)) (.cells #[.bool false,.slice none 0 0,.slice none 0 0] 43))
  rw[hWW];simpa using h1
 have hbn:W.heap[w.heap.size+3]?=some (.cells #[.int .i64 n] 3 (0,0)):=by
  have h1:=at_later (zg (((w.alloc (.cells #[.slice A1 R.length c1,.slice A2 Ws.length c2] 33)).alloc (.cells #[.int .i64 st] 3)).alloc (.cells #[.int .i64 k] 3)) (.cells #[.int .i64 n] 3)) (za (blr _ _) (.cells #[.bool false,.slice none 0 0,.slice none 0 0] 43))
  rw[hWW];simpa using h1
 have hbr:W.heap[w.heap.size+4]?=some (.cells #[.bool false,.slice none 0 0,.slice none 0 0] 43):=by
  have h1:=at_later (zg ((((w.alloc (.cells #[.slice A1 R.length c1,.slice A2 Ws.length c2] 33)).alloc (.cells #[.int .i64 st] 3)).alloc (.cells #[.int .i64 k] 3)).alloc (.cells #[.int .i64 n] 3)) (.cells #[.bool false,.slice none 0 0,.slice none 0 0] 43)) (blr _ _)
  rw[hWW];simpa using h1
 have hbs:W.heap[w.heap.size]?=some (.cells #[.slice A1 R.length c1,.slice A2 Ws.length c2] 33):=by
  have h1:=at_later (zg w (.cells #[.slice A1 R.length c1,.slice A2 Ws.length c2] 33)) (za (za (za (za (blr _ _) (.cells #[.int .i64 st] 3)) (.cells #[.int .i64 k] 3)) (.cells #[.int .i64 n] 3)) (.cells #[.bool false,.slice none 0 0,.slice none 0 0] 43))
  rw[hWW];simpa using h1
 obtain⟨u0,u1,-,-⟩:=ze hbs
 clear hbs
 have H0:=hide (ai hb0 (ai hbst (ai hbk (ai hbn hbr))))
 obtain⟨y0,-⟩:=zo hbst
 obtain⟨y1,-⟩:=zo hbk
 obtain⟨y2,-⟩:=zo hbn
 have HL:=hide hWW
 have ha:=HV.out.below hb0
 have HA:=hide ha
 clear hR hW hb0 hWW ha hbst hbk hbn hbr
 go_enter Tryz.func18,Tryz.ntmps18
 go_upto_region 1 with fail
 rw[<-HL.out]
 go_wp2_with fail
 refine(zfl W _ 68 m st n #[.pointer (some ⟨w.heap.size+1,0,none⟩),.pointer (some ⟨w.heap.size+2,0,none⟩),.pointer (some ⟨w.heap.size+3,0,none⟩)] R Ws HA.out hs hbad).mono ?_
 rintro e w4 ⟨_,rfl,r,rfl,hr6,hd⟩
 obtain⟨s6,A6,n6,c6,B6,m6,d6,rfl⟩:=hr6.shape
 have hrb:=at_later H0.out.2.2.2.2 hd
 clear y0 y1 y2 u0 u1
 obtain⟨x0,x1,x2⟩:=zj hrb
 obtain⟨f0,f1,f2⟩:=zr hrb
 have hlt:=lt_of_block hrb
 have HU:=hide (ai hr6 (bnx H0.out.1 hd))
 clear hrb hr6 hd
 go_wp2
 refine bodyPost_ret (v:=.tuple #[.agg #[.bool s6,.slice A6 n6 c6,.slice B6 m6 d6],.int .i64 1]) ?_ rfl ?_
 ·simp[results,Tryz.results18,go_sem,x0,x1,x2,hlt]
 have hr:=HU.out.1
 obtain⟨rn,rl,e,r1,r2⟩:=hr
 injection e with e
 simp only[Array.mk.injEq,List.cons.injEq,Value.bool.injEq,and_true] at e
 obtain⟨rfl,rfl,rfl⟩:=e
 exact⟨_,rfl,_,rfl,⟨_,_,rfl,r1.set3 x0 x1 x2,r2.set3 x0 x1 x2⟩,zl HU.out.2 (by omega) _ _ _⟩
theorem zm0 (w:World) (v:Value) (m:Nat) (st:Int) (n:Int) (R:List Rat) (Ws:List (List Rat)) (hv:ShopV w v R Ws 3000) (hs:zO m R Ws) (hbad:BadA m st n):
  Calls Tryz.prog 17 #[v,.int .i64 st,.int .i64 n] w (Ret (erR w 1)):=by
 have hmf:=hmf0 Tryz.prog
 have HV:=hide hv
 obtain⟨va,vb,rfl,hR,hW⟩:=hv
 obtain⟨A1,c1,rfl,-,-,-⟩:=id hR
 obtain⟨A2,c2,rfl,-,-,-⟩:=id hW
 obtain⟨W,hWW⟩:∃W,W=(((w.alloc (.cells #[.slice A1 R.length c1,.slice A2 Ws.length c2] 33)).alloc (.cells #[.int .i64 st] 3)).alloc (.cells #[.int .i64 n] 3)).alloc (.cells #[.bool false,.slice none 0 0,.slice none 0 0] 43):=⟨_,rfl⟩
 have hb0:Below w.heap.size w W:=by rw[hWW];exact(za (za (za (za (blr _ _) _) _) _) _)
 have hbst:W.heap[w.heap.size+1]?=some (.cells #[.int .i64 st] 3 (0,0)):=by
  have h1:=at_later (zg (w.alloc (.cells #[.slice A1 R.length c1,.slice A2 Ws.length c2] 33)) (.cells #[.int .i64 st] 3)) (za (za (blr _ _) (.cells #[.int .i64 n] 3)) (.cells #[.bool false,.slice none 0 0,.slice none 0 0] 43))
  rw[hWW];simpa using h1
 have hbn:W.heap[w.heap.size+2]?=some (.cells #[.int .i64 n] 3 (0,0)):=by
  have h1:=at_later (zg ((w.alloc (.cells #[.slice A1 R.length c1,.slice A2 Ws.length c2] 33)).alloc (.cells #[.int .i64 st] 3)) (.cells #[.int .i64 n] 3)) (za (blr _ _) (.cells #[.bool false,.slice none 0 0,.slice none 0 0] 43))
  rw[hWW];simpa using h1
 have hbr:W.heap[w.heap.size+3]?=some (.cells #[.bool false,.slice none 0 0,.slice none 0 0] 43):=by
  have h1:=at_later (zg (((w.alloc (.cells #[.slice A1 R.length c1,.slice A2 Ws.length c2] 33)).alloc (.cells #[.int .i64 st] 3)).alloc (.cells #[.int .i64 n] 3)) (.cells #[.bool false,.slice none 0 0,.slice none 0 0] 43)) (blr _ _)
  rw[hWW];simpa using h1
 have hbs:W.heap[w.heap.size]?=some (.cells #[.slice A1 R.length c1,.slice A2 Ws.length c2] 33):=by
  have h1:=at_later (zg w (.cells #[.slice A1 R.length c1,.slice A2 Ws.length c2] 33)) (za (za (za (blr _ _) (.cells #[.int .i64 st] 3)) (.cells #[.int .i64 n] 3)) (.cells #[.bool false,.slice none 0 0,.slice none 0 0] 43))
  rw[hWW];simpa using h1
 obtain⟨u0,u1,-,-⟩:=ze hbs
 clear hbs
 have H0:=hide (ai hb0 (ai hbst (ai hbn hbr)))
 obtain⟨y0,-⟩:=zo hbst
 obtain⟨y1,-⟩:=zo hbn
 have HL:=hide hWW
 have ha:=HV.out.below hb0
 have HA:=hide ha
 clear hR hW hb0 hWW ha hbst hbn hbr
 go_enter Tryz.func17,Tryz.ntmps17
 go_upto_region 1 with fail
 rw[<-HL.out]
 go_wp2_with fail
 refine(zfl W _ 66 m st n #[.pointer (some ⟨w.heap.size+1,0,none⟩),.pointer (some ⟨w.heap.size+2,0,none⟩)] R Ws HA.out hs hbad).mono ?_
 rintro e w4 ⟨_,rfl,r,rfl,hr6,hd⟩
 obtain⟨s6,A6,n6,c6,B6,m6,d6,rfl⟩:=hr6.shape
 have hrb:=at_later H0.out.2.2.2 hd
 clear y0 y1 u0 u1
 obtain⟨x0,x1,x2⟩:=zj hrb
 obtain⟨f0,f1,f2⟩:=zr hrb
 have hlt:=lt_of_block hrb
 have HU:=hide (ai hr6 (bnx H0.out.1 hd))
 clear hrb hr6 hd
 go_wp2
 refine bodyPost_ret (v:=.tuple #[.agg #[.bool s6,.slice A6 n6 c6,.slice B6 m6 d6],.int .i64 1]) ?_ rfl ?_
 ·simp[results,Tryz.results17,go_sem,x0,x1,x2,hlt]
 have hr:=HU.out.1
 obtain⟨rn,rl,e,r1,r2⟩:=hr
 injection e with e
 simp only[Array.mk.injEq,List.cons.injEq,Value.bool.injEq,and_true] at e
 obtain⟨rfl,rfl,rfl⟩:=e
 exact⟨_,rfl,_,rfl,⟨_,_,rfl,r1.set3 x0 x1 x2,r2.set3 x0 x1 x2⟩,zl HU.out.2 (by omega) _ _ _⟩
theorem zlG (w:World) (v:Value) (m:Nat) (st:Int) (n:Int) (R:List Rat) (Ws:List (List Rat)) (hv:ShopV w v R Ws 3000) (hs:zO m R Ws) (hbad:BadA m st n):
  Calls Tryz.prog 34 #[v,.int .i64 st,.int .i64 n] w (Ret (erR w 1)):=by
 have hmf:=hmf0 Tryz.prog
 have HV:=hide hv
 obtain⟨va,vb,rfl,hR,hW⟩:=hv
 obtain⟨A1,c1,rfl,-,-,-⟩:=id hR
 obtain⟨A2,c2,rfl,-,-,-⟩:=id hW
 obtain⟨W,hWW⟩:∃W,W=(((w.alloc (.cells #[.slice A1 R.length c1,.slice A2 Ws.length c2] 33)).alloc (.cells #[.int .i64 st] 3)).alloc (.cells #[.int .i64 n] 3)).alloc (.cells #[.bool false,.slice none 0 0,.slice none 0 0] 43):=⟨_,rfl⟩
 have hb0:Below w.heap.size w W:=by rw[hWW];exact(za (za (za (za (blr _ _) _) _) _) _)
 have hbst:W.heap[w.heap.size+1]?=some (.cells #[.int .i64 st] 3 (0,0)):=by
  have h1:=at_later (zg (w.alloc (.cells #[.slice A1 R.length c1,.slice A2 Ws.length c2] 33)) (.cells #[.int .i64 st] 3)) (za (za (blr _ _) (.cells #[.int .i64 n] 3)) (.cells #[.bool false,.slice none 0 0,.slice none 0 0] 43))
  rw[hWW];simpa using h1
 have hbn:W.heap[w.heap.size+2]?=some (.cells #[.int .i64 n] 3 (0,0)):=by
  have h1:=at_later (zg ((w.alloc (.cells #[.slice A1 R.length c1,.slice A2 Ws.length c2] 33)).alloc (.cells #[.int .i64 st] 3)) (.cells #[.int .i64 n] 3)) (za (blr _ _) (.cells #[.bool false,.slice none 0 0,.slice none 0 0] 43))
  rw[hWW];simpa using h1
 have hbr:W.heap[w.heap.size+3]?=some (.cells #[.bool false,.slice none 0 0,.slice none 0 0] 43):=by
  have h1:=at_later (zg (((w.alloc (.cells #[.slice A1 R.length c1,.slice A2 Ws.length c2] 33)).alloc (.cells #[.int .i64 st] 3)).alloc (.cells #[.int .i64 n] 3)) (.cells #[.bool false,.slice none 0 0,.slice none 0 0] 43)) (blr _ _)
  rw[hWW];simpa using h1
 have hbs:W.heap[w.heap.size]?=some (.cells #[.slice A1 R.length c1,.slice A2 Ws.length c2] 33):=by
  have h1:=at_later (zg w (.cells #[.slice A1 R.length c1,.slice A2 Ws.length c2] 33)) (za (za (za (blr _ _) (.cells #[.int .i64 st] 3)) (.cells #[.int .i64 n] 3)) (.cells #[.bool false,.slice none 0 0,.slice none 0 0] 43))
  rw[hWW];simpa using h1
 obtain⟨u0,u1,-,-⟩:=ze hbs
 clear hbs
 have H0:=hide (ai hb0 (ai hbst (ai hbn hbr)))
 obtain⟨y0,-⟩:=zo hbst
 obtain⟨y1,-⟩:=zo hbn
 have HL:=hide hWW
 have ha:=HV.out.below hb0
 have HA:=hide ha
 clear hR hW hb0 hWW ha hbst hbn hbr
 go_enter Tryz.func34,Tryz.ntmps34
 go_upto_region 1 with fail
 rw[<-HL.out]
 go_wp2_with fail
 refine(zfl W _ 93 m st n #[.pointer (some ⟨w.heap.size+1,0,none⟩),.pointer (some ⟨w.heap.size+2,0,none⟩)] R Ws HA.out hs hbad).mono ?_
 rintro e w4 ⟨_,rfl,r,rfl,hr6,hd⟩
 obtain⟨s6,A6,n6,c6,B6,m6,d6,rfl⟩:=hr6.shape
 have hrb:=at_later H0.out.2.2.2 hd
 clear y0 y1 u0 u1
 obtain⟨x0,x1,x2⟩:=zj hrb
 obtain⟨f0,f1,f2⟩:=zr hrb
 have hlt:=lt_of_block hrb
 have HU:=hide (ai hr6 (bnx H0.out.1 hd))
 clear hrb hr6 hd
 go_wp2
 refine bodyPost_ret (v:=.tuple #[.agg #[.bool s6,.slice A6 n6 c6,.slice B6 m6 d6],.int .i64 1]) ?_ rfl ?_
 ·simp[results,Tryz.results34,go_sem,x0,x1,x2,hlt]
 have hr:=HU.out.1
 obtain⟨rn,rl,e,r1,r2⟩:=hr
 injection e with e
 simp only[Array.mk.injEq,List.cons.injEq,Value.bool.injEq,and_true] at e
 obtain⟨rfl,rfl,rfl⟩:=e
 exact⟨_,rfl,_,rfl,⟨_,_,rfl,r1.set3 x0 x1 x2,r2.set3 x0 x1 x2⟩,zl HU.out.2 (by omega) _ _ _⟩
theorem znF (w:World) (v:Value) (m:Nat) (st:Int) (n:Int) (R:List Rat) (Ws:List (List Rat)) (hv:ShopV w v R Ws 3000) (hs:zO m R Ws) (hbad:BadA m st n):
  Calls Tryz.prog 35 #[v,.int .i64 st,.int .i64 n] w (Ret (erR w 1)):=by
 have hmf:=hmf0 Tryz.prog
 have HV:=hide hv
 obtain⟨va,vb,rfl,hR,hW⟩:=hv
 obtain⟨A1,c1,rfl,-,-,-⟩:=id hR
 obtain⟨A2,c2,rfl,-,-,-⟩:=id hW
 obtain⟨W,hWW⟩:∃W,W=(((w.alloc (.cells #[.slice A1 R.length c1,.slice A2 Ws.length c2] 33)).alloc (.cells #[.int .i64 st] 3)).alloc (.cells #[.int .i64 n] 3)).alloc (.cells #[.bool false,.slice none 0 0,.slice none 0 0] 43):=⟨_,rfl⟩
 have hb0:Below w.heap.size w W:=by rw[hWW];exact(za (za (za (za (blr _ _) _) _) _) _)
 have hbst:W.heap[w.heap.size+1]?=some (.cells #[.int .i64 st] 3 (0,0)):=by
  have h1:=at_later (zg (w.alloc (.cells #[.slice A1 R.length c1,.slice A2 Ws.length c2] 33)) (.cells #[.int .i64 st] 3)) (za (za (blr _ _) (.cells #[.int .i64 n] 3)) (.cells #[.bool false,.slice none 0 0,.slice none 0 0] 43))
  rw[hWW];simpa using h1
 have hbn:W.heap[w.heap.size+2]?=some (.cells #[.int .i64 n] 3 (0,0)):=by
  have h1:=at_later (zg ((w.alloc (.cells #[.slice A1 R.length c1,.slice A2 Ws.length c2] 33)).alloc (.cells #[.int .i64 st] 3)) (.cells #[.int .i64 n] 3)) (za (blr _ _) (.cells #[.bool false,.slice none 0 0,.slice none 0 0] 43))
  rw[hWW];simpa using h1
 have hbr:W.heap[w.heap.size+3]?=some (.cells #[.bool false,.slice none 0 0,.slice none 0 0] 43):=by
  have h1:=at_later (zg (((w.alloc (.cells #[.slice A1 R.length c1,.slice A2 Ws.length c2] 33)).alloc (.cells #[.int .i64 st] 3)).alloc (.cells #[.int .i64 n] 3)) (.cells #[.bool false,.slice none 0 0,.slice none 0 0] 43)) (blr _ _)
  rw[hWW];simpa using h1
 have hbs:W.heap[w.heap.size]?=some (.cells #[.slice A1 R.length c1,.slice A2 Ws.length c2] 33):=by
  have h1:=at_later (zg w (.cells #[.slice A1 R.length c1,.slice A2 Ws.length c2] 33)) (za (za (za (blr _ _) (.cells #[.int .i64 st] 3)) (.cells #[.int .i64 n] 3)) (.cells #[.bool false,.slice none 0 0,.slice none 0 0] 43))
  rw[hWW];simpa using h1
 obtain⟨u0,u1,-,-⟩:=ze hbs
 clear hbs
 have H0:=hide (ai hb0 (ai hbst (ai hbn hbr)))
 obtain⟨y0,-⟩:=zo hbst
 obtain⟨y1,-⟩:=zo hbn
 have HL:=hide hWW
 have ha:=HV.out.below hb0
 have HA:=hide ha
 clear hR hW hb0 hWW ha hbst hbn hbr
 go_enter Tryz.func35,Tryz.ntmps35
 go_upto_region 1 with fail
 rw[<-HL.out]
 go_wp2_with fail
 refine(zfl W _ 95 m st n #[.pointer (some ⟨w.heap.size+2,0,none⟩),.pointer (some ⟨w.heap.size+1,0,none⟩)] R Ws HA.out hs hbad).mono ?_
 rintro e w4 ⟨_,rfl,r,rfl,hr6,hd⟩
 obtain⟨s6,A6,n6,c6,B6,m6,d6,rfl⟩:=hr6.shape
 have hrb:=at_later H0.out.2.2.2 hd
 clear y0 y1 u0 u1
 obtain⟨x0,x1,x2⟩:=zj hrb
 obtain⟨f0,f1,f2⟩:=zr hrb
 have hlt:=lt_of_block hrb
 have HU:=hide (ai hr6 (bnx H0.out.1 hd))
 clear hrb hr6 hd
 go_wp2
 refine bodyPost_ret (v:=.tuple #[.agg #[.bool s6,.slice A6 n6 c6,.slice B6 m6 d6],.int .i64 1]) ?_ rfl ?_
 ·simp[results,Tryz.results35,go_sem,x0,x1,x2,hlt]
 have hr:=HU.out.1
 obtain⟨rn,rl,e,r1,r2⟩:=hr
 injection e with e
 simp only[Array.mk.injEq,List.cons.injEq,Value.bool.injEq,and_true] at e
 obtain⟨rfl,rfl,rfl⟩:=e
 exact⟨_,rfl,_,rfl,⟨_,_,rfl,r1.set3 x0 x1 x2,r2.set3 x0 x1 x2⟩,zl HU.out.2 (by omega) _ _ _⟩
end Go.Proofs.YtpoahodnakhmiaaGreat
