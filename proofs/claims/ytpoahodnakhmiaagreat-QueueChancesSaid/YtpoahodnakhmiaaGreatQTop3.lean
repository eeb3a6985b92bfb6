import Derived.Test.YtpoahodnakhmiaaGreatQAt
set_option maxRecDepth 100000
namespace Go.Proofs.YtpoahodnakhmiaaGreat
set_option linter.unusedVariables false
set_option linter.unusedSimpArgs false
open Go.RowKit
set_option maxHeartbeats 4000000 in
theorem zna (w:World) (gx i L:Nat) (n:Int) (R V Ld:List Rat) (Ws:List (List Rat)) (hx:zbt w gx R Ws V Ld L) (hld:zaj Ld.length (fun i=>Ld.getD i 0)) (hR:R.length=Ld.length) (hrt:FitQ 10 (R.getD i 0)) (hi:i<Ld.length) (hn0:0<=n) (hn:n<=12) (hL1:2100<=L) (hL2:L<=3000):
  Calls Tryz.prog 67 #[.pointer (some ⟨gx,0,none⟩),.int .i64 (i:Int),.int .i64 n] w (Ret (ratR w (R.getD i 0*atQ (fun i=>Ld.getD i 0) Ld.length i 1 n) L)):=by
 have h8:=hld.s8
 generalize hq:R.getD i 0*atQ (fun i=>Ld.getD i 0) Ld.length i 1 n=q
 have HAT:=hide hq
 have HF:=hide (ai (hrt.more (show 10<=L by omega)) ((hrt.mulA (hld.at_fit i 1 n hi hn)).more (show 10+74<=L by omega)))
 clear hq
 obtain⟨W,hW⟩:∃W,W=w.alloc (.cells #[.bool false,.slice none 0 0,.slice none 0 0] 43):=⟨_,rfl⟩
 have hb0:Below w.heap.size w W:=by rw[hW];exact za (blr _ _) _
 have hbr:W.heap[w.heap.size]?=some (.cells #[.bool false,.slice none 0 0,.slice none 0 0] 43):=by rw[hW];exact zj _ _
 have hxW:=hx.below hb0
 obtain⟨va,vb,vc,vd,hbox,hvR,-,-,-⟩:=hxW.box
 obtain⟨AR,cR,rfl,hcR,hmR,-⟩:=id hvR
 obtain⟨-,-,-,hcl⟩:=hvR.at_
 obtain⟨bl,ol,rfl,hcl1⟩:=hcl (by omega)
 obtain⟨s1,A1,n1,c1,B1,m1,d1,e0,e1,e2,hq1⟩:=(hcl1 i (by omega)).rat
 unfold maxLen at hmR
 obtain⟨y0,-,-,-,-⟩:=zq hbox
 have hS:∀w',Below W.heap.size W w'->w'.cell? ⟨gx,0,none⟩=some (.slice (some ⟨bl,ol,none⟩) R.length cR)/\(w'.cell? ⟨bl,ol+i*3,none⟩=some (.bool s1)/\w'.cell? ⟨bl,ol+i*3+1,none⟩=some (.slice A1 n1 c1)/\w'.cell? ⟨bl,ol+i*3+2,none⟩=some (.slice B1 m1 d1)):=fun w' h=>by
  have e:∀b o v,W.cell? ⟨b,o,none⟩=some v->w'.cell? ⟨b,o,none⟩=some v:=fun b o v hv=>(h.cell (zf hv)).trans hv
  exact⟨e _ _ _ y0,e _ _ _ e0,e _ _ _ e1,e _ _ _ e2⟩
 have hdr:Below W.heap.size W W.drew:=(blr _ _).drew
 have HSS:=hide hS
 have HX:=hide hxW
 have HQ:=hide hq1
 have HB:=hide (ai hbr hb0)
 have HL:=hide hW
 have i1:(i:Int)<(R.length:Int):=by omega
 clear hS hq1 hxW hvR hbox hcl hcl1 e0 e1 e2 y0 hW hb0 hbr hx
 go_enter Tryz.func67,Tryz.ntmps67
 go_upto_region 1 with fail
 rw[<-HL.out]
 refine zv (fun w'=>w'.cell? ⟨gx,0,none⟩=some (.slice (some ⟨bl,ol,none⟩) R.length cR)/\(w'.cell? ⟨bl,ol+i*3,none⟩=some (.bool s1)/\w'.cell? ⟨bl,ol+i*3+1,none⟩=some (.slice A1 n1 c1)/\w'.cell? ⟨bl,ol+i*3+2,none⟩=some (.slice B1 m1 d1))) [0,1,2,3,4,5,6,7,8,9,10,11,12,13] (by kernel_rfl) (HSS.out _ hdr) (fun hh=>?_)
 refine tt 0 hh 7 ?_
 try simp only[Act.put,ptA,ptB,ptC]
 refine tt 1 hh 8 ?_
 try simp only[Act.put,ptA,ptB,ptC]
 refine tt 2 hh 9 ?_
 try simp only[Act.put,ptA,ptB,ptC]
 refine tt 3 hh 10 ?_
 try simp only[Act.put,ptA,ptB,ptC]
 refine tt 5 hh 12 ?_
 try simp only[Act.put,ptA,ptB,ptC]
 refine tt 8 hh 15 ?_
 try simp only[Act.put,ptA,ptB,ptC]
 refine tt 9 hh 16 ?_
 try simp only[Act.put,ptA,ptB,ptC]
 refine tt 10 hh 17 ?_
 try simp only[Act.put,ptA,ptB,ptC]
 refine tt 4 hh 11 ?_
 try simp only[Act.put,ptA,ptB,ptC]
 refine tt 6 hh 13 ?_
 try simp only[Act.put,ptA,ptB,ptC]
 refine tt 7 hh 14 ?_
 try simp only[Act.put,ptA,ptB,ptC]
 refine zb (rs:=[11]) (by kernel_rfl) (by simp) ?_
 refine mem1 ?_
 refine zd rfl (fun K hK=>?_)
 go_simp
 go_at_call 69
 refine(zki _ gx i L 1 n R V Ld Ws (HX.out.below hdr) hld hi hn0 hn (by omega) (by omega) hL1 hL2).mono ?_
 rintro e w1 ⟨v4,rfl,hr4,hd⟩
 obtain⟨s4,A4,n4,c4,B4,m4,d4,rfl⟩:=hr4.shape
 have H4:=hide hr4
 clear hr4
 have hg1:Below W.heap.size W w1:=hdr.trans (hd.mono hdr.size)
 clear hd
 go_wp2_with fail
 refine hK.out _ _ (HSS.out _ hg1) (fun hh=>?_)
 clear hK K
 try simp only[Act.put,ptA,ptB,ptC]
 refine zb (rs:=[12]) (by kernel_rfl) (by simp) ?_
 refine mem1 ?_
 refine zd rfl (fun K hK=>?_)
 go_simp
 have HP2:=zbj (HQ.out.below hg1) (H4.out)
 have hg2:=za hg1 (.cells #[.bool s1,.slice A1 n1 c1,.slice B1 m1 d1,.bool s4,.slice A4 n4 c4,.slice B4 m4 d4] 43)
 have HP:=hide HP2
 clear HP2
 refine hK.out _ _ (HSS.out _ hg2) (fun hh=>?_)
 clear hK K
 try simp only[Act.put,ptA,ptB,ptC]
 refine zb (rs:=[13]) (by kernel_rfl) (by simp) ?_
 refine mem1 ?_
 refine zd rfl (fun K hK=>?_)
 go_simp
 go_at_call 84
 refine(zcS _ _ [R.getD i 0,atQ (fun i=>Ld.getD i 0) Ld.length i 1 n] L HP.out hL2 (by omega) (zcR (by omega) HF.out.1 HF.out.2)).mono ?_
 rintro e w3 ⟨v5,rfl,hr5,hd⟩
 replace hr5:RatV w3 v5 (R.getD i 0*atQ (fun i=>Ld.getD i 0) Ld.length i 1 n) L:=by rw[<-prod2];exact hr5
 obtain⟨s6,A6,n6,c6,B6,m6,d6,rfl⟩:=hr5.shape
 have H6:=hide hr5
 clear hr5
 have hg3:Below W.heap.size W w3:=hg2.trans (hd.mono hg2.size)
 clear hd
 go_wp2_with fail
 refine hK.out _ _ (HSS.out _ hg3) (fun hh=>?_)
 clear hK K
 try simp only[Act.put,ptA,ptB,ptC]
 refine zQ (k:=14) (by rfl) (by rfl) (by kernel_rfl) ?_
 simp only[List.drop_succ_cons,List.drop_zero]
 clear hh
 have hrb:=at_later HB.out.1 hg3
 obtain⟨x0,x1,x2⟩:=zk hrb
 obtain⟨f0,f1,f2⟩:=zA hrb
 have hlt:=lt_of_block hrb
 have HU:=hide (ai (show RatV _ _ q L by rw[<-HAT.out];exact H6.out) (HB.out.2.trans (hg3.mono HB.out.2.size)))
 clear hrb
 go_wp2
 refine bodyPost_ret (v:=.agg #[.bool s6,.slice A6 n6 c6,.slice B6 m6 d6]) ?_ rfl ?_
 ·simp[results,Tryz.results67,go_sem,x0,x1,x2,hlt]
 have hr:=HU.out.1
 obtain⟨rn,rl,e,r1,r2⟩:=hr
 injection e with e
 simp only[Array.mk.injEq,List.cons.injEq,Value.bool.injEq,and_true] at e
 obtain⟨rfl,rfl,rfl⟩:=e
 exact⟨_,rfl,⟨_,_,rfl,r1.set3 x0 x1 x2,r2.set3 x0 x1 x2⟩,zm HU.out.2 (by omega) _ _ _⟩
def ldV (n:Nat) (R:List Rat) (Ws:List (List Rat)):List Rat:=loadsV R (visV n (ent Ws))
def ldF (n:Nat) (R:List Rat) (Ws:List (List Rat)) (i:Nat):Rat:=(ldV n R Ws).getD i 0
structure zW (n:Nat) (R:List Rat) (Ws:List (List Rat)):Prop where
 ok:zha n 3000 R Ws
 len:(ldV n R Ws).length=n
 vlen:(visV n (ent Ws)).length=n
 ld:zaj n (ldF n R Ws)
 rf:∀i,i<n->FitQ 10 (R.getD i 0)
theorem zW.ld' {n:Nat} {R:List Rat} {Ws:List (List Rat)} (h:zW n R Ws):zaj (ldV n R Ws).length (fun i=>(ldV n R Ws).getD i 0):=by rw[h.len];exact h.ld
def zaU (w:World) (g n:Nat) (R:List Rat) (Ws:List (List Rat)):Prop:=zbt w g R Ws (visV n (ent Ws)) (ldV n R Ws) 3000
theorem zaU.below {w w':World} {g n:Nat} {R:List Rat} {Ws:List (List Rat)} (h:zaU w g n R Ws) (hb:Below w.heap.size w w'):zaU w' g n R Ws:=zbt.below h hb
theorem zhk (w:World) (n:Int) (h0:0<=n) (h1:n<=12):
  Calls Tryz.prog 61 #[.int .i64 n] w (Ret (fun v w'=>v=.bool true/\w'=w)):=by
 go_enter Tryz.func61,Tryz.ntmps61
 go_wp2
 refine bodyPost_ret (v:=.bool true) ?_ rfl ?_
 ·simp[results,Tryz.results61,go_sem]
 exact⟨_,rfl,rfl,rfl⟩
theorem zlN (w:World) (bx bn gx n m:Nat) (R:List Rat) (Ws:List (List Rat)) (hs:zW m R Ws) (hx:zaU w gx m R Ws) (hb1:w.heap[bx]?=some (.cells #[.pointer (some ⟨gx,0,none⟩)] 95 (0,0))) (hb2:w.heap[bn]?=some (.cells #[.int .i64 (n:Int)] 3 (0,0))) (hn:n<=12):
  Calls Tryz.prog 63 #[.pointer (some ⟨bx,0,none⟩),.pointer (some ⟨bn,0,none⟩)] w (Ret (fun v w'=>RowV w' v (gL (ldF m R Ws) m n) 3000/\Below w.heap.size w w')):=by
 generalize hqs:gL (ldF m R Ws) m n=qs
 obtain⟨x0,-⟩:=zE hb1
 obtain⟨x1,-⟩:=zE hb2
 have HX:=hide hx
 clear hx hb1 hb2
 go_enter Tryz.func63,Tryz.ntmps63
 go_wp2_with fail
 refine(zcW _ gx n 3000 R _ (ldV m R Ws) Ws HX.out hs.ld' hn (by omega) (by omega)).mono ?_
 rintro e w1 ⟨v1,rfl,hv1,hd1⟩
 rw[hs.len] at hv1
 replace hv1:RowV w1 v1 qs 3000:=by rw[<-hqs];exact hv1
 obtain⟨A1,c1,rfl,-,-,-⟩:=id hv1
 have H1:=hide (ai hv1 hd1)
 clear hv1 hd1
 go_wp2
 refine bodyPost_ret (v:=.slice A1 qs.length c1) ?_ rfl ⟨_,rfl,H1.out⟩
 simp[results,Tryz.results63,go_sem]
theorem zeo (w:World) (v:Value) (n m:Nat) (R:List Rat) (Ws:List (List Rat)) (hv:ShopV w v R Ws 3000) (hs:zW m R Ws) (hn:n<=12):
  Calls Tryz.prog 15 #[v,.int .i64 (n:Int)] w (Ret (okL w (gL (ldF m R Ws) m n) 3000)):=by
 have hmf:=hmf0 Tryz.prog
 have HV:=hide hv
 obtain⟨va,vb,rfl,hR,hW⟩:=hv
 obtain⟨A1,c1,rfl,-,-,-⟩:=id hR
 obtain⟨A2,c2,rfl,-,-,-⟩:=id hW
 obtain⟨W,hWW⟩:∃W,W=(w.alloc (.cells #[.slice A1 R.length c1,.slice A2 Ws.length c2] 33)).alloc (.cells #[.int .i64 (n:Int)] 3):=⟨_,rfl⟩
 have hb0:Below w.heap.size w W:=by rw[hWW];exact za (za (blr _ _) _) _
 have hbn:W.heap[w.heap.size+1]?=some (.cells #[.int .i64 (n:Int)] 3 (0,0)):=by rw[hWW];exact zu _ (by simp)
 have H0:=hide (ai hb0 hbn)
 have HL:=hide hWW
 clear hR hW hb0 hbn hWW
 go_enter Tryz.func15,Tryz.ntmps15
 go_wp2_with fail
 rw[<-HL.out]
 refine(zcD _ _ R Ws 3000 m (HV.out.below H0.out.1) hs.ok).mono ?_
 rintro e w1 ⟨_,rfl,gx,rfl,hg,hx,hd1⟩
 obtain⟨W2,hW2⟩:∃W2,W2=w1.alloc (.cells #[.pointer (some ⟨gx,0,none⟩)] 95):=⟨_,rfl⟩
 have hb2:Below w1.heap.size w1 W2:=by rw[hW2];exact za (blr _ _) _
 have hbx:W2.heap[w1.heap.size]?=some (.cells #[.pointer (some ⟨gx,0,none⟩)] 95 (0,0)):=by rw[hW2];exact zj _ _
 have hxb:=hx.below hb2
 have hbn2:=at_later (at_later H0.out.2 hd1) hb2
 have hbb:=bnx (bnx H0.out.1 hd1) hb2
 obtain⟨x1,-⟩:=zE hbn2
 have H2:=hide (ai hbx (ai hbn2 (ai hxb hbb)))
 have HL2:=hide hW2
 clear hd1 hx hbx hxb hbn2 hbb hb2 hW2
 go_upto_region 4 with fail
 rw[<-HL2.out]
 go_wp2_with fail
 refine(zhk _ (n:Int) (by omega) (by omega)).mono ?_
 rintro e w3 ⟨_,rfl,rfl,rfl⟩
 go_wp2_with fail
 refine(znQ _ 63 #[.pointer (some ⟨w1.heap.size,0,none⟩),.pointer (some ⟨w.heap.size+1,0,none⟩)] (gL (ldF m R Ws) m n) 3000 (fun _ _=>by simp[go_sem]) (fun w' hb=>zlN w' _ _ gx n m R Ws hs (zaU.below H2.out.2.2.1 hb) (at_later H2.out.1 hb) (at_later H2.out.2.1 hb) hn)).mono ?_
 rintro e w4 ⟨_,rfl,r,rfl,hr,hd⟩
 obtain⟨A3,c3,rfl,-,-,-⟩:=id hr
 have H4:=hide (ai hr (bnx H2.out.2.2.2 hd))
 clear hr hd
 go_wp2
 go_ret2
 exact⟨_,rfl,_,rfl,H4.out⟩
theorem zlO (w:World) (v:Value) (m:Nat) (R:List Rat) (Ws:List (List Rat)) (hv:ShopV w v R Ws 3000) (hs:zW m R Ws):
  Calls Tryz.prog 16 #[v] w (Ret (okL w (visV m (ent Ws)) 3000)):=by
 have HV:=hide hv
 obtain⟨va,vb,rfl,hR,hW⟩:=hv
 obtain⟨A1,c1,rfl,-,-,-⟩:=id hR
 obtain⟨A2,c2,rfl,-,-,-⟩:=id hW
 obtain⟨W,hWW⟩:∃W,W=w.alloc (.cells #[.slice A1 R.length c1,.slice A2 Ws.length c2] 33):=⟨_,rfl⟩
 have hb0:Below w.heap.size w W:=by rw[hWW];exact za (blr _ _) _
 have H0:=hide hb0
 have HL:=hide hWW
 clear hR hW hb0 hWW
 go_enter Tryz.func16,Tryz.ntmps16
 go_wp2_with fail
 rw[<-HL.out]
 refine(zcD _ _ R Ws 3000 m (HV.out.below H0.out) hs.ok).mono ?_
 rintro e w1 ⟨_,rfl,gx,rfl,hg,hx,hd1⟩
 obtain⟨wa,wb,wc,wd,hbox,-,-,hvV,-⟩:=hx.box
 obtain⟨A3,c3,rfl,-,-,-⟩:=id hvV
 obtain⟨y0,y1,y2,y3,-⟩:=zq hbox
 have hgl:=lt_of_block hbox
 have H1:=hide (ai hvV (bnx H0.out hd1))
 clear hx hbox hvV hd1
 go_wp2
 go_ret2
 exact⟨_,rfl,_,rfl,H1.out⟩
theorem zoi (w:World) (bf bx gx k m:Nat) (caps:Array Value) (q:Rat) (R:List Rat) (Ws:List (List Rat)) (hx:zaU w gx m R Ws) (hb1:w.heap[bf]?=some (.cells #[.func (.func k) #[] caps] 106 (0,0))) (hb2:w.heap[bx]?=some (.cells #[.pointer (some ⟨gx,0,none⟩)] 95 (0,0)))
  (hk:∀args w,(callFunc k args).run Tryz.prog w=.ok (.enter k args) w) (hc:∀w',Below w.heap.size w w'->zaU w' gx m R Ws->Calls Tryz.prog k (#[.pointer (some ⟨gx,0,none⟩)]++caps) w' (Ret (ratR w' q 3000))):
  Calls Tryz.prog 123 #[.pointer (some ⟨bf,0,none⟩),.pointer (some ⟨bx,0,none⟩)] w (Ret (ratR w q 3000)):=by
 obtain⟨W,hW⟩:∃W,W=w.alloc (.cells #[.bool false,.slice none 0 0,.slice none 0 0] 43):=⟨_,rfl⟩
 have hb0:Below w.heap.size w W:=by rw[hW];exact za (blr _ _) _
 have hbr:W.heap[w.heap.size]?=some (.cells #[.bool false,.slice none 0 0,.slice none 0 0] 43):=by rw[hW];exact zj _ _
 obtain⟨x0,-⟩:=zE (at_later hb1 hb0)
 obtain⟨x1,-⟩:=zE (at_later hb2 hb0)
 have hl1:=lt_of_block hb1
 have hl2:=lt_of_block hb2
 obtain⟨x3,-⟩:=zE hb1
 obtain⟨x4,-⟩:=zE hb2
 have H0:=hide (ai hb0 (ai hbr (ai (hx.below hb0) hc)))
 have HL:=hide hW
 clear hx hb1 hb2 hb0 hbr hW hc
 go_enter Tryz.func123,Tryz.ntmps123
 go_wp2_with fail
 rw[<-HL.out]
 go_wp2_with fail
 refine(H0.out.2.2.2 _ H0.out.1 H0.out.2.2.1).mono ?_
 rintro e w1 ⟨v6,rfl,hr6,hd⟩
 obtain⟨s6,A6,n6,c6,B6,m6,d6,rfl⟩:=hr6.shape
 have hrb:=at_later H0.out.2.1 hd
 clear x0 x1 x3 x4
 obtain⟨x0,x1,x2⟩:=zk hrb
 obtain⟨f0,f1,f2⟩:=zA hrb
 have hlt:=lt_of_block hrb
 have HU:=hide (ai hr6 (bnx H0.out.1 hd))
 clear hrb hr6 hd
 go_wp2
 refine bodyPost_ret (v:=.agg #[.bool s6,.slice A6 n6 c6,.slice B6 m6 d6]) ?_ rfl ?_
 ·simp[results,Tryz.results123,go_sem,x0,x1,x2,hlt]
 have hr:=HU.out.1
 obtain⟨rn,rl,e,r1,r2⟩:=hr
 injection e with e
 simp only[Array.mk.injEq,List.cons.injEq,Value.bool.injEq,and_true] at e
 obtain⟨rfl,rfl,rfl⟩:=e
 exact⟨_,rfl,⟨_,_,rfl,r1.set3 x0 x1 x2,r2.set3 x0 x1 x2⟩,zm HU.out.2 (by omega) _ _ _⟩
theorem at_c (w:World) (v:Value) (k m st:Nat) (n:Int) (caps:Array Value) (q:Rat) (R:List Rat) (Ws:List (List Rat)) (hv:ShopV w v R Ws 3000) (hs:zW m R Ws) (hst:st<m) (hn0:0<=n) (hn:n<=12)
  (hk:∀args w,(callFunc k args).run Tryz.prog w=.ok (.enter k args) w) (hc:∀gx w',Below w.heap.size w w'->zaU w' gx m R Ws->Calls Tryz.prog k (#[.pointer (some ⟨gx,0,none⟩)]++caps) w' (Ret (ratR w' q 3000))):
  Calls Tryz.prog 65 #[v,.int .i64 (st:Int),.int .i64 n,.func (.func k) #[] caps] w (Ret (okR w q 3000)):=by
 have hmf:=hmf0 Tryz.prog
 have HV:=hide hv
 obtain⟨va,vb,rfl,hR,hW⟩:=hv
 obtain⟨A1,c1,rfl,-,-,-⟩:=id hR
 obtain⟨A2,c2,rfl,-,-,-⟩:=id hW
 have hrl:=hide hs.ok.shop.rl
 have h8:=hs.ok.shop.n8
 obtain⟨W,hWW⟩:∃W,W=((w.alloc (.cells #[.slice A1 R.length c1,.slice A2 Ws.length c2] 33)).alloc (.cells #[.func (.func k) #[] caps] 106)).alloc (.cells #[.bool false,.slice none 0 0,.slice none 0 0] 43):=⟨_,rfl⟩
 have hb0:Below w.heap.size w W:=by rw[hWW];exact za (za (za (blr _ _) _) _) _
 have hbs:W.heap[w.heap.size]?=some (.cells #[.slice A1 R.length c1,.slice A2 Ws.length c2] 33):=by
  rw[hWW];exact at_later (zj w _) (za (za (blr _ _) _) _)
 have hbf:W.heap[w.heap.size+1]?=some (.cells #[.func (.func k) #[] caps] 106 (0,0)):=by
  have h1:=at_later (zj (w.alloc (.cells #[.slice A1 R.length c1,.slice A2 Ws.length c2] 33)) (.cells #[.func (.func k) #[] caps] 106)) (za (blr _ _) (.cells #[.bool false,.slice none 0 0,.slice none 0 0] 43))
  rw[hWW];simpa using h1
 have hbr:W.heap[w.heap.size+2]?=some (.cells #[.bool false,.slice none 0 0,.slice none 0 0] 43):=by rw[hWW];exact zu _ (by simp)
 have H0:=hide (ai hb0 (ai hbs (ai hbf (ai hbr hc))))
 have HL:=hide hWW
 clear hR hW hb0 hbs hbf hbr hWW hc
 go_enter Tryz.func65,Tryz.ntmps65
 go_wp2_with fail
 rw[<-HL.out]
 refine(zcD _ _ R Ws 3000 m (HV.out.below H0.out.1) hs.ok).mono ?_
 rintro e w1 ⟨_,rfl,gx,rfl,hg,hx,hd1⟩
 obtain⟨W2,hW2⟩:∃W2,W2=w1.alloc (.cells #[.pointer (some ⟨gx,0,none⟩)] 95):=⟨_,rfl⟩
 have hb2:Below w1.heap.size w1 W2:=by rw[hW2];exact za (blr _ _) _
 have hbx:W2.heap[w1.heap.size]?=some (.cells #[.pointer (some ⟨gx,0,none⟩)] 95 (0,0)):=by rw[hW2];exact zj _ _
 have hd2:=bnx hd1 hb2
 obtain⟨y0,y1,-,-⟩:=ze (at_later H0.out.2.1 hd2)
 have H2:=hide (ai hbx (ai (zaU.below hx hb2) (ai hd2 (bnx H0.out.1 hd2))))
 have HL2:=hide hW2
 have i1:¬((R.length:Int)<=(st:Int)):=by have:=hrl.out;omega
 have i2:¬((st:Int)<0):=by omega
 have i3:((st:Int)<(R.length:Int)):=by have:=hrl.out;omega
 clear hd1 hx hbx hb2 hd2 hW2
 go_upto_region 4 with fail
 rw[<-HL2.out]
 go_wp2_with fail
 refine(zhk _ n (by omega) (by omega)).mono ?_
 rintro e w3 ⟨_,rfl,rfl,rfl⟩
 go_wp2_with fail
 refine(zkz _ 123 #[.pointer (some ⟨w.heap.size+1,0,none⟩),.pointer (some ⟨w1.heap.size,0,none⟩)] q 3000 (fun _ _=>by simp[go_sem]) (fun w' hb=>zoi w' _ _ gx k m caps q R Ws (zaU.below H2.out.2.1 hb) (at_later (at_later H0.out.2.2.1 H2.out.2.2.1) hb) (at_later H2.out.1 hb) hk (fun w'' hb2 hx2=>H0.out.2.2.2.2 gx w'' (H2.out.2.2.2.trans ((bnx hb hb2).mono H2.out.2.2.2.size)) hx2))).mono ?_
 rintro e w4 ⟨_,rfl,r,rfl,hr6,hd⟩
 obtain⟨s6,A6,n6,c6,B6,m6,d6,rfl⟩:=hr6.shape
 have hrb:=at_later (at_later H0.out.2.2.2.1 H2.out.2.2.1) hd
 clear y0 y1
 obtain⟨x0,x1,x2⟩:=zk hrb
 obtain⟨f0,f1,f2⟩:=zA hrb
 have hlt:=lt_of_block hrb
 have HU:=hide (ai hr6 (bnx H2.out.2.2.2 hd))
 clear hrb hr6 hd
 go_wp2
 refine bodyPost_ret (v:=.tuple #[.agg #[.bool s6,.slice A6 n6 c6,.slice B6 m6 d6],.int .i64 0]) ?_ rfl ?_
 ·simp[results,Tryz.results65,go_sem,x0,x1,x2,hlt]
 have hr:=HU.out.1
 obtain⟨rn,rl,e,r1,r2⟩:=hr
 injection e with e
 simp only[Array.mk.injEq,List.cons.injEq,Value.bool.injEq,and_true] at e
 obtain⟨rfl,rfl,rfl⟩:=e
 exact⟨_,rfl,_,rfl,⟨_,_,rfl,r1.set3 x0 x1 x2,r2.set3 x0 x1 x2⟩,zm HU.out.2 (by omega) _ _ _⟩
def spQ (m:Nat) (R:List Rat) (Ws:List (List Rat)) (st:Nat) (n:Int):Rat:=R.getD st 0*atQ (ldF m R Ws) m st 1 n
theorem zlP (w:World) (bst bn gx m:Nat) (st:Nat) (n:Int) (R:List Rat) (Ws:List (List Rat)) (hs:zW m R Ws) (hx:zaU w gx m R Ws) (hbst:w.heap[bst]?=some (.cells #[.int .i64 (st:Int)] 3 (0,0))) (hbn:w.heap[bn]?=some (.cells #[.int .i64 n] 3 (0,0))) (hst:st<m) (hn0:0<=n) (hn:n<=12):
  Calls Tryz.prog 66 (#[.pointer (some ⟨gx,0,none⟩)]++#[.pointer (some ⟨bst,0,none⟩),.pointer (some ⟨bn,0,none⟩)]) w (Ret (ratR w (spQ m R Ws st n) 3000)):=by
 generalize hq:spQ m R Ws st n=q
 obtain⟨W,hW⟩:∃W,W=w.alloc (.cells #[.bool false,.slice none 0 0,.slice none 0 0] 43):=⟨_,rfl⟩
 have hb0:Below w.heap.size w W:=by rw[hW];exact za (blr _ _) _
 have hbr:W.heap[w.heap.size]?=some (.cells #[.bool false,.slice none 0 0,.slice none 0 0] 43):=by rw[hW];exact zj _ _
 obtain⟨z0,-⟩:=zE hbst
 obtain⟨y0,-⟩:=zE (at_later hbst hb0)
 have l0:=lt_of_block hbst
 obtain⟨z1,-⟩:=zE hbn
 obtain⟨y1,-⟩:=zE (at_later hbn hb0)
 have l1:=lt_of_block hbn
 have H0:=hide (ai hb0 (ai hbr (ai (zaU.below hx hb0) hq)))
 have HL:=hide hW
 have hlen:=hide hs.len
 have h8:=hs.ld.s8
 clear hx hb0 hbr hW hq hbst hbn
 rw[show #[Value.pointer (some ⟨gx,0,none⟩)]++#[.pointer (some ⟨bst,0,none⟩),.pointer (some ⟨bn,0,none⟩)]=#[Value.pointer (some ⟨gx,0,none⟩),.pointer (some ⟨bst,0,none⟩),.pointer (some ⟨bn,0,none⟩)] from rfl]
 go_enter Tryz.func66,Tryz.ntmps66
 go_upto_region 1 with fail
 rw[<-HL.out]
 go_wp2_with fail
 refine(zna _ gx st 3000 n R _ (ldV m R Ws) Ws H0.out.2.2.1 hs.ld' (by rw[hs.ok.shop.rl,hs.len]) (hs.rf st hst) (by rw[hs.len];exact hst) hn0 hn (by omega) (by omega)).mono ?_
 rintro e w1 ⟨v6,rfl,hr6,hd⟩
 replace hr6:RatV w1 v6 q 3000:=by rw[<-H0.out.2.2.2];rw[hs.len] at hr6;exact hr6
 obtain⟨s6,A6,n6,c6,B6,m6,d6,rfl⟩:=hr6.shape
 have hrb:=at_later H0.out.2.1 hd
 clear z0 y0 z1 y1
 obtain⟨x0,x1,x2⟩:=zk hrb
 obtain⟨f0,f1,f2⟩:=zA hrb
 have hlt:=lt_of_block hrb
 have HU:=hide (ai hr6 (bnx H0.out.1 hd))
 clear hrb hr6 hd
 go_wp2
 refine bodyPost_ret (v:=.agg #[.bool s6,.slice A6 n6 c6,.slice B6 m6 d6]) ?_ rfl ?_
 ·simp[results,Tryz.results66,go_sem,x0,x1,x2,hlt]
 have hr:=HU.out.1
 obtain⟨rn,rl,e,r1,r2⟩:=hr
 injection e with e
 simp only[Array.mk.injEq,List.cons.injEq,Value.bool.injEq,and_true] at e
 obtain⟨rfl,rfl,rfl⟩:=e
 exact⟨_,rfl,⟨_,_,rfl,r1.set3 x0 x1 x2,r2.set3 x0 x1 x2⟩,zm HU.out.2 (by omega) _ _ _⟩
theorem znb (w:World) (v:Value) (m:Nat) (st:Nat) (n:Int) (R:List Rat) (Ws:List (List Rat)) (hv:ShopV w v R Ws 3000) (hs:zW m R Ws) (hst:st<m) (hn0:0<=n) (hn:n<=12):
  Calls Tryz.prog 17 #[v,.int .i64 (st:Int),.int .i64 n] w (Ret (okR w (spQ m R Ws st n) 3000)):=by
 have hmf:=hmf0 Tryz.prog
 have HV:=hide hv
 obtain⟨va,vb,rfl,hR,hW⟩:=hv
 obtain⟨A1,c1,rfl,-,-,-⟩:=id hR
 obtain⟨A2,c2,rfl,-,-,-⟩:=id hW
 generalize hq:spQ m R Ws st n=q
 have hq2:∀w,ratR w q 3000=ratR w (spQ m R Ws st n) 3000:=fun w=>by rw[hq]
 have HQ2:=hide hq2
 clear hq hq2
 obtain⟨W,hWW⟩:∃W,W=(((w.alloc (.cells #[.slice A1 R.length c1,.slice A2 Ws.length c2] 33)).alloc (.cells #[.int .i64 (st:Int)] 3)).alloc (.cells #[.int .i64 n] 3)).alloc (.cells #[.bool false,.slice none 0 0,.slice none 0 0] 43):=⟨_,rfl⟩
 have hb0:Below w.heap.size w W:=by rw[hWW];exact(za (za (za (za (blr _ _) _) _) _) _)
 have hbst:W.heap[w.heap.size+1]?=some (.cells #[.int .i64 (st:Int)] 3 (0,0)):=by
  have h1:=at_later (zj (w.alloc (.cells #[.slice A1 R.length c1,.slice A2 Ws.length c2] 33)) (.cells #[.int .i64 (st:Int)] 3)) (za (za (blr _ _) (.cells #[.int .i64 n] 3)) (.cells #[.bool false,.slice none 0 0,.slice none 0 0] 43))
  rw[hWW];simpa using h1
 have hbn:W.heap[w.heap.size+2]?=some (.cells #[.int .i64 n] 3 (0,0)):=by
  have h1:=at_later (zj ((w.alloc (.cells #[.slice A1 R.length c1,.slice A2 Ws.length c2] 33)).alloc (.cells #[.int .i64 (st:Int)] 3)) (.cells #[.int .i64 n] 3)) (za (blr _ _) (.cells #[.bool false,.slice none 0 0,.slice none 0 0] 43))
  rw[hWW];simpa using h1
 have hbr:W.heap[w.heap.size+3]?=some (.cells #[.bool false,.slice none 0 0,.slice none 0 0] 43):=by
  have h1:=at_later (zj (((w.alloc (.cells #[.slice A1 R.length c1,.slice A2 Ws.length c2] 33)).alloc (.cells #[.int .i64 (st:Int)] 3)).alloc (.cells #[.int .i64 n] 3)) (.cells #[.bool false,.slice none 0 0,.slice none 0 0] 43)) (blr _ _)
  rw[hWW];simpa using h1
 have hbs:W.heap[w.heap.size]?=some (.cells #[.slice A1 R.length c1,.slice A2 Ws.length c2] 33):=by
  have h1:=at_later (zj w (.cells #[.slice A1 R.length c1,.slice A2 Ws.length c2] 33)) (za (za (za (blr _ _) (.cells #[.int .i64 (st:Int)] 3)) (.cells #[.int .i64 n] 3)) (.cells #[.bool false,.slice none 0 0,.slice none 0 0] 43))
  rw[hWW];simpa using h1
 obtain⟨u0,u1,-,-⟩:=ze hbs
 clear hbs
 have H0:=hide (ai hb0 (ai hbst (ai hbn hbr)))
 obtain⟨y0,-⟩:=zE hbst
 obtain⟨y1,-⟩:=zE hbn
 have HL:=hide hWW
 have ha:=HV.out.below hb0
 have HA:=hide ha
 clear hR hW hb0 hWW ha hbst hbn hbr
 go_enter Tryz.func17,Tryz.ntmps17
 go_upto_region 1 with fail
 rw[<-HL.out]
 go_wp2_with fail
 refine(at_c W _ 66 m st n #[.pointer (some ⟨w.heap.size+1,0,none⟩),.pointer (some ⟨w.heap.size+2,0,none⟩)] q R Ws HA.out hs hst hn0 hn (fun _ _=>by simp[go_sem]) (fun gx w' hb hx=>by rw[HQ2.out];exact zlP w' _ _ gx m st n  R Ws hs hx (at_later H0.out.2.1 hb) (at_later H0.out.2.2.1 hb) hst hn0 hn)).mono ?_
 rintro e w4 ⟨_,rfl,r,rfl,hr6,hd⟩
 obtain⟨s6,A6,n6,c6,B6,m6,d6,rfl⟩:=hr6.shape
 have hrb:=at_later H0.out.2.2.2 hd
 clear y0 y1 u0 u1
 obtain⟨x0,x1,x2⟩:=zk hrb
 obtain⟨f0,f1,f2⟩:=zA hrb
 have hlt:=lt_of_block hrb
 have HU:=hide (ai hr6 (bnx H0.out.1 hd))
 clear hrb hr6 hd
 go_wp2
 refine bodyPost_ret (v:=.tuple #[.agg #[.bool s6,.slice A6 n6 c6,.slice B6 m6 d6],.int .i64 0]) ?_ rfl ?_
 ·simp[results,Tryz.results17,go_sem,x0,x1,x2,hlt]
 have hr:=HU.out.1
 obtain⟨rn,rl,e,r1,r2⟩:=hr
 injection e with e
 simp only[Array.mk.injEq,List.cons.injEq,Value.bool.injEq,and_true] at e
 obtain⟨rfl,rfl,rfl⟩:=e
 exact⟨_,rfl,_,rfl,⟨_,_,rfl,r1.set3 x0 x1 x2,r2.set3 x0 x1 x2⟩,zm HU.out.2 (by omega) _ _ _⟩
end Go.Proofs.YtpoahodnakhmiaaGreat
