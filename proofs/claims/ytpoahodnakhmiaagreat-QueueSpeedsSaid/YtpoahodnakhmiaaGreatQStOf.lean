import Derived.Test.YtpoahodnakhmiaaGreatQTop2
set_option maxRecDepth 100000
namespace Go.Proofs.YtpoahodnakhmiaaGreat
set_option linter.unusedVariables false
set_option linter.unusedSimpArgs false
open Go.RowKit
def spQ (m:Nat) (R:List Rat) (Ws:List (List Rat)) (st:Nat) (n:Int):Rat:=R.getD st 0*atQ (ldF m R Ws) m st 1 n
theorem zlN (w:World) (bst bn gx m:Nat) (st:Nat) (n:Int) (R:List Rat) (Ws:List (List Rat)) (hs:zO m R Ws) (hx:zad w gx m R Ws) (hbst:w.heap[bst]?=some (.cells #[.int .i64 (st:Int)] 3 (0,0))) (hbn:w.heap[bn]?=some (.cells #[.int .i64 n] 3 (0,0))) (hst:st<m) (hn0:0<=n) (hn:n<=12):
  Calls Tryz.prog 66 (#[.pointer (some ⟨gx,0,none⟩)]++#[.pointer (some ⟨bst,0,none⟩),.pointer (some ⟨bn,0,none⟩)]) w (Ret (ratR w (spQ m R Ws st n) 3000)):=by
 generalize hq:spQ m R Ws st n=q
 obtain⟨W,hW⟩:∃W,W=w.alloc (.cells #[.bool false,.slice none 0 0,.slice none 0 0] 43):=⟨_,rfl⟩
 have hb0:Below w.heap.size w W:=by rw[hW];exact za (blr _ _) _
 have hbr:W.heap[w.heap.size]?=some (.cells #[.bool false,.slice none 0 0,.slice none 0 0] 43):=by rw[hW];exact zg _ _
 obtain⟨z0,-⟩:=zo hbst
 obtain⟨y0,-⟩:=zo (at_later hbst hb0)
 have l0:=lt_of_block hbst
 obtain⟨z1,-⟩:=zo hbn
 obtain⟨y1,-⟩:=zo (at_later hbn hb0)
 have l1:=lt_of_block hbn
 have H0:=hide (ai hb0 (ai hbr (ai (zad.below hx hb0) hq)))
 have HL:=hide hW
 have hlen:=hide hs.len
 have h8:=hs.ld.s8
 clear hx hb0 hbr hW hq hbst hbn
 rw[show #[Value.pointer (some ⟨gx,0,none⟩)]++#[.pointer (some ⟨bst,0,none⟩),.pointer (some ⟨bn,0,none⟩)]=#[Value.pointer (some ⟨gx,0,none⟩),.pointer (some ⟨bst,0,none⟩),.pointer (some ⟨bn,0,none⟩)] from rfl]
 go_enter Tryz.func66,Tryz.ntmps66
 go_upto_region 1 with fail
 rw[<-HL.out]
 go_wp2_with fail
 refine(ziD _ gx st 3000 n R _ (ldV m R Ws) Ws H0.out.2.2.1 hs.ld' (by rw[hs.ok.shop.rl,hs.len]) (hs.rf st hst) (by rw[hs.len];exact hst) hn0 hn (by omega) (by omega)).mono ?_
 rintro e w1 ⟨v6,rfl,hr6,hd⟩
 replace hr6:RatV w1 v6 q 3000:=by rw[<-H0.out.2.2.2];rw[hs.len] at hr6;exact hr6
 obtain⟨s6,A6,n6,c6,B6,m6,d6,rfl⟩:=hr6.shape
 have hrb:=at_later H0.out.2.1 hd
 clear z0 y0 z1 y1
 obtain⟨x0,x1,x2⟩:=zj hrb
 obtain⟨f0,f1,f2⟩:=zr hrb
 have hlt:=lt_of_block hrb
 have HU:=hide (ai hr6 (bnx H0.out.1 hd))
 clear hrb hr6 hd
 go_wp2
 refine bodyPost_ret (v:=.agg #[.bool s6,.slice A6 n6 c6,.slice B6 m6 d6]) ?_ rfl ?_
 ·simp[results,Tryz.results66,go_sem,x0,x1,x2,hlt]
 have hr:=HU.out.1
 obtain⟨rn,rl,e,r1,r2⟩:=hr
 injection e with e
 simp only[Array.mk.injEq,List.cons.injEq,Value.bool.injEq,and_true] at e
 obtain⟨rfl,rfl,rfl⟩:=e
 exact⟨_,rfl,⟨_,_,rfl,r1.set3 x0 x1 x2,r2.set3 x0 x1 x2⟩,zl HU.out.2 (by omega) _ _ _⟩
theorem ziC (w:World) (v:Value) (m:Nat) (st:Nat) (n:Int) (R:List Rat) (Ws:List (List Rat)) (hv:ShopV w v R Ws 3000) (hs:zO m R Ws) (hst:st<m) (hn0:0<=n) (hn:n<=12):
  Calls Tryz.prog 17 #[v,.int .i64 (st:Int),.int .i64 n] w (Ret (okR w (spQ m R Ws st n) 3000)):=by
 have hmf:=hmf0 Tryz.prog
 have HV:=hide hv
 obtain⟨va,vb,rfl,hR,hW⟩:=hv
 obtain⟨A1,c1,rfl,-,-,-⟩:=id hR
 obtain⟨A2,c2,rfl,-,-,-⟩:=id hW
 generalize hq:spQ m R Ws st n=q
 have hq2:∀w,ratR w q 3000=ratR w (spQ m R Ws st n) 3000:=fun w=>by rw[hq]
 have HQ2:=hide hq2
 clear hq hq2
 obtain⟨W,hWW⟩:∃W,W=(((w.alloc (.cells #[.slice A1 R.length c1,.slice A2 Ws.length c2] 33)).alloc (.cells #[.int .i64 (st:Int)] 3)).alloc (.cells #[.int .i64 n] 3)).alloc (.cells #[.bool false,.slice none 0 0,.slice none 0 0] 43):=⟨_,rfl⟩
 have hb0:Below w.heap.size w W:=by rw[hWW];exact(za (za (za (za (blr _ _) _) _) _) _)
 have hbst:W.heap[w.heap.size+1]?=some (.cells #[.int .i64 (st:Int)] 3 (0,0)):=by
  have h1:=at_later (zg (w.alloc (.cells #[.slice A1 R.length c1,.slice A2 Ws.length c2] 33)) (.cells #[.int .i64 (st:Int)] 3)) (za (za (blr _ _) (.cells #[.int .i64 n] 3)) (.cells #[.bool false,.slice none 0 0,.slice none 0 0] 43))
  rw[hWW];simpa using h1
 have hbn:W.heap[w.heap.size+2]?=some (.cells #[.int .i64 n] 3 (0,0)):=by
  have h1:=at_later (zg ((w.alloc (.cells #[.slice A1 R.length c1,.slice A2 Ws.length c2] 33)).alloc (.cells #[.int .i64 (st:Int)] 3)) (.cells #[.int .i64 n] 3)) (za (blr _ _) (.cells #[.bool false,.slice none 0 0,.slice none 0 0] 43))
  rw[hWW];simpa using h1
 have hbr:W.heap[w.heap.size+3]?=some (.cells #[.bool false,.slice none 0 0,.slice none 0 0] 43):=by
  have h1:=at_later (zg (((w.alloc (.cells #[.slice A1 R.length c1,.slice A2 Ws.length c2] 33)).alloc (.cells #[.int .i64 (st:Int)] 3)).alloc (.cells #[.int .i64 n] 3)) (.cells #[.bool false,.slice none 0 0,.slice none 0 0] 43)) (blr _ _)
  rw[hWW];simpa using h1
 have hbs:W.heap[w.heap.size]?=some (.cells #[.slice A1 R.length c1,.slice A2 Ws.length c2] 33):=by
  have h1:=at_later (zg w (.cells #[.slice A1 R.length c1,.slice A2 Ws.length c2] 33)) (za (za (za (blr _ _) (.cells #[.int .i64 (st:Int)] 3)) (.cells #[.int .i64 n] 3)) (.cells #[.bool false,.slice none 0 0,.slice none 0 0] 43))
  rw[hWW];simpa using h1
 obtain⟨u0,u1,-,-⟩:=ze hbs
 clear hbs
 have H0:=hide (ai hb0 (ai hbst (ai hbn hbr)))
 obtain⟨y0,-⟩:=zo hbst
 obtain⟨y1,-⟩:=zo hbn
 have HL:=hide hWW
 have ha:=HV.out.below hb0
 have HA:=hide ha
 clear hR hW hb0 hWW ha hbst hbn hbr
 go_enter Tryz.func17,Tryz.ntmps17
 go_upto_region 1 with fail
 rw[<-HL.out]
 go_wp2_with fail
 refine(zju W _ 66 m st n #[.pointer (some ⟨w.heap.size+1,0,none⟩),.pointer (some ⟨w.heap.size+2,0,none⟩)] q R Ws HA.out hs hst hn0 hn (fun _ _=>by simp[go_sem]) (fun gx w' hb hx=>by rw[HQ2.out];exact zlN w' _ _ gx m st n  R Ws hs hx (at_later H0.out.2.1 hb) (at_later H0.out.2.2.1 hb) hst hn0 hn)).mono ?_
 rintro e w4 ⟨_,rfl,r,rfl,hr6,hd⟩
 obtain⟨s6,A6,n6,c6,B6,m6,d6,rfl⟩:=hr6.shape
 have hrb:=at_later H0.out.2.2.2 hd
 clear y0 y1 u0 u1
 obtain⟨x0,x1,x2⟩:=zj hrb
 obtain⟨f0,f1,f2⟩:=zr hrb
 have hlt:=lt_of_block hrb
 have HU:=hide (ai hr6 (bnx H0.out.1 hd))
 clear hrb hr6 hd
 go_wp2
 refine bodyPost_ret (v:=.tuple #[.agg #[.bool s6,.slice A6 n6 c6,.slice B6 m6 d6],.int .i64 0]) ?_ rfl ?_
 ·simp[results,Tryz.results17,go_sem,x0,x1,x2,hlt]
 have hr:=HU.out.1
 obtain⟨rn,rl,e,r1,r2⟩:=hr
 injection e with e
 simp only[Array.mk.injEq,List.cons.injEq,Value.bool.injEq,and_true] at e
 obtain⟨rfl,rfl,rfl⟩:=e
 exact⟨_,rfl,_,rfl,⟨_,_,rfl,r1.set3 x0 x1 x2,r2.set3 x0 x1 x2⟩,zl HU.out.2 (by omega) _ _ _⟩
theorem zjt (w:World) (bst bk bn gx m:Nat) (st:Nat) (n:Int) (k:Int) (R:List Rat) (Ws:List (List Rat)) (hs:zO m R Ws) (hx:zad w gx m R Ws) (hbst:w.heap[bst]?=some (.cells #[.int .i64 (st:Int)] 3 (0,0))) (hbk:w.heap[bk]?=some (.cells #[.int .i64 k] 3 (0,0))) (hbn:w.heap[bn]?=some (.cells #[.int .i64 n] 3 (0,0))) (hst:st<m) (hn0:0<=n) (hn:n<=12) (hk1:-9223372036854775808<=k) (hk2:k<9223372036854775808):
  Calls Tryz.prog 68 (#[.pointer (some ⟨gx,0,none⟩)]++#[.pointer (some ⟨bst,0,none⟩),.pointer (some ⟨bk,0,none⟩),.pointer (some ⟨bn,0,none⟩)]) w (Ret (ratR w (atQ (ldF m R Ws) m st k n) 3000)):=by
 generalize hq:atQ (ldF m R Ws) m st k n=q
 obtain⟨W,hW⟩:∃W,W=w.alloc (.cells #[.bool false,.slice none 0 0,.slice none 0 0] 43):=⟨_,rfl⟩
 have hb0:Below w.heap.size w W:=by rw[hW];exact za (blr _ _) _
 have hbr:W.heap[w.heap.size]?=some (.cells #[.bool false,.slice none 0 0,.slice none 0 0] 43):=by rw[hW];exact zg _ _
 obtain⟨z0,-⟩:=zo hbst
 obtain⟨y0,-⟩:=zo (at_later hbst hb0)
 have l0:=lt_of_block hbst
 obtain⟨z1,-⟩:=zo hbk
 obtain⟨y1,-⟩:=zo (at_later hbk hb0)
 have l1:=lt_of_block hbk
 obtain⟨z2,-⟩:=zo hbn
 obtain⟨y2,-⟩:=zo (at_later hbn hb0)
 have l2:=lt_of_block hbn
 have H0:=hide (ai hb0 (ai hbr (ai (zad.below hx hb0) hq)))
 have HL:=hide hW
 have hlen:=hide hs.len
 have h8:=hs.ld.s8
 clear hx hb0 hbr hW hq hbst hbk hbn
 rw[show #[Value.pointer (some ⟨gx,0,none⟩)]++#[.pointer (some ⟨bst,0,none⟩),.pointer (some ⟨bk,0,none⟩),.pointer (some ⟨bn,0,none⟩)]=#[Value.pointer (some ⟨gx,0,none⟩),.pointer (some ⟨bst,0,none⟩),.pointer (some ⟨bk,0,none⟩),.pointer (some ⟨bn,0,none⟩)] from rfl]
 go_enter Tryz.func68,Tryz.ntmps68
 go_upto_region 1 with fail
 rw[<-HL.out]
 go_wp2_with fail
 refine(zd7 _ gx st 3000 k n R _ (ldV m R Ws) Ws H0.out.2.2.1 hs.ld' (by rw[hs.len];exact hst) hn0 hn hk1 hk2 (by omega) (by omega)).mono ?_
 rintro e w1 ⟨v6,rfl,hr6,hd⟩
 replace hr6:RatV w1 v6 q 3000:=by rw[<-H0.out.2.2.2];rw[hs.len] at hr6;exact hr6
 obtain⟨s6,A6,n6,c6,B6,m6,d6,rfl⟩:=hr6.shape
 have hrb:=at_later H0.out.2.1 hd
 clear z0 y0 z1 y1 z2 y2
 obtain⟨x0,x1,x2⟩:=zj hrb
 obtain⟨f0,f1,f2⟩:=zr hrb
 have hlt:=lt_of_block hrb
 have HU:=hide (ai hr6 (bnx H0.out.1 hd))
 clear hrb hr6 hd
 go_wp2
 refine bodyPost_ret (v:=.agg #[.bool s6,.slice A6 n6 c6,.slice B6 m6 d6]) ?_ rfl ?_
 ·simp[results,Tryz.results68,go_sem,x0,x1,x2,hlt]
 have hr:=HU.out.1
 obtain⟨rn,rl,e,r1,r2⟩:=hr
 injection e with e
 simp only[Array.mk.injEq,List.cons.injEq,Value.bool.injEq,and_true] at e
 obtain⟨rfl,rfl,rfl⟩:=e
 exact⟨_,rfl,⟨_,_,rfl,r1.set3 x0 x1 x2,r2.set3 x0 x1 x2⟩,zl HU.out.2 (by omega) _ _ _⟩
theorem zkA (w:World) (v:Value) (m:Nat) (st:Nat) (n:Int) (k:Int) (R:List Rat) (Ws:List (List Rat)) (hv:ShopV w v R Ws 3000) (hs:zO m R Ws) (hst:st<m) (hn0:0<=n) (hn:n<=12) (hk1:-9223372036854775808<=k) (hk2:k<9223372036854775808):
  Calls Tryz.prog 18 #[v,.int .i64 (st:Int),.int .i64 k,.int .i64 n] w (Ret (okR w (atQ (ldF m R Ws) m st k n) 3000)):=by
 have hmf:=hmf0 Tryz.prog
 have HV:=hide hv
 obtain⟨va,vb,rfl,hR,hW⟩:=hv
 obtain⟨A1,c1,rfl,-,-,-⟩:=id hR
 obtain⟨A2,c2,rfl,-,-,-⟩:=id hW
 generalize hq:atQ (ldF m R Ws) m st k n=q
 have hq2:∀w,ratR w q 3000=ratR w (atQ (ldF m R Ws) m st k n) 3000:=fun w=>by rw[hq]
 have HQ2:=hide hq2
 clear hq hq2
 obtain⟨W,hWW⟩:∃W,W=((((w.alloc (.cells #[.slice A1 R.length c1,.slice A2 Ws.length c2] 33)).alloc (.cells #[.int .i64 (st:Int)] 3)).alloc (.cells #[.int .i64 k] 3)).alloc (.cells #[.int .i64 n] 3)).alloc (.cells #[.bool false,.slice none 0 0,.slice none 0 0] 43):=⟨_,rfl⟩
 have hb0:Below w.heap.size w W:=by rw[hWW];exact(za (za (za (za (za (blr _ _) _) _) _) _) _)
 have hbst:W.heap[w.heap.size+1]?=some (.cells #[.int .i64 (st:Int)] 3 (0,0)):=by
  have h1:=at_later (zg (w.alloc (.cells #[.slice A1 R.length c1,.slice A2 Ws.length c2] 33)) (.cells #[.int .i64 (st:Int)] 3)) (za (za (za (blr _ _) (.cells #[.int .i64 k] 3)) (.cells #[.int .i64 n] 3)) (.cells #[.bool false,.slice none 0 0,.slice none 0 0] 43))
  rw[hWW];simpa using h1
 have hbk:W.heap[w.heap.size+2]?=some (.cells #[.int .i64 k] 3 (0,0)):=by
  have h1:=at_later (zg ((w.alloc (.cells #[.slice A1 R.length c1,.slice A2 Ws.length c2] 33)).alloc (.cells #[.int .i64 (st:Int)] 3)) (.cells #[.int .i64 k] 3)) (za (za (blr _ _) (.cells #[.int .i64 n] 3)) (.cells #[.bool false,.slice none 0 0,.slice none 0 0] 43))
  rw[hWW];simpa using h1
 have hbn:W.heap[w.heap.size+3]?=some (.cells #[.int .i64 n] 3 (0,0)):=by
  have h1:=at_later (zg (((w.alloc (.cells #[.slice A1 R.length c1,.slice A2 Ws.length c2] 33)).alloc (.cells #[.int .i64 (st:Int)] 3)).alloc (.cells #[.int .i64 k] 3)) (.cells #[.int .i64 n] 3)) (za (blr _ _) (.cells #[.bool false,.slice none 0 0,.slice none 0 0] 43))
  rw[hWW];simpa using h1
 have hbr:W.heap[w.heap.size+4]?=some (.cells #[.bool false,.slice none 0 0,.slice none 0 0] 43):=by
  have h1:=at_later (zg ((((w.alloc (.cells #[.slice A1 R.length c1,.slice A2 Ws.length c2] 33)).alloc (.cells #[.int .i64 (st:Int)] 3)).alloc (.cells #[.int .i64 k] 3)).alloc (.cells #[.int .i64 n] 3)) (.cells #[.bool false,.slice none 0 0,.slice none 0 0] 43)) (blr _ _)
  rw[hWW];simpa using h1
 have hbs:W.heap[w.heap.size]?=some (.cells #[.slice A1 R.length c1,.slice A2 Ws.length c2] 33):=by
  have h1:=at_later (zg w (.cells #[.slice A1 R.length c1,.slice A2 Ws.length c2] 33)) (za (za (za (za (blr _ _) (.cells #[.int .i64 (st:Int)] 3)) (.cells #[.int .i64 k] 3)) (.cells #[.int .i64 n] 3)) (.cells #[.bool false,.slice none 0 0,.slice none 0 0] 43))
  rw[hWW];simpa using h1
 obtain⟨u0,u1,-,-⟩:=ze hbs
 clear hbs
 have H0:=hide (ai hb0 (ai hbst (ai hbk (ai hbn hbr))))
 obtain⟨y0,-⟩:=zo hbst
 obtain⟨y1,-⟩:=zo hbk
 obtain⟨y2,-⟩:=zo hbn
 have HL:=hide hWW
 have ha:=HV.out.below hb0
 have HA:=hide ha
 clear hR hW hb0 hWW ha hbst hbk hbn hbr
 go_enter Tryz.func18,Tryz.ntmps18
 go_upto_region 1 with fail
 rw[<-HL.out]
 go_wp2_with fail
 refine(zju W _ 68 m st n #[.pointer (some ⟨w.heap.size+1,0,none⟩),.pointer (some ⟨w.heap.size+2,0,none⟩),.pointer (some ⟨w.heap.size+3,0,none⟩)] q R Ws HA.out hs hst hn0 hn (fun _ _=>by simp[go_sem]) (fun gx w' hb hx=>by rw[HQ2.out];exact zjt w' _ _ _ gx m st n k R Ws hs hx (at_later H0.out.2.1 hb) (at_later H0.out.2.2.1 hb) (at_later H0.out.2.2.2.1 hb) hst hn0 hn hk1 hk2)).mono ?_
 rintro e w4 ⟨_,rfl,r,rfl,hr6,hd⟩
 obtain⟨s6,A6,n6,c6,B6,m6,d6,rfl⟩:=hr6.shape
 have hrb:=at_later H0.out.2.2.2.2 hd
 clear y0 y1 y2 u0 u1
 obtain⟨x0,x1,x2⟩:=zj hrb
 obtain⟨f0,f1,f2⟩:=zr hrb
 have hlt:=lt_of_block hrb
 have HU:=hide (ai hr6 (bnx H0.out.1 hd))
 clear hrb hr6 hd
 go_wp2
 refine bodyPost_ret (v:=.tuple #[.agg #[.bool s6,.slice A6 n6 c6,.slice B6 m6 d6],.int .i64 0]) ?_ rfl ?_
 ·simp[results,Tryz.results18,go_sem,x0,x1,x2,hlt]
 have hr:=HU.out.1
 obtain⟨rn,rl,e,r1,r2⟩:=hr
 injection e with e
 simp only[Array.mk.injEq,List.cons.injEq,Value.bool.injEq,and_true] at e
 obtain⟨rfl,rfl,rfl⟩:=e
 exact⟨_,rfl,_,rfl,⟨_,_,rfl,r1.set3 x0 x1 x2,r2.set3 x0 x1 x2⟩,zl HU.out.2 (by omega) _ _ _⟩
def lnF (l:Nat->Rat) (s i:Nat) (n:Int) (t:Nat):Rat:=atQ l s i ((t:Int)+1) n
def lnQ (l:Nat->Rat) (s i n:Nat):Rat:=sumN (lnF l s i n) n
theorem zS.ln_fit {s:Nat} {l:Nat->Rat} (h:zS s l) (i n k:Nat) (hi:i<s) (hn:n<=12) (hk:k<=n):FitQ 901 (sumN (lnF l s i n) k):=(zdk (L:=74) k (fun j _=>h.at_fit i _ n hi (by omega))).more (by omega)
set_option maxHeartbeats 4000000 in
theorem zlO (w:World) (gx i n:Nat) (R V Ld:List Rat) (Ws:List (List Rat)) (hx:zbf w gx R Ws V Ld 3000) (hld:zS Ld.length (fun i=>Ld.getD i 0)) (hi:i<Ld.length) (hn:n<=12):
  Calls Tryz.prog 94 #[.pointer (some ⟨gx,0,none⟩),.int .i64 (i:Int),.int .i64 (n:Int)] w (Ret (ratR w (lnQ (fun i=>Ld.getD i 0) Ld.length i n) 3000)):=by
 generalize hq:lnQ (fun i=>Ld.getD i 0) Ld.length i n=q
 have h8:=hld.s8
 obtain⟨W,hW⟩:∃W,W=(w.alloc (.cells #[.bool false,.slice none 0 0,.slice none 0 0] 43)).alloc (.cells #[.bool false,.slice none 0 0,.slice none 0 0] 43):=⟨_,rfl⟩
 have hb0:Below w.heap.size w W:=by rw[hW];exact za (za (blr _ _) _) _
 have hres:RowC W w.heap.size [0] 3000:=by rw[hW];exact(za8 w 3000).below (za (blr _ _) _)
 have hout:RowC W (w.heap.size+1) [0] 3000:=by
  have:=za8 (w.alloc (.cells #[.bool false,.slice none 0 0,.slice none 0 0] 43)) 3000
  rw[show (w.alloc (.cells #[.bool false,.slice none 0 0,.slice none 0 0] 43)).heap.size=w.heap.size+1 by simp] at this
  rw[hW];exact this
 have HX:=hide hx
 have H0:=hide (ai hout (ai hres hb0))
 have HL:=hide hW
 have HE:=hide hq
 clear hx hb0 hres hout hW hq
 go_enter Tryz.func94,Tryz.ntmps94
 go_upto_region 2 with fail
 rw[<-HL.out]
 go_wp2_with fail
 go_loopw [8] (fun s8 wr=>∃j:Nat,j<=n/\s8=.int .i64 ((j:Int)+1)/\RowC wr (w.heap.size+1) [sumN (lnF (fun i=>Ld.getD i 0) Ld.length i n) j] 3000/\RowC wr w.heap.size [0] 3000/\Below w.heap.size w wr) (fun s8 _=>n+1-(intOf s8).toNat)
 case atStart=>exact⟨0,Nat.zero_le _,rfl,H0.out.1,H0.out.2.1,H0.out.2.2⟩
 case round=>
  obtain⟨j,hj,rfl,hacc,hres,hbel⟩:=hrel
  obtain⟨s1,A1,n1,c1,B1,m1,d1,e0,e1,e2,hq1⟩:=(hacc.2 0 (by simp)).rat
  simp only[Nat.zero_mul,Nat.zero_add] at e0 e1 e2
  simp only[List.getD_cons_zero] at hq1
  by_cases hjn:j<n
  ·have i1:(j:Int)+1<=(n:Int):=by omega
   have hS:∀w',Below wr.heap.size wr w'->(w'.cell? ⟨w.heap.size+1,0,none⟩=some (.bool s1)/\w'.cell? ⟨w.heap.size+1,1,none⟩=some (.slice A1 n1 c1)/\w'.cell? ⟨w.heap.size+1,2,none⟩=some (.slice B1 m1 d1)):=fun w' h=>by
    have e:∀b o v,wr.cell? ⟨b,o,none⟩=some v->w'.cell? ⟨b,o,none⟩=some v:=fun b o v hv=>(h.cell (zf hv)).trans hv
    exact⟨e _ _ _ e0,e _ _ _ e1,e _ _ _ e2⟩
   have hdr:Below wr.heap.size wr wr.drew:=(blr _ _).drew
   have HSS:=hide hS
   have HQ:=hide hq1
   have HI:=hide (ai hacc (ai hres hbel))
   have HF:=hide (ai ((hld.ln_fit i n j hi hn (by omega)).more (show 901<=3000 by omega)) (show FitQ 3000 (sumN (lnF (fun i=>Ld.getD i 0) Ld.length i n) j+atQ (fun i=>Ld.getD i 0) Ld.length i ((j:Int)+1) n) from (hld.ln_fit i n (j+1) hi hn (by omega)).more (show 901<=3000 by omega)))
   clear hS hacc hres hbel hq1 e0 e1 e2
   go_upto_region 5 with fail
   refine zA (fun w'=>(w'.cell? ⟨w.heap.size+1,0,none⟩=some (.bool s1)/\w'.cell? ⟨w.heap.size+1,1,none⟩=some (.slice A1 n1 c1)/\w'.cell? ⟨w.heap.size+1,2,none⟩=some (.slice B1 m1 d1))) [0,1,2,3,4,5,6,7] (by kernel_rfl) (HSS.out _ hdr) (fun hh=>?_)
   refine tt 1 hh 15 ?_
   try simp only[Act.put,ptA,ptB,ptC]
   refine tt 2 hh 16 ?_
   try simp only[Act.put,ptA,ptB,ptC]
   refine tt 3 hh 17 ?_
   try simp only[Act.put,ptA,ptB,ptC]
   refine tt 4 hh 18 ?_
   try simp only[Act.put,ptA,ptB,ptC]
   refine tt 0 hh 14 ?_
   try simp only[Act.put,ptA,ptB,ptC]
   refine zb (rs:=[5]) (by kernel_rfl) (by simp) ?_
   refine mem1 ?_
   refine zd rfl (fun K hK=>?_)
   go_simp
   go_at_call 69
   refine(zd7 _ gx i 3000 ((j:Int)+1) (n:Int) R V Ld Ws ((HX.out.below HI.out.2.2).below hdr) hld hi (by omega) (by omega) (by omega) (by omega) (by omega) (by omega)).mono ?_
   rintro e w1 ⟨v4,rfl,hr4,hd⟩
   obtain⟨s4,A4,n4,c4,B4,m4,d4,rfl⟩:=hr4.shape
   have H4:=hide hr4
   clear hr4
   have hg1:Below wr.heap.size wr w1:=hdr.trans (hd.mono hdr.size)
   clear hd
   go_wp2_with fail
   refine hK.out _ _ (HSS.out _ hg1) (fun hh=>?_)
   clear hK K
   try simp only[Act.put,ptA,ptB,ptC]
   refine zb (rs:=[6]) (by kernel_rfl) (by simp) ?_
   refine mem1 ?_
   refine zd rfl (fun K hK=>?_)
   go_simp
   have HP2:=za6 (HQ.out.below hg1) (H4.out)
   have hg2:=za hg1 (.cells #[.bool s1,.slice A1 n1 c1,.slice B1 m1 d1,.bool s4,.slice A4 n4 c4,.slice B4 m4 d4] 43)
   have HP:=hide HP2
   clear HP2
   refine hK.out _ _ (HSS.out _ hg2) (fun hh=>?_)
   clear hK K
   try simp only[Act.put,ptA,ptB,ptC]
   refine zb (rs:=[7]) (by kernel_rfl) (by simp) ?_
   refine mem1 ?_
   refine zd rfl (fun K hK=>?_)
   go_simp
   go_at_call 83
   refine(zjq _ _ [sumN (lnF (fun i=>Ld.getD i 0) Ld.length i n) j,atQ (fun i=>Ld.getD i 0) Ld.length i ((j:Int)+1) n] 3000 HP.out (by omega) (zhf HF.out.1 HF.out.2)).mono ?_
   rintro e w3 ⟨v5,rfl,hr5,hd⟩
   replace hr5:RatV w3 v5 (sumN (lnF (fun i=>Ld.getD i 0) Ld.length i n) (j+1)) 3000:=by rw[sumN,lnF,<-sum2];exact hr5
   obtain⟨s5,A5,n5,c5,B5,m5,d5,rfl⟩:=hr5.shape
   have H5:=hide hr5
   clear hr5
   have hg3:Below wr.heap.size wr w3:=hg2.trans (hd.mono hg2.size)
   clear hd
   go_wp2_with fail
   refine hK.out _ _ (HSS.out _ hg3) (fun hh=>?_)
   clear hK K
   try simp only[Act.put,ptA,ptB,ptC]
   refine zG (k:=8) (by rfl) (by rfl) (by kernel_rfl) ?_
   simp only[List.drop_succ_cons,List.drop_zero]
   clear hh
   have hoE:=HI.out.1.below hg3
   obtain⟨s',B1',m1',d1',B2',m2',d2',e0',e1',e2',-⟩:=(hoE.2 0 (by simp)).rat
   simp only[Nat.zero_mul,Nat.zero_add] at e0' e1' e2'
   have f0:=hoE.frozen 0
   have f1:=hoE.frozen 1
   have f2:=hoE.frozen 2
   have HG:=hide (ai hoE hg3)
   clear hoE
   go_wp2
   case roundEnd=>
    obtain⟨t1,t2,t3⟩:=HG.out.1.set3 (i:=0) (by simp) H5.out
    simp only[Nat.zero_mul,Nat.zero_add] at t1 t2 t3
    have hs3:=HI.out.2.2.size
    have hsG:=HG.out.2.size
    have hbl:=only_below (HI.out.2.2.trans (HG.out.2.mono hs3)) t3 (by omega) (by omega)
    refine⟨⟨j+1,by omega,by go_num,t1,?_,hbl⟩,by simp[intOf];omega⟩
    exact(HI.out.2.1.below HG.out.2).same t2 (t3.block _ (by have:=HI.out.2.1.lt;omega) (by intro e;injection e with e;omega))
  ·obtain rfl:j=n:=by omega
   have i1:¬(j:Int)+1<=(j:Int):=by omega
   obtain⟨_,_,_,_,_,_,_,x0,x1,x2,-⟩:=(hres.2 0 (by simp)).rat
   simp only[Nat.zero_mul,Nat.zero_add] at x0 x1 x2
   have f0:=hres.frozen 0
   have f1:=hres.frozen 1
   have f2:=hres.frozen 2
   have hlt:=hres.lt
   have HU:=hide (ai (show RatV wr _ q 3000 by rw[<-HE.out];exact hq1) hbel)
   clear hacc hres hbel hq1
   go_wp2
   refine bodyPost_ret (v:=.agg #[.bool s1,.slice A1 n1 c1,.slice B1 m1 d1]) ?_ rfl ?_
   ·simp[results,Tryz.results94,go_sem,x0,x1,x2,hlt]
   have hr:=HU.out.1
   obtain⟨rn,rl,e,r1,r2⟩:=hr
   injection e with e
   simp only[Array.mk.injEq,List.cons.injEq,Value.bool.injEq,and_true] at e
   obtain⟨rfl,rfl,rfl⟩:=e
   exact⟨_,rfl,⟨_,_,rfl,r1.set3 x0 x1 x2,r2.set3 x0 x1 x2⟩,zl HU.out.2 (by omega) _ _ _⟩
def stV (xs:List Int):Value:=.agg (mk .i64 xs)
theorem eight {xs:List Int} (h:xs.length=8):∃x0 x1 x2 x3 x4 x5 x6 x7,xs=[x0,x1,x2,x3,x4,x5,x6,x7]:=by
 match xs,h with
 | [a,b,c,d,e,f,g,i],_=>exact⟨a,b,c,d,e,f,g,i,rfl⟩
theorem znI (w:World) (xs:List Int) (h8:xs.length=8) (h:∀x∈xs,0<=x/\x<=100):
  Calls Tryz.prog 87 #[stV xs] w (Ret (fun v w'=>v=.int .i64 xs.sum/\Below w.heap.size w w')):=by
 obtain⟨x0,x1,x2,x3,x4,x5,x6,x7,rfl⟩:=eight h8
 obtain⟨l0,u0⟩:=h x0 (by simp)
 obtain⟨l1,u1⟩:=h x1 (by simp)
 obtain⟨l2,u2⟩:=h x2 (by simp)
 obtain⟨l3,u3⟩:=h x3 (by simp)
 obtain⟨l4,u4⟩:=h x4 (by simp)
 obtain⟨l5,u5⟩:=h x5 (by simp)
 obtain⟨l6,u6⟩:=h x6 (by simp)
 obtain⟨l7,u7⟩:=h x7 (by simp)
 clear h h8
 rw[show stV [x0,x1,x2,x3,x4,x5,x6,x7]=.agg #[.int .i64 x0,.int .i64 x1,.int .i64 x2,.int .i64 x3,.int .i64 x4,.int .i64 x5,.int .i64 x6,.int .i64 x7] from rfl]
 obtain⟨W,hW⟩:∃W,W=w.alloc (.cells #[.int .i64 x0,.int .i64 x1,.int .i64 x2,.int .i64 x3,.int .i64 x4,.int .i64 x5,.int .i64 x6,.int .i64 x7] 116):=⟨_,rfl⟩
 have hb0:Below w.heap.size w W:=by rw[hW];exact za (blr _ _) _
 have hbx:Blk W w.heap.size 116 .i64 [x0,x1,x2,x3,x4,x5,x6,x7]:=by rw[hW];exact Blk.new w _ _ [x0,x1,x2,x3,x4,x5,x6,x7]
 have y0:W.cell? ⟨w.heap.size,0,none⟩=some (.int .i64 x0):=hbx.cell (j:=0) (by simp)
 have y1:W.cell? ⟨w.heap.size,1,none⟩=some (.int .i64 x1):=hbx.cell (j:=1) (by simp)
 have y2:W.cell? ⟨w.heap.size,2,none⟩=some (.int .i64 x2):=hbx.cell (j:=2) (by simp)
 have y3:W.cell? ⟨w.heap.size,3,none⟩=some (.int .i64 x3):=hbx.cell (j:=3) (by simp)
 have y4:W.cell? ⟨w.heap.size,4,none⟩=some (.int .i64 x4):=hbx.cell (j:=4) (by simp)
 have y5:W.cell? ⟨w.heap.size,5,none⟩=some (.int .i64 x5):=hbx.cell (j:=5) (by simp)
 have y6:W.cell? ⟨w.heap.size,6,none⟩=some (.int .i64 x6):=hbx.cell (j:=6) (by simp)
 have y7:W.cell? ⟨w.heap.size,7,none⟩=some (.int .i64 x7):=hbx.cell (j:=7) (by simp)
 have hix0:∀w,(Instr.index 116 (.agg #[.int .i64 x0,.int .i64 x1,.int .i64 x2,.int .i64 x3,.int .i64 x4,.int .i64 x5,.int .i64 x6,.int .i64 x7]) (.int .i64 0)).run Tryz.prog w=.ok (.int .i64 x0) w:=fun w=>by simp[Instr.index,run_underlying Tryz.underlying116,asIntOf,go_sem]
 have hix1:∀w,(Instr.index 116 (.agg #[.int .i64 x0,.int .i64 x1,.int .i64 x2,.int .i64 x3,.int .i64 x4,.int .i64 x5,.int .i64 x6,.int .i64 x7]) (.int .i64 1)).run Tryz.prog w=.ok (.int .i64 x1) w:=fun w=>by simp[Instr.index,run_underlying Tryz.underlying116,asIntOf,go_sem]
 have hix2:∀w,(Instr.index 116 (.agg #[.int .i64 x0,.int .i64 x1,.int .i64 x2,.int .i64 x3,.int .i64 x4,.int .i64 x5,.int .i64 x6,.int .i64 x7]) (.int .i64 2)).run Tryz.prog w=.ok (.int .i64 x2) w:=fun w=>by simp[Instr.index,run_underlying Tryz.underlying116,asIntOf,go_sem]
 have hix3:∀w,(Instr.index 116 (.agg #[.int .i64 x0,.int .i64 x1,.int .i64 x2,.int .i64 x3,.int .i64 x4,.int .i64 x5,.int .i64 x6,.int .i64 x7]) (.int .i64 3)).run Tryz.prog w=.ok (.int .i64 x3) w:=fun w=>by simp[Instr.index,run_underlying Tryz.underlying116,asIntOf,go_sem]
 have hix4:∀w,(Instr.index 116 (.agg #[.int .i64 x0,.int .i64 x1,.int .i64 x2,.int .i64 x3,.int .i64 x4,.int .i64 x5,.int .i64 x6,.int .i64 x7]) (.int .i64 4)).run Tryz.prog w=.ok (.int .i64 x4) w:=fun w=>by simp[Instr.index,run_underlying Tryz.underlying116,asIntOf,go_sem]
 have hix5:∀w,(Instr.index 116 (.agg #[.int .i64 x0,.int .i64 x1,.int .i64 x2,.int .i64 x3,.int .i64 x4,.int .i64 x5,.int .i64 x6,.int .i64 x7]) (.int .i64 5)).run Tryz.prog w=.ok (.int .i64 x5) w:=fun w=>by simp[Instr.index,run_underlying Tryz.underlying116,asIntOf,go_sem]
 have hix6:∀w,(Instr.index 116 (.agg #[.int .i64 x0,.int .i64 x1,.int .i64 x2,.int .i64 x3,.int .i64 x4,.int .i64 x5,.int .i64 x6,.int .i64 x7]) (.int .i64 6)).run Tryz.prog w=.ok (.int .i64 x6) w:=fun w=>by simp[Instr.index,run_underlying Tryz.underlying116,asIntOf,go_sem]
 have hix7:∀w,(Instr.index 116 (.agg #[.int .i64 x0,.int .i64 x1,.int .i64 x2,.int .i64 x3,.int .i64 x4,.int .i64 x5,.int .i64 x6,.int .i64 x7]) (.int .i64 7)).run Tryz.prog w=.ok (.int .i64 x7) w:=fun w=>by simp[Instr.index,run_underlying Tryz.underlying116,asIntOf,go_sem]
 have H0:=hide hb0
 have HL:=hide hW
 have hz:=hbx.lt
 clear hb0 hW hbx
 go_enter Tryz.func87,Tryz.ntmps87
 go_upto_region 2 with fail
 rw[<-HL.out]
 go_wp2_with fail
 go_loopw [7,3] (fun s7 s3 wr=>∃i:Int,(0<=i/\i<=8)/\s7=.int .i64 i/\s3=.int .i64 ([x0,x1,x2,x3,x4,x5,x6,x7].take i.toNat).sum/\Below w.heap.size w wr) (fun s7 _ _=>8-(intOf s7).toNat)
 case atStart=>exact⟨0,by omega,rfl,rfl,H0.out⟩
 case round=>
  obtain⟨i,hi,rfl,rfl,hbel⟩:=hrel
  have HB:=hide hbel
  clear hbel
  rcases (show i=0\/i=1\/i=2\/i=3\/i=4\/i=5\/i=6\/i=7\/i=8 by omega) with rfl|rfl|rfl|rfl|rfl|rfl|rfl|rfl|rfl
  ·rw[show ([x0,x1,x2,x3,x4,x5,x6,x7].take (0:Int).toNat).sum=0 by simp <;> omega]
   go_wp2
   case roundEnd=>exact⟨⟨1,by omega,rfl,by rw[show ([x0,x1,x2,x3,x4,x5,x6,x7].take (1:Int).toNat).sum=x0 by simp <;> omega],HB.out⟩,by simp[intOf]⟩
  ·rw[show ([x0,x1,x2,x3,x4,x5,x6,x7].take (1:Int).toNat).sum=x0 by simp <;> omega]
   go_wp2
   case roundEnd=>exact⟨⟨2,by omega,rfl,by rw[show ([x0,x1,x2,x3,x4,x5,x6,x7].take (2:Int).toNat).sum=x0+x1 by simp <;> omega],HB.out⟩,by simp[intOf]⟩
  ·rw[show ([x0,x1,x2,x3,x4,x5,x6,x7].take (2:Int).toNat).sum=x0+x1 by simp <;> omega]
   go_wp2
   case roundEnd=>exact⟨⟨3,by omega,rfl,by rw[show ([x0,x1,x2,x3,x4,x5,x6,x7].take (3:Int).toNat).sum=x0+x1+x2 by simp <;> omega],HB.out⟩,by simp[intOf]⟩
  ·rw[show ([x0,x1,x2,x3,x4,x5,x6,x7].take (3:Int).toNat).sum=x0+x1+x2 by simp <;> omega]
   go_wp2
   case roundEnd=>exact⟨⟨4,by omega,rfl,by rw[show ([x0,x1,x2,x3,x4,x5,x6,x7].take (4:Int).toNat).sum=x0+x1+x2+x3 by simp <;> omega],HB.out⟩,by simp[intOf]⟩
  ·rw[show ([x0,x1,x2,x3,x4,x5,x6,x7].take (4:Int).toNat).sum=x0+x1+x2+x3 by simp <;> omega]
   go_wp2
   case roundEnd=>exact⟨⟨5,by omega,rfl,by rw[show ([x0,x1,x2,x3,x4,x5,x6,x7].take (5:Int).toNat).sum=x0+x1+x2+x3+x4 by simp <;> omega],HB.out⟩,by simp[intOf]⟩
  ·rw[show ([x0,x1,x2,x3,x4,x5,x6,x7].take (5:Int).toNat).sum=x0+x1+x2+x3+x4 by simp <;> omega]
   go_wp2
   case roundEnd=>exact⟨⟨6,by omega,rfl,by rw[show ([x0,x1,x2,x3,x4,x5,x6,x7].take (6:Int).toNat).sum=x0+x1+x2+x3+x4+x5 by simp <;> omega],HB.out⟩,by simp[intOf]⟩
  ·rw[show ([x0,x1,x2,x3,x4,x5,x6,x7].take (6:Int).toNat).sum=x0+x1+x2+x3+x4+x5 by simp <;> omega]
   go_wp2
   case roundEnd=>exact⟨⟨7,by omega,rfl,by rw[show ([x0,x1,x2,x3,x4,x5,x6,x7].take (7:Int).toNat).sum=x0+x1+x2+x3+x4+x5+x6 by simp <;> omega],HB.out⟩,by simp[intOf]⟩
  ·rw[show ([x0,x1,x2,x3,x4,x5,x6,x7].take (7:Int).toNat).sum=x0+x1+x2+x3+x4+x5+x6 by simp <;> omega]
   go_wp2
   case roundEnd=>exact⟨⟨8,by omega,rfl,by rw[show ([x0,x1,x2,x3,x4,x5,x6,x7].take (8:Int).toNat).sum=x0+x1+x2+x3+x4+x5+x6+x7 by simp <;> omega],HB.out⟩,by simp[intOf]⟩
  ·rw[show ([x0,x1,x2,x3,x4,x5,x6,x7].take (8:Int).toNat).sum=x0+x1+x2+x3+x4+x5+x6+x7 by simp <;> omega]
   go_wp2
   refine bodyPost_ret (v:=.int .i64 [x0,x1,x2,x3,x4,x5,x6,x7].sum) ?_ rfl ⟨_,rfl,rfl,HB.out⟩
   have e:[x0,x1,x2,x3,x4,x5,x6,x7].sum=x0+x1+x2+x3+x4+x5+x6+x7:=by simp <;> omega
   rw[e]
   simp[results,Tryz.results87,go_sem]
def stI (ks:List Int) (i:Nat):List Int:=(List.range 8).map fun j=>if j<i then ks.getD j 0 else 0
def stOf (ks:List Int):List Int:=(List.range 8).map fun j=>ks.getD j 0
theorem zbV (ks:List Int) (i:Nat):(stI ks i).length=8:=by simp[stI]
theorem zda (ks:List Int):(stOf ks).length=8:=by simp[stOf]
theorem zfG (ks:List Int) (i j:Nat) (hj:j<8):(stI ks i).getD j 0=if j<i then ks.getD j 0 else 0:=by unfold stI;simp[List.getD,hj]
theorem zlP (ks:List Int) (j:Nat) (hj:j<8):(stOf ks).getD j 0=ks.getD j 0:=by unfold stOf;simp[List.getD,hj]
theorem zhj {a b:List Int} (hl:a.length=b.length) (h:∀i,i<a.length->a.getD i 0=b.getD i 0):a=b:=by
 refine List.ext_getElem hl fun i h1 h2=>?_
 have:=h i h1
 simpa[List.getD,h1,h2] using this
theorem zkB (l:List Int) (i j:Nat) (v:Int) (hi:i<l.length):(l.set i v).getD j 0=if i=j then v else l.getD j 0:=by
 simp only[List.getD,List.getElem?_set]
 by_cases e:i=j
 ·subst e;simp[hi]
 ·simp[e]
theorem zlQ (ks:List Int) (i:Nat) (hi:i<8):(stI ks i).set i (ks.getD i 0)=stI ks (i+1):=by
 refine zhj (by simp[stI]) fun j hj=>?_
 rw[List.length_set,zbV] at hj
 rw[zkB _ _ _ _ (by rw[zbV];exact hi),zfG ks i j hj,zfG ks (i+1) j hj]
 by_cases e:i=j
 ·subst e;rw[if_pos rfl,if_pos (by omega)]
 ·rw[if_neg e]
  by_cases h:j<i
  ·rw[if_pos h,if_pos (by omega)]
  ·rw[if_neg h,if_neg (by omega)]
theorem zm4 (ks:List Int):stI ks ks.length=stOf ks:=by
 refine zhj (by rw[zbV,zda]) fun j hj=>?_
 rw[zbV] at hj
 rw[zfG ks _ j hj,zlP ks j hj]
 by_cases h:j<ks.length
 ·rw[if_pos h]
 ·rw[if_neg h];simp[List.getD,show ks[j]?=none from List.getElem?_eq_none (by omega)]
theorem zcs (ks:List Int) (i:Nat) (hi:i<ks.length):(ks.take (i+1)).sum=(ks.take i).sum+ks.getD i 0:=by
 rw[List.take_succ_eq_append_getElem hi,List.sum_append]
 simp[List.getD,hi]
theorem zhk {ks:List Int} (h:∀x∈ks,0<=x):0<=ks.sum:=by
 induction ks with
 | nil=>simp
 | cons a l ih=>
  rw[List.sum_cons]
  have:=h a (by simp)
  have:=ih (fun x hx=>h x (by simp[hx]))
  omega
theorem zce {ks:List Int} (h:∀x∈ks,0<=x) (i:Nat):0<=(ks.take i).sum/\(ks.take i).sum<=ks.sum:=by
 have h1:=zhk (ks:=ks.take i) (fun x hx=>h x (List.mem_of_mem_take hx))
 have h2:=zhk (ks:=ks.drop i) (fun x hx=>h x (List.mem_of_mem_drop hx))
 have h3:ks.sum=(ks.take i).sum+(ks.drop i).sum:=by rw[<-List.sum_append,List.take_append_drop]
 omega
set_option maxHeartbeats 4000000 in
theorem zkC (w:World) (gx L c:Nat) (A:Option Addr) (most:Int) (ks:List Int) (R V Ld:List Rat) (Ws:List (List Rat)) (hx:zbf w gx R Ws V Ld L) (hk:Arr w A .i64 ks) (hc:ks.length<=c) (hm:c<=maxLen) (hl:ks.length=R.length) (h8:R.length<=8) (h0:∀x∈ks,0<=x) (hs:ks.sum<=most) (hmost:most<=12):
  Calls Tryz.prog 82 #[.pointer (some ⟨gx,0,none⟩),.slice A ks.length c,.int .i64 most] w (Ret (fun v w'=>v=.tuple #[stV (stOf ks),.int .i64 0]/\Below w.heap.size w w')):=by
 obtain⟨va,vb,vc,vd,hbox,hvR,-,-,-⟩:=hx.box
 obtain⟨AR,cR,rfl,-,-,-⟩:=id hvR
 have hl':=hide hl
 unfold maxLen at hm
 obtain⟨W,hW⟩:∃W,W=(w.alloc (.cells #[.int .i64 0,.int .i64 0,.int .i64 0,.int .i64 0,.int .i64 0,.int .i64 0,.int .i64 0,.int .i64 0] 116)).alloc (.cells #[.int .i64 0,.int .i64 0,.int .i64 0,.int .i64 0,.int .i64 0,.int .i64 0,.int .i64 0,.int .i64 0] 116):=⟨_,rfl⟩
 have hb0:Below w.heap.size w W:=by rw[hW];exact za (za (blr _ _) _) _
 have hbr:Blk W w.heap.size 116 .i64 [0,0,0,0,0,0,0,0]:=by rw[hW];exact(Blk.new w 116 .i64 [0,0,0,0,0,0,0,0]).keep (za (blr _ _) _)
 have hbs:Blk W (w.heap.size+1) 116 .i64 (stI ks 0):=by
  have h1:=Blk.new (w.alloc (.cells #[.int .i64 0,.int .i64 0,.int .i64 0,.int .i64 0,.int .i64 0,.int .i64 0,.int .i64 0,.int .i64 0] 116)) 116 .i64 [0,0,0,0,0,0,0,0]
  rw[show (w.alloc (.cells #[.int .i64 0,.int .i64 0,.int .i64 0,.int .i64 0,.int .i64 0,.int .i64 0,.int .i64 0,.int .i64 0] 116)).heap.size=w.heap.size+1 by simp] at h1
  rw[hW];exact h1
 obtain⟨y0,y1,y2,y3,-⟩:=zq hbox
 have hgl:=lt_of_block hbox
 have H0:=hide (ai hb0 (ai hbr (ai hbs (ai hk h0))))
 have HL:=hide hW
 have i0:((ks.length:Int) != (R.length:Int))=false:=by rw[hl];simp
 clear hx hbox hvR hb0 hbr hbs hW hk hl
 go_enter Tryz.func82,Tryz.ntmps82
 go_upto_region 4 with fail
 rw[<-HL.out]
 go_wp2_with fail
 go_loopw [24,9] (fun s24 s9 wr=>∃i:Nat,i<=ks.length/\s24=.int .i64 i/\s9=.int .i64 (ks.take i).sum/\Blk wr (w.heap.size+1) 116 .i64 (stI ks i)/\Blk wr w.heap.size 116 .i64 [0,0,0,0,0,0,0,0]/\Below w.heap.size w wr) (fun s24 _ _=>ks.length-(intOf s24).toNat)
 case atStart=>exact⟨0,Nat.zero_le _,rfl,rfl,H0.out.2.2.1,H0.out.2.1,H0.out.1⟩
 case round=>
  obtain⟨i,hi,rfl,rfl,hbs,hbr,hbel⟩:=hrel
  by_cases hlt:i<ks.length
  ·have h8':=hl'.out
   obtain⟨bl,ol,rfl,-,hcl⟩:=(H0.out.2.2.2.1.below hbel).at_ (by omega)
   have z0:=hcl i hlt
   have z1:=hbs.cell (j:=i) (by rw[zbV];omega)
   have f1:=hbs.frozen i
   have hz:=hbs.lt
   have s1:=zce H0.out.2.2.2.2 i
   have s2:=zce H0.out.2.2.2.2 (i+1)
   have s3:=zcs ks i hlt
   have s4:0<=ks.getD i 0:=H0.out.2.2.2.2 _ (by simp[List.getD,hlt])
   generalize hx:ks.getD i 0=x at *
   generalize hn:(ks.take i).sum=n at *
   have i1:(i:Int)<(ks.length:Int):=by omega
   have i2:¬(x<0):=by omega
   have i3:¬(most<x):=by omega
   have i4:¬(most<n+x):=by omega
   have i5:IntKind.i64.wrap (n+x)=n+x:=IntWalk.i64_in _ (by omega)
   have i6:(i:Int)<8:=by omega
   have HI:=hide (ai hbs (ai hbr hbel))
   have HS:=hide s3
   have HX:=hide hx
   clear hbs hbr hbel hcl s1 s2 s3 hx hn h8'
   go_wp2
   case roundEnd=>
    obtain⟨hbs,hbr,hbel⟩:=HI.out
    have t1:=hbs.set_ i x
    rw[<-HX.out,zlQ ks i (by omega)] at t1
    have o1:=zu wr (w.heap.size+1) i (.int .i64 x)
    refine⟨⟨i+1,by omega,by go_num,by rw[HS.out],?_,?_,?_⟩,by simp[intOf];omega⟩
    ·rw[<-HX.out];exact t1
    ·exact hbr.only o1 (by omega)
    ·exact hbel.setCell (show w.heap.size<=w.heap.size+1 by omega) _
  ·obtain rfl:i=ks.length:=by omega
   rw[zm4] at hbs
   have HI:=hide (ai hbel True.intro)
   obtain⟨z0,z1,z2,z3,z4,z5,z6,z7,hz⟩:=eight (zda ks)
   rw[hz] at hbs
   have hst:stV (stOf ks)=Value.agg #[.int .i64 z0,.int .i64 z1,.int .i64 z2,.int .i64 z3,.int .i64 z4,.int .i64 z5,.int .i64 z6,.int .i64 z7]:=by rw[hz];rfl
   have k0:wr.cell? ⟨w.heap.size+1,0,none⟩=some (.int .i64 z0):=hbs.cell (j:=0) (by simp)
   have u0:wr.cell? ⟨w.heap.size,0,none⟩=some (.int .i64 0):=hbr.cell (j:=0) (by simp)
   have f0:=hbr.frozen 0
   have k1:wr.cell? ⟨w.heap.size+1,1,none⟩=some (.int .i64 z1):=hbs.cell (j:=1) (by simp)
   have u1:wr.cell? ⟨w.heap.size,1,none⟩=some (.int .i64 0):=hbr.cell (j:=1) (by simp)
   have f1:=hbr.frozen 1
   have k2:wr.cell? ⟨w.heap.size+1,2,none⟩=some (.int .i64 z2):=hbs.cell (j:=2) (by simp)
   have u2:wr.cell? ⟨w.heap.size,2,none⟩=some (.int .i64 0):=hbr.cell (j:=2) (by simp)
   have f2:=hbr.frozen 2
   have k3:wr.cell? ⟨w.heap.size+1,3,none⟩=some (.int .i64 z3):=hbs.cell (j:=3) (by simp)
   have u3:wr.cell? ⟨w.heap.size,3,none⟩=some (.int .i64 0):=hbr.cell (j:=3) (by simp)
   have f3:=hbr.frozen 3
   have k4:wr.cell? ⟨w.heap.size+1,4,none⟩=some (.int .i64 z4):=hbs.cell (j:=4) (by simp)
   have u4:wr.cell? ⟨w.heap.size,4,none⟩=some (.int .i64 0):=hbr.cell (j:=4) (by simp)
   have f4:=hbr.frozen 4
   have k5:wr.cell? ⟨w.heap.size+1,5,none⟩=some (.int .i64 z5):=hbs.cell (j:=5) (by simp)
   have u5:wr.cell? ⟨w.heap.size,5,none⟩=some (.int .i64 0):=hbr.cell (j:=5) (by simp)
   have f5:=hbr.frozen 5
   have k6:wr.cell? ⟨w.heap.size+1,6,none⟩=some (.int .i64 z6):=hbs.cell (j:=6) (by simp)
   have u6:wr.cell? ⟨w.heap.size,6,none⟩=some (.int .i64 0):=hbr.cell (j:=6) (by simp)
   have f6:=hbr.frozen 6
   have k7:wr.cell? ⟨w.heap.size+1,7,none⟩=some (.int .i64 z7):=hbs.cell (j:=7) (by simp)
   have u7:wr.cell? ⟨w.heap.size,7,none⟩=some (.int .i64 0):=hbr.cell (j:=7) (by simp)
   have f7:=hbr.frozen 7
   have hlr:=hbr.lt
   have HST:=hide hst
   clear hbs hbr hbel hz hst
   go_wp2
   refine bodyPost_ret (v:=.tuple #[.agg #[.int .i64 z0,.int .i64 z1,.int .i64 z2,.int .i64 z3,.int .i64 z4,.int .i64 z5,.int .i64 z6,.int .i64 z7],.int .i64 0]) ?_ rfl ⟨_,rfl,by rw[HST.out],?_⟩
   ·simp[results,Tryz.results82,go_sem,u0,u1,u2,u3,u4,u5,u6,u7,hlr]
   ·exact((((((((HI.out.1.setCell (nr _) _).setCell (nr _) _).setCell (nr _) _).setCell (nr _) _).setCell (nr _) _).setCell (nr _) _).setCell (nr _) _).setCell (nr _) _)
end Go.Proofs.YtpoahodnakhmiaaGreat
