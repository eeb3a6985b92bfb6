import Derived.Test.YtpoahodnakhmiaaGreatQChance
import Derived.Test.YtpoahodnakhmiaaGreatTameW
import Derived.Test.YtpoahodnakhmiaaGreatRefO
set_option maxRecDepth 100000
namespace Go.Proofs.YtpoahodnakhmiaaGreat
set_option linter.unusedVariables false
set_option linter.unusedSimpArgs false
theorem zD.shopG {n:Nat} {a b:Nat->Nat} {c:Nat->Nat->Nat} (h:zD n a b c):zW n (tR n a b) (tW n c) where
 ok:=h.openOK 3000 (by omega) (by omega)
 len:=h.loads_len
 vlen:=by rw[h.visE,zbF n _ h.pos]
 ld:=h.ldOK.congr (fun i hi=>h.loads_get i hi)
 rf i hi:=by rw[zdV n a b i hi];exact(h.rate_fit i).more (by omega)
def aA (i:Nat):Nat:=if i=0 then 1 else 2
def bA (_:Nat):Nat:=1
def cA (i j:Nat):Nat:=if i=j then 0 else 1
theorem tameA:zD 2 aA bA cA where
 pos:=by omega
 n6:=by omega
 ra i:=by unfold aA;split <;> omega
 rb i:=by unfold bA;omega
 cw i j _ _:=by unfold cA;split <;> omega
 next i hi:=by
  rcases (show i=0\/i=1 by omega) with e|e <;> subst e <;> decide
theorem zjU:rateT aA bA 0=1:=by decide +kernel
theorem zjV:rateT aA bA 1=2:=by decide +kernel
theorem tRA:tR 2 aA bA=[1,2]:=by
 show [rateT aA bA 0,rateT aA bA 1]=[1,2]
 rw[zjU,zjV]
theorem wayA (i j:Nat) (hi:i<2) (hj:j<2):wayT 2 cA i j=if i=j then 0 else 1:=by
 rcases (show i=0\/i=1 by omega) with e|e <;> subst e <;> rcases (show j=0\/j=1 by omega) with e|e <;> subst e <;> decide +kernel
theorem tWA:tW 2 cA=[[0,1],[1,0]]:=by
 show [[wayT 2 cA 0 0,wayT 2 cA 0 1],[wayT 2 cA 1 0,wayT 2 cA 1 1]]=_
 rw[wayA 0 0 (by omega) (by omega),wayA 0 1 (by omega) (by omega),wayA 1 0 (by omega) (by omega),wayA 1 1 (by omega) (by omega)]
 rfl
theorem visA:(visV 2 (wayT 2 cA)).getD 0 0=1/\(visV 2 (wayT 2 cA)).getD 1 0=1:=by
 obtain⟨h1,h2⟩:=tameA.ring.sol tameA.sys
 refine⟨h2,?_⟩
 have h3:=h1 1 (by omega)
 simp only[sumN] at h3
 rw[wayA 0 1 (by omega) (by omega),wayA 1 1 (by omega) (by omega),h2] at h3
 rw[h3,if_neg (by omega),if_pos rfl];grind
theorem ldA0:ldF 2 [1,2] [[0,1],[1,0]] 0=1:=by
 have h:=tameA.loads_get 0 (by omega)
 rw[tRA,tWA] at h
 show (loadsV _ _).getD 0 0=_
 rw[h,zD.load,visA.1,zjU];decide +kernel
theorem ldA1:ldF 2 [1,2] [[0,1],[1,0]] 1=1 / 2:=by
 have h:=tameA.loads_get 1 (by omega)
 rw[tRA,tWA] at h
 show (loadsV _ _).getD 1 0=_
 rw[h,zD.load,visA.2,zjV]
theorem shopA:zW 2 [1,2] [[0,1],[1,0]]:=by
 have h:=tameA.shopG
 rwa[tRA,tWA] at h
theorem gA1:gN (ldF 2 [1,2] [[0,1],[1,0]]) 2 1=3 / 2:=by
 simp only[zay,zae,zbs,ldA0,ldA1];decide +kernel
theorem gA2:gN (ldF 2 [1,2] [[0,1],[1,0]]) 2 2=7 / 4:=by
 simp only[zay,zae,zbs,ldA0,ldA1];decide +kernel
theorem stA:stOf [1,1]=[1,1,0,0,0,0,0,0]:=by decide
theorem chA:chQ (ldF 2 [1,2] [[0,1],[1,0]]) 2 (stOf [1,1])=2 / 7:=by
 rw[stA]
 unfold chQ
 rw[show (([1,1,0,0,0,0,0,0]:List Int).sum).toNat=2 from rfl,gA2,zb4,zb4]
 show 1*(powN (ldF 2 [1,2] [[0,1],[1,0]] 0) 1)*(powN (ldF 2 [1,2] [[0,1],[1,0]] 1) 1) / (7 / 4)=2 / 7
 rw[ldA0,ldA1];decide +kernel
theorem spA:spQ 2 [1,2] [[0,1],[1,0]] 0 2=6 / 7:=by
 unfold spQ atQ
 rw[if_neg (by omega),if_neg (by omega),show ((2:Int)-1).toNat=1 from rfl,show (2:Int).toNat=2 from rfl,show (1:Int).toNat=1 from rfl,gA1,gA2,ldA0]
 decide +kernel
theorem znz:str (ratText (7 / 4))=ByteArray.mk #[55,47,52]:=by decide +kernel
theorem znA:str (ratText (2 / 7))=ByteArray.mk #[50,47,55]:=by decide +kernel
theorem znB:str (ratText (6 / 7))=ByteArray.mk #[54,47,55]:=by decide +kernel
open Go.RowKit
set_option maxHeartbeats 4000000 in
theorem zmM (w:World):
  Calls Tryz.prog 25 #[] w (Ret (fun v w'=>v=.bool true/\Below w.heap.size w w')):=by
 go_enter Tryz.func25,Tryz.ntmps25
 go_wp2_with fail
 refine(zcu _ 1 (by omega) (by omega)).mono ?_
 rintro e w1 ⟨v1,rfl,hr1,hd1⟩
 replace hr1:RatV w1 v1 1 3000:=hr1.more (by omega)
 obtain⟨s1,A1,n1,c1,B1,m1,d1,rfl⟩:=hr1.shape
 have H1:=hide (ai hr1 hd1)
 clear hr1 hd1
 go_wp2_with fail
 refine(zcu _ 2 (by omega) (by omega)).mono ?_
 rintro e w2 ⟨v2,rfl,hr2,hd2⟩
 replace hr2:RatV w2 v2 2 3000:=hr2.more (by omega)
 obtain⟨s2,A2,n2,c2,B2,m2,d2,rfl⟩:=hr2.shape
 obtain⟨W,hW⟩:∃W,W=(w2.alloc (.cells #[.bool s1,.slice A1 n1 c1,.slice B1 m1 d1] 43)).alloc (.cells #[.bool s2,.slice A2 n2 c2,.slice B2 m2 d2] 43):=⟨_,rfl⟩
 have hbW:Below w2.heap.size w2 W:=by rw[hW];exact za (za (blr _ _) _) _
 have hx1:W.heap[w2.heap.size]?=some (.cells #[.bool s1,.slice A1 n1 c1,.slice B1 m1 d1] 43):=by rw[hW];exact at_later (zj w2 _) (za (blr _ _) _)
 have hx2:W.heap[w2.heap.size+1]?=some (.cells #[.bool s2,.slice A2 n2 c2,.slice B2 m2 d2] 43):=by rw[hW];exact zu _ (by simp)
 obtain⟨x0,x1,x2⟩:=zk hx1
 obtain⟨y0,y1,y2⟩:=zk hx2
 have hq1:=(H1.out.1.below hd2).below hbW
 have hq2:=hr2.below hbW
 have hq0:RatV W (.agg #[.bool false,.slice none 0 0,.slice none 0 0]) 0 3000:=⟨_,_,rfl,NatV.nil _ _,NatV.nil _ _⟩
 have hbw:=bnx (bnx H1.out.2 hd2) hbW
 obtain⟨D1,hD1⟩:∃D1,D1=W.alloc (.cells #[.bool s1,.slice A1 n1 c1,.slice B1 m1 d1,.bool s2,.slice A2 n2 c2,.slice B2 m2 d2] 43):=⟨_,rfl⟩
 obtain⟨D2,hD2⟩:∃D2,D2=D1.alloc (.cells #[.bool false,.slice none 0 0,.slice none 0 0,.bool s1,.slice A1 n1 c1,.slice B1 m1 d1] 43):=⟨_,rfl⟩
 obtain⟨D3,hD3⟩:∃D3,D3=D2.alloc (.cells #[.bool s1,.slice A1 n1 c1,.slice B1 m1 d1,.bool false,.slice none 0 0,.slice none 0 0] 43):=⟨_,rfl⟩
 have hW1:Below W.heap.size W D1:=by rw[hD1];exact za (blr _ _) _
 have hW2:Below D1.heap.size D1 D2:=by rw[hD2];exact za (blr _ _) _
 have hW3:Below D2.heap.size D2 D3:=by rw[hD3];exact za (blr _ _) _
 have hR1:RowV D1 (.slice (some ⟨W.heap.size,0,none⟩) 2 2) [1,2] 3000:=by rw[hD1];exact zbj hq1 hq2
 have hR2:RowV D2 (.slice (some ⟨D1.heap.size,0,none⟩) 2 2) [0,1] 3000:=by rw[hD2];exact zbj (hq0.below hW1) (hq1.below hW1)
 have hR3:RowV D3 (.slice (some ⟨D2.heap.size,0,none⟩) 2 2) [1,0] 3000:=by rw[hD3];exact zbj (hq1.below (bnx hW1 hW2)) (hq0.below (bnx hW1 hW2))
 have hsD1:D1.heap.size=W.heap.size+1:=by rw[hD1];simp
 have hsD2:D2.heap.size=W.heap.size+2:=by rw[hD2];simp;omega
 have hsD3:D3.heap.size=W.heap.size+3:=by rw[hD3];simp;omega
 obtain⟨D4,hD4⟩:∃D4,D4=D3.alloc (.cells #[.slice (some ⟨D1.heap.size,0,none⟩) 2 2,.slice (some ⟨D2.heap.size,0,none⟩) 2 2] 30):=⟨_,rfl⟩
 have hW4:Below D3.heap.size D3 D4:=by rw[hD4];exact za (blr _ _) _
 have hx4:D4.heap[D3.heap.size]?=some (.cells #[.slice (some ⟨D1.heap.size,0,none⟩) 2 2,.slice (some ⟨D2.heap.size,0,none⟩) 2 2] 30):=by rw[hD4];exact zj _ _
 have hRs:RowsV D4 (.slice (some ⟨D3.heap.size,0,none⟩) 2 2) [[0,1],[1,0]] 3000:=by
  refine⟨_,2,rfl,nr _,by simp[maxLen],fun _=>⟨_,0,rfl,fun i hi=>?_⟩⟩
  obtain⟨z0,z1,-,-⟩:=ze hx4
  rcases (show i=0\/i=1 by simp at hi;omega) with e|e <;> subst e
  ·exact⟨_,z0,(hR2.below hW3).below hW4⟩
  ·exact⟨_,z1,hR3.below hW4⟩
 obtain⟨D5,hD5⟩:∃D5,D5=D4.alloc (.cells #[.slice (some ⟨W.heap.size,0,none⟩) 2 2,.slice (some ⟨D3.heap.size,0,none⟩) 2 2] 33):=⟨_,rfl⟩
 have hsD4:D4.heap.size=W.heap.size+4:=by rw[hD4];simp;omega
 have hW5:Below D4.heap.size D4 D5:=by rw[hD5];exact za (blr _ _) _
 have hx5:D5.heap[D4.heap.size]?=some (.cells #[.slice (some ⟨W.heap.size,0,none⟩) 2 2,.slice (some ⟨D3.heap.size,0,none⟩) 2 2] 33 (0,0)):=by rw[hD5];exact zj _ _
 have hWD:=bnx (bnx (bnx (bnx hW1 hW2) hW3) hW4) hW5
 have hV:ShopV D5 (.agg #[.slice (some ⟨W.heap.size,0,none⟩) 2 2,.slice (some ⟨D3.heap.size,0,none⟩) 2 2]) [1,2] [[0,1],[1,0]] 3000:=⟨_,_,rfl,(((hR1.below hW2).below hW3).below hW4).below hW5,hRs.below hW5⟩
 have hD:D5=((((W.alloc (.cells #[.bool s1,.slice A1 n1 c1,.slice B1 m1 d1,.bool s2,.slice A2 n2 c2,.slice B2 m2 d2] 43)).alloc (.cells #[.bool false,.slice none 0 0,.slice none 0 0,.bool s1,.slice A1 n1 c1,.slice B1 m1 d1] 43)).alloc (.cells #[.bool s1,.slice A1 n1 c1,.slice B1 m1 d1,.bool false,.slice none 0 0,.slice none 0 0] 43)).alloc (.cells #[.slice (some ⟨W.heap.size+1,0,none⟩) 2 2,.slice (some ⟨W.heap.size+1+1,0,none⟩) 2 2] 30)).alloc (.cells #[.slice (some ⟨W.heap.size,0,none⟩) 2 2,.slice (some ⟨W.heap.size+1+1+1,0,none⟩) 2 2] 33):=by
  rw[hD5,hD4,hsD3,hsD2,hsD1,hD3,hD2,hD1]
 rw[hsD3] at hV hx5
 rw[hsD4] at hx5
 have hV':ShopV D5 (.agg #[.slice (some ⟨W.heap.size,0,none⟩) 2 2,.slice (some ⟨W.heap.size+1+1+1,0,none⟩) 2 2]) [1,2] [[0,1],[1,0]] 3000:=hV
 have hx5':D5.heap[W.heap.size+1+1+1+1]?=some (.cells #[.slice (some ⟨W.heap.size,0,none⟩) 2 2,.slice (some ⟨W.heap.size+1+1+1,0,none⟩) 2 2] 33 (0,0)):=hx5
 have hsW:=lt_of_block hx2
 have hsW0:w2.heap.size<W.heap.size:=by omega
 have hsW1:w2.heap.size<W.heap.size+1:=by omega
 have hsW2:w2.heap.size<W.heap.size+1+1:=by omega
 have H5:=hide (ai hV' (ai hx5' (bnx hbw hWD)))
 have HL:=hide hW
 have HD:=hide hD
 clear hr2 hd2 hbW hx1 hx2 hq1 hq2 hq0 hbw hD1 hD2 hD3 hD4 hD5 hW1 hW2 hW3 hW4 hW5 hR1 hR2 hR3 hRs hx4 hx5 hWD hV hD hsD1 hsD2 hsD3 hsD4 hW hV' hx5'
 go_upto_region 2 with fail
 rw[<-HL.out]
 go_upto_region 3 with fail
 rw[<-HD.out]
 clear x0 x1 x2 y0 y1 y2 HD HL hsW1 hsW2 D1 D2 D3 D4
 obtain⟨x0,x1,-,-⟩:=ze H5.out.2.1
 have hl5:=lt_of_block H5.out.2.1
 go_wp2_with fail
 refine(zeo D5 _ 2 2 [1,2] [[0,1],[1,0]] H5.out.1 shopA (by omega)).mono ?_
 rintro e w6 ⟨_,rfl,r6,rfl,hr6,hd6⟩
 obtain⟨Ag,cg,rfl,hcg,hmg,-⟩:=id hr6
 obtain⟨-,-,-,hcg1⟩:=hr6.at_
 rw[zaK] at hcg hcg1 ⊢
 obtain⟨bg,og,rfl,hcg2⟩:=hcg1 (by omega)
 obtain⟨s3,A3,n3,c3,B3,m3,d3,g0,g1,g2,hq3⟩:=(hcg2 2 (by omega)).rat
 rw[zcC _ _ _ _ (by omega),gA2] at hq3
 unfold maxLen at hmg
 have hx6:=at_later H5.out.2.1 hd6
 have H6:=hide (ai (H5.out.1.below hd6) (ai hx6 (ai (bnx H5.out.2.2 hd6) hq3)))
 clear x0 x1 hl5
 obtain⟨x0,x1,-,-⟩:=ze hx6
 have hl6:=lt_of_block hx6
 have hk7:Arr (w6.alloc (.cells #[.int .i64 1,.int .i64 1] 3)) (some ⟨w6.heap.size,0,none⟩) .i64 [1,1]:=Arr.new rfl
 have hb7:Below w6.heap.size w6 (w6.alloc (.cells #[.int .i64 1,.int .i64 1] 3)):=za (blr _ _) _
 have HK:=hide (ai hk7 hb7)
 clear hr6 hd6 hcg1 hcg2 hq3 hx6 hk7 hb7
 go_wp2_with fail
 refine(zg3 _ _ 2 2 (some ⟨w6.heap.size,0,none⟩) [1,1] [1,2] [[0,1],[1,0]] (H6.out.1.below HK.out.2) shopA HK.out.1 (by simp) (by simp[maxLen]) rfl (by simp) (by simp)).mono ?_
 rintro e w7 ⟨_,rfl,r7,rfl,hr7,hd7⟩
 rw[chA] at hr7
 obtain⟨s4,A4,n4,c4,B4,m4,d4,rfl⟩:=hr7.shape
 obtain⟨W8,hW8⟩:∃W8,W8=w7.alloc (.cells #[.bool s4,.slice A4 n4 c4,.slice B4 m4 d4] 43):=⟨_,rfl⟩
 have hb8:Below w7.heap.size w7 W8:=by rw[hW8];exact za (blr _ _) _
 have hx8:W8.heap[w7.heap.size]?=some (.cells #[.bool s4,.slice A4 n4 c4,.slice B4 m4 d4] 43):=by rw[hW8];exact zj _ _
 have hd8:=bnx (bnx HK.out.2 hd7) hb8
 have hx8s:=at_later H6.out.2.1 hd8
 have g0':=(hd8.cell (zf g0)).trans g0
 have g1':=(hd8.cell (zf g1)).trans g1
 have g2':=(hd8.cell (zf g2)).trans g2
 have H8:=hide (ai (H6.out.1.below hd8) (ai (bnx H6.out.2.2.1 hd8) (ai (H6.out.2.2.2.below hd8) (ai hx8 (hr7.below hb8)))))
 have HL8:=hide hW8
 clear x0 x1 hl6 g0 g1 g2
 obtain⟨x0,x1,-,-⟩:=ze hx8s
 have hl8:=lt_of_block hx8s
 clear hr7 hd7 hb8 hx8 hd8 hx8s hW8
 go_upto_region 5 with fail
 rw[<-HL8.out]
 go_wp2_with fail
 refine(znb _ _ 2 0 2 [1,2] [[0,1],[1,0]] H8.out.1 shopA (by omega) (by omega) (by omega)).mono ?_
 rintro e w9 ⟨_,rfl,r9,rfl,hr9,hd9⟩
 rw[spA] at hr9
 obtain⟨s5,A5,n5,c5,B5,m5,d5,rfl⟩:=hr9.shape
 obtain⟨W9,hW9⟩:∃W9,W9=w9.alloc (.cells #[.bool s5,.slice A5 n5 c5,.slice B5 m5 d5] 43):=⟨_,rfl⟩
 have hb9:Below w9.heap.size w9 W9:=by rw[hW9];exact za (blr _ _) _
 have hx9:W9.heap[w9.heap.size]?=some (.cells #[.bool s5,.slice A5 n5 c5,.slice B5 m5 d5] 43):=by rw[hW9];exact zj _ _
 have hd10:=bnx hd9 hb9
 have hx8':=at_later H8.out.2.2.2.1 hd10
 have g0:=(hd10.cell (zf g0')).trans g0'
 have g1:=(hd10.cell (zf g1')).trans g1'
 have g2:=(hd10.cell (zf g2')).trans g2'
 have H9:=hide (ai (H8.out.2.2.1.below hd10) (ai (H8.out.2.2.2.2.below hd10) (ai (hr9.below hb9) (ai (bnx H8.out.2.1 hd10) (ai hx8' hx9)))))
 have HL9:=hide hW9
 clear x0 x1 hl8 g0' g1' g2' hr9 hd9 hb9 hx9 hd10 hx8' hW9
 go_upto_region 6 with fail
 rw[<-HL9.out]
 go_wp2_with fail
 refine(za9 _ _ (7 / 4) 3000 H9.out.1 (by omega)).mono ?_
 rintro e w10 ⟨_,rfl,rfl,hd10⟩
 rw[znz]
 have hx8':=at_later H9.out.2.2.2.2.1 hd10
 have hx9':=at_later H9.out.2.2.2.2.2 hd10
 obtain⟨x0,x1,x2⟩:=zk hx8'
 have HA:=hide (ai hd10 (ai hx8' hx9'))
 clear hd10 hx8' hx9' g0 g1 g2
 go_wp2_with fail
 refine(za9 _ _ (2 / 7) 3000 (H9.out.2.1.below HA.out.1) (by omega)).mono ?_
 rintro e w11 ⟨_,rfl,rfl,hd11⟩
 rw[znA]
 obtain⟨y0,y1,y2⟩:=zk (at_later HA.out.2.2 hd11)
 have HB:=hide (bnx HA.out.1 hd11)
 clear hd11 x0 x1 x2
 go_wp2_with fail
 refine(za9 _ _ (6 / 7) 3000 (H9.out.2.2.1.below HB.out) (by omega)).mono ?_
 rintro e w12 ⟨_,rfl,rfl,hd12⟩
 rw[znB]
 have HC:=hide (bnx H9.out.2.2.2.1 (bnx HB.out hd12))
 clear hd12 y0 y1 y2
 go_wp2
 refine bodyPost_ret (v:=.bool true) ?_ rfl ⟨_,rfl,rfl,HC.out⟩
 simp[results,Tryz.results25,go_sem]
def zi5 (w:World) (b o n:Nat) (f:Nat->Rat) (L:Nat):Prop:=∀i,i<n->At3 w b (o+i*3) (f i) L
theorem zi5.below {w w':World} {b o n:Nat} {f:Nat->Rat} {L:Nat} (h:zi5 w b o n f L) (hb:Below w.heap.size w w'):zi5 w' b o n f L:=fun i hi=>(h i hi).below hb
theorem RowV.x {w:World} {A:Option Addr} {n c:Nat} {qs:List Rat} {L:Nat} (h:RowV w (.slice A n c) qs L) (h0:0<qs.length) (f:Nat->Rat) (hf:∀i,i<qs.length->qs.getD i 0=f i):∃b o,A=some ⟨b,o,none⟩/\zi5 w b o qs.length f L:=by
 obtain⟨-,-,-,hc⟩:=h.at_
 obtain⟨b,o,e,hx⟩:=hc h0
 exact⟨b,o,e,fun i hi=>by rw[<-hf i hi];exact hx i hi⟩
def vF (m:Nat) (Ws:List (List Rat)) (i:Nat):Rat:=(visV m (ent Ws)).getD i 0
def zgx (w:World) (b o:Nat) (qs:List Rat) (L:Nat):Prop:=∀i,i<qs.length->∃s A n c B m d,w.cell? ⟨b,o+i*4,none⟩=some (.bool s)/\w.cell? ⟨b,o+i*4+1,none⟩=some (.slice A n c)/\w.cell? ⟨b,o+i*4+2,none⟩=some (.bool false)/\w.cell? ⟨b,o+i*4+3,none⟩=some (.slice B m d)/\QV w (.agg #[.bool s,.slice A n c,.bool false,.slice B m d]) (qs.getD i 0) L
theorem zgx.below {w w':World} {b o:Nat} {qs:List Rat} {L:Nat} (h:zgx w b o qs L) (hb:Below w.heap.size w w'):zgx w' b o qs L:=fun i hi=>by
 obtain⟨s,A,n,c,B,m,d,h0,h1,h2,h3,h4⟩:=h i hi
 exact⟨s,A,n,c,B,m,d,(hb.cell (zf h0)).trans h0,(hb.cell (zf h1)).trans h1,(hb.cell (zf h2)).trans h2,(hb.cell (zf h3)).trans h3,h4.below hb⟩
theorem QRowE.x {w:World} {A:Option Addr} {n c:Nat} {qs:List Rat} {L:Nat} (h:QRowE L w (.slice A n c) qs) (h0:0<qs.length):∃b o,A=some ⟨b,o,none⟩/\zgx w b o qs L:=by
 obtain⟨A',c',e,h1,h2,h3⟩:=h
 injection e with e _ _
 subst e
 obtain⟨b,o,e,ht,hc⟩:=h3 h0
 refine⟨b,o,e,fun i hi=>?_⟩
 obtain⟨u,hu1,hu2,hu3⟩:=hc i (qs.getD i 0) (by simp[List.getD,hi])
 obtain⟨s,A1,n1,c1,B1,m1,d1,rfl,-,-⟩:=QV.parts hu3
 have kc:∀j x,j<4->(Value.agg #[.bool s,.slice A1 n1 c1,.bool false,.slice B1 m1 d1]).cells.getD j undef=x->w.cell? ⟨b,o+i*4+j,none⟩=some x:=fun j x hj e=>by
  rw[hu2 j (by rw[hu1];exact hj),e]
 exact⟨s,A1,n1,c1,B1,m1,d1,kc 0 _ (by omega) rfl,kc 1 _ (by omega) rfl,kc 2 _ (by omega) rfl,kc 3 _ (by omega) rfl,hu3⟩
theorem zD.give {n:Nat} {a b:Nat->Nat} {c:Nat->Nat->Nat} (h:zD n a b c):(tR n a b).length<=100/\(tW n c).length<=100/\(∀r∈tW n c,r.length<=100)/\(∀q∈tR n a b,FracQ 6 q)/\(∀r∈tW n c,∀q∈r,FracQ 6 q):=by
 have h6:=h.n6
 refine⟨by rw[zcQ];omega,by rw[zfY];omega,fun r hr=>?_,fun q hq=>?_,fun r hr q hq=>?_⟩
 ·unfold tW at hr
  obtain⟨i,-,rfl⟩:=List.mem_map.1 hr
  simp;omega
 ·unfold tR at hq
  obtain⟨i,-,rfl⟩:=List.mem_map.1 hq
  exact h.rate_small i
 ·unfold tW at hr
  obtain⟨i,hi,rfl⟩:=List.mem_map.1 hr
  obtain⟨j,hj,rfl⟩:=List.mem_map.1 hq
  exact h.way_small i j (List.mem_range.1 hi) (List.mem_range.1 hj)
theorem ShopV.upS {w:World} {v:Value} {R:List Rat} {Ws:List (List Rat)} {L L':Nat} (h:ShopV w v R Ws L) (hL:L<=L'):ShopV w v R Ws L':=by
 obtain⟨a,b,rfl,h1,h2⟩:=h
 exact⟨a,b,rfl,h1.upS hL,h2.upS hL⟩
namespace zW
variable {m:Nat} {R:List Rat} {Ws:List (List Rat)}
end zW
set_option linter.unusedVariables false
set_option linter.unusedSimpArgs false
def lnF (l:Nat->Rat) (s i:Nat) (n:Int) (t:Nat):Rat:=atQ l s i ((t:Int)+1) n
def lnQ (l:Nat->Rat) (s i n:Nat):Rat:=sumN (lnF l s i n) n
def tmQ (m:Nat) (R:List Rat) (Ws:List (List Rat)) (st:Nat) (n:Int):Rat:=if n=0 then 0 else lnQ (ldF m R Ws) m st n.toNat / spQ m R Ws st n
def erR (w:World) (e:Int) (v:Value) (w':World):Prop:=∃r,v=.tuple #[r,.int .i64 e]/\RatV w' r 0 3000/\Below w.heap.size w w'
theorem zlv (w:World) (n:Int) (h:n<0\/12<n):
  Calls Tryz.prog 61 #[.int .i64 n] w (Ret (fun v w'=>v=.bool false/\w'=w)):=by
 by_cases h0:n<0
 ·have h1:¬0<=n:=by omega
  go_enter Tryz.func61,Tryz.ntmps61
  go_wp2
  refine bodyPost_ret (v:=.bool false) ?_ rfl ?_
  ·simp[results,Tryz.results61,go_sem]
  exact⟨_,rfl,rfl,rfl⟩
 ·have h1:0<=n:=by omega
  have h2:¬n<=12:=by omega
  go_enter Tryz.func61,Tryz.ntmps61
  go_wp2
  refine bodyPost_ret (v:=.bool false) ?_ rfl ?_
  ·simp[results,Tryz.results61,go_sem]
  exact⟨_,rfl,rfl,rfl⟩
theorem zir (q:Rat):∀k,powN q k=pwQ q k
 | 0=>rfl
 | k+1=>by rw[powN,pwQ,zir q k]
theorem zis {s:Nat} {l:Nat->Rat} (h:zaj s l) (i n:Nat):∀k,k<=n->sumN (lnF l s i n) k=bN l s i n k / gN l s n
 | 0,_=>by show (0:Rat)=0 / _;rw[Rat.div_def,Rat.zero_mul]
 | k+1,hk=>by
  rw[sumN,zis h i n k (by omega),bN]
  have e:lnF l s i n k=pwQ (l i) (k+1)*gN l s (n-(k+1)) / gN l s n:=by
   unfold lnF atQ
   rw[if_neg (by omega),if_neg (by omega),show ((k:Int)+1).toNat=k+1 by omega,show ((n:Int)-((k:Int)+1)).toNat=n-(k+1) by omega,Int.toNat_natCast,zir]
  rw[e,Rat.div_def,Rat.div_def,Rat.div_def]
  grind
theorem zaj.ln_eq {s:Nat} {l:Nat->Rat} (h:zaj s l) (i n:Nat):lnQ l s i n=aN l s i n / gN l s n:=by
 unfold lnQ
 rw[zis h i n n (nr _),zkn]
namespace zW
variable {m:Nat} {R:List Rat} {Ws:List (List Rat)}
theorem one_jobs (h:zW m R Ws) (i n:Nat):spQ m R Ws i ((n:Int)+1)=R.getD i 0*ldF m R Ws i*gN (ldF m R Ws) m n / gN (ldF m R Ws) m (n+1):=by
 unfold spQ atQ
 rw[if_neg (by omega),if_neg (by omega),show ((n:Int)+1-1).toNat=n by omega,show ((n:Int)+1).toNat=n+1 by omega,show (1:Int).toNat=1 from rfl,Rat.div_def,Rat.div_def]
 show _*(1*ldF m R Ws i*_*_)=_
 grind
theorem all_ln (h:zW m R Ws) (n:Nat):sumN (fun i=>lnQ (ldF m R Ws) m i n) m=((n:Int):Rat):=by
 have hg:=h.ld.g_ne n
 have e:sumN (fun i=>lnQ (ldF m R Ws) m i n) m=sumN (fun i=>(gN (ldF m R Ws) m n)⁻¹*aN (ldF m R Ws) m i n) m:=zaA m fun i _=>by
  show lnQ _ _ _ _=_
  rw[h.ld.ln_eq,Rat.div_def,Rat.mul_comm]
 rw[e,zcH,zg9]
 grind
def rdF (m:Nat) (R:List Rat) (Ws:List (List Rat)) (n:Nat) (i:Nat):Rat:=vF m Ws i*tmQ m R Ws i ((n:Int)+1)
theorem rd_sum (h:zW m R Ws) (n:Nat) (hv:∀i,i<m->vF m Ws i=ldF m R Ws i*R.getD i 0):sumN (rdF m R Ws n) m=gN (ldF m R Ws) m (n+1) / gN (ldF m R Ws) m n*((n+1:Nat):Int):=by
 have e:sumN (rdF m R Ws n) m=sumN (fun i=>(gN (ldF m R Ws) m (n+1) / gN (ldF m R Ws) m n)*lnQ (ldF m R Ws) m i (n+1)) m:=zaA m fun i hi=>by
  have hr:=h.ok.r0 i hi
  have hl:=h.ld.pos i hi
  have g1:=h.ld.g_pos n
  have g2:=h.ld.g_pos (n+1)
  show vF m Ws i*_=_
  unfold tmQ
  rw[if_neg (by omega),show ((n:Int)+1).toNat=n+1 by omega,h.one_jobs i n,hv i hi]
  have a0:ldF m R Ws i≠0:=by grind
  have a1:gN (ldF m R Ws) m n≠0:=by grind
  have a2:gN (ldF m R Ws) m (n+1)≠0:=by grind
  generalize ldF m R Ws i=l at *
  generalize gN (ldF m R Ws) m n=g at *
  generalize gN (ldF m R Ws) m (n+1)=g' at *
  generalize lnQ (ldF m R Ws) m i (n+1)=a at *
  generalize R.getD i 0=r at *
  grind
 rw[e,zcH,h.all_ln (n+1)]
theorem rd_ne (h:zW m R Ws) (n:Nat) (hv:∀i,i<m->vF m Ws i=ldF m R Ws i*R.getD i 0):sumN (rdF m R Ws n) m≠0:=by
 rw[h.rd_sum n hv]
 have g1:=h.ld.g_pos n
 have g2:=h.ld.g_pos (n+1)
 have h1:0<gN (ldF m R Ws) m (n+1) / gN (ldF m R Ws) m n:=zdu g2 g1
 have h2:(0:Rat)<(((n+1:Nat):Int):Rat):=za8 (by omega)
 have:=Rat.mul_pos h1 h2
 grind
theorem first (h:zW m R Ws) (n:Nat) (hv:∀i,i<m->vF m Ws i=ldF m R Ws i*R.getD i 0) (h0:vF m Ws 0=1):spQ m R Ws 0 ((n:Int)+1)=(((n+1:Nat):Int):Rat) / sumN (rdF m R Ws n) m:=by
 have hr:=h.rd_ne n hv
 rw[h.rd_sum n hv] at hr ⊢
 have g1:=h.ld.g_ne n
 have g2:=h.ld.g_ne (n+1)
 have e:=hv 0 (by have:=h.ld.s0;omega)
 rw[h0] at e
 rw[h.one_jobs 0 n,show R.getD 0 0*ldF m R Ws 0=1 by rw[Rat.mul_comm];exact e.symm]
 have h2:(((n+1:Nat):Int):Rat)≠0:=by have:=za8 (a:=n+1) (by omega);grind
 generalize gN (ldF m R Ws) m n=g at *
 generalize gN (ldF m R Ws) m (n+1)=g' at *
 generalize (((n+1:Nat):Int):Rat)=k at *
 grind
end zW
set_option linter.unusedVariables false
set_option linter.unusedSimpArgs false
theorem zeY (f:Nat->Rat):∀k,sumN f (k+1)=f 0+sumN (fun i=>f (i+1)) k
 | 0=>by simp only[sumN];grind
 | k+1=>by
  rw[show sumN f (k+1+1)=sumN f (k+1)+f (k+1) from rfl,zeY f k]
  simp only[sumN];grind
theorem zek (f:Nat->Rat):∀k,prodN f (k+1)=f 0*prodN (fun i=>f (i+1)) k
 | 0=>by simp only[prodN];grind
 | k+1=>by
  rw[show prodN f (k+1+1)=prodN f (k+1)*f (k+1) from rfl,zek f k]
  simp only[prodN];grind
theorem zdk {f g:Nat->Rat}:∀n,(∀k,k<n->f k=g k)->sumN f n=sumN g n
 | 0,_=>rfl
 | n+1,h=>by simp only[sumN];rw[zdk n (fun k hk=>h k (by omega)),h n (by omega)]
theorem zfR (c:Rat) (f:Nat->Rat):∀n,sumN (fun k=>c*f k) n=c*sumN f n
 | 0=>by simp only[sumN];grind
 | n+1=>by simp only[sumN];rw[zfR c f n];grind
theorem zdl {f:Nat->Rat}:∀n,(∀k,k<n->f k=0)->sumN f n=0
 | 0,_=>rfl
 | n+1,h=>by simp only[sumN];rw[zdl n (fun k hk=>h k (by omega)),h n (by omega)];grind
def sL {α:Type} (f:α->Rat):List α->Rat
 | []=>0
 | x::xs=>f x+sL f xs
theorem zfS {α:Type} (f:α->Rat):∀l m:List α,sL f (l++m)=sL f l+sL f m
 | [],m=>by simp only[List.nil_append,sL];grind
 | x::l,m=>by simp only[List.cons_append,sL];rw[zfS f l m];grind
theorem zjW {α β:Type} (f:β->Rat) (g:α->β):∀l:List α,sL f (l.map g)=sL (fun x=>f (g x)) l
 | []=>rfl
 | x::l=>by simp only[List.map_cons,sL];rw[zjW f g l]
theorem zjX {α:Type} (c:Rat) (f:α->Rat):∀l:List α,sL (fun x=>c*f x) l=c*sL f l
 | []=>by simp only[sL];grind
 | x::l=>by simp only[sL];rw[zjX c f l];grind
theorem zjY {α:Type} {f g:α->Rat}:∀l:List α,(∀x∈l,f x=g x)->sL f l=sL g l
 | [],_=>rfl
 | x::l,h=>by simp only[sL];rw[h x (List.mem_cons_self ..),zjY l (fun y hy=>h y (List.mem_cons_of_mem _ hy))]
theorem zgO {α:Type} (f:α->Rat) (g:Nat->List α):∀k,sL f ((List.range k).flatMap g)=sumN (fun j=>sL f (g j)) k
 | 0=>rfl
 | k+1=>by rw[List.range_succ,List.flatMap_append,zfS,zgO f g k];simp[sumN]
theorem zit {α:Type} (f:α->Nat->Rat) (n:Nat):∀l:List α,sL (fun x=>sumN (f x) n) l=sumN (fun k=>sL (fun x=>f x k) l) n
 | []=>(zdl (f:=fun k=>sL (fun x=>f x k) []) n (fun k _=>rfl)).symm
 | x::l=>by
  simp only[sL]
  rw[zit f n l,<-sumN_plus]
where sumN_plus:∀{f g:Nat->Rat} {n:Nat},sumN (fun k=>f k+g k) n=sumN f n+sumN g n
 | f,g,0=>by simp only[sumN];grind
 | f,g,n+1=>by simp only[sumN];rw[@sumN_plus f g n];grind
theorem zjZ {α:Type} (f:α->Rat) (d:α):∀l:List α,sumN (fun j=>f (l.getD j d)) l.length=sL f l
 | []=>rfl
 | x::l=>by
  rw[List.length_cons,zeY,sL,<-zjZ f d l]
  rfl
theorem zfk:∀(s n:Nat) (r:List Int),r∈stL s n->∀j,0<=r.getD j 0/\r.getD j 0<=n
 | 0,n,r,h,j=>by
  simp[stL] at h;subst h
  cases j with
  | zero=>simp
  | succ j=>simp
 | s+1,n,r,h,j=>by
  simp only[stL,List.mem_flatMap,List.mem_map,List.mem_range] at h
  obtain⟨k,hk,r',h',rfl⟩:=h
  cases j with
  | zero=>simp;omega
  | succ j=>
   have:=zfk s (n-k) r' h' j
   simp at this ⊢
   omega
theorem zgP (l:Nat->Rat) (k:Nat) (r:List Int) (j:Nat):wtQ l ((k:Int)::r) (j+1)=powN (l 0) k*wtQ (fun i=>l (i+1)) r j:=by
 unfold wtQ
 rw[zek]
 rfl
def gS (l:Nat->Rat) (s n:Nat):Rat:=sL (fun x=>wtQ l x (s+1)) (stL s n)
theorem znC (l:Nat->Rat) (n:Nat):gS l 0 n=powN (l 0) n:=by
 unfold gS
 simp only[stL,sL,zgP]
 simp only[wtQ,prodN];grind
theorem zmN (l:Nat->Rat) (s n:Nat):gS l (s+1) n=sumN (fun k=>powN (l 0) k*gS (fun i=>l (i+1)) s (n-k)) (n+1):=by
 unfold gS
 rw[show stL (s+1) n=(List.range (n+1)).flatMap fun k=>(stL s (n-k)).map fun r=>(k:Int)::r from rfl,zgO]
 refine zdk _ (fun k _=>?_)
 rw[zjW,<-zjX]
 exact zjY _ (fun x _=>zgP l k x (s+1))
theorem zgQ (l:Nat->Rat):∀n,gN l 1 n=powN (l 0) n
 | 0=>by rw[zae];rfl
 | n+1=>by rw[zay,zbs,zgQ l n,powN];grind
theorem zeA (l:Nat->Rat):∀(s n:Nat),gN l (s+2) n=sumN (fun k=>powN (l 0) k*gN (fun i=>l (i+1)) (s+1) (n-k)) (n+1)
 | s,0=>by simp only[sumN,Nat.sub_self,zae,powN];grind
 | s,n+1=>by
  have ih:=zeA l s n
  have hs:gN l (s+1) (n+1)=sumN (fun k=>powN (l 0) k*gN (fun i=>l (i+1)) s (n+1-k)) (n+1+1):=by
   cases s with
   | zero=>
    rw[zgQ]
    rw[show sumN (fun k=>powN (l 0) k*gN (fun i=>l (i+1)) 0 (n+1-k)) (n+1+1)=sumN (fun k=>powN (l 0) k*gN (fun i=>l (i+1)) 0 (n+1-k)) (n+1)+powN (l 0) (n+1)*gN (fun i=>l (i+1)) 0 (n+1-(n+1)) from rfl]
    rw[zdl (n+1) (fun k hk=>by rw[show n+1-k=(n-k)+1 by omega,zbs];grind),Nat.sub_self,zae]
    grind
   | succ s=>exact zeA l s (n+1)
  rw[zay,hs,ih]
  rw[show sumN (fun k=>powN (l 0) k*gN (fun i=>l (i+1)) (s+1) (n+1-k)) (n+1+1)=sumN (fun k=>powN (l 0) k*gN (fun i=>l (i+1)) (s+1) (n+1-k)) (n+1)+powN (l 0) (n+1)*gN (fun i=>l (i+1)) (s+1) (n+1-(n+1)) from rfl]
  rw[show sumN (fun k=>powN (l 0) k*gN (fun i=>l (i+1)) s (n+1-k)) (n+1+1)=sumN (fun k=>powN (l 0) k*gN (fun i=>l (i+1)) s (n+1-k)) (n+1)+powN (l 0) (n+1)*gN (fun i=>l (i+1)) s (n+1-(n+1)) from rfl]
  rw[Nat.sub_self,zae,zae]
  rw[show sumN (fun k=>powN (l 0) k*gN (fun i=>l (i+1)) (s+1) (n+1-k)) (n+1)=sumN (fun k=>powN (l 0) k*gN (fun i=>l (i+1)) s (n+1-k)+l (s+1)*(powN (l 0) k*gN (fun i=>l (i+1)) (s+1) (n-k))) (n+1) from zdk _ (fun k hk=>by
   rw[show n+1-k=(n-k)+1 by omega,zay];grind)]
  rw[zit.sumN_plus,zfR]
  grind
theorem zmk:∀(s:Nat) (l:Nat->Rat) (n:Nat),gS l s n=gN l (s+1) n
 | 0,l,n=>by rw[znC,zgQ]
 | s+1,l,n=>by
  rw[zmN,zeA]
  exact zdk _ (fun k _=>by rw[zmk s])
end Go.Proofs.YtpoahodnakhmiaaGreat
