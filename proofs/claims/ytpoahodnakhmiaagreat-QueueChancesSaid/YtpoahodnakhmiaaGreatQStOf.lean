import Derived.Test.YtpoahodnakhmiaaGreatQTop3
set_option maxRecDepth 100000
namespace Go.Proofs.YtpoahodnakhmiaaGreat
set_option linter.unusedVariables false
set_option linter.unusedSimpArgs false
open Go.RowKit
def stV (xs:List Int):Value:=.agg (mk .i64 xs)
theorem eight {xs:List Int} (h:xs.length=8):∃x0 x1 x2 x3 x4 x5 x6 x7,xs=[x0,x1,x2,x3,x4,x5,x6,x7]:=by
 match xs,h with
 | [a,b,c,d,e,f,g,i],_=>exact⟨a,b,c,d,e,f,g,i,rfl⟩
theorem znO (w:World) (xs:List Int) (h8:xs.length=8) (h:∀x∈xs,0<=x/\x<=100):
  Calls Tryz.prog 87 #[stV xs] w (Ret (fun v w'=>v=.int .i64 xs.sum/\Below w.heap.size w w')):=by
 obtain⟨x0,x1,x2,x3,x4,x5,x6,x7,rfl⟩:=eight h8
 obtain⟨l0,u0⟩:=h x0 (by simp)
 obtain⟨l1,u1⟩:=h x1 (by simp)
 obtain⟨l2,u2⟩:=h x2 (by simp)
 obtain⟨l3,u3⟩:=h x3 (by simp)
 obtain⟨l4,u4⟩:=h x4 (by simp)
 obtain⟨l5,u5⟩:=h x5 (by simp)
 obtain⟨l6,u6⟩:=h x6 (by simp)
 obtain⟨l7,u7⟩:=h x7 (by simp)
 clear h h8
 rw[show stV [x0,x1,x2,x3,x4,x5,x6,x7]=.agg #[.int .i64 x0,.int .i64 x1,.int .i64 x2,.int .i64 x3,.int .i64 x4,.int .i64 x5,.int .i64 x6,.int .i64 x7] from rfl]
 obtain⟨W,hW⟩:∃W,W=w.alloc (.cells #[.int .i64 x0,.int .i64 x1,.int .i64 x2,.int .i64 x3,.int .i64 x4,.int .i64 x5,.int .i64 x6,.int .i64 x7] 116):=⟨_,rfl⟩
 have hb0:Below w.heap.size w W:=by rw[hW];exact za (blr _ _) _
 have hbx:Blk W w.heap.size 116 .i64 [x0,x1,x2,x3,x4,x5,x6,x7]:=by rw[hW];exact Blk.new w _ _ [x0,x1,x2,x3,x4,x5,x6,x7]
 have y0:W.cell? ⟨w.heap.size,0,none⟩=some (.int .i64 x0):=hbx.cell (j:=0) (by simp)
 have y1:W.cell? ⟨w.heap.size,1,none⟩=some (.int .i64 x1):=hbx.cell (j:=1) (by simp)
 have y2:W.cell? ⟨w.heap.size,2,none⟩=some (.int .i64 x2):=hbx.cell (j:=2) (by simp)
 have y3:W.cell? ⟨w.heap.size,3,none⟩=some (.int .i64 x3):=hbx.cell (j:=3) (by simp)
 have y4:W.cell? ⟨w.heap.size,4,none⟩=some (.int .i64 x4):=hbx.cell (j:=4) (by simp)
 have y5:W.cell? ⟨w.heap.size,5,none⟩=some (.int .i64 x5):=hbx.cell (j:=5) (by simp)
 have y6:W.cell? ⟨w.heap.size,6,none⟩=some (.int .i64 x6):=hbx.cell (j:=6) (by simp)
 have y7:W.cell? ⟨w.heap.size,7,none⟩=some (.int .i64 x7):=hbx.cell (j:=7) (by simp)
 have hix0:∀w,(Instr.index 116 (.agg #[.int .i64 x0,.int .i64 x1,.int .i64 x2,.int .i64 x3,.int .i64 x4,.int .i64 x5,.int .i64 x6,.int .i64 x7]) (.int .i64 0)).run Tryz.prog w=.ok (.int .i64 x0) w:=fun w=>by simp[Instr.index,run_underlying Tryz.underlying116,asIntOf,go_sem]
 have hix1:∀w,(Instr.index 116 (.agg #[.int .i64 x0,.int .i64 x1,.int .i64 x2,.int .i64 x3,.int .i64 x4,.int .i64 x5,.int .i64 x6,.int .i64 x7]) (.int .i64 1)).run Tryz.prog w=.ok (.int .i64 x1) w:=fun w=>by simp[Instr.index,run_underlying Tryz.underlying116,asIntOf,go_sem]
 have hix2:∀w,(Instr.index 116 (.agg #[.int .i64 x0,.int .i64 x1,.int .i64 x2,.int .i64 x3,.int .i64 x4,.int .i64 x5,.int .i64 x6,.int .i64 x7]) (.int .i64 2)).run Tryz.prog w=.ok (.int .i64 x2) w:=fun w=>by simp[Instr.index,run_underlying Tryz.underlying116,asIntOf,go_sem]
 have hix3:∀w,(Instr.index 116 (.agg #[.int .i64 x0,.int .i64 x1,.int .i64 x2,.int .i64 x3,.int .i64 x4,.int .i64 x5,.int .i64 x6,.int .i64 x7]) (.int .i64 3)).run Tryz.prog w=.ok (.int .i64 x3) w:=fun w=>by simp[Instr.index,run_underlying Tryz.underlying116,asIntOf,go_sem]
 have hix4:∀w,(Instr.index 116 (.agg #[.int .i64 x0,.int .i64 x1,.int .i64 x2,.int .i64 x3,.int .i64 x4,.int .i64 x5,.int .i64 x6,.int .i64 x7]) (.int .i64 4)).run Tryz.prog w=.ok (.int .i64 x4) w:=fun w=>by simp[Instr.index,run_underlying Tryz.underlying116,asIntOf,go_sem]
 have hix5:∀w,(Instr.index 116 (.agg #[.int .i64 x0,.int .i64 x1,.int .i64 x2,.int .i64 x3,.int .i64 x4,.int .i64 x5,.int .i64 x6,.int .i64 x7]) (.int .i64 5)).run Tryz.prog w=.ok (.int .i64 x5) w:=fun w=>by simp[Instr.index,run_underlying Tryz.underlying116,asIntOf,go_sem]
 have hix6:∀w,(Instr.index 116 (.agg #[.int .i64 x0,.int .i64 x1,.int .i64 x2,.int .i64 x3,.int .i64 x4,.int .i64 x5,.int .i64 x6,.int .i64 x7]) (.int .i64 6)).run Tryz.prog w=.ok (.int .i64 x6) w:=fun w=>by simp[Instr.index,run_underlying Tryz.underlying116,asIntOf,go_sem]
 have hix7:∀w,(Instr.index 116 (.agg #[.int .i64 x0,.int .i64 x1,.int .i64 x2,.int .i64 x3,.int .i64 x4,.int .i64 x5,.int .i64 x6,.int .i64 x7]) (.int .i64 7)).run Tryz.prog w=.ok (.int .i64 x7) w:=fun w=>by simp[Instr.index,run_underlying Tryz.underlying116,asIntOf,go_sem]
 have H0:=hide hb0
 have HL:=hide hW
 have hz:=hbx.lt
 clear hb0 hW hbx
 go_enter Tryz.func87,Tryz.ntmps87
 go_upto_region 2 with fail
 rw[<-HL.out]
 go_wp2_with fail
 go_loopw [7,3] (fun s7 s3 wr=>∃i:Int,(0<=i/\i<=8)/\s7=.int .i64 i/\s3=.int .i64 ([x0,x1,x2,x3,x4,x5,x6,x7].take i.toNat).sum/\Below w.heap.size w wr) (fun s7 _ _=>8-(intOf s7).toNat)
 case atStart=>exact⟨0,by omega,rfl,rfl,H0.out⟩
 case round=>
  obtain⟨i,hi,rfl,rfl,hbel⟩:=hrel
  have HB:=hide hbel
  clear hbel
  rcases (show i=0\/i=1\/i=2\/i=3\/i=4\/i=5\/i=6\/i=7\/i=8 by omega) with rfl|rfl|rfl|rfl|rfl|rfl|rfl|rfl|rfl
  ·rw[show ([x0,x1,x2,x3,x4,x5,x6,x7].take (0:Int).toNat).sum=0 by simp <;> omega]
   go_wp2
   case roundEnd=>exact⟨⟨1,by omega,rfl,by rw[show ([x0,x1,x2,x3,x4,x5,x6,x7].take (1:Int).toNat).sum=x0 by simp <;> omega],HB.out⟩,by simp[intOf]⟩
  ·rw[show ([x0,x1,x2,x3,x4,x5,x6,x7].take (1:Int).toNat).sum=x0 by simp <;> omega]
   go_wp2
   case roundEnd=>exact⟨⟨2,by omega,rfl,by rw[show ([x0,x1,x2,x3,x4,x5,x6,x7].take (2:Int).toNat).sum=x0+x1 by simp <;> omega],HB.out⟩,by simp[intOf]⟩
  ·rw[show ([x0,x1,x2,x3,x4,x5,x6,x7].take (2:Int).toNat).sum=x0+x1 by simp <;> omega]
   go_wp2
   case roundEnd=>exact⟨⟨3,by omega,rfl,by rw[show ([x0,x1,x2,x3,x4,x5,x6,x7].take (3:Int).toNat).sum=x0+x1+x2 by simp <;> omega],HB.out⟩,by simp[intOf]⟩
  ·rw[show ([x0,x1,x2,x3,x4,x5,x6,x7].take (3:Int).toNat).sum=x0+x1+x2 by simp <;> omega]
   go_wp2
   case roundEnd=>exact⟨⟨4,by omega,rfl,by rw[show ([x0,x1,x2,x3,x4,x5,x6,x7].take (4:Int).toNat).sum=x0+x1+x2+x3 by simp <;> omega],HB.out⟩,by simp[intOf]⟩
  ·rw[show ([x0,x1,x2,x3,x4,x5,x6,x7].take (4:Int).toNat).sum=x0+x1+x2+x3 by simp <;> omega]
   go_wp2
   case roundEnd=>exact⟨⟨5,by omega,rfl,by rw[show ([x0,x1,x2,x3,x4,x5,x6,x7].take (5:Int).toNat).sum=x0+x1+x2+x3+x4 by simp <;> omega],HB.out⟩,by simp[intOf]⟩
  ·rw[show ([x0,x1,x2,x3,x4,x5,x6,x7].take (5:Int).toNat).sum=x0+x1+x2+x3+x4 by simp <;> omega]
   go_wp2
   case roundEnd=>exact⟨⟨6,by omega,rfl,by rw[show ([x0,x1,x2,x3,x4,x5,x6,x7].take (6:Int).toNat).sum=x0+x1+x2+x3+x4+x5 by simp <;> omega],HB.out⟩,by simp[intOf]⟩
  ·rw[show ([x0,x1,x2,x3,x4,x5,x6,x7].take (6:Int).toNat).sum=x0+x1+x2+x3+x4+x5 by simp <;> omega]
   go_wp2
   case roundEnd=>exact⟨⟨7,by omega,rfl,by rw[show ([x0,x1,x2,x3,x4,x5,x6,x7].take (7:Int).toNat).sum=x0+x1+x2+x3+x4+x5+x6 by simp <;> omega],HB.out⟩,by simp[intOf]⟩
  ·rw[show ([x0,x1,x2,x3,x4,x5,x6,x7].take (7:Int).toNat).sum=x0+x1+x2+x3+x4+x5+x6 by simp <;> omega]
   go_wp2
   case roundEnd=>exact⟨⟨8,by omega,rfl,by rw[show ([x0,x1,x2,x3,x4,x5,x6,x7].take (8:Int).toNat).sum=x0+x1+x2+x3+x4+x5+x6+x7 by simp <;> omega],HB.out⟩,by simp[intOf]⟩
  ·rw[show ([x0,x1,x2,x3,x4,x5,x6,x7].take (8:Int).toNat).sum=x0+x1+x2+x3+x4+x5+x6+x7 by simp <;> omega]
   go_wp2
   refine bodyPost_ret (v:=.int .i64 [x0,x1,x2,x3,x4,x5,x6,x7].sum) ?_ rfl ⟨_,rfl,rfl,HB.out⟩
   have e:[x0,x1,x2,x3,x4,x5,x6,x7].sum=x0+x1+x2+x3+x4+x5+x6+x7:=by simp <;> omega
   rw[e]
   simp[results,Tryz.results87,go_sem]
def stI (ks:List Int) (i:Nat):List Int:=(List.range 8).map fun j=>if j<i then ks.getD j 0 else 0
def stOf (ks:List Int):List Int:=(List.range 8).map fun j=>ks.getD j 0
theorem zbu (ks:List Int) (i:Nat):(stI ks i).length=8:=by simp[stI]
theorem zcX (ks:List Int):(stOf ks).length=8:=by simp[stOf]
theorem zfu (ks:List Int) (i j:Nat) (hj:j<8):(stI ks i).getD j 0=if j<i then ks.getD j 0 else 0:=by unfold stI;simp[List.getD,hj]
theorem zhh (ks:List Int) (j:Nat) (hj:j<8):(stOf ks).getD j 0=ks.getD j 0:=by unfold stOf;simp[List.getD,hj]
theorem zhi {a b:List Int} (hl:a.length=b.length) (h:∀i,i<a.length->a.getD i 0=b.getD i 0):a=b:=by
 refine List.ext_getElem hl fun i h1 h2=>?_
 have:=h i h1
 simpa[List.getD,h1,h2] using this
theorem zf2 (l:List Int) (i j:Nat) (v:Int) (hi:i<l.length):(l.set i v).getD j 0=if i=j then v else l.getD j 0:=by
 simp only[List.getD,List.getElem?_set]
 by_cases e:i=j
 ·subst e;simp[hi]
 ·simp[e]
theorem zhj (ks:List Int) (i:Nat) (hi:i<8):(stI ks i).set i (ks.getD i 0)=stI ks (i+1):=by
 refine zhi (by simp[stI]) fun j hj=>?_
 rw[List.length_set,zbu] at hj
 rw[zf2 _ _ _ _ (by rw[zbu];exact hi),zfu ks i j hj,zfu ks (i+1) j hj]
 by_cases e:i=j
 ·subst e;rw[if_pos rfl,if_pos (by omega)]
 ·rw[if_neg e]
  by_cases h:j<i
  ·rw[if_pos h,if_pos (by omega)]
  ·rw[if_neg h,if_neg (by omega)]
theorem zm9 (ks:List Int):stI ks ks.length=stOf ks:=by
 refine zhi (by rw[zbu,zcX]) fun j hj=>?_
 rw[zbu] at hj
 rw[zfu ks _ j hj,zhh ks j hj]
 by_cases h:j<ks.length
 ·rw[if_pos h]
 ·rw[if_neg h];simp[List.getD,show ks[j]?=none from List.getElem?_eq_none (by omega)]
theorem zah (ks:List Int) (i:Nat) (hi:i<ks.length):(ks.take (i+1)).sum=(ks.take i).sum+ks.getD i 0:=by
 rw[List.take_succ_eq_append_getElem hi,List.sum_append]
 simp[List.getD,hi]
theorem zdW {ks:List Int} (h:∀x∈ks,0<=x):0<=ks.sum:=by
 induction ks with
 | nil=>simp
 | cons a l ih=>
  rw[List.sum_cons]
  have:=h a (by simp)
  have:=ih (fun x hx=>h x (by simp[hx]))
  omega
theorem zal {ks:List Int} (h:∀x∈ks,0<=x) (i:Nat):0<=(ks.take i).sum/\(ks.take i).sum<=ks.sum:=by
 have h1:=zdW (ks:=ks.take i) (fun x hx=>h x (List.mem_of_mem_take hx))
 have h2:=zdW (ks:=ks.drop i) (fun x hx=>h x (List.mem_of_mem_drop hx))
 have h3:ks.sum=(ks.take i).sum+(ks.drop i).sum:=by rw[<-List.sum_append,List.take_append_drop]
 omega
set_option maxHeartbeats 4000000 in
theorem zky (w:World) (gx L c:Nat) (A:Option Addr) (most:Int) (ks:List Int) (R V Ld:List Rat) (Ws:List (List Rat)) (hx:zbt w gx R Ws V Ld L) (hk:Arr w A .i64 ks) (hc:ks.length<=c) (hm:c<=maxLen) (hl:ks.length=R.length) (h8:R.length<=8) (h0:∀x∈ks,0<=x) (hs:ks.sum<=most) (hmost:most<=12):
  Calls Tryz.prog 82 #[.pointer (some ⟨gx,0,none⟩),.slice A ks.length c,.int .i64 most] w (Ret (fun v w'=>v=.tuple #[stV (stOf ks),.int .i64 0]/\Below w.heap.size w w')):=by
 obtain⟨va,vb,vc,vd,hbox,hvR,-,-,-⟩:=hx.box
 obtain⟨AR,cR,rfl,-,-,-⟩:=id hvR
 have hl':=hide hl
 unfold maxLen at hm
 obtain⟨W,hW⟩:∃W,W=(w.alloc (.cells #[.int .i64 0,.int .i64 0,.int .i64 0,.int .i64 0,.int .i64 0,.int .i64 0,.int .i64 0,.int .i64 0] 116)).alloc (.cells #[.int .i64 0,.int .i64 0,.int .i64 0,.int .i64 0,.int .i64 0,.int .i64 0,.int .i64 0,.int .i64 0] 116):=⟨_,rfl⟩
 have hb0:Below w.heap.size w W:=by rw[hW];exact za (za (blr _ _) _) _
 have hbr:Blk W w.heap.size 116 .i64 [0,0,0,0,0,0,0,0]:=by rw[hW];exact(Blk.new w 116 .i64 [0,0,0,0,0,0,0,0]).keep (za (blr _ _) _)
 have hbs:Blk W (w.heap.size+1) 116 .i64 (stI ks 0):=by
  have h1:=Blk.new (w.alloc (.cells #[.int .i64 0,.int .i64 0,.int .i64 0,.int .i64 0,.int .i64 0,.int .i64 0,.int .i64 0,.int .i64 0] 116)) 116 .i64 [0,0,0,0,0,0,0,0]
  rw[show (w.alloc (.cells #[.int .i64 0,.int .i64 0,.int .i64 0,.int .i64 0,.int .i64 0,.int .i64 0,.int .i64 0,.int .i64 0] 116)).heap.size=w.heap.size+1 by simp] at h1
  rw[hW];exact h1
 obtain⟨y0,y1,y2,y3,-⟩:=zq hbox
 have hgl:=lt_of_block hbox
 have H0:=hide (ai hb0 (ai hbr (ai hbs (ai hk h0))))
 have HL:=hide hW
 have i0:((ks.length:Int) != (R.length:Int))=false:=by rw[hl];simp
 clear hx hbox hvR hb0 hbr hbs hW hk hl
 go_enter Tryz.func82,Tryz.ntmps82
 go_upto_region 4 with fail
 rw[<-HL.out]
 go_wp2_with fail
 go_loopw [24,9] (fun s24 s9 wr=>∃i:Nat,i<=ks.length/\s24=.int .i64 i/\s9=.int .i64 (ks.take i).sum/\Blk wr (w.heap.size+1) 116 .i64 (stI ks i)/\Blk wr w.heap.size 116 .i64 [0,0,0,0,0,0,0,0]/\Below w.heap.size w wr) (fun s24 _ _=>ks.length-(intOf s24).toNat)
 case atStart=>exact⟨0,Nat.zero_le _,rfl,rfl,H0.out.2.2.1,H0.out.2.1,H0.out.1⟩
 case round=>
  obtain⟨i,hi,rfl,rfl,hbs,hbr,hbel⟩:=hrel
  by_cases hlt:i<ks.length
  ·have h8':=hl'.out
   obtain⟨bl,ol,rfl,-,hcl⟩:=(H0.out.2.2.2.1.below hbel).at_ (by omega)
   have z0:=hcl i hlt
   have z1:=hbs.cell (j:=i) (by rw[zbu];omega)
   have f1:=hbs.frozen i
   have hz:=hbs.lt
   have s1:=zal H0.out.2.2.2.2 i
   have s2:=zal H0.out.2.2.2.2 (i+1)
   have s3:=zah ks i hlt
   have s4:0<=ks.getD i 0:=H0.out.2.2.2.2 _ (by simp[List.getD,hlt])
   generalize hx:ks.getD i 0=x at *
   generalize hn:(ks.take i).sum=n at *
   have i1:(i:Int)<(ks.length:Int):=by omega
   have i2:¬(x<0):=by omega
   have i3:¬(most<x):=by omega
   have i4:¬(most<n+x):=by omega
   have i5:IntKind.i64.wrap (n+x)=n+x:=IntWalk.i64_in _ (by omega)
   have i6:(i:Int)<8:=by omega
   have HI:=hide (ai hbs (ai hbr hbel))
   have HS:=hide s3
   have HX:=hide hx
   clear hbs hbr hbel hcl s1 s2 s3 hx hn h8'
   go_wp2
   case roundEnd=>
    obtain⟨hbs,hbr,hbel⟩:=HI.out
    have t1:=hbs.set_ i x
    rw[<-HX.out,zhj ks i (by omega)] at t1
    have o1:=zp wr (w.heap.size+1) i (.int .i64 x)
    refine⟨⟨i+1,by omega,by go_num,by rw[HS.out],?_,?_,?_⟩,by simp[intOf];omega⟩
    ·rw[<-HX.out];exact t1
    ·exact hbr.only o1 (by omega)
    ·exact hbel.setCell (show w.heap.size<=w.heap.size+1 by omega) _
  ·obtain rfl:i=ks.length:=by omega
   rw[zm9] at hbs
   have HI:=hide (ai hbel True.intro)
   obtain⟨z0,z1,z2,z3,z4,z5,z6,z7,hz⟩:=eight (zcX ks)
   rw[hz] at hbs
   have hst:stV (stOf ks)=Value.agg #[.int .i64 z0,.int .i64 z1,.int .i64 z2,.int .i64 z3,.int .i64 z4,.int .i64 z5,.int .i64 z6,.int .i64 z7]:=by rw[hz];rfl
   have k0:wr.cell? ⟨w.heap.size+1,0,none⟩=some (.int .i64 z0):=hbs.cell (j:=0) (by simp)
   have u0:wr.cell? ⟨w.heap.size,0,none⟩=some (.int .i64 0):=hbr.cell (j:=0) (by simp)
   have f0:=hbr.frozen 0
   have k1:wr.cell? ⟨w.heap.size+1,1,none⟩=some (.int .i64 z1):=hbs.cell (j:=1) (by simp)
   have u1:wr.cell? ⟨w.heap.size,1,none⟩=some (.int .i64 0):=hbr.cell (j:=1) (by simp)
   have f1:=hbr.frozen 1
   have k2:wr.cell? ⟨w.heap.size+1,2,none⟩=some (.int .i64 z2):=hbs.cell (j:=2) (by simp)
   have u2:wr.cell? ⟨w.heap.size,2,none⟩=some (.int .i64 0):=hbr.cell (j:=2) (by simp)
   have f2:=hbr.frozen 2
   have k3:wr.cell? ⟨w.heap.size+1,3,none⟩=some (.int .i64 z3):=hbs.cell (j:=3) (by simp)
   have u3:wr.cell? ⟨w.heap.size,3,none⟩=some (.int .i64 0):=hbr.cell (j:=3) (by simp)
   have f3:=hbr.frozen 3
   have k4:wr.cell? ⟨w.heap.size+1,4,none⟩=some (.int .i64 z4):=hbs.cell (j:=4) (by simp)
   have u4:wr.cell? ⟨w.heap.size,4,none⟩=some (.int .i64 0):=hbr.cell (j:=4) (by simp)
   have f4:=hbr.frozen 4
   have k5:wr.cell? ⟨w.heap.size+1,5,none⟩=some (.int .i64 z5):=hbs.cell (j:=5) (by simp)
   have u5:wr.cell? ⟨w.heap.size,5,none⟩=some (.int .i64 0):=hbr.cell (j:=5) (by simp)
   have f5:=hbr.frozen 5
   have k6:wr.cell? ⟨w.heap.size+1,6,none⟩=some (.int .i64 z6):=hbs.cell (j:=6) (by simp)
   have u6:wr.cell? ⟨w.heap.size,6,none⟩=some (.int .i64 0):=hbr.cell (j:=6) (by simp)
   have f6:=hbr.frozen 6
   have k7:wr.cell? ⟨w.heap.size+1,7,none⟩=some (.int .i64 z7):=hbs.cell (j:=7) (by simp)
   have u7:wr.cell? ⟨w.heap.size,7,none⟩=some (.int .i64 0):=hbr.cell (j:=7) (by simp)
   have f7:=hbr.frozen 7
   have hlr:=hbr.lt
   have HST:=hide hst
   clear hbs hbr hbel hz hst
   go_wp2
   refine bodyPost_ret (v:=.tuple #[.agg #[.int .i64 z0,.int .i64 z1,.int .i64 z2,.int .i64 z3,.int .i64 z4,.int .i64 z5,.int .i64 z6,.int .i64 z7],.int .i64 0]) ?_ rfl ⟨_,rfl,by rw[HST.out],?_⟩
   ·simp[results,Tryz.results82,go_sem,u0,u1,u2,u3,u4,u5,u6,u7,hlr]
   ·exact((((((((HI.out.1.setCell (nr _) _).setCell (nr _) _).setCell (nr _) _).setCell (nr _) _).setCell (nr _) _).setCell (nr _) _).setCell (nr _) _).setCell (nr _) _)
end Go.Proofs.YtpoahodnakhmiaaGreat
