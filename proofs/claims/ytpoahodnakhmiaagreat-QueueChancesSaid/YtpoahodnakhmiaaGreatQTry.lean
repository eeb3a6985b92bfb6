import Derived.Test.YtpoahodnakhmiaaGreatSysL
import Derived.Test.YtpoahodnakhmiaaGreatQShort
set_option maxRecDepth 100000
namespace Go.Proofs.YtpoahodnakhmiaaGreat
set_option linter.unusedVariables false
set_option linter.unusedSimpArgs false
open Go.RowKit
theorem zie (p q:Addr) (w:World):
  CallsD Tryz.prog 195 #[.pointer (some p),.pointer (some q)] .returning w fun e u' w'=>e=.returned (.tuple #[])/\u'=.returning/\w'=w:=by
 refine callsD_of_wpS Tryz.func195 rfl fun c₀ cs hu=>?_
 apply wpS_seq
 apply wpS_region
 simp[wpOpsS,go_sem,recoverD,hu,Tryz.ntmps195,Exit.thenS]
 refine wpS_of_wp ?_
 simp only[Array.replicate,List.replicate,List.setIfInBounds_toArray,Array.setIfInBounds,List.size_toArray,List.length_cons]
 go_wp2
 cases c₀
 simp_all [bodyPostS,results,Tryz.results195]
theorem zE {w:World} {g:Nat} {v:Value} {e:TypeId} (h:w.heap[g]?=some (.cells #[v] e (0,0))):w.cell? ⟨g,0,none⟩=some v/\w.frozen? ⟨g,0,none⟩=false:=by
 constructor
 ·simp[World.cell?,h]
 ·simp[World.frozen?,h]
theorem zlQ (w:World) (g:Nat) (A:Option Addr) (c:Nat) (xs:List Rat) (L:Nat) (hbox:w.heap[g]?=some (.cells #[.slice A xs.length c] 30 (0,0))) (hx:RowV w (.slice A xs.length c) xs L) (hL:L<=134217700) (hs:∀i,SmallQ (xs.getD i 0)):
  Calls Tryz.prog 169 #[.pointer (some ⟨g,0,none⟩)] w (Ret (fun v w'=>v=.slice A xs.length c/\Below w.heap.size w w')):=by
 have hlg:=lt_of_block hbox
 obtain⟨b0,_⟩:=zE hbox
 obtain⟨-,hc1,hc2,hat⟩:=hx.at_
 unfold maxLen at hc2
 have HX:=hide (ai hx (ai hat hs))
 obtain⟨n,hn⟩:∃n,n=xs.length:=⟨_,rfl⟩
 rw[<-hn] at b0 hc1 ⊢
 have HN:=hide hn
 have HB:=hide hbox
 clear hx hat hs hn hbox
 go_enter Tryz.func169,Tryz.ntmps169
 go_wp2
 go_loopw [6] (fun s6 wr=>∃k:Nat,k<=n/\s6=.int .i64 k/\Below w.heap.size w wr) (fun s6 _=>n-(intOf s6).toNat)
 case atStart=>exact⟨0,Nat.zero_le _,rfl,blr _ _⟩
 case round=>
  obtain⟨k,hk,rfl,hbel⟩:=hrel
  have HR:=hide hbel
  by_cases hkl:k<n
  ·obtain⟨bb,oo,rfl,hat2⟩:=HX.out.2.1 (by rw[<-HN.out];omega)
   obtain⟨s,B1,m1,d1,B2,m2,d2,e0,e1,e2,hr⟩:=((hat2 k (by rw[<-HN.out];exact hkl)).below hbel).rat
   have HQ:=hide hr
   clear hat2 hr hbel b0
   have hbx:=zL wr (.cells #[.bool s,.slice B1 m1 d1,.slice B2 m2 d2] 43)
   go_wp2_with fail
   refine(zbB _ _ (xs.getD k 0) L (HQ.out.below (za (blr _ _) _)) (by omega) (HX.out.2.2 k)).mono ?_
   rintro e w5 ⟨u5,rfl,hu5,hd5⟩
   have HR5:=hide (bnx HR.out (bnx (za (blr _ _) (.cells #[.bool s,.slice B1 m1 d1,.slice B2 m2 d2] 43)) hd5))
   clear hu5 hd5 hbx e0 e1 e2
   go_wp2
   case roundEnd=>exact⟨⟨k+1,by omega,by go_num,HR5.out⟩,by simp[intOf];omega⟩
  ·have b1:=(hbel.cell (p:=⟨g,0,none⟩) (by exact hlg)).trans b0
   clear b0 hbel
   go_wp2
   refine bodyPost_ret (v:=.slice A n c) ?_ rfl ?_
   ·simp[results,Tryz.results169,go_sem]
   exact⟨_,rfl,rfl,HR.out⟩
theorem zf3 (w:World) (g:Nat) (A:Option Addr) (c:Nat) (xs:List Rat) (L:Nat) (hbox:w.heap[g]?=some (.cells #[.slice A xs.length c] 30 (0,0))) (hx:RowV w (.slice A xs.length c) xs L) (hL:L<=134217700) (hs:∀i,SmallQ (xs.getD i 0)):
  Calls Tryz.prog 168 #[.func (.func 169) #[] #[.pointer (some ⟨g,0,none⟩)]] w
   (Ret (fun v w'=>v=.tuple #[.slice A xs.length c,.int .i64 0]/\Below w.heap.size w w')):=by
 have hmf:=hmf0 Tryz.prog
 have hb0:Below w.heap.size w ((w.alloc (.cells #[.slice none 0 0] 30)).alloc (.cells #[.int .i64 0] 36)):=((blr _ _).alloc (nr _) _).alloc (by simp) _
 have HA:=hide (ai (at_later hbox hb0) (ai (hx.below hb0) (ai hs hb0)))
 have hlg:=lt_of_block hbox
 clear hbox hx hs hb0
 go_enter_defers Tryz.func168,Tryz.ntmps168
 go_wp2_with fail
 refine(zlQ _ g A c xs L HA.out.1 HA.out.2.1 hL HA.out.2.2.1).mono ?_
 rintro e w1 ⟨_,rfl,rfl,hd1⟩
 have h0:=at_later (zy (zj w (.cells #[.slice none 0 0] 30)) (.cells #[.int .i64 0] 36)) hd1
 have h1:=at_later (zu (w:=w.alloc (.cells #[.slice none 0 0] 30)) (b:=w.heap.size+1) (.cells #[.int .i64 0] 36) (by simp)) hd1
 obtain⟨k0,f0⟩:=zE h0
 obtain⟨kE,fE⟩:=zE h1
 have hz:=lt_of_block h1
 have HB:=hide (bnx HA.out.2.2.2 hd1)
 clear hd1 h0 h1
 go_wp2
 refine leaves_cons (f:=195) (args:=#[.pointer (some ⟨w.heap.size,0,none⟩),.pointer (some ⟨w.heap.size+1,0,none⟩)]) (by simp) (by simp[go_sem]) ?_
 refine(zie _ _ _).mono ?_
 rintro e u' w'' ⟨rfl,rfl,rfl⟩
 simp only[Leaves,settle]
 refine⟨.tuple #[.slice A xs.length c,.int .i64 0],?_,_,rfl,rfl,(HB.out.setCell (nr _) _).setCell (by simp) _⟩
 simp[results,Tryz.results168,go_sem,k0,kE,hz]
def solX (rows:List (List Rat)) (bs:List Rat):List Rat:=putX (solS rows).1.2 bs (solS rows).2 (solS rows).2.length (List.replicate (rows.getD 0 []).length 0)
def oneS (rows:List (List Rat)):Prop:=(solS rows).2.length=(rows.getD 0 []).length
def znP (w:World) (rows:List (List Rat)) (bs:List Rat) (L:Nat) (v:Value) (w':World):Prop:=
 Below w.heap.size w w'/\((denied rows bs/\v=.tuple #[.slice none 0 0,.int .i64 4])\/(¬denied rows bs/\¬oneS rows/\v=.tuple #[.slice none 0 0,.int .i64 12]) \/
  (¬denied rows bs/\oneS rows/\∃u,v=.tuple #[u,.int .i64 0]/\RowV w' u (solX rows bs) L))
theorem zhl (done:List (List Rat)) (bs:List Rat) (out:List Nat) (hout:∀r,r<out.length->out.getD r 0=r):∀(n:Nat) (x:List Rat),n<=out.length->n<=x.length->∀i,i<n->(putX done bs out n x).getD i 0=dotL (done.getD i []) bs
 | 0,x,_,_,i,hi=>by omega
 | n+1,x,h1,h2,i,hi=>by
  rw[putX,hout n (by omega),zP _ _ _ _ _ (by rw[zbd];omega)]
  by_cases e:n=i
  ·rw[if_pos e,e]
  ·rw[if_neg e];exact zhl done bs out hout n x (by omega) (by omega) i (by omega)
theorem zat (rows:List (List Rat)) (bs:List Rat):(solX rows bs).length=(rows.getD 0 []).length:=by unfold solX;rw[zbd,List.length_replicate]
theorem Sys.solX_get {wd:Nat} {rows:List (List Rat)} {bs:List Rat} (h:Sys wd rows bs) (h0:0<rows.length) (h1:oneS rows) (i:Nat) (hi:i<wd):(solX rows bs).getD i 0=dotL ((echN wd (rows,idRows rows.length)).1.2.getD i []) bs:=by
 unfold oneS at h1
 rw[h.solS_eq h0,h.row 0 h0] at h1
 unfold solX
 rw[h.solS_eq h0,h.row 0 h0]
 exact zhl _ _ _ (fun r hr=>zhM h.row h1 r (by omega)) _ _ (nr _) (by rw[List.length_replicate];omega) i (by omega)
theorem Sys.rank_le {wd:Nat} {rows:List (List Rat)} {bs:List Rat} (h:Sys wd rows bs):(solS rows).2.length<=(rows.getD 0 []).length:=by
 by_cases h0:0<rows.length
 ·rw[h.solS_eq h0,h.row 0 h0]
  have hI:=echI (zU h.row) wd
  have key:∀r,r<(echN wd (rows,idRows rows.length)).2.length->r<=(echN wd (rows,idRows rows.length)).2.getD r 0:=by
   intro r
   induction r with
   | zero=>intro _;omega
   | succ r ih=>intro hr;have:=hI.mono r (r+1) (by omega) hr;have:=ih (by omega);omega
  by_cases hz:(echN wd (rows,idRows rows.length)).2.length=0
  ·omega
  ·have a:=key ((echN wd (rows,idRows rows.length)).2.length-1) (by omega)
   have b:=hI.lt ((echN wd (rows,idRows rows.length)).2.length-1) (by omega)
   omega
 ·rw[List.eq_nil_of_length_eq_zero (show rows.length=0 by omega)]
  decide
theorem Sys.solX_fit {wd:Nat} {rows:List (List Rat)} {bs:List Rat} (h:Sys wd rows bs) (h1:oneS rows) (i:Nat):FitQ 640 ((solX rows bs).getD i 0):=by
 by_cases hi:i<(solX rows bs).length
 ·have h0:0<rows.length:=by
   refine Classical.byContradiction fun hn=>?_
   rw[zat,List.eq_nil_of_length_eq_zero (show rows.length=0 by omega)] at hi
   simp at hi
  rw[zat,h.row 0 h0] at hi
  rw[h.solX_get h0 h1 i hi]
  have hl:(echN wd (rows,idRows rows.length)).1.1.length=rows.length:=echN_length _ _
  have ho:=echN_out wd (rows,idRows rows.length)
  have h2:(echN wd (rows,idRows rows.length)).2.length=wd:=by
   have:=h1;unfold oneS at this;rw[h.solS_eq h0,h.row 0 h0] at this;exact this
  have:=(h.sbK wd h.w6 i (by rw[hl];have:((rows,idRows rows.length):St).1.length=rows.length:=rfl
                             omega)).fit (L:=640) (by omega) 2
  rwa[zbX] at this
 ·rw[zb9 (by omega)];exact za1 _
theorem RV.rowV {w:World} {v:Value} {g:Nat} {qs:List Rat} {L:Nat} (h:RV w v g qs L):RowV w v qs L:=by
 obtain⟨c,rfl,h1,h2,h3⟩:=h
 exact h3.row h1 h2
theorem znc (w:World) (va vb:Value) (rows:List (List Rat)) (bs:List Rat) (wd:Nat) (ha:RowsV w va rows 4000) (hb:RowV w vb bs 4000) (h:Sys wd rows bs):
  Calls Tryz.prog 120 #[va,vb] w (Ret (znP w rows bs 4000)):=by
 have h6:=h.n6
 have w6:=h.w6
 have HA:=hide (ai ha (ai hb h));clear h
 obtain⟨A1,c1,rfl,hc1,hm1,hx⟩:=ha
 obtain⟨A2,c2,rfl,hc2,hm2,hy⟩:=hb
 clear hx hy
 have hmf:=hmf0 Tryz.prog
 have hnil:∀w:World,(binOp .neq 30 (.slice none 0 0) (.slice none 0 0)).run Tryz.prog w=.ok (.bool false) w:=fun w=>run_neq_slice_nil_any w _ _ _ _ _ _ _ Tryz.underlying30
 go_enter Tryz.func120,Tryz.ntmps120
 go_wp2_with fail
 refine(zmH _ _ _ rows bs 4000 HA.out.1 HA.out.2.1 (by omega)).mono ?_
 rintro e w1 ⟨_,rfl,rfl,hd1⟩
 rw[HA.out.2.2.check]
 have H1:=hide hd1
 clear hd1
 by_cases h0:0<rows.length
 ·go_wp2_with fail
  refine(zl8 _ _ _ rows bs 4000 wd (HA.out.1.below H1.out) (HA.out.2.1.below H1.out) (by omega) (by omega) h0 (by omega) HA.out.2.2.row (by omega) HA.out.2.2.len (HA.out.2.2.fit h0)).mono ?_
  rintro e w2 ⟨_,rfl,hd2,hcase⟩
  have hb2:=bnx H1.out hd2
  rcases hcase with ⟨hdn,u,g,rfl,hu⟩|⟨hdn,u,g,c,cc,rfl,hu⟩
  ·obtain⟨c,rfl,q1,q2,q3⟩:=id hu
   have hneq:∀(w:World) (n:Nat),(binOp .neq 30 (.slice (some ⟨g,0,none⟩) n c) (.slice none 0 0)).run Tryz.prog w=.ok (.bool true) w:=fun w n=>run_neq_slice_nil_any w _ _ _ _ _ _ _ Tryz.underlying30
   have HU:=hide (ai hdn (ai hu hb2));clear hdn hu hb2 q1 q2 q3
   generalize hl:(divL ((solS rows).1.2.getD (denyK (solS rows).1.2 bs rows.length (solS rows).2.length) []) (dotL ((solS rows).1.2.getD (denyK (solS rows).1.2 bs rows.length (solS rows).2.length) []) bs)).length=l at *
   have HL:=hide hl;clear hl
   go_wp2
   go_ret2
   exact⟨_,rfl,za HU.out.2.2 _,.inl ⟨HU.out.1,rfl⟩⟩
  ·have hno:¬denied rows bs:=fun h=>by unfold denied at h;omega
   have hr:=HA.out.2.2.rank_le
   obtain⟨rk,hrk⟩:∃rk,rk=(solS rows).2.length:=⟨_,rfl⟩
   obtain⟨wd',hwd'⟩:∃w,w=(rows.getD 0 []).length:=⟨_,rfl⟩
   obtain⟨cu,hcu,q1,q2,q3⟩:=id hu
   have hxl:(putX (solS rows).1.2 bs (solS rows).2 (solS rows).2.length (List.replicate (rows.getD 0 []).length 0)).length=wd':=by rw[hwd'];exact zat rows bs
   rw[hxl] at hcu q1
   subst hcu
   unfold maxLen at q2
   have hbx:=zj w2 (.cells #[.slice (some ⟨g,0,none⟩) wd' cu] 30)
   have hda:Below w2.heap.size w2 (w2.alloc (.cells #[.slice (some ⟨g,0,none⟩) wd' cu] 30)):=za (blr _ _) _
   obtain⟨b0,_⟩:=zE hbx
   rw[<-hrk] at hr ⊢
   rw[<-hwd'] at hr
   have HU:=hide (ai hno (ai (RV.rowV (hu.below hda)) (ai (bnx hb2 hda) (ai hrk (ai hwd' (ai hxl hbx))))));clear hdn hu hb2 hno hrk hwd' hda hxl hbx q3
   by_cases hlt:rk<wd'
   ·have d1:decide (rk<wd')=true:=decide_eq_true hlt
    go_wp2
    go_ret2
    exact⟨_,rfl,HU.out.2.2.1,.inr (.inl ⟨HU.out.1,fun ho=>by unfold oneS at ho;rw[<-HU.out.2.2.2.1,<-HU.out.2.2.2.2.1] at ho;omega,rfl⟩)⟩
   ·have d1:decide (rk<wd')=false:=decide_eq_false hlt
    have hone:oneS rows:=by unfold oneS;rw[<-HU.out.2.2.2.1,<-HU.out.2.2.2.2.1];omega
    have HO:=hide hone
    clear hone hlt
    go_wp2_with fail
    refine(zf3 _ w2.heap.size (some ⟨g,0,none⟩) cu (solX rows bs) 4000 (by rw[show (solX rows bs).length=wd' from HU.out.2.2.2.2.2.1];exact HU.out.2.2.2.2.2.2) (by rw[show (solX rows bs).length=wd' from HU.out.2.2.2.2.2.1];exact HU.out.2.1) (by omega) (fun i=>(HA.out.2.2.solX_fit HO.out i).smallQ (by omega))).mono ?_
    rintro e w5 ⟨_,rfl,rfl,hd5⟩
    have H5:=hide (ai (bnx HU.out.2.2.1 hd5) (HU.out.2.1.below hd5))
    rw[show (solX rows bs).length=wd' by rw[zat];exact HU.out.2.2.2.2.1.symm]
    clear hd5 b0
    go_wp2
    go_ret2
    exact⟨_,rfl,H5.out.1,.inr (.inr ⟨HU.out.1,HO.out,_,rfl,H5.out.2⟩)⟩
 ·have e1:rows=[]:=List.eq_nil_of_length_eq_zero (by omega)
  have e2:bs=[]:=List.eq_nil_of_length_eq_zero (by rw[HA.out.2.2.len];omega)
  subst e1 e2
  simp only[List.length_nil] at *
  go_wp2_with fail
  refine(zma _ _ _ [] 4000 (HA.out.1.below H1.out) (HA.out.2.1.below H1.out)).mono ?_
  rintro e w2 ⟨_,rfl,⟨g,rfl⟩,hd2⟩
  have hbx:=zj w2 (.cells #[.slice (some ⟨g,0,none⟩) 0 0] 30)
  have hda:Below w2.heap.size w2 (w2.alloc (.cells #[.slice (some ⟨g,0,none⟩) 0 0] 30)):=za (blr _ _) _
  obtain⟨b0,_⟩:=zE hbx
  have HU:=hide (ai (bnx (bnx H1.out hd2) hda) hbx)
  clear hd2 hda hbx
  go_wp2_with fail
  refine(zf3 _ w2.heap.size (some ⟨g,0,none⟩) 0 [] 4000 HU.out.2 ⟨_,_,rfl,nr _,by simp[maxLen],fun hx=>by simp at hx⟩ (by omega) (fun i=>by rw[zb9 (by simp)];exact(za1 1).smallQ (by omega))).mono ?_
  rintro e w5 ⟨_,rfl,rfl,hd5⟩
  have H5:=hide (bnx HU.out.1 hd5)
  clear hd5 b0
  go_wp2
  go_ret2
  exact⟨_,rfl,H5.out,.inr (.inr ⟨fun h=>by unfold denied at h;simp at h,by unfold oneS;decide,_,rfl,⟨_,_,rfl,nr _,by simp[maxLen],fun hx=>by rw[show (solX [] []).length=0 by rw[zat];rfl] at hx;omega⟩⟩)⟩
theorem zlR (p q:Addr) (w:World):
  CallsD Tryz.prog 139 #[.pointer (some p),.pointer (some q)] .returning w fun e u' w'=>e=.returned (.tuple #[])/\u'=.returning/\w'=w:=by
 refine callsD_of_wpS Tryz.func139 rfl fun c₀ cs hu=>?_
 apply wpS_seq
 apply wpS_region
 simp[wpOpsS,go_sem,recoverD,hu,Tryz.ntmps139,Exit.thenS]
 refine wpS_of_wp ?_
 simp only[Array.replicate,List.replicate,List.setIfInBounds_toArray,Array.setIfInBounds,List.size_toArray,List.length_cons]
 go_wp2
 cases c₀
 simp_all [bodyPostS,results,Tryz.results139]
theorem zlS (p q:Addr) (w:World):
  CallsD Tryz.prog 121 #[.pointer (some p),.pointer (some q)] .returning w fun e u' w'=>e=.returned (.tuple #[])/\u'=.returning/\w'=w:=by
 refine callsD_of_wpS Tryz.func121 rfl fun c₀ cs hu=>?_
 apply wpS_seq
 apply wpS_region
 simp[wpOpsS,go_sem,recoverD,hu,Tryz.ntmps121,Exit.thenS]
 refine wpS_of_wp ?_
 simp only[Array.replicate,List.replicate,List.setIfInBounds_toArray,Array.setIfInBounds,List.size_toArray,List.length_cons]
 go_wp2
 cases c₀
 simp_all [bodyPostS,results,Tryz.results121]
theorem RowV.box {w:World} {v:Value} {qs:List Rat} {L g:Nat} {x u:Value} {e:TypeId} (hr:RowV w v qs L) (hb:w.heap[g]?=some (.cells #[x] e (0,0))) (he:e≠tyOf .u32):RowV (w.setCell ⟨g,0,none⟩ u) v qs L:=by
 have o1:=zp w g 0 u
 have hk:Keeps w (w.setCell ⟨g,0,none⟩ u):=Keeps.only o1 ⟨_,_,hb⟩ he
 obtain⟨A,c,rfl,h1,h2,h3⟩:=hr
 refine⟨A,c,rfl,h1,h2,fun h0=>?_⟩
 obtain⟨b,o,rfl,hc⟩:=h3 h0
 refine⟨b,o,rfl,fun i hi=>?_⟩
 have hne:b≠g:=by
  rintro rfl
  obtain⟨A1,n1,c1,A2,n2,c2,a0,a1,-⟩:=hc i hi
  unfold World.cell? at a1
  simp[hb] at a1
 refine(hc i hi).same hk (o1.block b ?_ (by intro e;injection e with e;exact hne e))
 obtain⟨A1,n1,c1,A2,n2,c2,a0,-⟩:=hc i hi
 exact zf a0
def okR (w:World) (q:Rat) (L:Nat) (v:Value) (w':World):Prop:=∃r,v=.tuple #[r,.int .i64 0]/\RatV w' r q L/\Below w.heap.size w w'
theorem zkz (w:World) (k:Nat) (caps:Array Value) (q:Rat) (L:Nat) (hk:∀args w,(callFunc k args).run Tryz.prog w=.ok (.enter k args) w) (hc:∀w',Below w.heap.size w w'->Calls Tryz.prog k caps w' (Ret (ratR w' q L))):
  Calls Tryz.prog 91 #[.func (.func k) #[] caps] w (Ret (okR w q L)):=by
 have hmf:=hmf0 Tryz.prog
 have HA:=hide hc;clear hc
 go_enter_defers Tryz.func91,Tryz.ntmps91
 go_wp2_with fail
 have hb0:Below w.heap.size w ((w.alloc (.cells #[.bool false,.slice none 0 0,.slice none 0 0] 43)).alloc (.cells #[.int .i64 0] 36)):=((blr _ _).alloc (nr _) _).alloc (by simp) _
 have hs0:Below (w.heap.size+2) ((w.alloc (.cells #[.bool false,.slice none 0 0,.slice none 0 0] 43)).alloc (.cells #[.int .i64 0] 36)) ((w.alloc (.cells #[.bool false,.slice none 0 0,.slice none 0 0] 43)).alloc (.cells #[.int .i64 0] 36)):=blr _ _
 refine(HA.out _ hb0).mono ?_
 rintro e w1 ⟨r,rfl,⟨n1,l1,rfl,h1,g1⟩,hd1⟩
 have hb1:=bnx hb0 hd1
 have hs1:=zh hs0 hd1 (by simp)
 obtain⟨⟨k0,k1,k2⟩,kE,⟨f0,f1,f2⟩,fE,hz⟩:=zgV hs1
 obtain⟨A1,c1,xs1,rfl,_⟩:=h1.open_
 obtain⟨A2,c2,xs2,rfl,_⟩:=g1.open_
 go_wp2
 refine leaves_cons (f:=139) (args:=#[.pointer (some ⟨w.heap.size,0,none⟩),.pointer (some ⟨w.heap.size+1,0,none⟩)]) (by simp) (by simp[go_sem]) ?_
 refine(zlR _ _ _).mono ?_
 rintro e u' w'' ⟨rfl,rfl,rfl⟩
 simp only[Leaves,settle]
 refine⟨.tuple #[.agg #[.bool (decide (q.num<0)),.slice A1 xs1.length c1,.slice A2 xs2.length c2],.int .i64 0],?_,_,rfl,_,rfl,⟨_,_,rfl,h1.setE k0 k1 k2 kE,g1.setE k0 k1 k2 kE⟩,zdn hb1 (nr _) (by omega) _ _ _ _⟩
 simp[results,Tryz.results91,go_sem,k0,k1,k2,kE,hz]
def okL (w:World) (qs:List Rat) (L:Nat) (v:Value) (w':World):Prop:=∃r,v=.tuple #[r,.int .i64 0]/\RowV w' r qs L/\Below w.heap.size w w'
theorem znQ (w:World) (k:Nat) (caps:Array Value) (qs:List Rat) (L:Nat) (hk:∀args w,(callFunc k args).run Tryz.prog w=.ok (.enter k args) w) (hc:∀w',Below w.heap.size w w'->Calls Tryz.prog k caps w' (Ret (fun v w''=>RowV w'' v qs L/\Below w'.heap.size w' w''))):
  Calls Tryz.prog 62 #[.func (.func k) #[] caps] w (Ret (okL w qs L)):=by
 have hmf:=hmf0 Tryz.prog
 have hb0:Below w.heap.size w ((w.alloc (.cells #[.slice none 0 0] 30)).alloc (.cells #[.int .i64 0] 36)):=((blr _ _).alloc (nr _) _).alloc (by simp) _
 have HA:=hide (ai hc hb0)
 clear hc hb0
 go_enter_defers Tryz.func62,Tryz.ntmps62
 go_wp2_with fail
 refine(HA.out.1 _ HA.out.2).mono ?_
 rintro e w1 ⟨r,rfl,hr,hd1⟩
 obtain⟨A,c,rfl,-,-,-⟩:=id hr
 have h0:=at_later (zy (zj w (.cells #[.slice none 0 0] 30)) (.cells #[.int .i64 0] 36)) hd1
 have h1:=at_later (zu (w:=w.alloc (.cells #[.slice none 0 0] 30)) (b:=w.heap.size+1) (.cells #[.int .i64 0] 36) (by simp)) hd1
 obtain⟨k0,f0⟩:=zE h0
 obtain⟨kE,fE⟩:=zE h1
 have hz:=lt_of_block h1
 have HB:=hide (ai (bnx HA.out.2 hd1) (ai hr (ai h0 h1)))
 clear hd1 h0 h1 hr
 go_wp2
 refine leaves_cons (f:=121) (args:=#[.pointer (some ⟨w.heap.size,0,none⟩),.pointer (some ⟨w.heap.size+1,0,none⟩)]) (by simp) (by simp[go_sem]) ?_
 refine(zlS _ _ _).mono ?_
 rintro e u' w'' ⟨rfl,rfl,rfl⟩
 simp only[Leaves,settle]
 refine⟨.tuple #[.slice A qs.length c,.int .i64 0],?_,_,rfl,_,rfl,?_,(HB.out.1.setCell (nr _) _).setCell (by simp) _⟩
 ·simp[results,Tryz.results62,go_sem,k0,kE,hz]
 ·obtain⟨-,hr,h0,h1⟩:=HB.out
  have o1:=zp w1 w.heap.size 0 (.slice A qs.length c)
  have h1':=(o1.block (w.heap.size+1) hz (by intro e;injection e with e;omega)).trans h1
  exact(hr.box h0 (by decide)).box h1' (by decide)
end Go.Proofs.YtpoahodnakhmiaaGreat
