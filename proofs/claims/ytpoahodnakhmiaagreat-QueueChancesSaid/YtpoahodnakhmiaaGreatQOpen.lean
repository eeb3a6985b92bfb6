import Derived.Test.YtpoahodnakhmiaaGreatQCheck
set_option maxRecDepth 100000
namespace Go.Proofs.YtpoahodnakhmiaaGreat
set_option linter.unusedVariables false
set_option linter.unusedSimpArgs false
open Go.RowKit
def RowT (B L:Nat) (w:World) (v:Value) (qs:List Rat):Prop:=∃g c,v=.slice (some ⟨g,0,none⟩) qs.length c/\qs.length<=c/\c<=maxLen/\(Typed w g 43/\B<=g)/\RowC w g qs L
theorem zb5 (B L:Nat):StB (RowT B L):=by
 rintro w w' u x hb ⟨g,c,rfl,h1,h2,h3,h4⟩
 exact⟨g,c,rfl,h1,h2,⟨h3.1.same (hb.block g h3.1.lt),h3.2⟩,h4.below hb⟩
theorem zlJ {T:TypeId} (B L:Nat) (hT:190≠T) (hT2:43≠T):StK T (RowT B L):=by
 rintro w w' u x hk ⟨g,c,rfl,h1,h2,h3,h4⟩
 have e:=hk.typed h3.1 hT2
 exact⟨g,c,rfl,h1,h2,⟨h3.1.same e,h3.2⟩,h4.same (hk.keeps hT) e⟩
theorem RowT.only {B L g0:Nat} {w w':World} {u:Value} {x:List Rat} (h:RowT B L w u x) (hk:Keeps w w') (hg:w.grownBy w' (some g0)) (h0:g0<B):RowT B L w' u x:=by
 obtain⟨g,c,rfl,h1,h2,h3,h4⟩:=h
 have e:=hg.block g h3.1.lt (by intro e;injection e with e;omega)
 exact⟨g,c,rfl,h1,h2,⟨h3.1.same e,h3.2⟩,h4.same hk e⟩
theorem RowT.rows {w:World} {v:Value} {rows:List (List Rat)} {B L:Nat} (h:zx 30 1 (RowT B L) w v rows):RowsV w v rows L:=by
 obtain⟨A,c,rfl,h1,h2,h3⟩:=h
 refine⟨A,c,rfl,h1,h2,fun hx=>?_⟩
 obtain⟨b,o,rfl,ht,hc⟩:=h3 hx
 refine⟨b,o,rfl,fun i hi=>?_⟩
 obtain⟨u,hs,hcu,hr⟩:=hc i (rows.getD i []) (by simp[List.getD,hi])
 obtain⟨g,c1,rfl,a1,a2,a3,a4⟩:=id hr
 have:=hcu 0 (by rw[hs];decide)
 rw[Nat.mul_one,Nat.add_zero] at this
 exact⟨_,this,a4.row a1 a2⟩
theorem stepG {P:Program} {t e:TypeId} {sz bytes:Nat} (S:ElT P t e sz bytes) {α:Type} {R:World->Value->α->Prop} (hRk:StK e R) (w:World) {ops:Array Oper} {o:Oper} {a:Act} {K:Act->World->Prop} {Q:Exit->Act->World->Prop} {E:Prop} (hgd:o.guard=none) (s x:Operand)
  (ho:o.op=.call { callee:=.builtin .append,args:=#[s,x],argTypes:=#[t,t] })
  (base:Nat) (v:Value) (xs:List α) (y:α) (hs:a.eval s=v) (hown:OwnG e sz R w base v xs)
  (ad:Addr) (c:Nat) (hx:a.eval x=.slice (some ad) 1 c) (u:Value) (hu:R w u y) (husz:u.cells.size=sz) (hcell:∀j,j<sz->w.cell? (ad.add j)=some (u.cells.getD j undef)) (hone:∀c∈u.cells.toList,c.oneCell'=true)
  (hlen:xs.length<=1000000000000) (hbase:base<=w.heap.size)
  (h:∀g c' w',OwnG e sz R w' base (.slice (some ⟨g,0,none⟩) (xs.length+1) c') (xs++[y])->Below base w w'->zi7 w w' e v g->K (a.put o.dst (.slice (some ⟨g,0,none⟩) (xs.length+1) c')) w'):
  if Region.wanted o (yielded ops a.tmps)=true then Oper.wp P o a w K Q else E:=by
 obtain⟨z,hz0,hz1⟩:=S.hi
 obtain⟨i,hi,hz,hsz,hby⟩:=info_parts hz1
 obtain⟨us,hl,hown1,husz1,hR⟩:=id hown
 have hb:=S.hb
 refine step_append_lies w hgd s x t ho base e i z sz bytes S.ht hi hz hsz hby hz0 S.hs v xs.length (cellsL us) hs hown1 ad 1 c u.cells.toList hx (by rw[Array.length_toList];omega) ?_ hone (by omega) ?_ ?_ hbase w.heap.size rfl ?_
 ·intro j d hj
  have hjl:j<sz:=by
   have:=(List.getElem?_eq_some_iff.1 hj).1
   rw[Array.length_toList] at this;omega
  rw[hcell j hjl]
  simp only[Array.getElem?_toList] at hj
  simp[Array.getD,show j<u.cells.size by omega] at hj ⊢
  exact hj
 ·unfold maxLen;omega
 ·have:=Nat.mul_le_mul_left (xs.length+1) hb;omega
 ·intro g cap w' hown' hg hor hlt
  have hbl:Below base w w':=(blr _ _).grown hg hbase fun g hgv=>(hown.lt g hgv).1
  have hkp:Kp e w w':=fun b hb hnt=>hg.block b hb (fun e'=>hnt (hown.lt b e'.symm).2.2)
  have hown2:OwnG e sz R w' base (.slice (some ⟨g,0,none⟩) (xs.length+1) cap) (xs++[y]):=by
   refine⟨us++[u],by simp[hl],?_,?_,?_⟩
   ·rw[zck,ze4,List.length_append,List.length_singleton];exact hown'
   ·intro d hd
    rcases List.mem_append.1 hd with hd|hd
    ·exact husz1 d hd
    ·rw[List.mem_singleton] at hd;rw[hd];exact husz
   ·intro j d y' hd hy'
    by_cases hj:j<us.length
    ·rw[List.getElem?_append_left hj] at hd
     rw[List.getElem?_append_left (by omega)] at hy'
     exact hRk w w' d y' hkp (hR j d y' hd hy')
    ·rw[List.getElem?_append_right (by omega)] at hd hy'
     have e1:j-us.length=0:=by have:=(List.getElem?_eq_some_iff.1 hd).1;simp at this;omega
     rw[e1] at hd
     rw[show j-xs.length=0 by omega] at hy'
     simp at hd hy'
     subst hd hy'
     exact hRk w w' u y hkp hu
  exact h g cap w' hown2 hbl ⟨hg,hkp,hor,hlt⟩
def prowV (n:Nat) (W:Nat->Nat->Rat) (j i:Nat):List Rat:=(List.range n).map fun t=>if j=0 then (if t=j then 1 else 0) else (if t=j then 1 else 0)-(if t<i then W t j else 0)
theorem zaw (n:Nat) (W:Nat->Nat->Rat) (j i:Nat):(prowV n W j i).length=n:=by simp[prowV]
theorem zch (n:Nat) (W:Nat->Nat->Rat) (j i t:Nat) (ht:t<n):(prowV n W j i).getD t 0=if j=0 then (if t=j then 1 else 0) else (if t=j then 1 else 0)-(if t<i then W t j else 0):=by
 unfold prowV;simp[List.getD,ht]
theorem zbP {a b:List Rat} (hl:a.length=b.length) (h:∀i,i<a.length->a.getD i 0=b.getD i 0):a=b:=by
 refine List.ext_getElem? fun i=>?_
 by_cases hi:i<a.length
 ·have:=h i hi
  simp only[List.getD,List.getElem?_eq_getElem hi,List.getElem?_eq_getElem (show i<b.length by omega),Option.getD_some] at this
  rw[List.getElem?_eq_getElem hi,List.getElem?_eq_getElem (show i<b.length by omega),this]
 ·rw[List.getElem?_eq_none (by omega),List.getElem?_eq_none (by omega)]
theorem zjj (n:Nat) (W:Nat->Nat->Rat) (j:Nat) (hj:j<n):(List.replicate n (0:Rat)).set j 1=prowV n W j 0:=by
 refine zbP (by simp[prowV]) fun i hi=>?_
 rw[List.length_set,List.length_replicate] at hi
 have h0:(List.replicate n (0:Rat)).getD i 0=0:=by simp only[List.getD,List.getElem?_replicate];split <;> rfl
 rw[zch n W j 0 i hi,zP _ _ _ _ _ (by simpa using hj),h0,if_neg (Nat.not_lt_zero i)]
 by_cases e:j=i
 ·rw[if_pos e,if_pos e.symm];split
  ·rfl
  ·grind
 ·simp only[if_neg e,if_neg (show ¬i=j from fun h=>e h.symm)];split
  ·rfl
  ·grind
theorem zib (n:Nat) (W:Nat->Nat->Rat) (i:Nat):prowV n W 0 i=prowV n W 0 (i+1):=by unfold prowV;simp
theorem ze8 (n:Nat) (W:Nat->Nat->Rat) (j i:Nat) (hj:j≠0) (hi:i<n):(prowV n W j i).set i ((prowV n W j i).getD i 0-W i j)=prowV n W j (i+1):=by
 refine zbP (by simp[prowV]) fun t ht=>?_
 rw[List.length_set,zaw] at ht
 rw[zP _ _ _ _ _ (by rw[zaw];exact hi),zch n W j (i+1) t ht,zch n W j i i hi,zch n W j i t ht]
 simp only[if_neg hj]
 by_cases e:i=t
 ·subst e
  rw[if_pos rfl,if_neg (Nat.lt_irrefl _),if_pos (Nat.lt_succ_self i)];grind
 ·rw[if_neg e]
  by_cases h:t<i
  ·rw[if_pos h,if_pos (show t<i+1 by omega)]
  ·rw[if_neg h,if_neg (show ¬t<i+1 by omega)]
theorem zkp (n:Nat) (W:Nat->Nat->Rat) (j:Nat) (hj:j<n):prowV n W j n=(rowsV n W).getD j []:=by
 rw[zbo n W j hj]
 unfold prowV
 refine List.map_congr_left fun t ht=>?_
 rw[List.mem_range] at ht
 rw[if_pos ht]
theorem zjk (n:Nat) (W:Nat->Nat->Rat) (j:Nat) (hj:j<n):(rowsV n W).take (j+1)=(rowsV n W).take j++[prowV n W j n]:=by
 have h:j<(rowsV n W).length:=by rw[zaf];exact hj
 rw[List.take_succ_eq_append_getElem h,zkp n W j hj]
 simp[List.getD,h]
structure zbt (w:World) (g:Nat) (R:List Rat) (Ws:List (List Rat)) (V Ld:List Rat) (L:Nat):Prop where
 box:∃a b c d,w.heap[g]?=some (.cells #[a,b,c,d] 103 (0,0))/\RowV w a R L/\RowsV w b Ws L/\RowV w c V L/\RowV w d Ld L
theorem zbt.below {w w':World} {g:Nat} {R:List Rat} {Ws:List (List Rat)} {V Ld:List Rat} {L:Nat} (h:zbt w g R Ws V Ld L) (hb:Below w.heap.size w w'):zbt w' g R Ws V Ld L:=by
 obtain⟨a,b,c,d,h0,h1,h2,h3,h4⟩:=h.box
 exact⟨a,b,c,d,at_later h0 hb,h1.below hb,h2.below hb,h3.below hb,h4.below hb⟩
theorem RowV.fitL {w:World} {v:Value} {qs:List Rat} {L L':Nat} (h:RowV w v qs L) (hf:∀i,i<qs.length->FitQ L' (qs.getD i 0)):RowV w v qs L':=by
 obtain⟨A,c,rfl,h1,h2,h3⟩:=h
 refine⟨A,c,rfl,h1,h2,fun h0=>?_⟩
 obtain⟨b,o,e,h4⟩:=h3 h0
 refine⟨b,o,e,fun i hi=>?_⟩
 obtain⟨A1,n1,c1,A2,n2,c2,a1,a2,a3,a4,a5⟩:=h4 i hi
 have:=hf i hi
 exact⟨A1,n1,c1,A2,n2,c2,a1,a2,a3,a4.fit this.1,a5.fit (by have:=this.2;omega)⟩
theorem RowV.upS {w:World} {v:Value} {qs:List Rat} {L L':Nat} (h:RowV w v qs L) (hL:L<=L'):RowV w v qs L':=by
 obtain⟨A,c,rfl,h1,h2,h3⟩:=h
 refine⟨A,c,rfl,h1,h2,fun h0=>?_⟩
 obtain⟨b,o,e,h4⟩:=h3 h0
 refine⟨b,o,e,fun i hi=>?_⟩
 obtain⟨A1,n1,c1,A2,n2,c2,a1,a2,a3,a4,a5⟩:=h4 i hi
 exact⟨A1,n1,c1,A2,n2,c2,a1,a2,a3,a4.more hL,a5.more hL⟩
theorem RowsV.upS {w:World} {v:Value} {rows:List (List Rat)} {L L':Nat} (h:RowsV w v rows L) (hL:L<=L'):RowsV w v rows L':=by
 obtain⟨A,c,rfl,h1,h2,h3⟩:=h
 refine⟨A,c,rfl,h1,h2,fun h0=>?_⟩
 obtain⟨b,o,e,h4⟩:=h3 h0
 refine⟨b,o,e,fun i hi=>?_⟩
 obtain⟨u,a1,a2⟩:=h4 i hi
 exact⟨u,a1,a2.upS hL⟩
theorem zkq {w:World} {B:Nat} {a b c d u:Value} {e:TypeId} (h:w.heap[B]?=some (.cells #[a,b,c,d] e (0,0))):(w.setCell ⟨B,3,none⟩ u).heap[B]?=some (.cells #[a,b,c,u] e (0,0)):=by
 simp[World.setCell,Array.getElem?_modify,h]
def loadsV (R:List Rat) (V:List Rat):List Rat:=(List.range V.length).map fun i=>V.getD i 0 / R.getD i 0
theorem zbb (R V:List Rat):(loadsV R V).length=V.length:=by simp[loadsV]
theorem zdv (R V:List Rat) (i:Nat) (hi:i<V.length):(loadsV R V).getD i 0=V.getD i 0 / R.getD i 0:=by unfold loadsV;simp[List.getD,hi]
theorem zic (R V:List Rat) (i:Nat) (hi:i<V.length):(loadsV R V).take (i+1)=(loadsV R V).take i++[V.getD i 0 / R.getD i 0]:=by
 have h:i<(loadsV R V).length:=by rw[zbb];exact hi
 rw[List.take_succ_eq_append_getElem h,<-zdv R V i hi]
 simp[List.getD,h]
structure zha (n L:Nat) (R:List Rat) (Ws:List (List Rat)):Prop where
 shop:zg4 n L R Ws
 ring:zab n (ent Ws)
 sys:Sys n (rowsV n (ent Ws)) (bsV n)
 L1:2<=L
 L2:L<=3000
 r0:∀i,i<n->R.getD i 0≠0
 fitV:∀i,i<n->FitQ L ((visV n (ent Ws)).getD i 0)
 fitL:∀i,i<n->FitQ L ((visV n (ent Ws)).getD i 0 / R.getD i 0)
 fitW:∀j i t,j<n->t<n->FitQ L ((prowV n (ent Ws) j i).getD t 0)
def openR (w:World) (n L:Nat) (R:List Rat) (Ws:List (List Rat)) (v:Value) (w':World):Prop:=
 ∃g,v=.tuple #[.pointer (some ⟨g,0,none⟩),.int .i64 0]/\w.heap.size<=g/\zbt w' g R Ws (visV n (ent Ws)) (loadsV R (visV n (ent Ws))) L/\Below w.heap.size w w'
set_option maxHeartbeats 8000000 in
theorem zcD (w:World) (v:Value) (R:List Rat) (Ws:List (List Rat)) (L n:Nat) (hv:ShopV w v R Ws L) (hok:zha n L R Ws):
  Calls Tryz.prog 60 #[v] w (Ret (openR w n L R Ws)):=by
 obtain⟨va,vb,rfl,hR,hW⟩:=hv
 obtain⟨A1,c1,rfl,hc1,hm1,-⟩:=id hR
 obtain⟨A2,c2,rfl,hc2,hm2,-⟩:=id hW
 have hn1:=hok.shop.n1
 have hn8:=hok.shop.n8
 have hL1:=hok.L1
 have hL2:=hok.L2
 rw[hok.shop.wl] at hc2 ⊢
 rw[hok.shop.rl] at hc1 ⊢
 unfold maxLen at hm2 hm1
 obtain⟨W,hWW⟩:∃W,W=w.alloc (.cells #[.slice A1 n c1,.slice A2 n c2] 33):=⟨_,rfl⟩
 have hb0:Below w.heap.size w W:=by rw[hWW];exact(blr _ _).alloc (nr _) _
 have hbox:W.heap[w.heap.size]?=some (.cells #[.slice A1 n c1,.slice A2 n c2] 33):=by rw[hWW];exact zj _ _
 have hRr:=hR.below hb0
 rw[hok.shop.rl] at hRr
 have hWr:=hW.below hb0
 rw[hok.shop.wl] at hWr
 have HX:=hide (ai hb0 (ai hbox (ai hRr (ai hWr hok))))
 have HL:=hide hWW
 obtain⟨x0,x1,-,-⟩:=ze hbox
 have hmk:=zcy n (by omega)
 clear hR hW hb0 hbox hWW hWr hRr hok
 go_enter Tryz.func60,Tryz.ntmps60
 go_wp2_with fail
 rw[<-HL.out]
 refine(zjf _ _ R Ws L n ⟨_,_,rfl,HX.out.2.2.1,HX.out.2.2.2.1⟩ hL2 hL1 HX.out.2.2.2.2.shop).mono ?_
 rintro e w1 ⟨_,rfl,rfl,hd1⟩
 obtain⟨y0,y1,-,-⟩:=ze (at_later HX.out.2.1 hd1)
 clear x0 x1
 have hz1:=zcx w1 n L
 have hb1:=za hd1 (.cells (madeCells #[Value.bool false,.slice none 0 0,.slice none 0 0] (n*3)) 43)
 have ht1:Typed (w1.alloc (.cells (madeCells #[Value.bool false,.slice none 0 0,.slice none 0 0] (n*3)) 43)) w1.heap.size 43:=⟨_,_,heap_alloc_new w1 _⟩
 go_wp2
 obtain⟨W1,hW1⟩:∃W1,W1=w1.alloc (.cells (madeCells #[Value.bool false,.slice none 0 0,.slice none 0 0] (n*3)) 43):=⟨_,rfl⟩
 rw[<-hW1] at hz1 hb1 ht1 ⊢
 have hs1:w1.heap.size<W1.heap.size:=by rw[hW1];simp
 have hWs1:W.heap.size<=w1.heap.size:=hd1.size
 have H1:=hide (ai hz1 (ai hb1 ht1))
 clear hz1 hb1 ht1 hd1 hW1 y0 y1
 go_loopw [27,6] (fun s27 s6 wo=>∃j:Nat,j<=n/\s27=.int .i64 j/\OwnG 30 1 (RowT W1.heap.size L) wo W1.heap.size s6 ((rowsV n (ent Ws)).take j)/\Below W1.heap.size W1 wo) (fun s27 _ _=>n-(intOf s27).toNat)
 case atStart=>exact⟨0,Nat.zero_le _,rfl,OwnG.nil _ _ _ _ _,blr _ _⟩
 case round=>
  rename World=>wo
  obtain⟨j,hj,rfl,hown,hbel⟩:=hrel
  obtain⟨Ao,co,eo,hco,hmo⟩:=hown.len
  have hol:((rowsV n (ent Ws)).take j).length=j:=by rw[List.length_take,zaf];omega
  rw[hol] at eo hco
  subst eo
  have hso:=hbel.size
  by_cases hjn:j<n
  ·have HO:=hide (ai hown (ai hbel hol))
   have hz2:=zcx wo n L
   obtain⟨W2,hW2⟩:∃W2,W2=wo.alloc (.cells (madeCells #[Value.bool false,.slice none 0 0,.slice none 0 0] (n*3)) 43):=⟨_,rfl⟩
   have hb2:Below wo.heap.size wo W2:=by rw[hW2];exact za (blr _ _) _
   have ht2:Typed W2 wo.heap.size 43:=by rw[hW2];exact⟨_,_,heap_alloc_new wo _⟩
   rw[<-hW2] at hz2
   have H2:=hide (ai hz2 (ai hb2 ht2))
   have HL2:=hide hW2
   clear hown hbel hol hz2 hb2 ht2 hW2
   go_wp2_with fail
   rw[<-HL2.out]
   refine(zcu _ 1 (by omega) (by omega)).mono ?_
   rintro e w3 ⟨v3,rfl,hv3,hd3⟩
   replace hv3:RatV w3 v3 1 L:=hv3.more hL1
   obtain⟨s3,B5,m5,d5,B6,m6,d6,rfl⟩:=hv3.shape
   have hz3:=H2.out.1.below hd3
   have hj3:j<(List.replicate n (0:Rat)).length:=by rw[List.length_replicate];exact hjn
   obtain⟨s',B1',m1',d1',B2',m2',d2',e0',e1',e2',_⟩:=(hz3.2 j hj3).rat
   have f0:=hz3.frozen (j*3)
   have f1:=hz3.frozen (j*3+1)
   have f2:=hz3.frozen (j*3+2)
   have i1:(j:Int)<(n:Int):=by omega
   have H3:=hide (ai hv3 (ai hz3 hd3))
   clear hv3 hz3 hd3
   go_wp2
   obtain⟨t1,t2,t3⟩:=H3.out.2.1.set3 (i:=j) hj3 H3.out.1
   rw[zjj n (ent Ws) j hjn] at t1
   have hb3:=only_below (bnx H2.out.2.1 H3.out.2.2) t3 (by have:=H2.out.2.1.size;have:=H3.out.2.2.size;omega) (nr _)
   obtain⟨W3,hW3⟩:∃W3,W3=((w3.setCell ⟨wo.heap.size,j*3,none⟩ (.bool s3)).setCell ⟨wo.heap.size,j*3+1,none⟩ (.slice B5 m5 d5)).setCell ⟨wo.heap.size,j*3+2,none⟩ (.slice B6 m6 d6):=⟨_,rfl⟩
   rw[<-hW3] at t1 hb3 ⊢
   have HT:=hide (ai t1 hb3)
   clear t1 t2 t3 hb3 hW3 e0' e1' e2' f0 f1 f2 hj3
   go_loopw [37] (fun s37 wr=>∃i:Nat,i<=n/\s37=.int .i64 i/\RowC wr wo.heap.size (prowV n (ent Ws) j i) L/\Below wo.heap.size wo wr) (fun s37 _=>n-(intOf s37).toNat)
   case atStart=>exact⟨0,Nat.zero_le _,rfl,HT.out.1,HT.out.2⟩
   case round=>
    obtain⟨i,hi,rfl,hrow,hbel⟩:=hrel
    by_cases hin:i<n
    ·by_cases hj0:j=0
     ·subst hj0
      have HI:=hide (ai hrow hbel)
      clear hrow hbel
      go_wp2
      case roundEnd=>
       refine⟨⟨i+1,by omega,by go_num,?_,HI.out.2⟩,by simp[intOf];omega⟩
       rw[<-zib];exact HI.out.1
     ·have hj1:decide ((0:Int)<(j:Int))=true:=decide_eq_true (by omega)
      obtain⟨s1,B1,m1,d1,B2,m2,d2,e0,e1,e2,hq1⟩:=(hrow.2 i (by rw[zaw];exact hin)).rat
      have hwt:=HO.out.2.1.trans (hbel.mono hso)
      have hWt:=H1.out.2.1.trans (hwt.mono H1.out.2.1.size)
      obtain⟨-,-,-,hcell⟩:=HX.out.2.2.2.1.at_
      obtain⟨bw,ow,rfl,hcw⟩:=hcell (by rw[HX.out.2.2.2.2.shop.wl];omega)
      obtain⟨u,hu0,hur⟩:=hcw i (by rw[HX.out.2.2.2.2.shop.wl];exact hin)
      obtain⟨A3,c3,rfl,hc3,hm3,-⟩:=id hur
      have hrl:=HX.out.2.2.2.2.shop.rows i hin
      rw[hrl] at hu0 hc3 hur
      unfold maxLen at hm3
      have hu:=(hWt.cell (zf hu0)).trans hu0
      obtain⟨-,-,-,hc4⟩:=(hur.below hWt).at_
      obtain⟨bi,oi,rfl,hcl4⟩:=hc4 (by rw[hrl];omega)
      obtain⟨s2,B3,m3,d3,B4,m4,d4,e3,e4,e5,hq2⟩:=(hcl4 j (by rw[hrl];exact hjn)).rat
      obtain⟨y0,y1,-,-⟩:=ze (at_later HX.out.2.1 hWt)
      have hS:∀w',Below wr.heap.size wr w'->(w'.cell? ⟨wo.heap.size,i*3,none⟩=some (.bool s1)/\w'.cell? ⟨wo.heap.size,i*3+1,none⟩=some (.slice B1 m1 d1)/\w'.cell? ⟨wo.heap.size,i*3+2,none⟩=some (.slice B2 m2 d2))/\w'.cell? ⟨w.heap.size,1,none⟩=some (.slice (some ⟨bw,ow,none⟩) n c2)/\w'.cell? ⟨bw,ow+i,none⟩=some (.slice (some ⟨bi,oi,none⟩) n c3)/\w'.cell? ⟨bi,oi+j*3,none⟩=some (.bool s2)/\w'.cell? ⟨bi,oi+j*3+1,none⟩=some (.slice B3 m3 d3)/\w'.cell? ⟨bi,oi+j*3+2,none⟩=some (.slice B4 m4 d4):=fun w' h=>by
       have e:∀b o v,wr.cell? ⟨b,o,none⟩=some v->w'.cell? ⟨b,o,none⟩=some v:=fun b o v hv=>(h.cell (zf hv)).trans hv
       exact⟨⟨e _ _ _ e0,e _ _ _ e1,e _ _ _ e2⟩,e _ _ _ y1,e _ _ _ hu,e _ _ _ e3,e _ _ _ e4,e _ _ _ e5⟩
      have hdr:Below wr.heap.size wr wr.drew:=(blr _ _).drew
      have HSS:=hide hS
      have HI:=hide (ai hrow hbel)
      have HQ:=hide (ai hq1 hq2)
      have HF:=hide (show FitQ L ((prowV n (ent Ws) j i).getD i 0-ent Ws i j) by
       have:=HX.out.2.2.2.2.fitW j (i+1) i hjn hin
       rwa[<-ze8 n (ent Ws) j i hj0 hin,zP _ _ _ _ _ (by rw[zaw];exact hin),if_pos rfl] at this)
      have i2:(i:Int)<(n:Int):=by omega
      clear hS hrow hbel hq1 hq2 hcell hcw hc4 hcl4 hu0 hur hrl hwt hWt e0 e1 e2 e3 e4 e5 y0 y1 hu
      go_upto_region 16 with fail
      refine zv (fun w'=>(w'.cell? ⟨wo.heap.size,i*3,none⟩=some (.bool s1)/\w'.cell? ⟨wo.heap.size,i*3+1,none⟩=some (.slice B1 m1 d1)/\w'.cell? ⟨wo.heap.size,i*3+2,none⟩=some (.slice B2 m2 d2))/\w'.cell? ⟨w.heap.size,1,none⟩=some (.slice (some ⟨bw,ow,none⟩) n c2)/\w'.cell? ⟨bw,ow+i,none⟩=some (.slice (some ⟨bi,oi,none⟩) n c3)/\w'.cell? ⟨bi,oi+j*3,none⟩=some (.bool s2)/\w'.cell? ⟨bi,oi+j*3+1,none⟩=some (.slice B3 m3 d3)/\w'.cell? ⟨bi,oi+j*3+2,none⟩=some (.slice B4 m4 d4)) [0,1,2,3,4,5,6,7,8,9,10,11,12,13,14,15,16,17,18] (by kernel_rfl) (HSS.out _ hdr) (fun hh=>?_)
      refine tt 0 hh 42 ?_
      try simp only[Act.put,ptA,ptB,ptC]
      refine tt 1 hh 43 ?_
      try simp only[Act.put,ptA,ptB,ptC]
      refine tt 2 hh 44 ?_
      try simp only[Act.put,ptA,ptB,ptC]
      refine tt 3 hh 45 ?_
      try simp only[Act.put,ptA,ptB,ptC]
      refine tt 4 hh 46 ?_
      try simp only[Act.put,ptA,ptB,ptC]
      refine tt 6 hh 48 ?_
      try simp only[Act.put,ptA,ptB,ptC]
      refine tt 8 hh 50 ?_
      try simp only[Act.put,ptA,ptB,ptC]
      refine tt 11 hh 53 ?_
      try simp only[Act.put,ptA,ptB,ptC]
      refine tt 5 hh 47 ?_
      try simp only[Act.put,ptA,ptB,ptC]
      refine tt 7 hh 49 ?_
      try simp only[Act.put,ptA,ptB,ptC]
      refine tt 9 hh 51 ?_
      try simp only[Act.put,ptA,ptB,ptC]
      refine tt 10 hh 52 ?_
      try simp only[Act.put,ptA,ptB,ptC]
      refine tt 12 hh 54 ?_
      try simp only[Act.put,ptA,ptB,ptC]
      refine tt 13 hh 55 ?_
      try simp only[Act.put,ptA,ptB,ptC]
      refine zb (rs:=[14]) (by kernel_rfl) (by simp) ?_
      refine mem1 ?_
      refine zd rfl (fun K hK=>?_)
      go_simp
      go_at_call 55
      refine(zn8 _ _ _ ((prowV n (ent Ws) j i).getD i 0) (ent Ws i j) L (HQ.out.1.below hdr) (HQ.out.2.below hdr) (by omega)).mono ?_
      rintro e w1 ⟨v3,rfl,hdn⟩
      obtain⟨r3,rfl,hr3,hd⟩:=hdn.ok (HF.out.smallQ (by omega))
      replace hr3:=hr3.fit HF.out
      obtain⟨s3,B5,m5,d5,B6,m6,d6,rfl⟩:=hr3.shape
      have H3:=hide hr3
      clear hr3 hdn
      have hg1:Below wr.heap.size wr w1:=hdr.trans (hd.mono hdr.size)
      clear hd
      go_wp2_with fail
      refine hK.out _ _ (HSS.out _ hg1) (fun hh=>?_)
      clear hK K
      try simp only[Act.put,ptA,ptB,ptC]
      refine tt 15 hh 57 ?_
      try simp only[Act.put,ptA,ptB,ptC]
      refine tt 16 hh 58 ?_
      try simp only[Act.put,ptA,ptB,ptC]
      refine zb (rs:=[17]) (by kernel_rfl) (by simp) ?_
      refine mem1 ?_
      refine zd rfl (fun K hK=>?_)
      go_simp
      go_at_call 119
      refine(zc8 _ _ _ _ _ _ _ _).mono ?_
      rintro e w2 ⟨_,rfl,rfl,hd⟩
      have H4:=hide (H3.out.below hd)
      have hg2:Below wr.heap.size wr w2:=hg1.trans (hd.mono hg1.size)
      clear hd
      go_wp2_with fail
      refine hK.out _ _ (HSS.out _ hg2) (fun hh=>?_)
      clear hK K
      try simp only[Act.put,ptA,ptB,ptC]
      refine tt 18 hh 60 ?_
      try simp only[Act.put,ptA,ptB,ptC]
      refine zQ (k:=19) (by rfl) (by rfl) (by kernel_rfl) ?_
      simp only[List.drop_succ_cons,List.drop_zero]
      clear hh
      have hrowE:=HI.out.1.below hg2
      obtain⟨s',B1',m1',d1',B2',m2',d2',e0',e1',e2',_⟩:=(hrowE.2 i (by rw[zaw];exact hin)).rat
      have f0:=hrowE.frozen (i*3)
      have f1:=hrowE.frozen (i*3+1)
      have f2:=hrowE.frozen (i*3+2)
      have HG:=hide (ai hrowE hg2)
      clear hrowE
      go_wp2
      case roundEnd=>
       obtain⟨t1,t2,t3⟩:=HG.out.1.set3 (i:=i) (by rw[zaw];exact hin) H4.out
       rw[ze8 n (ent Ws) j i hj0 hin] at t1
       refine⟨⟨i+1,by omega,by go_num,t1,?_⟩,by simp[intOf];omega⟩
       exact only_below (bnx HI.out.2 HG.out.2) t3 (by have:=HI.out.2.size;have:=HG.out.2.size;omega) (nr _)
    ·obtain rfl:i=n:=by omega
     have hsw:W1.heap.size<=wr.heap.size:=by have:=hbel.size;omega
     have hown2:=OwnG.below (zb5 _ L) HO.out.1 hbel
     have hrT:RowT W1.heap.size L wr (.slice (some ⟨wo.heap.size,0,none⟩) i i) (prowV i (ent Ws) j i):=⟨wo.heap.size,i,by rw[zaw],by rw[zaw];exact nr _,by unfold maxLen;omega,⟨⟨_,_,hrow.1.choose_spec⟩,hso⟩,hrow⟩
     have HI:=hide (ai hown2 (ai hrT (HO.out.2.1.trans (hbel.mono hso))))
     clear hrow hbel hown2 hrT
     go_wp2_with (at_builtin;refine appG Tryz.rowE (zlJ _ L (by decide) (by decide)) _ rfl _ _ rfl W1.heap.size _ ((rowsV i (ent Ws)).take j) (prowV i (ent Ws) j i) rfl (OwnG.below (zb5 _ L) HI.out.1 (za (blr _ _) _)) ⟨wr.heap.size,0,none⟩ _ rfl (.slice (some ⟨wo.heap.size,0,none⟩) i i) (zb5 _ L _ _ _ _ (za (blr _ _) _) HI.out.2.1) rfl (zaH _ _ rfl _ rfl) (zd2 _ _ _) (by rw[HO.out.2.2];omega) (by simp;omega) ?_;intro g7 c7 w7 hown7 hb7 hg7;rw[HO.out.2.2] at hown7 ⊢)
     case roundEnd=>
      rw[<-zjk i (ent Ws) j hjn] at hown7
      refine⟨⟨j+1,by omega,by go_num,hown7,?_⟩,by simp[intOf];omega⟩
      exact(za HI.out.2.2 _).trans hb7
  ·obtain rfl:j=n:=by omega
   have htk:(rowsV j (ent Ws)).take j=rowsV j (ent Ws):=List.take_of_length_le (by rw[zaf];exact nr _)
   rw[htk] at hown
   have hb:=H1.out.1.below hbel
   have HO:=hide (ai hown (ai hbel hb))
   clear hown hbel hb hol htk
   go_wp2_with fail
   refine(zcu _ 1 (by omega) (by omega)).mono ?_
   rintro e w3 ⟨v3,rfl,hv3,hd3⟩
   replace hv3:RatV w3 v3 1 L:=hv3.more hL1
   obtain⟨s3,B5,m5,d5,B6,m6,d6,rfl⟩:=hv3.shape
   have hz3:=HO.out.2.2.below hd3
   have hj3:0<(List.replicate j (0:Rat)).length:=by rw[List.length_replicate];omega
   obtain⟨s',B1',m1',d1',B2',m2',d2',e0',e1',e2',_⟩:=(hz3.2 0 hj3).rat
   simp only[Nat.zero_mul,Nat.zero_add] at e0' e1' e2'
   have f0:=hz3.frozen 0
   have f1:=hz3.frozen 1
   have f2:=hz3.frozen 2
   have i1:(0:Int)<(j:Int):=by omega
   have H3:=hide (ai hv3 (ai hz3 hd3))
   clear hv3 hz3 hd3
   go_wp2_with fail
   obtain⟨t1,t2,t3⟩:=H3.out.2.1.set3 (i:=0) hj3 H3.out.1
   simp only[Nat.zero_mul,Nat.zero_add] at t1 t2 t3
   obtain⟨W4,hW4⟩:∃W4,W4=((w3.setCell ⟨w1.heap.size,0,none⟩ (.bool s3)).setCell ⟨w1.heap.size,1,none⟩ (.slice B5 m5 d5)).setCell ⟨w1.heap.size,2,none⟩ (.slice B6 m6 d6):=⟨_,rfl⟩
   rw[<-hW4] at t1 t2 t3 ⊢
   have hown4:=(OwnG.below (zb5 _ L) HO.out.1 H3.out.2.2).same (fun u x h=>h.only t2 t3 hs1) (fun g hg=>t3.block g (by have:=(OwnG.lt (OwnG.below (zb5 _ L) HO.out.1 H3.out.2.2) g hg).2.1;exact this) (by intro e;injection e with e;have:=(OwnG.lt (OwnG.below (zb5 _ L) HO.out.1 H3.out.2.2) g hg).1;omega))
   have hrows:=(RowT.rows hown4.lst).upS (show L<=4000 by omega)
   have hbs:=(t1.row (c:=j) (by simp) (by unfold maxLen;omega)).upS (show L<=4000 by omega)
   rw[show ((List.replicate j (0:Rat)).set 0 1).length=j by simp] at hbs
   have hWd:W.heap.size<=w1.heap.size:=hWs1
   have hb4:Below W.heap.size W W4:=only_below (bnx (bnx H1.out.2.1 HO.out.2.1) H3.out.2.2) t3 (by have:=H1.out.2.1.size;have:=HO.out.2.1.size;have:=H3.out.2.2.size;omega) hWd
   have H4:=hide (ai hrows (ai hbs hb4))
   clear hW4 t1 t2 t3 hown4 hrows hbs hb4 e0' e1' e2' f0 f1 f2
   refine(znc _ _ _ (rowsV j (ent Ws)) (bsV j) j H4.out.1 H4.out.2.1 HX.out.2.2.2.2.sys).mono ?_
   rintro e w5 ⟨v5,rfl,hd5,hcase⟩
   obtain⟨hone,hno⟩:=HX.out.2.2.2.2.ring.one_sol HX.out.2.2.2.2.sys
   rcases hcase with ⟨hden,_⟩|⟨_,hmany,_⟩|⟨_,_,u5,rfl,hu5⟩
   ·exact absurd hden hno
   ·exact absurd hone hmany
   have hvl:(visV j (ent Ws)).length=j:=zbF j _ (by omega)
   replace hu5:RowV w5 u5 (visV j (ent Ws)) L:=RowV.fitL hu5 (fun i hi=>HX.out.2.2.2.2.fitV i (by rw[hvl] at hi;exact hi))
   obtain⟨A5,c5,rfl,hc5,hm5,-⟩:=id hu5
   rw[hvl] at hc5 hu5 ⊢
   unfold maxLen at hm5
   have hb5:=bnx H4.out.2.2 hd5
   obtain⟨y0,y1,-,-⟩:=ze (at_later HX.out.2.1 hb5)
   have H5:=hide (ai hu5 (ai hb5 hvl))
   clear hd5 hu5 hb5 hvl hone hno
   go_wp2
   clear y0 y1
   obtain⟨W6,hW6⟩:∃W6,W6=w5.alloc (.cells #[.slice A1 j c1,.slice A2 j c2,.slice A5 j c5,.slice none 0 0] 103):=⟨_,rfl⟩
   rw[<-hW6]
   have hb6:Below w5.heap.size w5 W6:=by rw[hW6];exact za (blr _ _) _
   have hx6:W6.heap[w5.heap.size]?=some (.cells #[.slice A1 j c1,.slice A2 j c2,.slice A5 j c5,.slice none 0 0] 103):=by rw[hW6];exact zj _ _
   have hs6:W6.heap.size=w5.heap.size+1:=by rw[hW6];simp
   have H6:=hide (ai hb6 hx6)
   clear hb6 hx6 hW6
   go_loopw [85] (fun s85 wr=>∃(i:Nat) (u:Value),i<=j/\s85=.int .i64 i/\wr.heap[w5.heap.size]?=some (.cells #[.slice A1 j c1,.slice A2 j c2,.slice A5 j c5,u] 103 (0,0))/\OwnG 43 3 (zeM L) wr W6.heap.size u ((loadsV R (visV j (ent Ws))).take i)/\Below w5.heap.size w5 wr) (fun s85 _=>j-(intOf s85).toNat)
   case atStart=>exact⟨0,.slice none 0 0,Nat.zero_le _,rfl,H6.out.2,OwnG.nil _ _ _ _ _,H6.out.1⟩
   case round=>
    obtain⟨i,u,hi,rfl,hbx,hown,hbel⟩:=hrel
    obtain⟨Ao,co,eo,hco,hmo⟩:=hown.len
    have hol:((loadsV R (visV j (ent Ws))).take i).length=i:=by rw[List.length_take,zbb,H5.out.2.2];omega
    rw[hol] at eo hco
    subst eo
    by_cases hij:i<j
    ·obtain⟨-,-,-,hc4⟩:=(H5.out.1.below hbel).at_
     obtain⟨g4,o4,rfl,hcl4⟩:=hc4 (by rw[H5.out.2.2];omega)
     obtain⟨s1,B1,m1,d1,B2,m2,d2,e0,e1,e2,hq1⟩:=(hcl4 i (by rw[H5.out.2.2];exact hij)).rat
     have hsr:=hbel.size
     obtain⟨Wb,hWb⟩:∃Wb,Wb=wr.alloc (.cells #[.bool s1,.slice B1 m1 d1,.slice B2 m2 d2] 43):=⟨_,rfl⟩
     have hbb:Below wr.heap.size wr Wb:=by rw[hWb];exact za (blr _ _) _
     have hwb:=bnx hbel hbb
     have hx15:Wb.heap[wr.heap.size]?=some (.cells #[.bool s1,.slice B1 m1 d1,.slice B2 m2 d2] 43):=by rw[hWb];exact zj _ _
     have hbxb:=at_later hbx hbb
     have hownb:=OwnG.below (zei L) hown hbb
     obtain⟨-,-,-,hc3⟩:=HX.out.2.2.1.at_
     obtain⟨br,orr,rfl,hcl3⟩:=hc3 (by rw[HX.out.2.2.2.2.shop.rl];omega)
     have hWb2:=bnx H5.out.2.1 hwb
     obtain⟨s2,B3,m3,d3,B4,m4,d4,e3,e4,e5,hq2⟩:=(hcl3 i (by rw[HX.out.2.2.2.2.shop.rl];exact hij)).rat
     have hlr:=zf e3
     simp only at hlr
     obtain⟨y0,y1,-,-⟩:=ze HX.out.2.1
     have hlw:=zf y0
     simp only at hlw
     have hs5:W.heap.size<=w5.heap.size:=H5.out.2.1.size
     have hsb:wr.heap.size<Wb.heap.size:=lt_of_block hx15
     have hS:∀w',Below Wb.heap.size Wb w'->w'.cell? ⟨w5.heap.size,3,none⟩=some (.slice Ao i co)/\(w'.cell? ⟨wr.heap.size,0,none⟩=some (.bool s1)/\w'.cell? ⟨wr.heap.size,1,none⟩=some (.slice B1 m1 d1)/\w'.cell? ⟨wr.heap.size,2,none⟩=some (.slice B2 m2 d2))/\w'.cell? ⟨w.heap.size,0,none⟩=some (.slice (some ⟨br,orr,none⟩) j c1)/\w'.cell? ⟨br,orr+i*3,none⟩=some (.bool s2)/\w'.cell? ⟨br,orr+i*3+1,none⟩=some (.slice B3 m3 d3)/\w'.cell? ⟨br,orr+i*3+2,none⟩=some (.slice B4 m4 d4):=fun w' h=>by
      have e:∀b o v,W.cell? ⟨b,o,none⟩=some v->w'.cell? ⟨b,o,none⟩=some v:=fun b o v hv=>((bnx hWb2 h).cell (zf hv)).trans hv
      have hx:=zk (at_later hx15 h)
      have hb4:=at_later hbxb h
      exact⟨by unfold World.cell?;simp[hb4],⟨hx.1,hx.2.1,hx.2.2⟩,e _ _ _ y0,e _ _ _ e3,e _ _ _ e4,e _ _ _ e5⟩
     have hdr:Below Wb.heap.size Wb Wb.drew:=(blr _ _).drew
     have HSS:=hide hS
     have HI:=hide (ai hbxb (ai hownb (ai hwb (ai hol hlr))))
     have HQ:=hide (ai (hq1.below hbb) (hq2.below hWb2))
     have HF:=hide (HX.out.2.2.2.2.fitL i hij)
     have HR0:=hide (HX.out.2.2.2.2.r0 i hij)
     have HLb:=hide hWb
     have hgl:∀g,(Value.slice Ao i co).ownBlock=some g->W6.heap.size<=g/\g<wr.heap.size:=fun g hg=>⟨(hown.lt g hg).1,(hown.lt g hg).2.1⟩
     have HG:=hide hgl
     have i2:(i:Int)<(j:Int):=by omega
     clear hS hbx hown hbel hq1 hq2 hc3 hcl3 hc4 hcl4 e3 e4 e5 y0 y1 hbb hwb hx15 hbxb hownb hWb2 hWb hol hgl
     go_upto_region 28 with fail
     rw[<-HLb.out]
     clear e0 e1 e2
     refine zv (fun w'=>w'.cell? ⟨w5.heap.size,3,none⟩=some (.slice Ao i co)/\(w'.cell? ⟨wr.heap.size,0,none⟩=some (.bool s1)/\w'.cell? ⟨wr.heap.size,1,none⟩=some (.slice B1 m1 d1)/\w'.cell? ⟨wr.heap.size,2,none⟩=some (.slice B2 m2 d2))/\w'.cell? ⟨w.heap.size,0,none⟩=some (.slice (some ⟨br,orr,none⟩) j c1)/\w'.cell? ⟨br,orr+i*3,none⟩=some (.bool s2)/\w'.cell? ⟨br,orr+i*3+1,none⟩=some (.slice B3 m3 d3)/\w'.cell? ⟨br,orr+i*3+2,none⟩=some (.slice B4 m4 d4)) [0,1,2,3,4,5,6,7,8,9,10,11,12,13] (by kernel_rfl) (HSS.out _ hdr) (fun hh=>?_)
     refine tt 0 hh 90 ?_
     try simp only[Act.put,ptA,ptB,ptC]
     refine tt 1 hh 91 ?_
     try simp only[Act.put,ptA,ptB,ptC]
     refine tt 2 hh 92 ?_
     try simp only[Act.put,ptA,ptB,ptC]
     refine tt 3 hh 93 ?_
     try simp only[Act.put,ptA,ptB,ptC]
     refine tt 6 hh 96 ?_
     try simp only[Act.put,ptA,ptB,ptC]
     refine tt 8 hh 98 ?_
     try simp only[Act.put,ptA,ptB,ptC]
     refine tt 4 hh 94 ?_
     try simp only[Act.put,ptA,ptB,ptC]
     refine tt 5 hh 95 ?_
     try simp only[Act.put,ptA,ptB,ptC]
     refine tt 7 hh 97 ?_
     try simp only[Act.put,ptA,ptB,ptC]
     refine tt 9 hh 99 ?_
     try simp only[Act.put,ptA,ptB,ptC]
     refine tt 10 hh 100 ?_
     try simp only[Act.put,ptA,ptB,ptC]
     refine zb (rs:=[11]) (by kernel_rfl) (by simp) ?_
     refine mem1 ?_
     refine zd rfl (fun K hK=>?_)
     go_simp
     go_at_call 86
     refine(zft _ _ _ ((visV j (ent Ws)).getD i 0) (R.getD i 0) L L (HQ.out.1.below hdr) (HQ.out.2.below hdr) (by omega) HR0.out HF.out hL2).mono ?_
     rintro e w1 ⟨v3,rfl,hr3,hd⟩
     obtain⟨s3,B5,m5,d5,B6,m6,d6,rfl⟩:=hr3.shape
     have H3:=hide hr3
     clear hr3
     have hg1:Below Wb.heap.size Wb w1:=hdr.trans (hd.mono hdr.size)
     clear hd
     go_wp2_with fail
     refine hK.out _ _ (HSS.out _ hg1) (fun hh=>?_)
     clear hK K
     try simp only[Act.put,ptA,ptB,ptC]
     refine zb (rs:=[12]) (by kernel_rfl) (by simp) ?_
     refine mem1 ?_
     refine zd rfl (fun K hK=>?_)
     go_simp
     have hg2:=za hg1 (.cells #[.bool s3,.slice B5 m5 d5,.slice B6 m6 d6] 43)
     have hcl2:∀x,x<3->(w1.alloc (.cells #[.bool s3,.slice B5 m5 d5,.slice B6 m6 d6] 43)).cell? ((⟨w1.heap.size,0,none⟩:Addr).add x)=some ((Value.agg #[.bool s3,.slice B5 m5 d5,.slice B6 m6 d6]).cells.getD x undef):=ze5 _ _ _ _ _ rfl
     have hv2:=H3.out.below (za (blr w1.heap.size w1) (.cells #[.bool s3,.slice B5 m5 d5,.slice B6 m6 d6] 43))
     have hsz2:=hg1.size
     have hCE:=hcl2
     refine hK.out _ _ (HSS.out _ hg2) (fun hh=>?_)
     clear hK K
     try simp only[Act.put,ptA,ptB,ptC]
     refine zb (rs:=[13]) (by kernel_rfl) (by simp) ?_
     refine mem1 ?_
     refine zd rfl (fun K hK=>?_)
     refine stepG Tryz.ratE (zfG L (by decide)) _ rfl (.tmp 94) (.tmp 102) rfl W6.heap.size _ ((loadsV R (visV j (ent Ws))).take i) ((visV j (ent Ws)).getD i 0 / R.getD i 0) rfl (OwnG.below (zei L) HI.out.2.1 hg2) ⟨w1.heap.size,0,none⟩ _ rfl (.agg #[.bool s3,.slice B5 m5 d5,.slice B6 m6 d6]) hv2 rfl hcl2 (ziR _ _ _ _ _ _ _) (by rw[HI.out.2.2.2.1];omega) (by have:=hg2.size;simp;omega) ?_
     intro g7 c7 w7 hown7 hb7 hg7
     rw[HI.out.2.2.2.1] at hown7 ⊢
     rw[<-zic R (visV j (ent Ws)) i (by rw[H5.out.2.2];exact hij)] at hown7
     have hS7:=HSS.out _ hg2
     have key:∀b o v,(w1.alloc (.cells #[.bool s3,.slice B5 m5 d5,.slice B6 m6 d6] 43)).cell? ⟨b,o,none⟩=some v->(b<W6.heap.size\/b=wr.heap.size)->w7.cell? ⟨b,o,none⟩=some v:=fun b o v hv hor=>(World.cell?_of_block (w:=(w1.alloc (.cells #[.bool s3,.slice B5 m5 d5,.slice B6 m6 d6] 43))) (hg7.by_.block b (zf hv) (fun e=>by have:=HG.out b e.symm;omega))).trans hv
     have hS8:=ai (key _ _ _ hS7.1 (.inl (by omega))) (ai (ai (key _ _ _ hS7.2.1.1 (.inr rfl)) (ai (key _ _ _ hS7.2.1.2.1 (.inr rfl)) (key _ _ _ hS7.2.1.2.2 (.inr rfl)))) (ai (key _ _ _ hS7.2.2.1 (.inl (by omega))) (ai (key _ _ _ hS7.2.2.2.1 (.inl (by omega))) (ai (key _ _ _ hS7.2.2.2.2.1 (.inl (by omega))) (key _ _ _ hS7.2.2.2.2.2 (.inl (by omega)))))))
     have hbx7:=(hg7.by_.block w5.heap.size (lt_of_block (at_later HI.out.1 hg2)) (fun e=>by have:=HG.out _ e.symm;omega)).trans (at_later HI.out.1 hg2)
     have HA:=hide (ai hown7 (ai (bnx HI.out.2.2.1 hg2) (ai hb7 hbx7)))
     clear hown7 hb7 hg7 key hS7
     go_simp
     refine hK.out _ _ (hS8) (fun hh=>?_)
     clear hK K
     try simp only[Act.put,ptA,ptB,ptC]
     refine zQ (k:=14) (by rfl) (by rfl) (by kernel_rfl) ?_
     simp only[List.drop_succ_cons,List.drop_zero]
     clear hh
     have hc7:=hS8.1
     have hf7:w7.frozen? ⟨w5.heap.size,3,none⟩=false:=by simp[World.frozen?,HA.out.2.2.2]
     clear hS8 hbx7
     go_wp2
     case roundEnd=>
      obtain⟨hown7,hb1,hb2,hbx7⟩:=HA.out
      have ho:=zp w7 w5.heap.size 3 (.slice (some ⟨g7,0,none⟩) (i+1) c7)
      have hkp:Keeps w7 (w7.setCell ⟨w5.heap.size,3,none⟩ (.slice (some ⟨g7,0,none⟩) (i+1) c7)):=fun b hb=>ho.block b hb.lt (by intro e;injection e with e;exact hb.ne ⟨_,_,hbx7⟩ (by decide) e)
      refine⟨⟨i+1,.slice (some ⟨g7,0,none⟩) (i+1) c7,by omega,by go_num,zkq hbx7,hown7.same (fun u x h=>RatV.keeps h hkp) (fun g hg=>ho.block g (hown7.lt g hg).2.1 (by intro e;injection e with e;have:=(hown7.lt g hg).1;omega)),?_⟩,by simp[intOf];omega⟩
      exact(hb1.trans (hb2.mono (by omega))).setCell (nr _) _
    ·obtain rfl:i=j:=by omega
     have htk:(loadsV R (visV i (ent Ws))).take i=loadsV R (visV i (ent Ws)):=List.take_of_length_le (by rw[zbb,H5.out.2.2];exact nr _)
     rw[htk] at hown
     have hrl:=zx.rowV hown.lst
     have HO:=hide (ai hbx (ai hrl hbel))
     clear hbx hown hrl hbel hol htk
     go_wp2
     go_ret2
     have hWx:=bnx H5.out.2.1 HO.out.2.2
     refine⟨_,rfl,w5.heap.size,rfl,by have:=HX.out.1.size;have:=H5.out.2.1.size;omega,⟨_,_,_,_,HO.out.1,HX.out.2.2.1.below hWx,HX.out.2.2.2.1.below hWx,H5.out.1.below HO.out.2.2,HO.out.2.1⟩,HX.out.1.trans (hWx.mono HX.out.1.size)⟩
end Go.Proofs.YtpoahodnakhmiaaGreat
