import Derived.Test.YtpoahodnakhmiaaGreatVisR
set_option maxRecDepth 100000
namespace Go.Proofs.YtpoahodnakhmiaaGreat
set_option linter.unusedVariables false
set_option linter.unusedSimpArgs false
open Go.RowKit
def ShopV (w:World) (v:Value) (R:List Rat) (W:List (List Rat)) (L:Nat):Prop:=∃a b,v=.agg #[a,b]/\RowV w a R L/\RowsV w b W L
theorem ShopV.below {w w':World} {v:Value} {R:List Rat} {W:List (List Rat)} {L:Nat} (h:ShopV w v R W L) (hb:Below w.heap.size w w'):ShopV w' v R W L:=by
 obtain⟨a,b,rfl,h1,h2⟩:=h
 exact⟨a,b,rfl,h1.below hb,h2.below hb⟩
inductive ReachW (n:Nat) (W:Nat->Nat->Rat) (i:Nat):Nat->Prop
 | here:ReachW n W i i
 | step {a b:Nat}:ReachW n W i a->b<n->0<W a b->ReachW n W i b
structure zcg (n:Nat) (W:Nat->Nat->Rat) (i:Nat) (o:List Nat):Prop where
 nodup:o.Nodup
 lt:∀x∈o,x<n
 way:∀x∈o,ReachW n W i x
 here:i∈o
theorem zdU {o:List Nat} (k:Nat) (hk:k<o.length):o.getD k 0∈o:=by rw[show o.getD k 0=o[k] by simp[List.getD,hk]];exact List.getElem_mem hk
theorem zfV {o:List Nat} {x:Nat} (h:x∈o):∃k,k<o.length/\o.getD k 0=x:=by
 obtain⟨k,hk,e⟩:=List.mem_iff_getElem.1 h
 exact⟨k,hk,by simp[List.getD,hk,e]⟩
theorem zlH {n:Nat} {o:List Nat} (h:o.Nodup) (hl:∀x∈o,x<n):o.length<=n:=by
 refine Nat.le_of_not_lt fun hn=>?_
 obtain⟨i,j,h1,h2,h3⟩:=php n (fun k=>o.getD k 0) (fun k hk=>hl _ (zdU k (by omega)))
 replace h3:o.getD i 0=o.getD j 0:=h3
 simp only[List.getD,List.getElem?_eq_getElem (show i<o.length by omega),List.getElem?_eq_getElem (show j<o.length by omega),Option.getD_some] at h3
 exact List.pairwise_iff_getElem.1 h i j (by omega) (by omega) h1 h3
theorem znH {n:Nat} {o:List Nat} (h:∀x,x<n->x∈o):n<=o.length:=by
 refine Nat.le_of_not_lt fun hn=>?_
 have hch:∀x,∃k,x<n->k<o.length/\o.getD k 0=x:=fun x=>by
  by_cases hx:x<n
  ·obtain⟨k,a,b⟩:=zfV (h x hx);exact⟨k,fun _=>⟨a,b⟩⟩
  ·exact⟨0,fun h=>absurd h hx⟩
 obtain⟨f,hf⟩:=Classical.skolem.1 hch
 obtain⟨i,j,h1,h2,h3⟩:=php (n-1) f (fun k hk=>by have:=(hf k (by omega)).1;omega)
 have a:=(hf i (by omega)).2
 have b:=(hf j (by omega)).2
 rw[h3] at a
 omega
theorem zcg.le {n:Nat} {W:Nat->Nat->Rat} {i:Nat} {o:List Nat} (h:zcg n W i o):o.length<=n:=zlH h.nodup h.lt
theorem zcg.snoc {n:Nat} {W:Nat->Nat->Rat} {i a b:Nat} {o:List Nat} (h:zcg n W i o) (ha:a∈o) (hb:b<n) (hw:0<W a b) (hn:b∉o):zcg n W i (o++[b]):=by
 refine⟨?_,fun x hx=>?_,fun x hx=>?_,List.mem_append_left _ h.here⟩
 ·rw[List.nodup_append]
  refine⟨h.nodup,by simp,fun x hx y hy=>?_⟩
  rw[List.mem_singleton] at hy
  subst hy
  intro e;subst e;exact hn hx
 ·rcases List.mem_append.1 hx with hx|hx
  ·exact h.lt x hx
  ·rw[List.mem_singleton] at hx;subst hx;exact hb
 ·rcases List.mem_append.1 hx with hx|hx
  ·exact h.way x hx
  ·rw[List.mem_singleton] at hx;subst hx;exact .step (h.way a ha) hb hw
theorem zY (l:List Nat):(natsI l).length=l.length:=by simp[natsI]
theorem zkk (l:List Nat) (x:Nat):(x:Int)∈natsI l↔x∈l:=by
 unfold natsI
 rw[List.mem_map]
 constructor
 ·rintro⟨y,hy,e⟩
  have:y=x:=Int.ofNat.inj e
  rwa[<-this]
 ·intro h;exact⟨x,h,rfl⟩
theorem zm0 (w:World) (A:Option Addr) (c:Nat) (xs:List Int) (d:Int) (hx:Arr w A .i64 xs) (hc:xs.length<=c) (hm:c<=maxLen):
  Calls Tryz.prog 185 #[.slice A xs.length c,.int .i64 d] w (Ret (zdg w (decide (d∈xs)))):=by
 have HX:=hide hx
 unfold maxLen at hm
 go_enter Tryz.func185,Tryz.ntmps185
 go_wp2
 go_loopw [8] (fun s8 wr=>∃k:Nat,k<=xs.length/\s8=.int .i64 k/\(∀i,i<k->xs.getD i 0≠d)/\wr=w) (fun s8 _=>xs.length-(intOf s8).toNat)
 case atStart=>exact⟨0,Nat.zero_le _,rfl,fun i hi=>by omega,rfl⟩
 case round=>
  obtain⟨k,hk,rfl,hno,rfl⟩:=hrel
  have HN:=hide hno
  clear hno
  by_cases hkl:k<xs.length
  ·obtain⟨b,o,rfl,_,hcell⟩:=HX.out.at_ (by omega)
   have e0:=hcell k hkl
   obtain⟨x,hx3⟩:∃x,x=xs.getD k 0:=⟨_,rfl⟩
   rw[<-hx3] at e0
   have HX3:=hide hx3
   clear hx3
   by_cases he:d=x
   ·have hd:(d == x)=true:=by simpa using he
    have HE:=hide he
    clear hcell he
    go_wp2
    go_ret
    refine⟨_,rfl,k,rfl,?_,blr _ _⟩
    rw[decide_eq_true (show d∈xs by rw[HE.out,HX3.out];simp[List.getD,hkl])];simp
   ·have hd:(d == x)=false:=by simpa using he
    have HE:=hide he
    clear hcell he
    go_wp2
    refine⟨⟨k+1,by omega,by go_num,fun i hi=>?_,trivial⟩,by simp[intOf];omega⟩
    by_cases h:i<k
    ·exact HN.out i h
    ·obtain rfl:i=k:=by omega
     exact fun e=>HE.out (by rw[HX3.out,e])
  ·obtain rfl:k=xs.length:=by omega
   go_wp2
   go_ret
   refine⟨_,rfl,-1,rfl,?_,blr _ _⟩
   rw[decide_eq_false (show d∉xs from fun hm=>by
    obtain⟨j,hj,e⟩:=List.mem_iff_getElem.1 hm
    exact HN.out j hj (by simp[List.getD,hj,e]))];rfl
theorem zje (w:World) (A:Option Addr) (c:Nat) (xs:List Int) (d:Int) (hx:Arr w A .i64 xs) (hc:xs.length<=c) (hm:c<=maxLen):
  Calls Tryz.prog 165 #[.slice A xs.length c,.int .i64 d] w (Ret (fun v w'=>v=.bool (decide (d∈xs))/\Below w.heap.size w w')):=by
 have HX:=hide hx
 go_enter Tryz.func165,Tryz.ntmps165
 go_wp2_with fail
 refine(zm0 _ A c xs d HX.out hc hm).mono ?_
 rintro e w1 ⟨_,rfl,r,rfl,hr,hd1⟩
 have HR:=hide hr;clear hr
 go_wp2
 go_ret
 exact⟨_,rfl,by rw[<-HR.out];rfl,hd1⟩
theorem zfp (q:Rat):decide (0<sgnQ q)=decide (0<q):=by
 rw[decide_eq_decide]
 rcases zbR q with ⟨h1,h2⟩|⟨h1,h2⟩|⟨h1,h2⟩
 ·exact⟨fun _=>h2,fun _=>by rw[h1];decide⟩
 ·rw[h1,h2];simp
 ·rw[h1]
  constructor
  ·intro h;exact absurd h (by decide)
  ·intro h;exact absurd h (by grind)
def znI (w:World) (n:Nat) (W:Nat->Nat->Rat) (i:Nat) (v:Value) (w':World):Prop:=
 ∃(o:List Nat) (A:Option Addr) (c:Nat),v=.slice A o.length c/\zcg n W i o/\(∀a∈o,∀b,b<n->0<W a b->b∈o)/\Below w.heap.size w w'
set_option maxHeartbeats 4000000 in
theorem zkl (w:World) (v:Value) (R:List Rat) (Ws:List (List Rat)) (L n i:Nat) (hv:ShopV w v R Ws L) (hL:L<=100000) (hn:n<=40) (hl:Ws.length=n) (hrow:∀k,k<n->(Ws.getD k []).length=n) (hi:i<n):
  Calls Tryz.prog 118 #[v,.int .i64 i] w (Ret (znI w n (ent Ws) i)):=by
 obtain⟨va,vb,rfl,hR,hW⟩:=hv
 obtain⟨A1,c1,rfl,hc1,hm1,-⟩:=id hR
 obtain⟨A2,c2,rfl,hc2,hm2,-⟩:=id hW
 rw[hl] at hc2 ⊢
 unfold maxLen at hm2
 obtain⟨W,hWW⟩:∃W,W=w.alloc (.cells #[.slice A1 R.length c1,.slice A2 n c2] 33):=⟨_,rfl⟩
 have hb0:Below w.heap.size w W:=by rw[hWW];exact(blr _ _).alloc (nr _) _
 have hbox:W.heap[w.heap.size]?=some (.cells #[.slice A1 R.length c1,.slice A2 n c2] 33):=by rw[hWW];exact zj _ _
 have hWr:=hW.below hb0
 rw[hl] at hWr
 have HX:=hide (ai hb0 (ai hbox hWr))
 have HL:=hide hWW
 have hWe:W.heap.size=w.heap.size+1:=by rw[hWW];simp
 have hone:=ziw W (i:Int)
 rw[hWe] at hone
 have HE:=hide (ai hWe hone)
 clear hR hW hb0 hbox hWW hWr hWe hone
 go_enter Tryz.func118,Tryz.ntmps118
 go_wp2
 rw[<-HL.out]
 go_loopw [6,5] (fun s6 s5 wr=>∃(k:Nat) (o:List Nat),k<=o.length/\s6=.int .i64 k/\OwnI wr (w.heap.size+1) 3 .i64 s5 (natsI o)/\zcg n (ent Ws) i o/\(∀x,x<k->∀b,b<n->0<ent Ws (o.getD x 0) b->b∈o)/\Below W.heap.size W wr) (fun s6 _ _=>n-(intOf s6).toNat)
 case atStart=>
  refine⟨0,[i],Nat.zero_le _,rfl,HE.out.2,⟨by simp,fun x hx=>?_,fun x hx=>?_,by simp⟩,fun x hx=>by omega,(blr _ _).alloc (nr _) _⟩
  ·rw[List.mem_singleton] at hx;subst hx;exact hi
  ·rw[List.mem_singleton] at hx;subst hx;exact .here
 case round=>
  obtain⟨k,o,hk,rfl,hown,hI,hcl,hbel⟩:=hrel
  obtain⟨Ao,co,rfl,hco,hmo,harr⟩:=hown.form
  have hol:=hI.le
  rw[zY] at hown hco ⊢
  unfold maxLen at hmo
  by_cases hkl:k<o.length
  ·obtain⟨bo,oo,rfl,hbo,hco2⟩:=harr.at_ (by rw[zY];omega)
   have e0:=hco2 k (by rw[zY];omega)
   rw[zge] at e0
   obtain⟨a,ha⟩:∃a,a=o.getD k 0:=⟨_,rfl⟩
   have han:a<n:=by rw[ha];exact hI.lt _ (zdU k hkl)
   rw[<-ha] at e0
   obtain⟨-,-,-,hcell⟩:=HX.out.2.2.at_
   obtain⟨bw,ow,rfl,hcw⟩:=hcell (by omega)
   obtain⟨u,hu0,hur⟩:=hcw a (by rw[hl];exact han)
   obtain⟨A3,c3,rfl,hc3,hm3,-⟩:=id hur
   have hrl:=hrow a han
   rw[hrl] at hu0 hc3
   have hu:=(hbel.cell (zf hu0)).trans hu0
   unfold maxLen at hm3
   have hbx:=ze (at_later HX.out.2.1 hbel)
   obtain⟨x0,x1,-,-⟩:=hbx
   have HO:=hide (ai hown (ai hI (ai hcl (ai hbel (ai hur (ai ha hrl))))))
   clear hown hI hcl hbel hur ha harr hco2 hcell hcw hbo hu0 hrl
   have i1:(k:Int)<(o.length:Int):=by omega
   have i2:(a:Int)<(n:Int):=by omega
   go_wp2
   go_quiet (fail)
   go_wp2
   clear x0 x1 e0 hu
   go_loopw [26,5] (fun s26 s5 wq=>∃(j:Nat) (t:List Nat),j<=n/\s26=.int .i64 j/\OwnI wq (w.heap.size+1) 3 .i64 s5 (natsI (o++t))/\zcg n (ent Ws) i (o++t)/\(∀b,b<j->0<ent Ws a b->b∈o++t)/\Below W.heap.size W wq) (fun s26 _ _=>n-(intOf s26).toNat)
   case atStart=>
    refine⟨0,[],Nat.zero_le _,rfl,?_,by rw[List.append_nil];exact HO.out.2.1,fun b hb=>by omega,zw HO.out.2.2.2.1 _⟩
    rw[List.append_nil]
    exact HO.out.1.keep (zw (blr _ _) _)
   case round=>
    obtain⟨j,t,hj,rfl,hown,hI,hcl,hbel⟩:=hrel
    obtain⟨At,ct,rfl,hct,hmt,hart⟩:=hown.form
    have hot:=hI.le
    have hmt2:=hmt
    unfold maxLen at hmt
    by_cases hjn:j<n
    ·obtain⟨-,-,-,hc4⟩:=(HO.out.2.2.2.2.1.below hbel).at_
     obtain⟨g4,o4,rfl,hcl4⟩:=hc4 (by rw[HO.out.2.2.2.2.2.2];omega)
     obtain⟨s,B1,m1,d1,B2,m2,d2,e0,e1,e2,hr⟩:=(hcl4 j (by rw[HO.out.2.2.2.2.2.2];exact hjn)).rat
     obtain⟨W2,hW2⟩:∃W2,W2=wr.alloc (.cells #[.bool s,.slice B1 m1 d1,.slice B2 m2 d2] 43):=⟨_,rfl⟩
     have hbb:Below wr.heap.size wr W2:=by rw[hW2];exact(blr _ _).alloc (nr _) _
     have hbx:=zj wr (.cells #[.bool s,.slice B1 m1 d1,.slice B2 m2 d2] 43)
     rw[<-hW2] at hbx
     obtain⟨y0,y1,y2⟩:=zk hbx
     obtain⟨sg,hsg⟩:∃sg,sg=sgnQ ((Ws.getD a []).getD j 0):=⟨_,rfl⟩
     have hsp:decide (0<sg)=decide (0<ent Ws a j):=by rw[hsg];exact zfp _
     have hb2:Below W.heap.size W W2:=bnx hbel hbb
     have HI:=hide (ai hown (ai hI (ai hcl (ai hb2 (ai (hr.below hbb) (ai hsg (ai hbb hW2)))))))
     have harr2:=hart
     clear hown hI hcl hbel hr hc4 hcl4 hsg hbb hW2 hbx hart
     go_wp2_with fail
     rw[<-HI.out.2.2.2.2.2.2.2]
     refine(zce _ _ ((Ws.getD a []).getD j 0) L HI.out.2.2.2.2.1).mono ?_
     rintro e w3 ⟨_,rfl,rfl,hd3⟩
     rw[<-HI.out.2.2.2.2.2.1]
     have hb3:=bnx HI.out.2.2.2.1 hd3
     have hown3:=(HI.out.1.keep HI.out.2.2.2.2.2.2.1).keep hd3
     have hart3:=(harr2.below HI.out.2.2.2.2.2.2.1).below hd3
     have hs3:w.heap.size+1<=w3.heap.size:=by have:=hb3.size;rw[HE.out.1] at this;exact this
     have H3:=hide (ai hb3 hown3)
     clear hd3 hb3 hown3 harr2 y0 y1 y2 e0 e1 e2
     by_cases hpos:0<ent Ws a j
     ·have hd0:decide (0<sg)=true:=by rw[hsp];exact decide_eq_true hpos
      have HP:=hide hpos
      clear hsp hpos
      go_wp2_with fail
      refine(zje _ At ct (natsI (o++t)) (j:Int) hart3 hct hmt2).mono ?_
      rintro e w4 ⟨_,rfl,rfl,hd4⟩
      have hdm:decide ((j:Int)∈natsI (o++t))=decide (j∈o++t):=decide_eq_decide.2 (zkk _ _)
      rw[hdm]
      have hb4:=bnx H3.out.1 hd4
      have hown4:=H3.out.2.keep hd4
      have hs4:w.heap.size+1<=w4.heap.size:=by have:=hd4.size;omega
      have H4:=hide (ai hb4 hown4)
      clear hb4 hown4 hd4 hart3 hdm
      by_cases hmem:j∈o++t
      ·have hd1:decide (j∈o++t)=true:=decide_eq_true hmem
       rw[hd1]
       have HM:=hide hmem
       clear hmem hd1
       go_wp2
       case roundEnd=>
        refine⟨⟨j+1,t,by omega,by go_num,H4.out.2,HI.out.2.1,fun b hb hw=>?_,H4.out.1⟩,by simp[intOf];omega⟩
        by_cases h:b<j
        ·exact HI.out.2.2.1 b h hw
        ·obtain rfl:b=j:=by omega
         exact HM.out
      ·have hd1:decide (j∈o++t)=false:=decide_eq_false hmem
       rw[hd1]
       have HM:=hide hmem
       clear hmem hd1
       go_wp2_with (at_builtin;refine app1x Tryz.i64T _ rfl _ _ rfl (w.heap.size+1) _ (natsI (o++t)) (j:Int) rfl (H4.out.2.keep ((blr _ _).alloc (nr _) _)) ⟨w4.heap.size,0,none⟩ _ rfl (by simp[World.cell?_alloc_new]) (by rw[zY];omega) (by simp;omega) ?_;intro g7 c7 w7 hown7 _ _ hb7 hg7 _ _)
       case roundEnd=>
        have e7:natsI (o++t)++[(j:Int)]=natsI (o++(t++[j])):=by simp[natsI]
        rw[e7] at hown7
        have haot:a∈o++t:=List.mem_append_left _ (by rw[HO.out.2.2.2.2.2.1];exact zdU k hkl)
        refine⟨⟨j+1,t++[j],by omega,by go_num,hown7,?_,fun b hb hw=>?_,?_⟩,by simp[intOf];omega⟩
        ·rw[<-List.append_assoc];exact HI.out.2.1.snoc haot hjn HP.out HM.out
        ·rw[<-List.append_assoc]
         by_cases h:b<j
         ·exact List.mem_append_left _ (HI.out.2.2.1 b h hw)
         ·obtain rfl:b=j:=by omega
          exact List.mem_append_right _ (by simp)
        ·have:=H4.out.1.alloc (by have:=H4.out.1.size;exact this) (.cells #[.int .i64 (j:Int)] 3)
         exact this.trans (by rw[HE.out.1];exact hb7)
     ·have hd0:decide (0<sg)=false:=by rw[hsp];exact decide_eq_false hpos
      have HP:=hide hpos
      clear hsp hpos hart3
      go_wp2
      case roundEnd=>
       refine⟨⟨j+1,t,by omega,by go_num,H3.out.2,HI.out.2.1,fun b hb hw=>?_,H3.out.1⟩,by simp[intOf];omega⟩
       by_cases h:b<j
       ·exact HI.out.2.2.1 b h hw
       ·obtain rfl:b=j:=by omega
        exact absurd hw HP.out
    ·obtain rfl:j=n:=by omega
     have HI:=hide (ai hown (ai hI (ai hcl hbel)))
     clear hown hI hcl hbel hart
     go_wp2
     case roundEnd=>
      refine⟨⟨k+1,o++t,by rw[List.length_append];omega,by go_num,HI.out.1,HI.out.2.1,fun x hx b hb hw=>?_,HI.out.2.2.2⟩,by simp[intOf];omega⟩
      have hg:∀y,y<o.length->(o++t).getD y 0=o.getD y 0:=fun y hy=>by simp[List.getD,List.getElem?_append_left hy]
      rw[hg x (by omega)] at hw
      by_cases h:x<k
      ·exact List.mem_append_left _ (HO.out.2.2.1 x h b hb hw)
      ·obtain rfl:x=k:=by omega
       rw[<-HO.out.2.2.2.2.2.1] at hw
       exact HI.out.2.2.1 b hb hw
  ·obtain rfl:k=o.length:=by omega
   have HO:=hide (ai hI (ai hcl hbel))
   clear hown hI hcl hbel harr
   go_wp2
   go_ret
   refine⟨_,rfl,o,Ao,co,rfl,HO.out.1,fun a ha b hb hw=>?_,HX.out.1.trans (HO.out.2.2.mono HX.out.1.size)⟩
   obtain⟨x,hx,e⟩:=zfV ha
   exact HO.out.2.1 x hx b hb (by rw[e];exact hw)
structure zg4 (n L:Nat) (R:List Rat) (Ws:List (List Rat)):Prop where
 n1:1<=n
 n8:n<=8
 rl:R.length=n
 wl:Ws.length=n
 rows:∀i,i<n->(Ws.getD i []).length=n
 rok:∀i,i<n->badR (R.getD i 0)=false
 wok:∀i j,i<n->j<n->badW (ent Ws i j)=false
 fit:∀i k,i<n->k<=n->FitQ L (sumN (ent Ws i) k)
 one:∀i,i<n->sumN (ent Ws i) n=1
 all:∀i,i<n->∀o:List Nat,i∈o->(∀a∈o,∀b,b<n->0<ent Ws a b->b∈o)->∀x,x<n->x∈o
set_option maxHeartbeats 4000000 in
theorem zjf (w:World) (v:Value) (R:List Rat) (Ws:List (List Rat)) (L n:Nat) (hv:ShopV w v R Ws L) (hL:L<=3000) (hL2:2<=L) (hg:zg4 n L R Ws):
  Calls Tryz.prog 58 #[v] w (Ret (fun v w'=>v=.int .i64 0/\Below w.heap.size w w')):=by
 obtain⟨va,vb,rfl,hR,hW⟩:=hv
 obtain⟨A1,c1,rfl,hc1,hm1,-⟩:=id hR
 obtain⟨A2,c2,rfl,hc2,hm2,-⟩:=id hW
 have hn1:=hg.n1
 have hn8:=hg.n8
 rw[hg.wl] at hc2 ⊢
 rw[hg.rl] at hc1 ⊢
 unfold maxLen at hm2 hm1
 obtain⟨W,hWW⟩:∃W,W=w.alloc (.cells #[.slice A1 n c1,.slice A2 n c2] 33):=⟨_,rfl⟩
 have hb0:Below w.heap.size w W:=by rw[hWW];exact(blr _ _).alloc (nr _) _
 have hbox:W.heap[w.heap.size]?=some (.cells #[.slice A1 n c1,.slice A2 n c2] 33):=by rw[hWW];exact zj _ _
 have hRr:=hR.below hb0
 rw[hg.rl] at hRr
 have hWr:=hW.below hb0
 rw[hg.wl] at hWr
 have HX:=hide (ai hb0 (ai hbox (ai hRr (ai hWr hg))))
 have HL:=hide hWW
 obtain⟨x0,x1,-,-⟩:=ze hbox
 have i1:decide ((n:Int)<1)=false:=decide_eq_false (by omega)
 have i2:decide ((8:Int)<(n:Int))=false:=decide_eq_false (by omega)
 clear hR hW hb0 hbox hWW hWr hRr hg
 go_enter Tryz.func58,Tryz.ntmps58
 go_wp2_with fail
 rw[<-HL.out]
 refine(zgq _ _ R L HX.out.2.2.1 (by omega)).mono ?_
 rintro e w1 ⟨_,rfl,rfl,hd1⟩
 have hno:anyB (fun i=>badR (R.getD i 0)) R.length=false:=zax (fun i hi=>HX.out.2.2.2.2.rok i (by rw[HX.out.2.2.2.2.rl] at hi;exact hi))
 rw[hno]
 have hbx1:=ze (at_later HX.out.2.1 hd1)
 obtain⟨y0,y1,-,-⟩:=hbx1
 have H1:=hide hd1
 clear x0 x1 hd1 hno
 go_wp2
 clear y0 y1
 go_loopw [31] (fun s31 wr=>∃(k:Nat),k<=n/\s31=.int .i64 k/\Below W.heap.size W wr) (fun s31 _=>n-(intOf s31).toNat)
 case atStart=>exact⟨0,Nat.zero_le _,rfl,H1.out⟩
 case round=>
  obtain⟨k,hk,rfl,hbel⟩:=hrel
  have HB:=hide hbel
  by_cases hkn:k<n
  ·obtain⟨-,-,-,hcell⟩:=(HX.out.2.2.2.1.below hbel).at_
   obtain⟨bw,ow,rfl,hcw⟩:=hcell (by rw[HX.out.2.2.2.2.wl];omega)
   obtain⟨u,hu,hur⟩:=hcw k (by rw[HX.out.2.2.2.2.wl];exact hkn)
   obtain⟨A3,c3,rfl,hc3,hm3,-⟩:=id hur
   have hrl:=HX.out.2.2.2.2.rows k hkn
   rw[hrl] at hu hc3 hur
   unfold maxLen at hm3
   have HU:=hide (ai hur hrl)
   have i3:(k:Int)<(n:Int):=by omega
   clear hbel hcell hcw hur hrl
   go_wp2_with fail
   refine(zgr _ _ (Ws.getD k []) L HU.out.1 (by omega)).mono ?_
   rintro e w2 ⟨_,rfl,rfl,hd2⟩
   have hno:anyB (fun i=>badW ((Ws.getD k []).getD i 0)) (Ws.getD k []).length=false:=zax (fun j hj=>HX.out.2.2.2.2.wok k j hkn (by rw[HU.out.2] at hj;exact hj))
   rw[hno]
   have H2:=hide (ai (bnx HB.out hd2) (HU.out.1.below hd2))
   clear hd2 hno
   go_wp2_with fail
   refine(zmn _ _ (Ws.getD k []) L H2.out.2 hL (fun t ht=>HX.out.2.2.2.2.fit k t hkn (by rw[HU.out.2] at ht;exact ht))).mono ?_
   rintro e w3 ⟨v3,rfl,hv3,hd3⟩
   have hs1:sumN (fun i=>(Ws.getD k []).getD i 0) (Ws.getD k []).length=1:=by rw[HU.out.2];exact HX.out.2.2.2.2.one k hkn
   rw[hs1] at hv3
   have H3:=hide (ai (bnx H2.out.1 hd3) hv3)
   clear hd3 hv3 hs1
   go_wp2_with fail
   refine(zcu _ 1 (by omega) (by omega)).mono ?_
   rintro e w4 ⟨v4,rfl,hv4,hd4⟩
   have H4:=hide (ai (bnx H3.out.1 hd4) (ai (H3.out.2.below hd4) (hv4.more hL2)))
   clear hd4 hv4
   go_wp2_with fail
   refine(zgw _ _ _ 1 1 L H4.out.2.1 H4.out.2.2 (by omega)).mono ?_
   rintro e w5 ⟨_,rfl,rfl,hd5⟩
   rw[show sgnQ ((1:Rat)-1)=0 from zjM rfl]
   have H5:=hide (bnx H4.out.1 hd5)
   clear hd5
   go_wp2
   case roundEnd=>exact⟨⟨k+1,by omega,by go_num,H5.out⟩,by simp[intOf];omega⟩
  ·obtain rfl:k=n:=by omega
   clear hbel
   go_wp2
   go_loopw [52] (fun s52 wr=>∃(i:Nat),i<=k/\s52=.int .i64 i/\Below W.heap.size W wr) (fun s52 _=>k-(intOf s52).toNat)
   case atStart=>exact⟨0,Nat.zero_le _,rfl,HB.out⟩
   case round=>
    obtain⟨i,hi,rfl,hbel⟩:=hrel
    have hbx:=ze (at_later HX.out.2.1 hbel)
    obtain⟨y0,y1,-,-⟩:=hbx
    have HC:=hide hbel
    clear hbel
    by_cases hin:i<k
    ·go_wp2_with fail
     refine(zkl _ _ R Ws L k i ⟨_,_,rfl,by have:=HX.out.2.2.1.below HC.out;exact this,HX.out.2.2.2.1.below HC.out⟩ (by omega) (by omega) HX.out.2.2.2.2.wl HX.out.2.2.2.2.rows hin).mono ?_
     rintro e w2 ⟨_,rfl,o,Ao,co,rfl,hI,hcl,hd2⟩
     have hol:o.length=k:=Nat.le_antisymm hI.le (znH (HX.out.2.2.2.2.all i hin o hI.here hcl))
     rw[hol]
     have H2:=hide (bnx HC.out hd2)
     clear hd2 hI hcl hol y0 y1
     go_wp2
     case roundEnd=>exact⟨⟨i+1,by omega,by go_num,H2.out⟩,by simp[intOf];omega⟩
    ·obtain rfl:i=k:=by omega
     go_wp2
     go_ret
     exact⟨_,rfl,rfl,HX.out.1.trans (HC.out.mono HX.out.1.size)⟩
end Go.Proofs.YtpoahodnakhmiaaGreat
