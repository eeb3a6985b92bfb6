import Derived.Test.YtpoahodnakhmiaaGreatRefC
namespace Go.Proofs.YtpoahodnakhmiaaGreat
set_option linter.unusedVariables false
set_option linter.unusedSimpArgs false
open Go.RowKit
def zgz (w:World) (rows:List (List Rat)) (L k:Nat) (v:Value) (wr:World):Prop:=
 ∃xs:List (List Rat×Nat),xs.length=k/\xs.map (·.1)=rows.take k/\OwnG 25 1 (RB w.heap.size L) wr w.heap.size v xs/\(∀x∈xs,x.2<wr.heap.size) /\
  (∀i j,i<xs.length->j<xs.length->i≠j->(xs.map (·.2)).getD i 0≠(xs.map (·.2)).getD j 0)/\Below w.heap.size w wr
theorem OwnG.qrow' {w:World} {base g n c:Nat} {qs:List Rat} {L:Nat} (h:OwnG 55 4 (QE L) w base (.slice (some ⟨g,0,none⟩) n c) qs) (h0:0<qs.length):
  n=qs.length/\qs.length<=c/\c<=maxLen/\base<=g/\z9 w g qs L:=by
 obtain⟨g',c',e,h1,h2,h3,h4⟩:=h.qrow h0
 injection e with e1 e2 e3
 injection e1 with e1
 injection e1 with e1
 subst e1 e3
 exact⟨e2,h1,h2,h3,h4⟩
theorem zgz.step {w w6:World} {rows:List (List Rat)} {L k:Nat} {xs:List (List Rat×Nat)} {v:Value} {row:List Rat} {g:Nat} (hk:k<rows.length) (hl:xs.length=k) (hx:xs.map (·.1)=rows.take k) (hrow:row=rows.getD k [])
  (hlt:∀x∈xs,x.2<g) (hd:∀i j,i<xs.length->j<xs.length->i≠j->(xs.map (·.2)).getD i 0≠(xs.map (·.2)).getD j 0) (hg:g<w6.heap.size)
  (hown:OwnG 25 1 (RB w.heap.size L) w6 w.heap.size v (xs++[(row,g)])) (hb:Below w.heap.size w w6):zgz w rows L (k+1) v w6:=by
 refine⟨xs++[(row,g)],by simp[hl],?_,hown,?_,?_,hb⟩
 ·rw[List.map_append,hx,List.take_add_one,hrow]
  simp[List.getD,hk]
 ·intro x hx
  rcases List.mem_append.1 hx with h|h
  ·have:=hlt x h;omega
  ·rw[List.mem_singleton] at h;rw[h];exact hg
 ·intro i j hi hj hne
  rw[List.length_append,List.length_singleton] at hi hj
  have hget:∀i,i<xs.length->((xs++[(row,g)]).map (·.2)).getD i 0=(xs.map (·.2)).getD i 0:=by
   intro i hi
   simp only[List.getD_eq_getElem?_getD,List.map_append]
   rw[List.getElem?_append_left (by rw[List.length_map];exact hi)]
  have hlast:((xs++[(row,g)]).map (·.2)).getD xs.length 0=g:=by simp[List.getD]
  have hin:∀i,i<xs.length->(xs.map (·.2)).getD i 0<g:=by
   intro i hi
   rw[show (xs.map (·.2)).getD i 0=xs[i].2 by simp[List.getD,hi]]
   exact hlt _ (List.getElem_mem hi)
  by_cases h1:i<xs.length
  ·by_cases h2:j<xs.length
   ·rw[hget i h1,hget j h2];exact hd i j h1 h2 hne
   ·rw[hget i h1,show j=xs.length by omega,hlast];have:=hin i h1;omega
  ·by_cases h2:j<xs.length
   ·rw[hget j h2,show i=xs.length by omega,hlast];have:=hin j h2;omega
   ·omega
theorem z9.row {w:World} {g c:Nat} {qs:List Rat} {L:Nat} (h:z9 w g qs L) (h1:qs.length<=c) (h2:c<=maxLen):QRowE L w (.slice (some ⟨g,0,none⟩) qs.length c) qs:=by
 refine⟨_,c,rfl,h1,h2,fun hx=>⟨g,0,rfl,h.typed,fun i x hi=>?_⟩⟩
 have hil:=(List.getElem?_eq_some_iff.1 hi).1
 obtain⟨s,A1,n1,c1,B1,m1,d1,k0,k1,k2,k3,hq⟩:=h.2 i hil
 have hx:qs.getD i 0=x:=by rw[List.getD,hi];rfl
 rw[hx] at hq
 refine⟨_,rfl,fun j hj=>?_,hq⟩
 rw[Nat.zero_add]
 have hj4:j<4:=hj
 rcases (by omega:j=0\/j=1\/j=2\/j=3) with rfl|rfl|rfl|rfl
 ·exact k0
 ·exact k1
 ·exact k2
 ·exact k3
theorem MatQ.lst {w:World} {base R cR:Nat} {vs rR:List Value} {gs:List Nat} {rows:List (List Rat)} {L:Nat} (h:MatQ w base R cR vs rR gs rows L) {a:Nat} (ha:a<=rows.length):QRows L w (.slice (some ⟨R,0,none⟩) a cR) (rows.take a):=by
 have hl:(rows.take a).length=a:=by rw[List.length_take];omega
 have hc:=h.c1
 refine⟨_,cR,by rw[hl],by omega,h.c2,fun hx=>⟨R,0,rfl,⟨_,_,h.hR⟩,fun i x hi=>?_⟩⟩
 have hil:=(List.getElem?_eq_some_iff.1 hi).1
 rw[hl] at hil
 obtain⟨g,c,hg,hcell,h1,h2,hrow,-⟩:=h.rowAt (i:=i) (by omega)
 have hx:rows.getD i []=x:=by
  rw[List.getElem?_take_of_lt hil] at hi
  rw[List.getD,hi];rfl
 rw[hx] at hcell h1 hrow
 refine⟨_,rfl,fun j hj=>?_,hrow.row h1 h2⟩
 have:j=0:=by have:(Value.slice (some ⟨g,0,none⟩) x.length c).cells.size=1:=rfl
              omega
 subst this
 rw[Nat.zero_add,Nat.mul_one,Nat.add_zero]
 exact hcell
theorem MatQ.swap_facts {w:World} {base R cR:Nat} {vs rR:List Value} {gs:List Nat} {rows:List (List Rat)} {L:Nat} (h:MatQ w base R cR vs rR gs rows L) {a p:Nat} {va vp:Value} (ha:a<rows.length) (hp:p<rows.length)
  (hca:w.cell? ⟨R,a,none⟩=some va) (hcp:w.cell? ⟨R,p,none⟩=some vp):
  (∃u,(w.setCell ⟨R,p,none⟩ va).cell? ⟨R,a,none⟩=some u)/\(∃vs' gs',MatQ ((w.setCell ⟨R,p,none⟩ va).setCell ⟨R,a,none⟩ vp) base R cR vs' rR gs' (swapL rows a p []) L)/\w.grownBy ((w.setCell ⟨R,p,none⟩ va).setCell ⟨R,a,none⟩ vp) (some R) /\
   KpI w ((w.setCell ⟨R,p,none⟩ va).setCell ⟨R,a,none⟩ vp):=by
 have e1:vs.getD a undef=va:=by
  have:=(h.hR.cell (j:=a) (by rw[h.n1];exact ha)).symm.trans hca
  injection this
 have e2:vs.getD p undef=vp:=by
  have:=(h.hR.cell (j:=p) (by rw[h.n1];exact hp)).symm.trans hcp
  injection this
 obtain⟨h1,h2⟩:=h.swap ha hp (w':=(w.setCell ⟨R,p,none⟩ va).setCell ⟨R,a,none⟩ vp) (by rw[e1,e2])
 refine⟨?_,⟨_,_,h1⟩,h2,KpI.only h2 ⟨_,_,h.hR⟩ (by decide)⟩
 by_cases e:p=a
 ·subst e;exact⟨_,World.cell?_setCell_same _ _ _ hcp⟩
 ·exact⟨va,by rw[World.cell?_setCell_other _ _ _ _ (by intro e';injection e' with e1 e2;omega)];exact hca⟩
theorem zga {wd:Nat} {S:St} {c:Nat} (h:(echN c S).2.length=S.1.length):∀k,echN (c+k) S=echN c S
 | 0=>rfl
 | k+1=>by
  rw[<-Nat.add_assoc,echN,zga (wd:=wd) h k]
  refine zaX ?_
  rw[h,echN_length]
  exact zbT _ _ _ _ (fun e=>by rw[echN_length] at e;omega)
set_option maxRecDepth 1000000 in
set_option maxHeartbeats 8000000 in
theorem zkP (w:World) (v:Value) (rows:List (List Rat)) (wd m N:Nat) (hv:QRows (m / 9+1) w v rows) (hN:rows.length=N) (h0:0<N) (hNb:N<=1000000000) (hrow:∀i,i<rows.length->(rows.getD i []).length=wd) (hw0:0<wd) (hwb:wd<=1000000000) (hm:m<=100000000)
  (hfit:∀c,c<wd->∀k,k<=N->pivK c (echN c (rows,idRows rows.length))≠N->∀i j,FracQ m (ent (clearN (echN c (rows,idRows rows.length)).2.length c k (divS (echN c (rows,idRows rows.length)).2.length c (swapS (echN c (rows,idRows rows.length)).2.length (pivK c (echN c (rows,idRows rows.length))) (echN c (rows,idRows rows.length)).1))).1 i j)):
  Calls Tryz.prog 144 #[v,.int .i64 wd] w (Ret (fun v w'=>QRows (m / 9+1) w' v ((echN wd (rows,idRows rows.length)).1.1.take (echN wd (rows,idRows rows.length)).2.length)/\Below w.heap.size w w')):=by
 obtain⟨A,c,rfl,hc1,hc2,-⟩:=id hv
 have HA:=hide (ai hv (ai hrow hfit))
 have HN:=hide hN
 clear hv hrow hfit
 unfold maxLen at hc2
 rw[hN] at hc1 ⊢
 obtain⟨S,hS⟩:∃S:St,S=(rows,idRows N):=⟨_,rfl⟩
 rw[<-hS]
 have hlS:S.1.length=N:=by rw[hS];exact hN
 have HS:=hide (ai hS hlS)
 clear hS hlS
 go_enter Tryz.func144,Tryz.ntmps144
 go_wp2
 go_loopw [5,6,7] (fun s5 s6 s7 wr=>∃k:Nat,k<=N/\s6=.int .i64 k/\zgz w rows (m / 9+1) k s5 wr) (fun _ s6 _ _=>N-(intOf s6).toNat)
 case atStart=>exact⟨0,Nat.zero_le _,rfl,[],rfl,rfl,OwnG.nil _ _ _ _ _,fun x h=>absurd h List.not_mem_nil,fun i j h=>absurd h (by simp),blr _ _⟩
 case round=>
  obtain⟨k,hk,rfl,xs,hxl,hx,hown,hlt,hdis,hbel⟩:=hrel
  by_cases hkl:k<N
  ·have d1:decide (k<N)=true:=decide_eq_true hkl
   obtain⟨-,-,-,hat⟩:=zx.row_at (HA.out.1.below hbel)
   obtain⟨b,o,eA,hat2⟩:=hat (by rw[HN.out];omega)
   obtain rfl:=eA
   obtain⟨A1,c1,hcell,hr⟩:=hat2 k (by rw[HN.out];omega)
   have hq:=HA.out.2.1 k (by rw[HN.out];exact hkl)
   rw[hq] at hcell
   obtain⟨As,cs,es,_,_⟩:=hown.len
   rw[hxl] at es
   subst es
   have HX:=hide (ai hxl (ai hx (ai hown (ai hlt (ai hdis (ai hbel (ai hr hq)))))))
   clear hxl hx hown hlt hdis hbel hat hat2 hr hq
   go_wp2_with (first
    | (at_builtin;refine appL Tryz.qE (zap _ (by decide)) (zkQ _) _ rfl _ _ rfl wr.heap.size _ [] (rows.getD k []) rfl (OwnG.nil _ _ _ _ _) 55 _ (by rw[HX.out.2.2.2.2.2.2.2];rfl) HX.out.2.2.2.2.2.2.1 (by rw[HX.out.2.2.2.2.2.2.2];exact hw0) (by rw[HX.out.2.2.2.2.2.2.2];simp;omega) (nr _) ?_;intro g5 c5 w5 hown5 hb5 hg5;
       have hl5:([]:List Rat).length+(rows.getD k []).length=wd:=(by rw[HX.out.2.2.2.2.2.2.2];simp);
       rw[hl5] at hown5 ⊢;
       rw[List.nil_append] at hown5;
       have hq5:=OwnG.qrow' hown5 (by rw[HX.out.2.2.2.2.2.2.2];exact hw0);
       have H5:=hide (ai hq5 (ai hb5 hg5));clear hown5 hb5 hg5 hq5 hl5)
    | (at_builtin;refine appG Tryz.qrowE (znV _ _) _ rfl _ _ rfl w.heap.size _ xs (rows.getD k [],g5) rfl (OwnG.below (znU _ _) HX.out.2.2.1 (za H5.out.2.1 _)) ⟨w5.heap.size,0,none⟩ _ rfl (.slice (some ⟨g5,0,none⟩) wd c5) ⟨c5,(by show _=Value.slice _ (rows.getD k []).length _;rw[HX.out.2.2.2.2.2.2.2]),H5.out.1.2.1,H5.out.1.2.2.1,Nat.le_trans HX.out.2.2.2.2.2.1.size H5.out.1.2.2.2.1,z9.below H5.out.1.2.2.2.2 (za (blr _ _) _)⟩ rfl (zaH _ _ rfl _ rfl) (fun c hc=>(by simp[Value.cells] at hc;rw[hc];rfl)) (by rw[HX.out.1];omega) (by have h1:=HX.out.2.2.2.2.2.1.size;have h2:=H5.out.2.1.size;simp;omega) ?_;intro g6 c6 w6 hown6 hb6 hg6;rw[HX.out.1] at hown6 ⊢;
       have H6:=hide (ai hown6 (ai hb6 hg6));clear hown6 hb6 hg6))
   case roundEnd=>
    obtain⟨hxl,hx,hown,hlt,hdis,hbel,hr,hq⟩:=HX.out
    have h1:=hbel.size
    refine⟨⟨k+1,by omega,by go_num,zgz.step (by rw[HN.out];exact hkl) hxl hx rfl (fun x hx=>Nat.lt_of_lt_of_le (hlt x hx) H5.out.1.2.2.2.1) hdis ?_ H6.out.1 ((hbel.trans ((za H5.out.2.1 _).mono h1)).trans H6.out.2.1)⟩,by simp[intOf];omega⟩
    have h2:=H5.out.1.2.2.2.2.lt
    have h3:=H6.out.2.2.by_.size
    simp at h3
    omega
  ·have d1:decide (k<N)=false:=decide_eq_false hkl
   obtain rfl:k=N:=by omega
   obtain⟨R,cR,vs0,rR,es,hmat0⟩:=hown.matQ (by omega) hdis
   subst es
   rw[hxl]
   have hcR:xs.length<=cR/\cR<=maxLen:=⟨by have:=hmat0.c1;rw[List.length_map] at this;exact this,hmat0.c2⟩
   rw[hxl] at hcR
   obtain⟨hcR1,hcR2⟩:=hcR
   unfold maxLen at hcR2
   rw[hx,List.take_of_length_le (by rw[HN.out];exact nr _)] at hmat0
   obtain⟨gs0,hgs0⟩:∃gs0,gs0=xs.map (·.2):=⟨_,rfl⟩
   rw[<-hgs0] at hmat0
   have hS:=HS.out.1
   have hrect:Rect wd S:=by rw[hS,<-HN.out];exact zU HA.out.2.1
   have hlS:=HS.out.2
   have hmatS:MatQ wr w.heap.size R cR vs0 rR gs0 S.1 (m / 9+1):=by rw[hS];exact hmat0
   have hfit:=HA.out.2.2
   rw[HN.out,<-hS] at hfit
   have HB:=hide (ai hmatS (ai hbel (ai hrect (ai hlS hfit))))
   clear hmat0 hmatS hbel hrect hlS hfit hgs0 hxl hx hown hlt hdis hS HA
   go_wp2
   go_loopw [8,9] (fun s8 s9 wr2=>∃(n:Nat) (vs:List Value) (gs:List Nat),n<=wd/\s9=.int .i64 n/\s8=.int .i64 (echN n S).2.length/\MatQ wr2 w.heap.size R cR vs rR gs (echN n S).1.1 (m / 9+1)/\Below w.heap.size w wr2) (fun _ s9 _=>wd-(intOf s9).toNat)
   case atStart=>exact⟨0,vs0,_,Nat.zero_le _,rfl,rfl,HB.out.1,HB.out.2.1⟩
   case round=>
    obtain⟨n,vs,gs,hnc,rfl,rfl,hmat,hbel⟩:=hrel
    rename World=>wo
    have hlT:=echN_length n S
    rw[HB.out.2.2.2.1] at hlT
    have hoT:=echN_out n S
    rw[HB.out.2.2.2.1] at hoT
    by_cases hnl:n<wd
    ·have d2:decide (n<wd)=true:=decide_eq_true hnl
     by_cases haN:(echN n S).2.length<k
     ·have d3:decide ((echN n S).2.length<k)=true:=decide_eq_true haN
      have hrT:=zT n HB.out.2.2.1
      have hfT:=HB.out.2.2.2.2 n hnl
      have hnx:echN (n+1) S=colS n (echN n S):=rfl
      generalize hT:echN n S=T at *
      have HT:=hide hT;clear hT
      have HH:=hide (ai hmat (ai hbel (ai hrT (ai hfT (ai hnx hlT)))));clear hmat hbel hrT hfT hnx hlT
      obtain⟨K0,hK0⟩:∃K0,K0=pivK n T:=⟨_,rfl⟩
      have HK0:=hide hK0
      have hKr:=zbA T.1.1 n T.1.1.length T.2.length (by rw[HH.out.2.2.2.2.2];exact hoT)
      have hKr:T.2.length<=K0/\K0<=k:=by rw[hK0];rw[HH.out.2.2.2.2.2] at hKr;unfold pivK;rw[HH.out.2.2.2.2.2];exact hKr
      clear hK0
      go_wp2
      go_loopw [10] (fun s10 wr2=>∃(p f:Nat),p<=k/\s10=.int .i64 p/\findK T.1.1 n f p=K0/\k<=p+f/\Below wo.heap.size wo wr2) (fun s10 _=>k-(intOf s10).toNat)
      case atStart=>exact⟨T.2.length,k,hoT,rfl,by rw[HK0.out];unfold pivK;rw[HH.out.2.2.2.2.2],by omega,blr _ _⟩
      case round=>
       obtain⟨p,f,hpk,rfl,hkf,hf,hbel2⟩:=hrel
       by_cases hpl:p<k
       ·have d4:decide (p<k)=true:=decide_eq_true hpl
        have hm2:=HH.out.1.below (hbel2.mono (nr _))
        obtain⟨gp,cp,hgp,r0,hcp1,hcp2,hrowp,hbgp⟩:=hm2.rowAt (i:=p) (by rw[HH.out.2.2.2.2.2];exact hpl)
        have hrl:=HH.out.2.2.1.row p (by rw[HH.out.2.2.2.2.2];exact hpl)
        rw[hrl] at r0
        obtain⟨s2,B3,m3,d3',B4,m4,d4',e0,e1,e2,e3,hq⟩:=hrowp.2 n (by rw[hrl];omega)
        have HQ:=hide (ai hq (ai hkf (ai hbel2 hm2)))
        have HGP:=hide hgp
        clear hq hkf hbel2 hm2 hrowp hbgp hgp hcp1 hcp2 hrl
        by_cases hz:ent T.1.1 p n=0
        ·go_wp2_with fail
         refine(zdX _ _ _ _ HQ.out.1).mono ?_
         rintro e w1 ⟨_,rfl,rfl,hd1⟩
         rw[show sgnQ ((T.1.1.getD p []).getD n 0)=0 by rw[show (T.1.1.getD p []).getD n 0=0 from hz];rfl]
         have HD:=hide hd1;clear hd1
         go_wp2
         case roundEnd=>
          have hkf:=HQ.out.2.1
          obtain⟨f',rfl⟩:∃f',f=f'+1:=⟨f-1,by omega⟩
          rw[zeX _ _ _ _ (by rw[HH.out.2.2.2.2.2];exact hpl) hz] at hkf
          exact⟨⟨p+1,f',by omega,by go_num,hkf,by omega,bnx HQ.out.2.2.1 HD.out⟩,by simp[intOf];omega⟩
        ·have hpK:p=K0:=by
          have:=HQ.out.2.1
          rw[zbT _ _ _ _ (fun h=>hz h.2)] at this;exact this
         have HPK:=hide hpK;clear hpK
         go_wp2_with fail
         refine(zdX _ _ _ _ HQ.out.1).mono ?_
         rintro e w1 ⟨_,rfl,rfl,hd1⟩
         obtain⟨z,hzz⟩:∃z,z=sgnQ ((T.1.1.getD p []).getD n 0):=⟨_,rfl⟩
         have hs:(z == 0)=false:=by rw[beq_eq_false_iff_ne,hzz];exact ziS hz
         rw[<-hzz]
         have hne:((p:Int) == (k:Int))=false:=by rw[beq_eq_false_iff_ne];omega
         have hm1:=HQ.out.2.2.2.below hd1
         have HD:=hide (ai hd1 (ai hm1 (ai HPK.out (ai hz hzz))))
         have hp1:=(hd1.cell (zf r0)).trans r0
         obtain⟨ga,ca,hga,ra0,hca1,hca2,hrowa,hbga⟩:=hm1.rowAt (i:=T.2.length) (by rw[HH.out.2.2.2.2.2];exact haN)
         rw[HH.out.2.2.1.row T.2.length (by rw[HH.out.2.2.2.2.2];exact haN)] at ra0 hca1
         have f0:=hm1.hR.frozen p
         have f1:=hm1.hR.frozen T.2.length
         obtain⟨⟨u1,hu1⟩,⟨vs2,gs2,hm2⟩,hgr,hki⟩:=hm1.swap_facts (by rw[HH.out.2.2.2.2.2];exact haN) (by rw[HH.out.2.2.2.2.2];exact hpl) ra0 hp1
         have hgR:gp≠R:=by rw[HGP.out];exact HQ.out.2.2.2.sep (by rw[HH.out.2.2.2.2.2];exact hpl)
         have q3:((w1.setCell ⟨R,p,none⟩ (.slice (some ⟨ga,0,none⟩) wd ca)).setCell ⟨R,T.2.length,none⟩ (.slice (some ⟨gp,0,none⟩) wd cp)).cell? ⟨R,T.2.length,none⟩=some (.slice (some ⟨gp,0,none⟩) wd cp):=World.cell?_setCell_same _ _ _ hu1
         have ho:∀j v,wr.cell? ⟨gp,j,none⟩=some v->((w1.setCell ⟨R,p,none⟩ (.slice (some ⟨ga,0,none⟩) wd ca)).setCell ⟨R,T.2.length,none⟩ (.slice (some ⟨gp,0,none⟩) wd cp)).cell? ⟨gp,j,none⟩=some v:=by
          intro j v hv
          rw[World.cell?_setCell_other _ _ _ _ (by intro e';injection e' with e1 e2;exact hgR e1.symm),World.cell?_setCell_other _ _ _ _ (by intro e';injection e' with e1 e2;exact hgR e1.symm)]
          exact(hd1.cell (zf hv)).trans hv
         have q4:=ho _ _ e0
         have q5:=ho _ _ e1
         have q6:=ho _ _ e2
         have q7:=ho _ _ e3
         have HW:=hide (ai hm2 (ai hgr hki))
         clear ho hd1 hm1 HPK hzz r0 e0 e1 e2 e3 hga hrowa hbga hz hm2 hgr hki hgR
         go_wp2
         have hszs:((w1.setCell ⟨R,p,none⟩ (.slice (some ⟨ga,0,none⟩) wd ca)).setCell ⟨R,T.2.length,none⟩ (.slice (some ⟨gp,0,none⟩) wd cp)).heap.size=w1.heap.size:=by simp[World.setCell]
         have hb5:Below ((w1.setCell ⟨R,p,none⟩ (.slice (some ⟨ga,0,none⟩) wd ca)).setCell ⟨R,T.2.length,none⟩ (.slice (some ⟨gp,0,none⟩) wd cp)).heap.size ((w1.setCell ⟨R,p,none⟩ (.slice (some ⟨ga,0,none⟩) wd ca)).setCell ⟨R,T.2.length,none⟩ (.slice (some ⟨gp,0,none⟩) wd cp)) (((w1.setCell ⟨R,p,none⟩ (.slice (some ⟨ga,0,none⟩) wd ca)).setCell ⟨R,T.2.length,none⟩ (.slice (some ⟨gp,0,none⟩) wd cp)).alloc (.cells #[.bool s2,.slice B3 m3 d3',.bool false,.slice B4 m4 d4'] 55)):=za (blr _ _) _
         have hm5:=HW.out.1.below hb5
         obtain⟨z0,z1,z2,z3,_⟩:=zq (heap_alloc_new ((w1.setCell ⟨R,p,none⟩ (.slice (some ⟨ga,0,none⟩) wd ca)).setCell ⟨R,T.2.length,none⟩ (.slice (some ⟨gp,0,none⟩) wd cp)) (.cells #[.bool s2,.slice B3 m3 d3',.bool false,.slice B4 m4 d4'] 55))
         rw[hszs] at z0 z1 z2 z3
         have hlS:(swapL T.1.1 T.2.length p []).length=k:=by rw[zr,HH.out.2.2.2.2.2]
         have hga:(swapL T.1.1 T.2.length p []).getD T.2.length []=T.1.1.getD p []:=by
          rw[zI _ _ _ _ _ (by rw[HH.out.2.2.2.2.2];exact haN)]
          unfold sw
          by_cases e:T.2.length=p
          ·rw[if_pos e,e]
          ·rw[if_neg e,if_pos rfl]
         have hrl:(T.1.1.getD p []).length=wd:=HH.out.2.2.1.row p (by rw[HH.out.2.2.2.2.2];exact hpl)
         have hq5:=((HQ.out.1.below HD.out.1).kpI HW.out.2.2).kpI (Below.kpI hb5)
         have hff:=HH.out.2.2.2.1
         rw[<-HK0.out,<-HD.out.2.2.1] at hff
         have hnx:=HH.out.2.2.2.2.1
         rw[za5 (by have h1:=HK0.out;rw[<-HD.out.2.2.1] at h1;unfold pivK at h1;rw[<-h1,HH.out.2.2.2.2.2];omega)] at hnx
         have hpv:findK T.1.1 n T.1.1.length T.2.length=p:=by have h1:=HK0.out;rw[<-HD.out.2.2.1] at h1;unfold pivK at h1;exact h1.symm
         rw[hpv,HH.out.2.2.2.2.2] at hnx
         have hkr5:=HW.out.2.2.trans (Below.kpI hb5)
         have hlt5:=HW.out.1.hR.lt
         have hgl5:=(HW.out.1.rok T.2.length (by rw[hlS];exact haN)).2.2.lt
         have HY:=hide (ai hm5 (ai hlS (ai hga (ai hrl (ai hq5 (ai hff (ai hnx (ai hkr5 (ai hb5 (ai hszs (ai hlt5 hgl5)))))))))))
         clear hm5 hlS hga hrl hq5 hff hnx hkr5 hb5 hpv hlt5 hgl5
         refine zkR _ w.heap.size R cR vs2 rR gs2 (swapL T.1.1 T.2.length p []) m wd T.2.length k w1.heap.size (ent T.1.1 p n) s2 B3 m3 d3' B4 m4 d4' HY.out.1 HY.out.2.1 haN (by rw[HY.out.2.2.1];exact HY.out.2.2.2.1) (by omega) (by omega) (by have h1:=HY.out.2.2.2.2.2.2.2.2.2.2.2;have h2:=HY.out.2.2.2.2.2.2.2.2.2.1;omega) (by have h1:=HY.out.2.2.2.2.2.2.2.2.2.2.1;have h2:=HY.out.2.2.2.2.2.2.2.2.2.1;omega) z0 z1 z2 z3 HY.out.2.2.2.2.1 HD.out.2.2.2.1 ?fitO _ _ _ _ _ _ _ _ _ _ _ _ _ _ _ _ _ _ _ _ _ _ _ _ _ _ _ _ _ _ _ _ _ _ _ _ _ _ _ _ _ _ _ _ _ _ _ _ _ _ _ _ _ _ _ _ _ _ _ _ _ _ _ _ _ _ _ _ _ _ _ _ _ _ _ _ _ _ _ _ _ _ _ _ _ _ _ _ _ _ _ _ _ _ _ _ _ _ _ _ _ _ _ _ _ _ _ _ _ _ _ _ _ _ _ _ _ _ _ _ _ _ _ _ _ _ _ _ _ _ _ _ _ _ _ _ _ _ _ _ _ _ _ _ _ _ _ _ _ _ _ _ _ _ _ _ _ _ _ _ _ _ _ _ ?_
         case fitO=>
          intro j hj
          have h1:=HY.out.2.2.2.2.2.1 0 (Nat.zero_le _) (by omega) T.2.length j
          have e:ent (clearN T.2.length n 0 (divS T.2.length n (swapS T.2.length p T.1))).1 T.2.length j=((swapL T.1.1 T.2.length p []).getD T.2.length []).getD j 0 / ent T.1.1 p n:=by
           show ent ((swapL T.1.1 T.2.length p []).set T.2.length _) T.2.length j=_
           rw[zes _ _ _ _ (by rw[HY.out.2.1];exact haN),zbm]
           congr 1
           show ((swapL T.1.1 T.2.length p []).getD T.2.length []).getD n 0=_
           rw[HY.out.2.2.1];rfl
          rw[e] at h1
          exact h1
         intro v13 v88 v89 v90 v91 v92 v93 v94 v95 v96 v97 v98 v99 v100 v101 v102 v103 v104 v105 v106 v107 w6 hR
         clear z0 z1 z2 z3
         have hR6:RowI _ w.heap.size R cR vs2 rR gs2 (swapL T.1.1 T.2.length p []) _ (m / 9+1) T.2.length w1.heap.size wd w6:=hR
         obtain⟨hm6,hk6,-,hb6,hsz6⟩:=hR6
         obtain⟨S2,hS2⟩:∃S2,S2=divS T.2.length n (swapS T.2.length p T.1):=⟨_,rfl⟩
         have hm6:MatQ w6 w.heap.size R cR vs2 rR gs2 S2.1 (m / 9+1):=by
          have el:=zgW (new:=divL ((swapL T.1.1 T.2.length p []).getD T.2.length []) (ent T.1.1 p n)) (old:=(swapL T.1.1 T.2.length p []).getD T.2.length []) (zak _ _)
          rw[show ((swapL T.1.1 T.2.length p []).getD T.2.length []).length=wd by rw[HY.out.2.2.1];exact HY.out.2.2.2.1] at el
          rw[el] at hm6
          have e:S2.1=(swapL T.1.1 T.2.length p []).set T.2.length (divL ((swapL T.1.1 T.2.length p []).getD T.2.length []) (ent T.1.1 p n)):=by
           rw[hS2]
           show (swapL T.1.1 T.2.length p []).set T.2.length (divL _ (ent (swapL T.1.1 T.2.length p []) T.2.length n))=_
           have e2:ent (swapL T.1.1 T.2.length p []) T.2.length n=ent T.1.1 p n:=by unfold ent;rw[HY.out.2.2.1]
           rw[e2];rfl
          rw[e];exact hm6
         have hl2:S2.1.length=k:=by rw[hS2,zaJ,zX,HH.out.2.2.2.2.2]
         have hr2:Rect wd S2:=by rw[hS2];exact zb3 (zbM HH.out.2.2.1 (by rw[HH.out.2.2.2.2.2];exact haN) (by rw[HH.out.2.2.2.2.2];exact hpl)) (by rw[zX,HH.out.2.2.2.2.2];exact haN)
         have hbS:Below w.heap.size w w6:=by
          have b1:=(HH.out.2.1.trans (HQ.out.2.2.1.mono HH.out.1.le)).trans (HD.out.1.mono HQ.out.2.2.2.le)
          have b2:=only_below b1 HW.out.2.1 (by have h1:=HH.out.1.le;have h2:=HQ.out.2.2.1.size;have h3:=HD.out.1.size;omega) HW.out.1.bR
          exact(b2.trans (HY.out.2.2.2.2.2.2.2.2.1.mono HW.out.1.le)).trans hb6
         have HC:=hide (ai hm6 (ai hl2 (ai hr2 (ai hbS (ai hS2 hsz6)))))
         clear hm6 hl2 hr2 hbS hS2 hsz6 hk6 hb6 hR
         go_wp2
         refine zkO _ w.heap.size R cR vs2 rR gs2 S2 m wd T.2.length n k HC.out.1 HC.out.2.2.1 HC.out.2.1 haN hnl (by omega) (by omega) (by omega) (fun i hi=>by rw[HC.out.2.2.2.2.1];exact HY.out.2.2.2.2.2.1 i hi (by omega)) _ _ _ _ _ _ _ _ _ _ _ _ _ _ _ _ _ _ _ _ _ _ _ _ _ _ _ _ _ _ _ _ _ _ _ _ _ _ _ _ _ _ _ _ _ _ _ _ _ _ _ _ _ _ _ _ _ _ _ _ _ _ _ _ _ _ _ _ _ _ _ _ _ _ _ _ _ _ _ _ _ _ _ _ _ _ _ _ _ _ _ _ _ _ _ _ _ _ _ _ _ _ _ _ _ _ _ _ _ _ _ _ _ _ _ _ _ _ _ _ _ _ _ _ _ _ _ _ _ _ _ _ _ _ _ _ _ _ _ _ _ _ _ _ _ _ _ _ _ _ _ _ _ _ _ _ _ _ _ _ _ _ _ _ ?_
         intro v14 v15 v16 v108 v109 v110 v111 v112 v113 v114 v115 v116 v117 v118 v119 v120 v121 v122 v123 v124 v125 v126 v127 v128 v129 v130 v131 v132 v133 v134 v135 v136 v137 v138 v139 v140 v141 v142 v143 v144 v145 v146 v147 v148 v149 v150 v151 v152 v153 v154 v155 v156 v157 v158 v159 v160 v161 v162 w7 hC7
         have H7:=hide hC7;clear hC7
         go_wp2
         case roundEnd=>
          obtain⟨h1,h2,h3,h4⟩:=H7.out
          have hnx:=HY.out.2.2.2.2.2.2.1
          rw[<-HC.out.2.2.2.2.1] at hnx
          refine⟨⟨n+1,vs2,gs2,by omega,by go_num,by rw[hnx];simp,?_,HC.out.2.2.2.1.trans h3⟩,by simp[intOf];omega⟩
          rw[hnx]
          exact h1
       ·have d4:decide (p<k)=false:=decide_eq_false hpl
        obtain rfl:p=k:=by omega
        have hkK:p=K0:=by
         rw[zbT _ _ _ _ (fun h=>hpl (by have h1:=h.1;rw[HH.out.2.2.2.2.2] at h1;exact h1))] at hkf;exact hkf
        have HQ:=hide (ai hkK hbel2)
        clear hkK hbel2 hkf
        go_wp2
        case roundEnd=>
         have hnx:=HH.out.2.2.2.2.1
         have hsame:colS n T=T:=zaX (by rw[HH.out.2.2.2.2.2];have h1:=HK0.out;rw[<-HQ.out.1] at h1;unfold pivK at h1;rw[HH.out.2.2.2.2.2] at h1;exact h1.symm)
         rw[hsame] at hnx
         refine⟨⟨n+1,vs,gs,by omega,by go_num,by rw[hnx],?_,HH.out.2.1.trans (HQ.out.2.mono HH.out.1.le)⟩,by simp[intOf];omega⟩
         rw[hnx]
         exact HH.out.1.below HQ.out.2
     ·have d3:decide ((echN n S).2.length<k)=false:=decide_eq_false haN
      have hful:echN wd S=echN n S:=by
       have:=zga (wd:=wd) (S:=S) (c:=n) (by rw[HB.out.2.2.2.1];omega) (wd-n)
       rwa[show n+(wd-n)=wd by omega] at this
      have HH:=hide (ai (hmat.lst (a:=(echN n S).2.length) (by rw[hlT];exact hoT)) (ai hbel hful));clear hmat hbel hful
      go_wp2
      go_ret
      exact⟨_,rfl,by rw[HH.out.2.2];exact HH.out.1,HH.out.2.1⟩
    ·have d2:decide (n<wd)=false:=decide_eq_false hnl
     obtain rfl:n=wd:=by omega
     have HH:=hide (ai (hmat.lst (a:=(echN n S).2.length) (by rw[hlT];exact hoT)) hbel);clear hmat hbel
     go_wp2
     go_ret
     exact⟨_,rfl,HH.out.1,HH.out.2⟩
end Go.Proofs.YtpoahodnakhmiaaGreat
