import Derived.Test.YtpoahodnakhmiaaGreatQStL
set_option maxRecDepth 100000
namespace Go.Proofs.YtpoahodnakhmiaaGreat
set_option linter.unusedVariables false
set_option linter.unusedSimpArgs false
open Go.RowKit
theorem zjy {w:World} {B:Nat} {a b u:Value} {e:TypeId} (h:w.heap[B]?=some (.cells #[a,b] e (0,0))):(w.setCell ⟨B,0,none⟩ u).heap[B]?=some (.cells #[u,b] e (0,0)):=by
 simp[World.setCell,Array.getElem?_modify,h]
set_option maxHeartbeats 8000000 in
theorem zn1 (w:World) (va vb:Value) (rs:List Int) (ws:List (List Int)) (T:TypeId) (most n:Nat) (ha:zao w va rs) (hb:zx T 1 zao w vb ws) (hmost:most<=6) (hn:n=max 1 (min rs.length most)):
  Calls Tryz.prog 13 #[va,vb,.int .i64 (most:Int)] w (Ret (fun v w'=>za2 w' v (tR n (aT rs) (bT rs)) (tW n (cT n ws)) 3/\Below w.heap.size w w')):=by
 obtain⟨A1,c1,rfl,hl1,hm1,hc1⟩:=ha.at_
 obtain⟨A2,c2,rfl,hl2,hm2,hc2⟩:=id hb
 unfold maxLen at hm1 hm2
 have hn1:1<=n:=by omega
 have hn6:n<=6:=by omega
 have hnv:max 1 (min (rs.length:Int) (most:Int))=(n:Int):=by omega
 obtain⟨W,hW⟩:∃W,W=(w.alloc (.cells #[.slice none 0 0,.slice none 0 0] 28)).alloc (.cells #[.slice none 0 0,.slice none 0 0] 28):=⟨_,rfl⟩
 have hb0:Below w.heap.size w W:=by rw[hW];exact za (za (blr _ _) _) _
 have hbr:W.heap[w.heap.size]?=some (.cells #[.slice none 0 0,.slice none 0 0] 28 (0,0)):=by rw[hW];exact at_later (zj w _) (za (blr _ _) _)
 have hbs:W.heap[w.heap.size+1]?=some (.cells #[.slice none 0 0,.slice none 0 0] 28 (0,0)):=by rw[hW];exact zu _ (by simp)
 have hsW:W.heap.size=w.heap.size+2:=by rw[hW];simp
 have H0:=hide (ai hb0 (ai hbr (ai hbs (ai ha hb))))
 have HL:=hide hW
 have HN:=hide hn
 clear hb0 hbr hbs hW ha hb hc1 hc2 hn
 go_enter Tryz.func13,Tryz.ntmps13
 go_upto_region 3 with fail
 rw[<-HL.out]
 go_wp2_with fail
 go_loopw [9] (fun s9 wr=>∃(i:Nat) (ra wa:Value),i<=n/\s9=.int .i64 i/\wr.heap[w.heap.size+1]?=some (.cells #[ra,wa] 28 (0,0))/\OwnG 55 4 (QE 3) wr W.heap.size ra (tR i (aT rs) (bT rs))/\OwnG 25 1 (QRowA ra.ownBlock) wr W.heap.size wa (tWk n (cT n ws) i)/\Below w.heap.size w wr/\wr.heap[w.heap.size]?=some (.cells #[.slice none 0 0,.slice none 0 0] 28 (0,0))) (fun s9 _=>n-(intOf s9).toNat)
 case atStart=>exact⟨0,_,_,by omega,rfl,H0.out.2.2.1,OwnG.nil _ _ _ _ _,OwnG.nil _ _ _ _ _,H0.out.1,H0.out.2.1⟩
 case round=>
  obtain⟨i,ra,wa,hi,rfl,hbs,hra,hwa,hbel,hbr⟩:=hrel
  by_cases hin:i<n
  ·obtain⟨r,hr⟩:∃r,r=rvI rs i:=⟨_,rfl⟩
   obtain⟨A1',c1',e1,-,-,hcl'⟩:=(H0.out.2.2.2.1.below hbel).at_
   injection e1 with e1 _ e3
   subst e1
   subst e3
   have hcl:i<rs.length->∃b o,A1=some ⟨b,o,none⟩/\wr.cell? ⟨b,o+i,none⟩=some (.int .i64 r):=fun h=>by
    obtain⟨b,o,e,hc⟩:=hcl' (by omega)
    exact⟨b,o,e,by rw[hc i h,hr,rvI,if_pos h]⟩
   have hr1:¬i<rs.length->r=1:=fun h=>by rw[hr,rvI,if_neg h]
   have i1:(i:Int)<(n:Int):=by omega
   obtain⟨x0,x1,f0,f1⟩:=ze hbs
   have hlx:=lt_of_block hbs
   obtain⟨Aa,ca,rfl,hca,hma⟩:=hra.len
   have HI:=hide (ai hbs (ai hra (ai hwa (ai hbel (ai hbr hr)))))
   clear hbs hra hwa hbel hbr hr hcl'
   go_upto_if 32 with fail
   go_cut [10] (fun s10 wx=>s10=.int .i64 r/\wx=wr)
   case first=>
    by_cases hlt:i<rs.length
    ·obtain⟨b,o,rfl,hc⟩:=hcl hlt
     have i2:(i:Int)<(rs.length:Int):=by omega
     go_wp2
     go_meet
     exact⟨rfl,rfl⟩
    ·have i2:¬(i:Int)<(rs.length:Int):=by omega
     go_wp2
     go_meet
     exact⟨by rw[hr1 hlt],rfl⟩
   case rest=>
   obtain⟨rfl,rfl⟩:=hcut
   clear hcl hr1
   have hr2:=HI.out.2.2.2.2.2
   have hu:=zeF r
   have hA:wrap64 (IntKind.u64.wrap (1+(IntKind.u64.wrap r).tmod 9))=((aT rs i:Nat):Int):=by
    rw[<-IntWalk.i64_left,show IntKind.u64.wrap r=uQ r from rfl,Int.tmod_eq_emod_of_nonneg hu.1,IntWalk.u64_in _ (by omega),IntWalk.i64_in _ (by omega)]
    unfold aT;rw[<-hr2];omega
   have hB:wrap64 (IntKind.u64.wrap (1+(IntKind.u64.wrap ((IntKind.u64.wrap r).tdiv 9)).tmod 3))=((bT rs i:Nat):Int):=by
    rw[<-IntWalk.i64_left,show IntKind.u64.wrap r=uQ r from rfl,Int.tdiv_eq_ediv_of_nonneg hu.1,IntWalk.u64_in (uQ r / 9) (by omega),Int.tmod_eq_emod_of_nonneg (by omega),IntWalk.u64_in _ (by omega),IntWalk.i64_in _ (by omega)]
    unfold bT;rw[<-hr2];omega
   have HAB:=hide (ai hA hB)
   have haT:1<=aT rs i/\aT rs i<=9:=by unfold aT;omega
   have hbT:1<=bT rs i/\bT rs i<=3:=by unfold bT;omega
   have hlR:(tR i (aT rs) (bT rs)).length=i:=zcQ _ _ _
   have HLR:=hide hlR
   clear hA hB hr2 hu hlR
   go_wp2_with fail
   rw[HAB.out.1,HAB.out.2]
   refine(za4 _ (aT rs i:Int) (bT rs i:Int) (by omega) (by omega) (by omega) (by omega) (by omega)).mono ?_
   rintro e w1 ⟨v1,rfl,hq1,hd1⟩
   rw[show Rat.divInt (aT rs i:Int) (bT rs i:Int)=rateT (aT rs) (bT rs) i by rw[<-zfr];rfl] at hq1
   obtain⟨s3,A3,n3,c3,B3,m3,d3,rfl,-,-⟩:=QV.parts hq1
   have hz1:=hd1.size
   have hzc:W.heap.size<=wc.heap.size:=by have:=lt_of_block HI.out.1;omega
   have HV:=hide (ai hq1 hd1)
   clear hq1 hd1 x0 x1 f0 f1
   go_upto_region 11 with (first
    | (at_builtin;refine appG Tryz.qE (zap 3 (by decide)) _ rfl _ _ rfl W.heap.size _ (tR i (aT rs) (bT rs)) (rateT (aT rs) (bT rs) i) rfl (OwnG.below (zai 3) HI.out.2.1 (za HV.out.2 _)) ⟨w1.heap.size,0,none⟩ _ rfl (.agg #[.bool s3,.slice A3 n3 c3,.bool false,.slice B3 m3 d3]) (QV.below HV.out.1 (za (blr _ _) _)) rfl (zan _ _ _ _ _ _ rfl) (zbI _ _ _ _ _ _ _ _) (by rw[HLR.out];omega) (by simp;omega) ?_;intro g7 c7 w7 hown7 hb7 hg7;rw[HLR.out];rw[HLR.out,<-zm8] at hown7;
       have hba:=za HV.out.2 (.cells #[.bool s3,.slice A3 n3 c3,.bool false,.slice B3 m3 d3] 55);
       have hbx7:=(hg7.kp.typed ⟨_,_,at_later HI.out.1 hba⟩ (by decide)).trans (at_later HI.out.1 hba);
       have hbr7:=(hg7.kp.typed ⟨_,_,at_later HI.out.2.2.2.2.1 hba⟩ (by decide)).trans (at_later HI.out.2.2.2.2.1 hba);
       have hwa7:=(OwnG.below (z8 _) HI.out.2.2.1 hba).turn (zdx hg7) (fun g hg=>hg7.kp.typed ((OwnG.below (z8 _) HI.out.2.2.1 hba).lt g hg).2.2 (by decide));
       obtain⟨x0,x1,f0,f1⟩:=ze hbx7;
       have hlx7:=lt_of_block hbx7;
       have H7:=hide (ai hown7 (ai hwa7 (ai hbx7 (ai hbr7 ((HI.out.2.2.2.1.trans (hba.mono HI.out.2.2.2.1.size)).trans (hb7.mono (by omega)))))));
       clear hown7 hb7 hg7 hbx7 hbr7 hwa7 hba))
   obtain⟨w8,hw8⟩:∃w8,w8=w7.setCell ⟨w.heap.size+1,0,none⟩ (.slice (some ⟨g7,0,none⟩) (i+1) c7):=⟨_,rfl⟩
   have ho8:w7.grownBy w8 (some (w.heap.size+1)):=by rw[hw8];exact zp _ _ _ _
   have hkp8:Kp 28 w7 w8:=fun b hb hn=>ho8.block b hb (by intro e;injection e with e;exact hn (by rw[e];exact⟨_,_,H7.out.2.2.1⟩))
   have hbs8:w8.heap[w.heap.size+1]?=some (.cells #[.slice (some ⟨g7,0,none⟩) (i+1) c7,wa] 28 (0,0)):=by rw[hw8];exact zjy H7.out.2.2.1
   have hra8:=H7.out.1.kp (zap 3 (T:=28) (by decide)) (by decide) hkp8
   have hwa8:=H7.out.2.1.kp (zci (some g7) (T:=28) (by decide) (by decide)) (by decide) hkp8
   have hbr8:=(ho8.block w.heap.size (by have:=lt_of_block H7.out.2.2.2.1;exact this) (by intro e;injection e with e;omega)).trans H7.out.2.2.2.1
   have hbl8:Below w.heap.size w w8:=by rw[hw8];exact H7.out.2.2.2.2.setCell (show w.heap.size<=w.heap.size+1 by omega) _
   have hmk:=zby Tryz.i64T n (by omega)
   have hb9:Below w8.heap.size w8 (w8.alloc (.cells (mk .i64 (List.replicate n 0)) 3)):=za (blr _ _) _
   have hwt9:Blk (w8.alloc (.cells (mk .i64 (List.replicate n 0)) 3)) w8.heap.size 3 .i64 (List.replicate n 0):=Blk.new _ _ _ _
   obtain⟨w9,hw9⟩:∃w9,w9=w8.alloc (.cells (mk .i64 (List.replicate n 0)) 3):=⟨_,rfl⟩
   rw[<-hw9] at hb9 hwt9
   have hs8:W.heap.size<=w8.heap.size:=by have h1:=lt_of_block hbs8;have h2:=hbl8.size;have h3:=ho8.size;have:=H7.out.2.2.2.2.size;omega
   obtain⟨j0,hj0⟩:∃j0,j0=(i+1)%n:=⟨_,rfl⟩
   have hj0n:j0<n:=by rw[hj0];exact Nat.mod_lt _ (by omega)
   have z0:w9.cell? ⟨w8.heap.size,j0,none⟩=some (.int .i64 0):=by
    have:=hwt9.cell (j:=j0) (by simpa using hj0n)
    rw[this];simp[List.getD,hj0n]
   have f2:=hwt9.frozen j0
   have hlz:=hwt9.lt
   have irem:((i:Int)+1).tmod (n:Int)=(j0:Int):=by rw[hj0];rfl
   have i3:(n:Int)≠0:=by omega
   have i4:(j0:Int)<(n:Int):=by omega
   have H8:=hide (ai hbs8 (ai hra8 (ai hwa8 (ai hbr8 (ai hbl8 hs8)))))
   have H9:=hide (ai hwt9 (ai hb9 hj0))
   have HL8:=hide hw8
   have HL9:=hide hw9
   clear ho8 hkp8 hbs8 hra8 hwa8 hbr8 hbl8 hwt9 hb9 hw8 hw9 hj0 x0 x1 f0 f1
   rw[<-HL8.out]
   go_upto_region 13 with fail
   rw[<-HL9.out]
   go_upto_block 2 with fail
   obtain⟨w10,hw10⟩:∃w10,w10=w9.setCell ⟨w8.heap.size,j0,none⟩ (.int .i64 1):=⟨_,rfl⟩
   have hwt10:Blk w10 w8.heap.size 3 .i64 (wtsT n ws i 0):=by
    rw[hw10,<-zku n ws i (by omega),<-H9.out.2.2]
    exact H9.out.1.set_ j0 1
   have hb10:Below w8.heap.size w8 w10:=by rw[hw10];exact H9.out.2.1.setCell (nr _) _
   have H10:=hide (ai hwt10 hb10)
   have HL10:=hide hw10
   rw[<-hw10]
   clear hwt10 hb10 hw10 z0 f2 hlz irem i3 i4
   go_cut [13,14,15] (fun s13 s14 s15 wx=>s13=.int .i64 (sumC n (cT n ws) i:Int)/\(∃xs:List Int,Blk wx w8.heap.size 3 .i64 xs/\xs.length=n/\∀j,j<n->xs.getD j 0=(cT n ws i j:Int))/\Below w8.heap.size w8 wx)
   case first=>
    go_wp2_with fail
    go_loopw [13,14] (fun s13 s14 wr=>∃k:Nat,k<=n/\s14=.int .i64 k/\s13=.int .i64 (smT ws i k:Int)/\Blk wr w8.heap.size 3 .i64 (wtsT n ws i k)/\Below w8.heap.size w8 wr) (fun _ s14 _=>n-(intOf s14).toNat)
    case atStart=>exact⟨0,by omega,rfl,rfl,H10.out.1,H10.out.2⟩
    case round=>
     obtain⟨k,hk,rfl,rfl,hwt,hbel⟩:=hrel
     have hout:(n<=k\/(ws.getD i []).length<=k)->(smT ws i k:Int)=(sumC n (cT n ws) i:Int)/\(∃xs:List Int,Blk wr w8.heap.size 3 .i64 xs/\xs.length=n/\∀j,j<n->xs.getD j 0=(cT n ws i j:Int))/\Below w8.heap.size w8 wr:=fun h=>
      ⟨by rw[zlL n ws i k (by omega) hk h],⟨_,hwt,zcb n ws i k,fun j hj=>zkw n ws i k h j hj⟩,hbel⟩
     have HO:=hide hout
     clear hout
     by_cases hkn:k<n
     ·have i1:(k:Int)<(n:Int):=by omega
      by_cases hiw:i<ws.length
      ·have i2:(i:Int)<(ws.length:Int):=by omega
       have hww:=H8.out.2.2.2.2.1.trans (hbel.mono H8.out.2.2.2.2.1.size)
       obtain⟨A2',c2',e2,-,-,hcl'⟩:=H0.out.2.2.2.2.below zhb hww
       obtain⟨b,o,e0,ht,hcl⟩:=hcl' (by omega)
       injection e2 with e2 _ e3
       subst e2
       subst e3
       subst e0
       have hsk:ws[i]?=some ws[i]:=List.getElem?_eq_getElem hiw
       obtain⟨row,hs⟩:∃q,q=ws[i]:=⟨_,rfl⟩
       rw[<-hs] at hsk
       obtain⟨u,hu1,hu2,hu3⟩:=hcl i row hsk
       obtain⟨A5,c5,rfl,hl5,hm5,hc5⟩:=zao.at_ hu3
       unfold maxLen at hm5
       have y0:=hu2 0 (by rw[hu1];decide)
       rw[Nat.mul_one,Nat.add_zero] at y0
       replace y0:wr.cell? ⟨b,o+i,none⟩=some (.slice A5 row.length c5):=y0
       have hrow:ws.getD i []=row:=by simp[List.getD,hsk]
       by_cases hkr:k<row.length
       ·have i3:(k:Int)<(row.length:Int):=by omega
        obtain⟨b5,o5,rfl,hc6⟩:=hc5 (by omega)
        have y1:=hc6 k hkr
        obtain⟨x,hx⟩:∃x,x=row.getD k 0:=⟨_,rfl⟩
        rw[<-hx] at y1
        have hu:=zeF x
        have hwk:wT ws i k=(uQ x%4).toNat:=by unfold wT;rw[hrow,if_pos hkr,<-hx]
        have z0:=hwt.cell (j:=k) (by rw[zcb];exact hkn)
        have f2:=hwt.frozen k
        have hlz:=hwt.lt
        have hget:=zb6 n ws i k k hkn
        rw[if_neg (Nat.lt_irrefl k)] at hget
        have hst:=zkv n ws i k hkn
        have hsm:=zlK ws i k
        have hsl:smT ws i k<=1+k*3:=by
         have:=zfq (f:=wT ws i) (B:=3) k (fun j _=>zjn ws i j)
         unfold smT;omega
        obtain⟨y,hy⟩:∃y,y=(wtsT n ws i k).getD k 0:=⟨_,rfl⟩
        rw[<-hy] at z0 hget hst
        have hy2:0<=y/\y<=1:=by rw[hget];split <;> omega
        obtain⟨wk,hwk2⟩:∃wk,wk=wT ws i k:=⟨_,rfl⟩
        rw[<-hwk2] at hwk hst hsm
        have hw3:wk<=3:=by rw[hwk2];exact zjn ws i k
        have i4:wrap64 ((IntKind.u64.wrap x).tmod 4)=(wk:Int):=by
         rw[<-IntWalk.i64_left,show IntKind.u64.wrap x=uQ x from rfl,Int.tmod_eq_emod_of_nonneg hu.1,IntWalk.i64_in _ (by omega)]
         omega
        have i5:IntKind.i64.wrap (y+(wk:Int))=y+(wk:Int):=IntWalk.i64_in _ (by omega)
        have i6:IntKind.i64.wrap ((smT ws i k:Int)+(wk:Int))=(smT ws i k:Int)+(wk:Int):=IntWalk.i64_in _ (by omega)
        have HI2:=hide (ai hwt (ai hbel (ai hst hsm)))
        clear hwt hbel hst hsm hget hy hwk2 hwk hu hx hc5 hc6 hu1 hu2 hu3 hcl hcl' ht hs hsk hrow hww hy2
        go_wp2
        case roundEnd=>
         obtain⟨hwt,hbel,hst,hsm⟩:=HI2.out
         have t1:=hwt.set_ k (y+(wk:Int))
         rw[hst] at t1
         exact⟨⟨k+1,by omega,by go_num,by rw[hsm];go_num,t1,hbel.setCell (nr _) _⟩,by simp[intOf];omega⟩
       ·have i3:¬(k:Int)<(row.length:Int):=by omega
        have hh:=HO.out (.inr (by rw[hrow];omega))
        have HH:=hide hh
        clear hh hcl hcl' ht hu1 hu2 hu3 hc5 hs hsk hrow hww hwt hbel
        go_wp2
        go_meet
        exact⟨by rw[HH.out.1],HH.out.2⟩
      ·have i2:¬(i:Int)<(ws.length:Int):=by omega
       have hh:=HO.out (.inr (by rw[show ws.getD i []=[] by simp[List.getD,show ws[i]?=none from List.getElem?_eq_none (by omega)]];simp))
       have HH:=hide hh
       clear hh hwt hbel
       go_wp2
       go_meet
       exact⟨by rw[HH.out.1],HH.out.2⟩
     ·have i1:¬(k:Int)<(n:Int):=by omega
      have hh:=HO.out (.inl (by omega))
      have HH:=hide hh
      clear hh hwt hbel
      go_wp2
      go_meet
      exact⟨by rw[HH.out.1],HH.out.2⟩
   case rest=>
   obtain⟨rfl,⟨xs,hxs,hxl,hxv⟩,hbx⟩:=hcut
   rename World=>w11
   have hTS:=tameT n rs ws (by omega) hn6
   have hS1:=hTS.sum_ge i hin
   have hS2:=hTS.sum_le i hin
   have hc4:=fun j hj=>hTS.cw i j hin hj
   obtain⟨S,hS⟩:∃S,S=sumC n (cT n ws) i:=⟨_,rfl⟩
   have hg7:=(H8.out.2.1.lt g7 rfl).2.1
   have h811:=hbx.size
   have H11:=hide (ai hxs (ai hxl (ai hxv (ai hbx (ai hc4 hS)))))
   rw[<-hS] at hS1 hS2 ⊢
   clear hxs hxl hxv hbx hTS hc4 hS
   go_wp2_with fail
   go_loopw [16,17] (fun s16 s17 wr=>∃k:Nat,k<=n/\s17=.int .i64 k/\OwnG 55 4 (QE 3) wr w11.heap.size s16 (tRow n (cT n ws) i k)/\Below w11.heap.size w11 wr) (fun _ s17 _=>n-(intOf s17).toNat)
   case atStart=>exact⟨0,by omega,rfl,OwnG.nil _ _ _ _ _,blr _ _⟩
   case round=>
    obtain⟨k,hk,rfl,hro,hbel⟩:=hrel
    obtain⟨Ar,cr,rfl,hcr,hmr⟩:=hro.len
    have hlr:(tRow n (cT n ws) i k).length=k:=zid _ _ _ _
    rw[hlr] at hro hcr
    have HLRk:=hide hlr
    clear hlr
    have h11r:=hbel.size
    by_cases hkn:k<n
    ·have i1:(k:Int)<(n:Int):=by omega
     have z0:=(H11.out.1.keep hbel).cell (j:=k) (by rw[H11.out.2.1];exact hkn)
     rw[H11.out.2.2.1 k hkn] at z0
     have hc4:=H11.out.2.2.2.2.1 k hkn
     have HR:=hide (ai hro hbel)
     clear hro hbel
     go_wp2_with fail
     refine(za4 _ (cT n ws i k:Int) (S:Int) (by omega) (by omega) (by omega) (by omega) (by omega)).mono ?_
     rintro e w1 ⟨v1,rfl,hq1,hd1⟩
     rw[show Rat.divInt (cT n ws i k:Int) (S:Int)=wayT n (cT n ws) i k by rw[<-zfr,H11.out.2.2.2.2.2];rfl] at hq1
     obtain⟨s3,A3,n3,c3,B3,m3,d3,rfl,-,-⟩:=QV.parts hq1
     have hz1:=hd1.size
     have HV:=hide (ai hq1 hd1)
     clear hq1 hd1 z0
     go_wp2_with (first
      | (at_builtin;refine appG Tryz.qE (zap 3 (by decide)) _ rfl _ _ rfl w11.heap.size _ (tRow n (cT n ws) i k) (wayT n (cT n ws) i k) rfl (OwnG.below (zai 3) (by rw[HLRk.out];exact HR.out.1) (za HV.out.2 _)) ⟨w1.heap.size,0,none⟩ _ rfl (.agg #[.bool s3,.slice A3 n3 c3,.bool false,.slice B3 m3 d3]) (QV.below HV.out.1 (za (blr _ _) _)) rfl (zan _ _ _ _ _ _ rfl) (zbI _ _ _ _ _ _ _ _) (by rw[HLRk.out];omega) (by simp;omega) ?_;intro g5 c5 w5 hown5 hb5 hg5;rw[HLRk.out];rw[HLRk.out,<-zkx] at hown5;
         have H5:=hide (ai hown5 ((HR.out.2.trans ((za HV.out.2 (.cells #[.bool s3,.slice A3 n3 c3,.bool false,.slice B3 m3 d3] 55)).mono HR.out.2.size)).trans hb5));
         clear hown5 hb5 hg5))
     case roundEnd=>exact⟨⟨k+1,by omega,by go_num,H5.out.1,H5.out.2⟩,by simp[intOf];omega⟩
    ·obtain rfl:k=n:=by omega
     have i1:¬(k:Int)<(k:Int):=by omega
     have hbl:=bnx H11.out.2.2.2.1 hbel
     have hbxr:=at_later H8.out.1 hbl
     obtain⟨x0,x1,f0,f1⟩:=ze hbxr
     have hlx:=lt_of_block hbxr
     obtain⟨Aw,cw,rfl,hcw,hmw⟩:=H8.out.2.2.1.len
     have hlw:(tWk k (cT k ws) i).length=i:=zjo _ _ _
     have HLW:=hide hlw
     have hrowA:QRowA (some g7) wr (.slice Ar (tRow k (cT k ws) i k).length cr) (tRow k (cT k ws) i k):=by rw[HLRk.out];exact⟨hro.lst,fun g hg=>⟨(hro.lt g hg).2.2,by intro e;injection e with e;have:=(hro.lt g hg).1;omega⟩⟩
     have HR:=hide (ai hrowA (ai hbl hbxr))
     clear hro hbel hbl hbxr hrowA hlw
     go_wp2_with (first
      | (at_builtin;refine appG Tryz.qrowE (zci (some g7) (by decide) (by decide)) _ rfl _ _ rfl W.heap.size _ (tWk k (cT k ws) i) (tRow k (cT k ws) i k) rfl (OwnG.below (z8 _) H8.out.2.2.1 (za HR.out.2.1 _)) ⟨wr.heap.size,0,none⟩ _ rfl (.slice Ar (tRow k (cT k ws) i k).length cr) (z8 _ _ _ _ _ (za (blr _ _) _) HR.out.1) rfl (zaH _ _ rfl _ rfl) (zd2 _ _ _) (by rw[HLW.out];omega) (by simp;omega) ?_;intro g9 c9 w12 hown9 hb9 hg9;rw[HLW.out];rw[HLW.out,<-zlM] at hown9;
         have hba:=za HR.out.2.1 (.cells #[.slice Ar (tRow k (cT k ws) i k).length cr] 25);
         have hbx9:=(hg9.kp.typed ⟨_,_,at_later H8.out.1 hba⟩ (by decide)).trans (at_later H8.out.1 hba);
         have hbr9:=(hg9.kp.typed ⟨_,_,at_later H8.out.2.2.2.1 hba⟩ (by decide)).trans (at_later H8.out.2.2.2.1 hba);
         have hra9:=(OwnG.below (zai 3) H8.out.2.1 hba).kp (zap 3 (by decide)) (by decide) hg9.kp;
         clear x0 x1 f0 f1;
         obtain⟨x0,x1,f0,f1⟩:=ze hbx9;
         have hlx9:=lt_of_block hbx9;
         have H12:=hide (ai hown9 (ai hra9 (ai hbx9 (ai hbr9 ((H8.out.2.2.2.2.1.trans (hba.mono H8.out.2.2.2.2.1.size)).trans (hb9.mono (by omega)))))));
         clear hown9 hb9 hg9 hbx9 hbr9 hra9 hba))
     go_roundw
     case rel=>
      obtain⟨hown9,hra9,hbx9,hbr9,hbl9⟩:=H12.out
      have ho:=zp w12 (w.heap.size+1) 1 (.slice (some ⟨g9,0,none⟩) (i+1) c9)
      have hkp:Kp 28 w12 (w12.setCell ⟨w.heap.size+1,1,none⟩ (.slice (some ⟨g9,0,none⟩) (i+1) c9)):=fun b hb hn=>ho.block b hb (by intro e;injection e with e;exact hn (by rw[e];exact⟨_,_,hbx9⟩))
      repeat apply Exists.intro
      exact⟨show i+1<=k by omega,by go_num,zf0 hbx9,hra9.kp (zap 3 (T:=28) (by decide)) (by decide) hkp,hown9.kp (zci (some g7) (T:=28) (by decide) (by decide)) (by decide) hkp,hbl9.setCell (show w.heap.size<=w.heap.size+1 by omega) _,(ho.block w.heap.size (lt_of_block hbr9) (by intro e;injection e with e;omega)).trans hbr9⟩
     case measure=>simp[intOf];omega
  ·obtain rfl:i=n:=by omega
   have i1:¬(i:Int)<(i:Int):=by omega
   obtain⟨Aa,ca,rfl,hca,hma⟩:=hra.len
   obtain⟨Aw,cw,rfl,hcw,hmw⟩:=hwa.len
   obtain⟨x0,x1,f0,f1⟩:=ze hbs
   obtain⟨v0,v1,g0,g1⟩:=ze hbr
   have hlz:=lt_of_block hbr
   have HI:=hide (ai hra.lst (ai hwa.lst (ai hbs (ai hbr hbel))))
   clear hra hwa hbs hbr hbel
   go_wp2
   refine bodyPost_ret (v:=.agg #[.slice Aa (tR i (aT rs) (bT rs)).length ca,.slice Aw (tWk i (cT i ws) i).length cw]) ?_ rfl ?_
   ·simp[results,Tryz.results13,go_sem,v0,v1,hlz]
   obtain⟨hra,hwa,hbs,hbr,hbel⟩:=HI.out
   have hkp:∀j u w',(∃cs,w'.heap[w.heap.size]?=some (.cells cs 28 (0,0)))->Kp 28 w' (w'.setCell ⟨w.heap.size,j,none⟩ u)/\(∃cs,(w'.setCell ⟨w.heap.size,j,none⟩ u).heap[w.heap.size]?=some (.cells cs 28 (0,0))):=fun j u w' h=>by
    obtain⟨cs,h⟩:=h
    have ho:=zp w' w.heap.size j u
    refine⟨fun b hb hn=>ho.block b hb (by intro e;injection e with e;exact hn (by rw[e];exact⟨_,_,h⟩)),?_⟩
    exact⟨cs.setIfInBounds j u,by simp[World.setCell,Array.getElem?_modify,h]⟩
   obtain⟨k1,m1⟩:=hkp 0 (.slice Aa (tR i (aT rs) (bT rs)).length ca) wr ⟨_,hbr⟩
   obtain⟨k2,m2⟩:=hkp 1 (.slice Aw (tWk i (cT i ws) i).length cw) _ m1
   refine⟨_,rfl,⟨_,_,rfl,?_,?_⟩,(hbel.setCell (nr _) _).setCell (nr _) _⟩
   ·exact(hra.kp (zap 3 (by decide)) (by decide) k1).kp (zap 3 (by decide)) (by decide) k2
   ·exact(hwa.imp (fun u x _ h=>h.1)).kp (zcI 3 (by decide) (by decide)) (by decide) k1 |>.kp (zcI 3 (by decide) (by decide)) (by decide) k2
end Go.Proofs.YtpoahodnakhmiaaGreat
