import Derived.Test.YtpoahodnakhmiaaGreatChk
import Derived.Test.YtpoahodnakhmiaaGreatEch
set_option maxRecDepth 100000
namespace Go.Proofs.YtpoahodnakhmiaaGreat
set_option linter.unusedVariables false
set_option linter.unusedSimpArgs false
open Go.RowKit
def dotL (ps ss:List Rat):Rat:=dotN ps ss ps.length
def denyK (done:List (List Rat)) (bs:List Rat):Nat->Nat->Nat
 | 0,k=>k
 | f+1,k=>if k<done.length/\dotL (done.getD k []) bs=0 then denyK done bs f (k+1) else k
theorem zff (done:List (List Rat)) (bs:List Rat) (f k:Nat) (h:k<done.length) (he:dotL (done.getD k []) bs=0):denyK done bs (f+1) k=denyK done bs f (k+1):=by
 rw[denyK,if_pos ⟨h,he⟩]
theorem zco (done:List (List Rat)) (bs:List Rat) (f k:Nat) (h:¬(k<done.length/\dotL (done.getD k []) bs=0)):denyK done bs f k=k:=by
 cases f with
 | zero=>rfl
 | succ f=>rw[denyK,if_neg h]
def putX (done:List (List Rat)) (bs:List Rat) (out:List Nat):Nat->List Rat->List Rat
 | 0,x=>x
 | i+1,x=>(putX done bs out i x).set (out.getD i 0) (dotL (done.getD i []) bs)
theorem zbd (done:List (List Rat)) (bs:List Rat) (out:List Nat):∀(i:Nat) (x:List Rat),(putX done bs out i x).length=x.length:=by
 intro i
 induction i with
 | zero=>intro x;rfl
 | succ i ih=>intro x;rw[putX,List.length_set,ih]
theorem colS_lt {col n:Nat} {T:St×List Nat} (h:∀c∈T.2,c<n) (hc:col<n):∀c∈(colS col T).2,c<n:=by
 unfold colS
 split
 ·exact h
 ·intro c hm
  rcases List.mem_append.1 hm with hm|hm
  ·exact h c hm
  ·simp only[List.mem_singleton] at hm;omega
theorem znl:∀(n:Nat) (S:St),∀c∈(echN n S).2,c<n:=by
 intro n
 induction n with
 | zero=>intro S c hc;cases hc
 | succ n ih=>intro S;rw[echN];exact colS_lt (fun c hc=>Nat.lt_succ_of_lt (ih S c hc)) (Nat.lt_succ_self n)
def solS (rows:List (List Rat)):St×List Nat:=echN (rows.getD 0 []).length (rows,idRows rows.length)
structure zeL (L:Nat) (rows:List (List Rat)) (bs:List Rat):Prop where
 ech:zgL L (rows.getD 0 []).length (rows,idRows rows.length)
 dot:∀i,i<rows.length->∀k,k<=rows.length->FitQ L (dotN ((solS rows).1.2.getD i []) bs k)
 div:∀i,i<rows.length->∀j,dotL ((solS rows).1.2.getD i []) bs≠0->FitQ L (((solS rows).1.2.getD i []).getD j 0 / dotL ((solS rows).1.2.getD i []) bs)
theorem zl7 (D N cD a:Nat) (h:a<=N) (DA:Option Addr) (hDA:DA=if cD=a then some ⟨D,0,none⟩ else some ⟨D,a,none⟩) (w:World):
  (Instr.slice 31 (.slice (some ⟨D,0,none⟩) N cD) (some (.int .i64 (a:Int))) none none).run Tryz.prog w=.ok (.slice DA (N-a) (cD-a)) w:=by
 rw[run_slice_l w 31 (some ⟨D,0,none⟩) N cD Tryz.underlying31 .i64 a (by omega) (by omega)]
 have hs:(sizeOf (Tryz.prog.elem 31)).run Tryz.prog w=.ok 1 w:=by kernel_rfl
 rw[hs]
 simp only[Result.andThen,sliced,Int.toNat_natCast,Nat.mul_one,Option.map_some]
 rw[hDA]
 by_cases e:cD=a
 ·rw[if_pos e,if_pos e]
 ·rw[if_neg e,if_neg e]
  congr 2
  unfold Addr.add
  split <;> simp_all
theorem zge (l:List Nat) (i:Nat):(natsI l).getD i 0=((l.getD i 0:Nat):Int):=by
 unfold natsI
 by_cases h:i<l.length
 ·simp[List.getD,h]
 ·simp[List.getD,List.getElem?_eq_none (Nat.le_of_not_lt h)]
def ziO (w:World) (rows:List (List Rat)) (bs:List Rat) (L:Nat) (v:Value) (w':World):Prop:=
 Below w.heap.size w w' /\
 ((denyK (solS rows).1.2 bs rows.length (solS rows).2.length<rows.length/\∃u g,v=.tuple #[.slice none 0 0,.slice none 0 0,u] /\
   RV w' u g (divL ((solS rows).1.2.getD (denyK (solS rows).1.2 bs rows.length (solS rows).2.length) []) (dotL ((solS rows).1.2.getD (denyK (solS rows).1.2 bs rows.length (solS rows).2.length) []) bs)) L) \/
  (denyK (solS rows).1.2 bs rows.length (solS rows).2.length=rows.length/\∃u g c cc,v=.tuple #[u,.slice c (solS rows).2.length cc,.slice none 0 0] /\
   RV w' u g (putX (solS rows).1.2 bs (solS rows).2 (solS rows).2.length (List.replicate (rows.getD 0 []).length 0)) L))
structure DnS (w:World) (base M D cD N:Nat) (done:List (List Rat)) (L:Nat):Prop where
 bM:base<=M
 m1:w.cell? ⟨M,1,none⟩=some (.slice (some ⟨D,0,none⟩) N cD)
 c3:N<=cD
 c4:cD<=maxLen
 at_:∀i,i<N->∃g c,w.cell? ⟨D,i,none⟩=some (.slice (some ⟨g,0,none⟩) (done.getD i []).length c)/\(done.getD i []).length<=c/\c<=maxLen/\RowC w g (done.getD i []) L/\base<=g
theorem DnS.below {w w':World} {base M D cD N:Nat} {done:List (List Rat)} {L:Nat} (h:DnS w base M D cD N done L) (hb:Below w.heap.size w w'):DnS w' base M D cD N done L:=by
 refine⟨h.bM,(hb.cell (zf h.m1)).trans h.m1,h.c3,h.c4,fun i hi=>?_⟩
 obtain⟨g,c,q0,q1,q2,q3,q4⟩:=h.at_ i hi
 exact⟨g,c,(hb.cell (zf q0)).trans q0,q1,q2,q3.below hb,q4⟩
theorem DnS.le {w:World} {base M D cD N:Nat} {done:List (List Rat)} {L:Nat} (h:DnS w base M D cD N done L):base<=w.heap.size:=Nat.le_trans h.bM (Nat.le_of_lt (zf h.m1))
theorem DnS.doneAt {w:World} {base M D cD N:Nat} {done:List (List Rat)} {L:Nat} (h:DnS w base M D cD N done L) {i:Nat} (hi:i<N):
  ∃g c,True/\w.cell? ⟨D,i,none⟩=some (.slice (some ⟨g,0,none⟩) (done.getD i []).length c)/\(done.getD i []).length<=c/\c<=maxLen/\RowC w g (done.getD i []) L/\base<=g:=by
 obtain⟨g,c,q⟩:=h.at_ i hi
 exact⟨g,c,trivial,q⟩
theorem MatS.dn {w:World} {base M R D cR cD:Nat} {vs us rR rD:List Value} {gs hs:List Nat} {rows done:List (List Rat)} {L:Nat} (h:MatS w base M R D cR cD vs us rR rD gs hs rows done L):DnS w base M D cD rows.length done L:=
 ⟨h.bM,h.m1,h.c3,h.c4,fun i hi=>by obtain⟨g,c,_,q⟩:=h.doneAt hi;exact⟨g,c,q⟩⟩
theorem zaB.dn {w:World} {base M k:Nat} {vR vD:Value} {vs us:List Value} {gs hs:List Nat} {rows done:List (List Rat)} {L:Nat} (h:zaB w base M k vR vD vs us gs hs rows done L) (hk:0<k):∃D cD,DnS w base M D cD k done L:=by
 have hn:us.length=k:=by have:=h.oD.1;omega
 rcases h.oD.2 with ⟨_,h0⟩|⟨D,cD,cur,hv,hg,hh,hc,hm,_,ht⟩
 ·omega
 ·refine⟨D,cD,h.bM,by rw[h.m1,hv],hc,hm,fun i hi=>?_⟩
  obtain⟨q1,c,q2,q3,q4,q5⟩:=h.dok i hi
  refine⟨_,c,?_,q3,q4,q5,q1⟩
  rw[<-q2]
  have e:cur[i]?=some (us.getD i undef):=by
   have h1:(cur.toList.take (k*1))[i]?=some (us.getD i undef):=by rw[ht];simp[List.getD,show i<us.length by omega]
   rw[List.getElem?_take_of_lt (by omega)] at h1
   simpa using h1
  unfold World.cell?
  simp only[hh]
  simpa using e
theorem zgf (w:World) (M:Nat):
  Calls Tryz.prog 191 #[.pointer (some ⟨M,0,none⟩),.int .i64 0] w (Ret (fun v w'=>v=.slice none 0 0/\w=w')):=by
 go_enter Tryz.func191,Tryz.ntmps191
 go_wp2
 go_loop [5,13] (fun s5 s13=>s5=.slice none 0 0/\s13=.int .i64 0) (fun _ _=>0)
 case atStart=>exact⟨rfl,rfl⟩
 case round=>
  obtain⟨rfl,rfl⟩:=hrel
  go_wp2
  go_ret
  exact⟨_,rfl,rfl,rfl⟩
set_option maxHeartbeats 4000000 in
theorem zhC (w:World) (va vb:Value) (rows:List (List Rat)) (bs:List Rat) (L wd:Nat) (ha:RowsV w va rows L) (hb:RowV w vb bs L) (hL:L<=134217700) (hL1:1<=L) (h0:0<rows.length) (hn:rows.length<=1073741824)
  (hwd:∀i,i<rows.length->(rows.getD i []).length=wd) (hw1:wd<=1073741824) (hbl:bs.length=rows.length) (hfit:zeL L rows bs)
  (P:World->Nat->Prop) (hnew:Calls Tryz.prog 190 #[va] w (Ret (fun v w1=>∃M,v=.pointer (some ⟨M,0,none⟩)/\P w1 M/\Below w.heap.size w w1)))
  (hech:∀w1 M,P w1 M->Calls Tryz.prog 191 #[.pointer (some ⟨M,0,none⟩),.int .i64 wd] w1
   (Ret (fun v w'=>∃D cD,DnS w' w.heap.size M D cD rows.length (echN wd (rows,idRows rows.length)).1.2 L/\OwnI w' w1.heap.size 3 .i64 v (natsI (echN wd (rows,idRows rows.length)).2)/\Below w.heap.size w1 w'))):
  Calls Tryz.prog 167 #[va,vb] w (Ret (ziO w rows bs L)):=by
 have HA:=hide (ai ha (ai hb (ai hwd (ai hbl hfit))));clear hwd hbl hfit
 have HNE:=hide (ai hnew hech);clear hnew hech
 obtain⟨A1,c1,rfl,hc1,hm1,hx⟩:=ha
 obtain⟨A2,c2,rfl,hc2,hm2,hy⟩:=hb
 clear hx hy
 go_enter Tryz.func167,Tryz.ntmps167
 go_wp2_with fail
 refine HNE.out.1.mono ?_
 rintro e w1 ⟨_,rfl,M,rfl,hm,hd1⟩
 have HM:=hide (ai hm hd1);clear hm hd1
 go_wp2_with fail
 refine(zed _ _ rows L (HA.out.1.below HM.out.2)).mono ?_
 rintro e w2 ⟨_,rfl,rfl,rfl⟩
 have hw:(rows.getD 0 []).length=wd:=HA.out.2.2.1 0 h0
 have hrect:Rect wd ((rows,idRows rows.length):St):=⟨zbH _,HA.out.2.2.1,fun i hi=>by rw[zdt _ _ hi];simp⟩
 rw[hw]
 have HW:=hide (ai hw hrect);clear hw hrect
 go_wp2_with fail
 refine(HNE.out.2 _ _ HM.out.1).mono ?_
 rintro e w3 ⟨cv,rfl,D,cD,hm3,hown,hb3⟩
 have hT:solS rows=echN wd (rows,idRows rows.length):=by unfold solS;rw[HW.out.1]
 have hlt:=znl wd (rows,idRows rows.length)
 have hol:=echN_out wd (rows,idRows rows.length)
 have hlen:=echN_length wd (rows,idRows rows.length)
 have hrec:=zT wd HW.out.2
 rw[<-hT] at hm3 hown hlt hol hlen hrec
 generalize hTT:solS rows=T at *
 obtain⟨Ao,co,rfl,hco,hmo,harr⟩:=hown.form
 have ho2:(natsI T.2).length=T.2.length:=by simp[natsI]
 rw[ho2] at hco ⊢
 have hm1':=hm3.m1
 have hc3:=hm3.c3
 have hc4:=hm3.c4
 obtain⟨N,hN⟩:∃N,N=rows.length:=⟨_,rfl⟩
 have hNN:((rows,idRows rows.length):St).1.length=N:=hN.symm
 rw[hNN] at hm1' hc3 hol hlen
 rw[<-hN] at h0 hn hc1 ⊢
 obtain⟨a,haa⟩:∃a,a=T.2.length:=⟨_,rfl⟩
 rw[<-haa] at hco hol ⊢
 obtain⟨DA,hDA⟩:∃DA:Option Addr,DA=if cD=a then some ⟨D,0,none⟩ else some ⟨D,a,none⟩:=⟨_,rfl⟩
 have hsl:=zl7 D N cD a hol DA hDA
 have hb03:=(HM.out.2.trans hb3)
 have HT:=hide (ai hm3 (ai hown (ai hlt (ai hlen (ai hrec (ai harr (ai hN (ai haa (ai hDA (ai hTT hb03))))))))))
 clear hm3 hown hlt hlen hrec harr hN haa hDA hTT hb03 hb3 ho2 hT hNN
 go_wp2_with fail
 obtain⟨K0,hK0⟩:∃K0,K0=denyK T.1.2 bs N a:=⟨_,rfl⟩
 have HK0:=hide hK0;clear hK0
 go_loopw [4,5,6,27] (fun s4 s5 s6 s27 wr=>∃k f:Nat,k<=N-a/\s27=.int .i64 k/\s4=.slice none 0 0/\s5=.slice Ao a co/\s6=.slice none 0 0/\denyK T.1.2 bs f (a+k)=K0/\N<=a+k+f/\Below w3.heap.size w3 wr) (fun _ _ _ s27 _=>N-a-(intOf s27).toNat)
 case atStart=>exact⟨0,N,Nat.zero_le _,rfl,rfl,rfl,rfl,HK0.out.symm,by omega,blr _ _⟩
 case round=>
  obtain⟨k,f,hk,rfl,rfl,rfl,rfl,hkf,hf,hbel⟩:=hrel
  by_cases hkl:k<N-a
  ·have hm:=HT.out.1.below hbel
   obtain⟨g,c,hg,r0,hgc,hcm,hrow,hbg⟩:=hm.doneAt (i:=a+k) (by rw[<-HT.out.2.2.2.2.2.2.1];omega)
   have hrl:(T.1.2.getD (a+k) []).length=N:=by rw[HT.out.2.2.2.2.1.done (a+k) (by rw[HT.out.2.2.2.1];omega),HT.out.2.2.2.1]
   have hdk:DA=some ⟨D,a,none⟩:=by rw[HT.out.2.2.2.2.2.2.2.2.1,if_neg (by omega)]
   have hfd:=HA.out.2.2.2.2.dot (a+k) (by rw[<-HT.out.2.2.2.2.2.2.1];omega)
   rw[HT.out.2.2.2.2.2.2.2.2.2.1,<-HT.out.2.2.2.2.2.2.1] at hfd
   have hdv:=HA.out.2.2.2.2.div (a+k) (by rw[<-HT.out.2.2.2.2.2.2.1];omega)
   rw[HT.out.2.2.2.2.2.2.2.2.2.1] at hdv
   have hrv:=hrow.row hgc hcm
   rw[hrl] at r0 hgc hrv
   have hbv:=HA.out.2.1.below ((HT.out.2.2.2.2.2.2.2.2.2.2.trans (hbel.mono HT.out.1.le)))
   have hbN:bs.length=N:=by rw[HA.out.2.2.2.1,HT.out.2.2.2.2.2.2.1]
   obtain⟨y,hy⟩:∃y,y=dotL (T.1.2.getD (a+k) []) bs:=⟨_,rfl⟩
   subst hdk
   have HH:=hide (ai hm (ai hrow (ai hrl (ai hfd (ai hdv (ai hrv (ai hbv (ai hkf (ai hbel (ai hbN (ai hy (ai hg (ai hgc (ai hcm hbg))))))))))))))
   clear hm hrow hrl hfd hdv hrv hbv hkf hbel hbN hy hg hgc hcm hbg
   go_wp2_with fail
   refine(zmq _ _ _ (T.1.2.getD (a+k) []) bs L HH.out.2.2.2.2.2.1 HH.out.2.2.2.2.2.2.1 hL (by rw[HH.out.2.2.1,HH.out.2.2.2.2.2.2.2.2.2.1];exact nr _) (fun i hi=>HH.out.2.2.2.1 i (by rw[<-HH.out.2.2.1];exact hi))).mono ?_
   rintro e w4 ⟨yv,rfl,hyv,hd4⟩
   rw[show dotN (T.1.2.getD (a+k) []) bs (T.1.2.getD (a+k) []).length=y from HH.out.2.2.2.2.2.2.2.2.2.2.1.symm] at hyv
   obtain⟨n1,l1,rfl,q1,q2⟩:=id hyv
   obtain⟨A5,c5,xs5,rfl,_⟩:=q1.open_
   obtain⟨A6,c6,xs6,rfl,_⟩:=q2.open_
   obtain⟨b1,hb1⟩:∃s,s=decide (y.num<0):=⟨_,rfl⟩
   rw[<-hb1] at hyv ⊢
   clear hb1 q1 q2
   obtain⟨W5,hW5⟩:∃W5,W5=w4.alloc (.cells #[.bool b1,.slice A5 xs5.length c5,.slice A6 xs6.length c6] 43):=⟨_,rfl⟩
   have hb5:Below w4.heap.size w4 W5:=by rw[hW5];exact(blr _ _).alloc (nr _) _
   have hbx:=box3 (zL w4 (.cells #[.bool b1,.slice A5 xs5.length c5,.slice A6 xs6.length c6] 43))
   rw[<-hW5] at hbx
   have hy5:=hyv.below hb5
   have hbw5:=bnx hd4 hb5
   have HV:=hide (ai hy5 (ai hbw5 (ai hbx hW5)));clear hy5 hbw5 hbx hyv hd4 hb5
   by_cases hz:y=0
   ·go_wp2_with fail
    rw[<-hW5]
    refine(zbg _ _ y L HV.out.1).mono ?_
    rintro e w6 ⟨_,rfl,rfl,hd6⟩
    rw[show decide (y=0)=true from decide_eq_true hz]
    have hb6:=bnx HV.out.2.1 hd6
    have HZ:=hide hz;clear hz hW5
    go_wp2
    go_roundw
    case rel=>
     have hkf:=HH.out.2.2.2.2.2.2.2.1
     obtain⟨f',rfl⟩:∃f',f=f'+1:=⟨f-1,by omega⟩
     rw[zff _ _ _ _ (by have h1:=HT.out.2.2.2.2.1.len;rw[HT.out.2.2.2.1] at h1;omega) (by rw[<-HH.out.2.2.2.2.2.2.2.2.2.2.1];exact HZ.out)] at hkf
     exact⟨k+1,f',by omega,by go_num,rfl,rfl,rfl,by rw[<-Nat.add_assoc];exact hkf,by omega,bnx HH.out.2.2.2.2.2.2.2.2.1 hb6⟩
    case measure=>simp[intOf];omega
   ·go_wp2_with fail
    rw[<-hW5]
    refine(zbg _ _ y L HV.out.1).mono ?_
    rintro e w6 ⟨_,rfl,rfl,hd6⟩
    rw[show decide (y=0)=false from decide_eq_false hz]
    have hb6:=bnx HV.out.2.1 hd6
    obtain⟨x0,x1,x2,_,_,_,hszb⟩:=HV.out.2.2.1
    have x0:=(hd6.cell (zf x0)).trans x0
    have x1:=(hd6.cell (zf x1)).trans x1
    have x2:=(hd6.cell (zf x2)).trans x2
    have hdc:=zeN w6 g c (T.1.2.getD (a+k) []) (.agg #[.bool b1,.slice A5 xs5.length c5,.slice A6 xs6.length c6]) y L (HH.out.2.1.below hb6) (HV.out.1.below hd6) (by omega) hz (by rw[HH.out.2.2.1];exact HH.out.2.2.2.2.2.2.2.2.2.2.2.2.1) HH.out.2.2.2.2.2.2.2.2.2.2.2.2.2.1 (fun i hi=>by
     have h1:=HH.out.2.2.2.2.1 i (by rw[<-HH.out.2.2.2.2.2.2.2.2.2.2.1];exact hz)
     rw[<-HH.out.2.2.2.2.2.2.2.2.2.2.1] at h1;exact h1)
    rw[HH.out.2.2.1] at hdc
    have HZ:=hide (ai hz (ai hb6 hdc));clear hz hW5 hd6 hb6 hdc hszb
    go_wp2_with fail
    refine HZ.out.2.2.mono ?_
    rintro e w7 ⟨_,rfl,rfl,hrow7,hk7,hg7⟩
    clear x0 x1 x2
    have HW7:=hide (ai hrow7 (ai hk7 hg7));clear hrow7 hk7 hg7
    go_wp2
    go_ret3
    refine⟨_,rfl,?_,.inl ⟨?_,?_⟩⟩
    ·have h1:=(HT.out.2.2.2.2.2.2.2.2.2.2.trans (HH.out.2.2.2.2.2.2.2.2.1.mono HT.out.1.le)).trans (HZ.out.2.1.mono HH.out.1.le)
     exact only_below h1 HW7.out.2.2 h1.size HH.out.2.2.2.2.2.2.2.2.2.2.2.2.2.2
    ·have hk0:a+k=K0:=by
      have h1:=HH.out.2.2.2.2.2.2.2.1
      rw[zco _ _ _ _ (fun h=>HZ.out.1 (by rw[HH.out.2.2.2.2.2.2.2.2.2.2.1];exact h.2))] at h1
      exact h1
     rw[HT.out.2.2.2.2.2.2.2.2.2.1,<-HT.out.2.2.2.2.2.2.2.1,<-HT.out.2.2.2.2.2.2.1,<-HK0.out];omega
    ·have hk0:a+k=K0:=by
      have h1:=HH.out.2.2.2.2.2.2.2.1
      rw[zco _ _ _ _ (fun h=>HZ.out.1 (by rw[HH.out.2.2.2.2.2.2.2.2.2.2.1];exact h.2))] at h1
      exact h1
     rw[HT.out.2.2.2.2.2.2.2.2.2.1,<-HT.out.2.2.2.2.2.2.2.1,<-HT.out.2.2.2.2.2.2.1,<-HK0.out,<-hk0,<-HH.out.2.2.2.2.2.2.2.2.2.2.1]
     exact⟨_,g,rfl,c,by rw[zak,HH.out.2.2.1];rfl,by rw[zak,HH.out.2.2.1];exact HH.out.2.2.2.2.2.2.2.2.2.2.2.2.1,HH.out.2.2.2.2.2.2.2.2.2.2.2.2.2.1,HW7.out.1⟩
  ·obtain⟨wo,rfl⟩:∃wo:World,wo=wr:=⟨_,rfl⟩
   have hk0:N=K0:=by
    have h1:=hkf
    rw[zco _ _ _ _ (fun h=>by have h2:=HT.out.2.2.2.2.1.len;rw[HT.out.2.2.2.1] at h2;omega)] at h1
    omega
   obtain rfl:k=N-a:=by omega
   have HE:=hide (ai hk0 hbel);clear hk0 hbel hkf hf
   have hmk:=zcy wd hw1
   have hb1w:=HT.out.2.2.2.2.2.2.2.2.2.2.trans (HE.out.2.mono HT.out.1.le)
   have HB1:=hide hb1w;clear hb1w
   clear hm1'
   go_wp2_with fail
   refine(zed _ _ rows L (by have h1:=HA.out.1.below HB1.out;rw[<-HT.out.2.2.2.2.2.2.1] at h1;exact h1)).mono ?_
   rintro e w5 ⟨_,rfl,rfl,rfl⟩
   rw[HW.out.1]
   obtain⟨W5,hW5⟩:∃W5,W5=wo.alloc (.cells (madeCells #[Value.bool false,.slice none 0 0,.slice none 0 0] (wd*3)) 43):=⟨_,rfl⟩
   have hz5:RowC W5 wo.heap.size (List.replicate wd 0) L:=by rw[hW5];exact zcx wo wd L
   have hb5:Below wo.heap.size wo W5:=by rw[hW5];exact(blr _ _).alloc (nr _) _
   have HZ:=hide (ai hz5 hb5);clear hz5 hb5
   go_wp2
   rw[<-hW5]
   clear hW5
   go_loopw [47] (fun s47 w6=>∃i:Nat,i<=a/\s47=.int .i64 i/\RowC w6 wo.heap.size (putX T.1.2 bs T.2 i (List.replicate wd 0)) L/\Below wo.heap.size wo w6) (fun s47 _=>a-(intOf s47).toNat)
   case atStart=>exact⟨0,Nat.zero_le _,rfl,HZ.out.1,HZ.out.2⟩
   case round=>
    obtain⟨i,hi,rfl,hx,hbx⟩:=hrel
    by_cases hil:i<a
    ·have hb6:=hbx
     have hm:=(HT.out.1.below HE.out.2).below hb6
     obtain⟨g,c,hg,r0,hgc,hcm,hrow,hbg⟩:=hm.doneAt (i:=i) (by rw[<-HT.out.2.2.2.2.2.2.1];omega)
     have hrl:(T.1.2.getD i []).length=N:=by rw[HT.out.2.2.2.2.1.done i (by rw[HT.out.2.2.2.1];omega),HT.out.2.2.2.1]
     have hfd:=HA.out.2.2.2.2.dot i (by rw[<-HT.out.2.2.2.2.2.2.1];omega)
     rw[HT.out.2.2.2.2.2.2.2.2.2.1,<-HT.out.2.2.2.2.2.2.1] at hfd
     have hrv:=hrow.row hgc hcm
     rw[hrl] at r0 hgc hrv
     have hbv:=HA.out.2.1.below (HB1.out.trans (hb6.mono HB1.out.size))
     have hbN:bs.length=N:=by rw[HA.out.2.2.2.1,HT.out.2.2.2.2.2.2.1]
     have hmM:=hm.m1
     rw[<-HT.out.2.2.2.2.2.2.1] at hmM
     have hal:i<T.2.length:=by rw[<-HT.out.2.2.2.2.2.2.2.1];exact hil
     obtain⟨bo,oo,hAo,_,hcol⟩:=((HT.out.2.2.2.2.2.1.below HE.out.2).below hb6) (by unfold natsI;rw[List.length_map];omega)
     have hcc:=hcol i (by unfold natsI;rw[List.length_map];omega)
     rw[zge] at hcc
     have hclt:T.2.getD i 0<wd:=HT.out.2.2.1 _ (by rw[List.getD,List.getElem?_eq_getElem hal];exact List.getElem_mem hal)
     obtain⟨col,hcl⟩:∃col,col=T.2.getD i 0:=⟨_,rfl⟩
     rw[<-hcl] at hcc hclt
     subst hAo
     obtain⟨y,hy⟩:∃y,y=dotL (T.1.2.getD i []) bs:=⟨_,rfl⟩
     have HH:=hide (ai hm (ai hrow (ai hrl (ai hfd (ai hrv (ai hbv (ai hb6 (ai hbN (ai hy (ai hx hcl))))))))))
     clear hm hrow hrl hfd hrv hbv hb6 hbN hy hx hcl hcol hg hgc hcm hbg hal hbx
     go_wp2_with fail
     refine(zmq _ _ _ (T.1.2.getD i []) bs L HH.out.2.2.2.2.1 HH.out.2.2.2.2.2.1 hL (by rw[HH.out.2.2.1,HH.out.2.2.2.2.2.2.2.1];exact nr _) (fun i hi=>HH.out.2.2.2.1 i (by rw[<-HH.out.2.2.1];exact hi))).mono ?_
     rintro e w7 ⟨yv,rfl,hyv,hd7⟩
     rw[show dotN (T.1.2.getD i []) bs (T.1.2.getD i []).length=y from HH.out.2.2.2.2.2.2.2.2.1.symm] at hyv
     have hx7:=HH.out.2.2.2.2.2.2.2.2.2.1.below hd7
     obtain⟨n1,l1,rfl,q1,q2⟩:=id hyv
     obtain⟨A5,c5,xs5,rfl,_⟩:=q1.open_
     obtain⟨A6,c6,xs6,rfl,_⟩:=q2.open_
     obtain⟨b1,hb1⟩:∃s,s=decide (y.num<0):=⟨_,rfl⟩
     rw[<-hb1] at hyv ⊢
     clear hb1 q1 q2
     obtain⟨s',B1',m1',d1',B2',m2',d2',e0,e1,e2,_⟩:=(hx7.2 col (by rw[zbd,List.length_replicate];exact hclt)).rat
     have f0:=hx7.frozen (col*3)
     have f1:=hx7.frozen (col*3+1)
     have f2:=hx7.frozen (col*3+2)
     have HV:=hide (ai hyv (ai hx7 hd7));clear hyv hx7 hd7
     go_wp2
     go_roundw
     case rel=>
      obtain⟨t1,t2,t3⟩:=HV.out.2.1.set3 (i:=col) (by rw[zbd,List.length_replicate];exact hclt) HV.out.1
      refine⟨i+1,by omega,by go_num,?_,?_⟩
      ·rw[putX,<-HH.out.2.2.2.2.2.2.2.2.2.2,<-HH.out.2.2.2.2.2.2.2.2.1];exact t1
      ·exact only_below (bnx HH.out.2.2.2.2.2.2.1 HV.out.2.2) t3 (bnx HH.out.2.2.2.2.2.2.1 HV.out.2.2).size (nr _)
     case measure=>simp[intOf];omega
    ·obtain rfl:i=a:=by omega
     have HH:=hide (ai hx hbx);clear hx hbx
     go_wp2
     go_ret3
     refine⟨_,rfl,HB1.out.trans (HH.out.2.mono HB1.out.size),.inr ⟨?_,?_⟩⟩
     ·rw[HT.out.2.2.2.2.2.2.2.2.2.1,<-HT.out.2.2.2.2.2.2.2.1,<-HT.out.2.2.2.2.2.2.1,<-HK0.out];exact HE.out.1.symm
     ·rw[HT.out.2.2.2.2.2.2.2.2.2.1,HW.out.1,<-HT.out.2.2.2.2.2.2.2.1]
      refine⟨_,wo.heap.size,Ao,co,rfl,wd,by rw[zbd,List.length_replicate];rfl,by rw[zbd,List.length_replicate];exact nr _,by unfold maxLen;omega,HH.out.1⟩
theorem zl8 (w:World) (va vb:Value) (rows:List (List Rat)) (bs:List Rat) (L wd:Nat) (ha:RowsV w va rows L) (hb:RowV w vb bs L) (hL:L<=134217700) (hL1:1<=L) (h0:0<rows.length) (hn:rows.length<=1073741824)
  (hwd:∀i,i<rows.length->(rows.getD i []).length=wd) (hw1:wd<=1073741824) (hbl:bs.length=rows.length) (hfit:zeL L rows bs):
  Calls Tryz.prog 167 #[va,vb] w (Ret (ziO w rows bs L)):=by
 by_cases hw0:wd=0
 ·subst hw0
  refine zhC w va vb rows bs L 0 ha hb hL hL1 h0 hn hwd hw1 hbl hfit (fun w1 M=>w.heap.size<=w1.heap.size/\∃D cD,DnS w1 w.heap.size M D cD rows.length (idRows rows.length) L) ?_ ?_
  ·refine(zmm w va rows L ha h0 hn (fun i hi=>by rw[hwd i hi];omega) hL1).mono ?_
   rintro e w1 ⟨_,rfl,vR,vD,vs,us,gs,hs,rfl,hn1,hd1⟩
   exact⟨_,rfl,_,rfl,⟨hd1.size,hn1.dn h0⟩,hd1⟩
  ·rintro w1 M ⟨hle,D,cD,hdn⟩
   refine(zgf w1 M).mono ?_
   rintro e w' ⟨_,rfl,rfl,rfl⟩
   exact⟨_,rfl,D,cD,hdn,OwnI.nil _ _ _ _,blr _ _⟩
 ·refine zhC w va vb rows bs L wd ha hb hL hL1 h0 hn hwd hw1 hbl hfit (fun w1 M=>∃R D cR cD vs us rR rD gs hs,MatS w1 w.heap.size M R D cR cD vs us rR rD gs hs rows (idRows rows.length) L) ?_ ?_
  ·refine(zoe w va rows L ha h0 hn (fun i hi=>by rw[hwd i hi];exact⟨by omega,hw1⟩) hL1).mono ?_
   rintro e w1 ⟨_,rfl,M,R,D,cR,cD,vs,us,rR,rD,gs,hs,rfl,hm,hd1⟩
   exact⟨_,rfl,M,rfl,⟨R,D,cR,cD,vs,us,rR,rD,gs,hs,hm⟩,hd1⟩
  ·rintro w1 M ⟨R,D,cR,cD,vs,us,rR,rD,gs,hs,hm⟩
   have hw:(rows.getD 0 []).length=wd:=hwd 0 h0
   have hrect:Rect wd ((rows,idRows rows.length):St):=⟨zbH _,hwd,fun i hi=>by rw[zdt _ _ hi];simp⟩
   refine(zjT _ w.heap.size M R D cR cD vs us rR rD gs hs (rows,idRows rows.length) L wd wd hm hrect (nr _) hw1 (by have:=hfit.ech;rwa[hw] at this) hL hn).mono ?_
   rintro e w3 ⟨cv,rfl,vs2,us2,gs2,hs2,hm3,hown,hb3⟩
   have hd:=hm3.dn
   rw[echN_length] at hd
   exact⟨_,rfl,D,cD,hd,hown,hb3⟩
theorem zoj (w:World) (A:Option Addr) (c:Nat):
  Calls Tryz.prog 190 #[.slice A 0 c] w (Ret (fun v w'=>v=.pointer (some ⟨w.heap.size,0,none⟩)/\w'=w.alloc (.cells #[.slice none 0 0,.slice none 0 0] 211))):=by
 go_enter Tryz.func190,Tryz.ntmps190
 go_wp2
 go_loop [11] (fun s11=>s11=.int .i64 0) (fun _=>0)
 case atStart=>exact rfl
 case round=>
  obtain rfl:=hrel
  go_wp2
  go_ret
  exact⟨_,rfl,rfl,rfl⟩
theorem zl9 (w:World):(w.alloc (.cells #[.slice none 0 0,.slice none 0 0] 211)).heap[w.heap.size]?=some (.cells #[.slice none 0 0,.slice none 0 0] 211 (0,0)):=heap_alloc_new w _
set_option maxHeartbeats 1000000 in
theorem zma (w:World) (va vb:Value) (bs:List Rat) (L:Nat) (ha:RowsV w va [] L) (hb:RowV w vb bs L):
  Calls Tryz.prog 167 #[va,vb] w (Ret (fun v w'=>(∃g:Nat,v=.tuple #[.slice (some ⟨g,0,none⟩) 0 0,.slice none 0 0,.slice none 0 0])/\Below w.heap.size w w')):=by
 have HA:=hide ha
 obtain⟨A,c,rfl,_⟩:=ha
 obtain⟨A2,c2,rfl,_⟩:=hb
 have hmk:∀w:World,(Instr.makeSlice 30 (.int .i64 0) (.int .i64 0)).run Tryz.prog w=.ok (.slice (some ⟨w.heap.size,0,none⟩) 0 0) (w.alloc (.cells (madeCells #[Value.bool false,.slice none 0 0,.slice none 0 0] (0*3)) 43)):=zcy 0 (by omega)
 have hsl:∀w:World,(Instr.slice 31 (.slice none 0 0) (some (.int .i64 0)) none none).run Tryz.prog w=.ok (.slice none 0 0) w:=fun _=>by kernel_rfl
 simp only[List.length_nil]
 go_enter Tryz.func167,Tryz.ntmps167
 go_wp2_with fail
 refine(zoj _ A c).mono ?_
 rintro e w1 ⟨_,rfl,rfl,rfl⟩
 have hb1:Below w.heap.size w (w.alloc (.cells #[.slice none 0 0,.slice none 0 0] 211)):=(blr _ _).alloc (nr _) _
 have HB:=hide hb1
 go_wp2_with fail
 refine(zed _ _ [] L (HA.out.below hb1)).mono ?_
 rintro e w2 ⟨_,rfl,rfl,rfl⟩
 clear hb1
 go_wp2_with fail
 refine(zgf _ _).mono ?_
 rintro e w3 ⟨_,rfl,rfl,rfl⟩
 obtain⟨m0,m1⟩:=zaV (zl9 w)
 go_wp2
 go_loop [4,5,6,27] (fun s4 s5 s6 s27=>s4=.slice none 0 0/\s5=.slice none 0 0/\s6=.slice none 0 0/\s27=.int .i64 0) (fun _ _ _ _=>0)
 case atStart=>exact⟨rfl,rfl,rfl,rfl⟩
 case round=>
  obtain⟨rfl,rfl,rfl,rfl⟩:=hrel
  go_wp2_with fail
  refine(zed _ _ [] L (HA.out.below HB.out)).mono ?_
  rintro e w4 ⟨_,rfl,rfl,rfl⟩
  clear m0 m1
  go_wp2
  go_loop [47] (fun s47=>s47=.int .i64 0) (fun _=>0)
  case atStart=>exact rfl
  case round=>
   obtain rfl:=hrel
   go_wp2
   go_ret3
   exact⟨_,rfl,⟨_,rfl⟩,HB.out.trans ((blr _ _).alloc (by simp) _)⟩
end Go.Proofs.YtpoahodnakhmiaaGreat
