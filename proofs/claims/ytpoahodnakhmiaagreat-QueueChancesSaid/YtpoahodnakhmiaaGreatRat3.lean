import Derived.Test.YtpoahodnakhmiaaGreatRat2
namespace Go.Proofs.YtpoahodnakhmiaaGreat
set_option linter.unusedVariables false
set_option linter.unusedSimpArgs false
open Go.RowKit
theorem zkE (w:World) (b1 b2:Bool) (n1 l1 n2 l2:Value) (x1 y1 x2 y2:Int) (L:Nat) (h1:NatV w n1 x1 L) (g1:NatV w l1 y1 L) (h2:NatV w n2 x2 L) (g2:NatV w l2 y2 L) (hL:L<=268435456) (hB:(b1 == b2)=true):
  Calls Tryz.prog 97 #[.agg #[.bool b1,n1,l1],.agg #[.bool b2,n2,l2]] w (Ret (ratR w (Rat.divInt (sgd b1 (x1*(y2+1)+x2*(y1+1))) ((y1+1)*(y2+1))) (2*L+4))):=by
 have hy1:=g1.nonneg
 have hy2:=g2.nonneg
 obtain⟨A1,c1,xs1,rfl,_⟩:=h1.open_
 obtain⟨A2,c2,xs2,rfl,_⟩:=g1.open_
 obtain⟨A3,c3,xs3,rfl,_⟩:=h2.open_
 obtain⟨A4,c4,xs4,rfl,_⟩:=g2.open_
 have HA:=hide (ai h1 (ai g1 (ai h2 g2)));clear h1 g1 h2 g2
 go_enter Tryz.func97,Tryz.ntmps97
 go_wp2_with fail
 have hb0:Below w.heap.size w (((w.alloc (.cells #[.bool b1,.slice A1 xs1.length c1,.slice A2 xs2.length c2] 43)).alloc (.cells #[.bool b2,.slice A3 xs3.length c3,.slice A4 xs4.length c4] 43)).alloc (.cells #[.bool false,.slice none 0 0,.slice none 0 0] 43)).drew:=((((blr _ _).alloc (nr _) _).alloc (by simp) _).alloc (by simp;omega) _).drew
 have hs0:Below (w.heap.size+3) (((w.alloc (.cells #[.bool b1,.slice A1 xs1.length c1,.slice A2 xs2.length c2] 43)).alloc (.cells #[.bool b2,.slice A3 xs3.length c3,.slice A4 xs4.length c4] 43)).alloc (.cells #[.bool false,.slice none 0 0,.slice none 0 0] 43)) (((w.alloc (.cells #[.bool b1,.slice A1 xs1.length c1,.slice A2 xs2.length c2] 43)).alloc (.cells #[.bool b2,.slice A3 xs3.length c3,.slice A4 xs4.length c4] 43)).alloc (.cells #[.bool false,.slice none 0 0,.slice none 0 0] 43)).drew:=(blr _ _).drew
 have HK:=hide (fun w' (h:Below (w.heap.size+3) (((w.alloc (.cells #[.bool b1,.slice A1 xs1.length c1,.slice A2 xs2.length c2] 43)).alloc (.cells #[.bool b2,.slice A3 xs3.length c3,.slice A4 xs4.length c4] 43)).alloc (.cells #[.bool false,.slice none 0 0,.slice none 0 0] 43)) w')=>(two_of h:(w'.cell? ⟨w.heap.size,0,none⟩=some (.bool b1)/\w'.cell? ⟨w.heap.size,1,none⟩=some (.slice A1 xs1.length c1)/\w'.cell? ⟨w.heap.size,2,none⟩=some (.slice A2 xs2.length c2)/\w'.cell? ⟨w.heap.size+1,0,none⟩=some (.bool b2)/\w'.cell? ⟨w.heap.size+1,1,none⟩=some (.slice A3 xs3.length c3)/\w'.cell? ⟨w.heap.size+1,2,none⟩=some (.slice A4 xs4.length c4))))
 go_region_held3 (fun w'=>(w'.cell? ⟨w.heap.size,0,none⟩=some (.bool b1)/\w'.cell? ⟨w.heap.size,1,none⟩=some (.slice A1 xs1.length c1)/\w'.cell? ⟨w.heap.size,2,none⟩=some (.slice A2 xs2.length c2)/\w'.cell? ⟨w.heap.size+1,0,none⟩=some (.bool b2)/\w'.cell? ⟨w.heap.size+1,1,none⟩=some (.slice A3 xs3.length c3)/\w'.cell? ⟨w.heap.size+1,2,none⟩=some (.slice A4 xs4.length c4)))
  (first|(go_keep;done)|(have hq:=HK.out _ hs4;simp only[zi (show w.heap.size≠w.heap.size+1+1 by omega),zi (show w.heap.size+1≠w.heap.size+1+1 by omega)];exact hq)|(exact HK.out _ hs4)|(have hq:=HK.out _ hs3;simp only[zi (show w.heap.size≠w.heap.size+1+1 by omega),zi (show w.heap.size+1≠w.heap.size+1+1 by omega)];exact hq)|(exact HK.out _ hs3)|(have hq:=HK.out _ hs2;simp only[zi (show w.heap.size≠w.heap.size+1+1 by omega),zi (show w.heap.size+1≠w.heap.size+1+1 by omega)];exact hq)|(exact HK.out _ hs2)|(have hq:=HK.out _ hs1;simp only[zi (show w.heap.size≠w.heap.size+1+1 by omega),zi (show w.heap.size+1≠w.heap.size+1+1 by omega)];exact hq)|(exact HK.out _ hs1))
  (first
   | (go_at_call_of 129 (Value.agg #[.bool b2,.slice A3 xs3.length c3,.slice A4 xs4.length c4]);refine(zar _ _ _ _ y2 L (HA.out.2.2.2.below hb0) (by omega)).mono ?_;rintro e w1 ⟨u1,rfl,q1,hd1⟩;have hs1:=zh hs0 hd1 (by simp);have hb1:=bnx hb0 hd1)
   | (go_at_call_of 128 (Value.slice A1 xs1.length c1);refine(zaz _ _ _ x1 (y2+1) L (L+2) (HA.out.1.below hb1) q1 (by omega) (by omega)).mono ?_;rintro e w2 ⟨u2,rfl,q2,hd2⟩;have hs2:=zh hs1 hd2 (by simp);have hb2:=bnx hb1 hd2)
   | (go_at_call_of 129 (Value.agg #[.bool b1,.slice A1 xs1.length c1,.slice A2 xs2.length c2]);refine(zar _ _ _ _ y1 L (HA.out.2.1.below hb2) (by omega)).mono ?_;rintro e w3 ⟨u3,rfl,q3,hd3⟩;have hs3:=zh hs2 hd3 (by simp);have hb3:=bnx hb2 hd3)
   | (go_at_call_of 128 (Value.slice A3 xs3.length c3);refine(zaz _ _ _ x2 (y1+1) L (L+2) (HA.out.2.2.1.below hb3) q3 (by omega) (by omega)).mono ?_;rintro e w4 ⟨u4,rfl,q4,hd4⟩;have hs4:=zh hs3 hd4 (by simp);have hb4:=bnx hb3 hd4))
 obtain⟨Aa,ca,xa,rfl,_⟩:=q2.open_
 obtain⟨Ab,cb,xb,rfl,_⟩:=q4.open_
 have HQ:=hide (ai (q2.below (bnx hd3 hd4)) q4)
 clear q1 q2 q3 q4
 clear hb1 hb2 hb3 hs1 hs2 hs3 hd1 hd2 hd3 hd4
 go_wp2_with fail
 have hd5:=(blr w4.heap.size w4).drew
 have hs5:=zh hs4 hd5 (by simp)
 have hb5:=bnx hb4 hd5
 go_region_held3 (fun w'=>(w'.cell? ⟨w.heap.size,0,none⟩=some (.bool b1)/\w'.cell? ⟨w.heap.size,1,none⟩=some (.slice A1 xs1.length c1)/\w'.cell? ⟨w.heap.size,2,none⟩=some (.slice A2 xs2.length c2)/\w'.cell? ⟨w.heap.size+1,0,none⟩=some (.bool b2)/\w'.cell? ⟨w.heap.size+1,1,none⟩=some (.slice A3 xs3.length c3)/\w'.cell? ⟨w.heap.size+1,2,none⟩=some (.slice A4 xs4.length c4)))
  (first|(go_keep;done)|(have hq:=HK.out _ hs8;simp only[zi (show w.heap.size≠w.heap.size+1+1 by omega),zi (show w.heap.size+1≠w.heap.size+1+1 by omega)];exact hq)|(exact HK.out _ hs8)|(have hq:=HK.out _ hs7;simp only[zi (show w.heap.size≠w.heap.size+1+1 by omega),zi (show w.heap.size+1≠w.heap.size+1+1 by omega)];exact hq)|(exact HK.out _ hs7)|(have hq:=HK.out _ hs6;simp only[zi (show w.heap.size≠w.heap.size+1+1 by omega),zi (show w.heap.size+1≠w.heap.size+1+1 by omega)];exact hq)|(exact HK.out _ hs6)|(exact HK.out _ hs5.drew))
  (first
   | (go_at_call_of 129 (Value.agg #[.bool b1,.slice A1 xs1.length c1,.slice A2 xs2.length c2]);refine(zar _ _ _ _ y1 L (HA.out.2.1.below hb5) (by omega)).mono ?_;rintro e w6 ⟨u6,rfl,q6,hd6⟩;have hs6:=zh hs5 hd6 (by simp);have hb6:=bnx hb5 hd6)
   | (go_at_call_of 129 (Value.agg #[.bool b2,.slice A3 xs3.length c3,.slice A4 xs4.length c4]);refine(zar _ _ _ _ y2 L (HA.out.2.2.2.below hb6) (by omega)).mono ?_;rintro e w7 ⟨u7,rfl,q7,hd7⟩;have hs7:=zh hs6 hd7 (by simp);have hb7:=bnx hb6 hd7)
   | (go_at_call_of 128 u6;refine(zaz _ _ _ (y1+1) (y2+1) (L+2) (L+2) (q6.below hd7) q7 (by omega) (by omega)).mono ?_;rintro e w8 ⟨u8,rfl,q8,hd8⟩;have hs8:=zh hs7 hd8 (by simp);have hb8:=bnx hb7 hd8))
 obtain⟨Ac,cc,xc,rfl,_⟩:=q8.open_
 have HP:=hide q8
 have HQ2:=hide (ai (HQ.out.1.below (bnx (bnx (bnx hd5 hd6) hd7) hd8)) (HQ.out.2.below (bnx (bnx (bnx hd5 hd6) hd7) hd8)))
 clear q6 q7 q8 HQ hd5 hd6 hd7 hd8 hs5 hs6 hs7 hb5 hb6 hb7
 obtain⟨k0,k1,k2,k3,k4,k5⟩:=HK.out _ hs8
 go_wp2_with fail
 have hd9:=(blr w8.heap.size w8).drew
 have hs9:=zh hs8 hd9 (by simp)
 have hb9:=bnx hb8 hd9
 go_region_held3 (fun w'=>(w'.cell? ⟨w.heap.size,0,none⟩=some (.bool b1)/\w'.cell? ⟨w.heap.size,1,none⟩=some (.slice A1 xs1.length c1)/\w'.cell? ⟨w.heap.size,2,none⟩=some (.slice A2 xs2.length c2)/\w'.cell? ⟨w.heap.size+1,0,none⟩=some (.bool b2)/\w'.cell? ⟨w.heap.size+1,1,none⟩=some (.slice A3 xs3.length c3)/\w'.cell? ⟨w.heap.size+1,2,none⟩=some (.slice A4 xs4.length c4)))
  (first|(go_keep;done)|(have hq:=HK.out _ hs11;simp only[zi (show w.heap.size≠w.heap.size+1+1 by omega),zi (show w.heap.size+1≠w.heap.size+1+1 by omega)];exact hq)|(exact HK.out _ hs11)|(have hq:=HK.out _ hs10;simp only[zi (show w.heap.size≠w.heap.size+1+1 by omega),zi (show w.heap.size+1≠w.heap.size+1+1 by omega)];exact hq)|(exact HK.out _ hs10)|(exact HK.out _ hs9.drew))
  (first
   | (go_at_call 140;refine(zgC _ _ _ (x1*(y2+1)) (x2*(y1+1)) (L+(L+2)) (L+(L+2)) (HQ2.out.1.below hd9) (HQ2.out.2.below hd9) (by omega) (by omega)).mono ?_;rintro e w10 ⟨u10,rfl,q10,hd10⟩;have hs10:=zh hs9 hd10 (by simp);have hb10:=bnx hb9 hd10)
   | (go_at_call 127;refine(zb7 _ _ _ _ (x1*(y2+1)+x2*(y1+1)) ((y1+1)*(y2+1)) (2*L+4) (q10.more (by omega)) ((HP.out.below (bnx hd9 hd10)).more (by omega)) (by omega) (Int.mul_pos (by omega) (by omega))).mono ?_;rintro e w11 ⟨u11,rfl,⟨rn,rl,rfl,q11,p11⟩,hd11⟩;have hs11:=zh hs10 hd11 (by simp);have hb11:=bnx hb10 hd11;obtain⟨_,_,⟨m0,m1,m2⟩,⟨f0,f1,f2⟩,hz⟩:=zaE hs11;obtain⟨Ae,ce,xe,rfl,_⟩:=q11.open_;obtain⟨Af,cf,xf,rfl,_⟩:=p11.open_))
 go_wp2
 refine bodyPost_ret (v:=.agg #[.bool (decide ((Rat.divInt (sgd b1 (x1*(y2+1)+x2*(y1+1))) ((y1+1)*(y2+1))).num<0)),.slice Ae xe.length ce,.slice Af xf.length cf]) ?_ rfl ?_
 ·simp[results,Tryz.results97,go_sem,m0,m1,m2,hz]
 refine⟨_,rfl,⟨.slice Ae xe.length ce,.slice Af xf.length cf,rfl,?_,?_⟩,zm hb11 (by omega) _ _ _⟩
 ·exact q11.set3 m0 m1 m2
 ·exact p11.set3 m0 m1 m2
theorem zkF (w:World) (b1 b2:Bool) (n1 l1 n2 l2:Value) (x1 y1 x2 y2:Int) (L:Nat) (h1:NatV w n1 x1 L) (g1:NatV w l1 y1 L) (h2:NatV w n2 x2 L) (g2:NatV w l2 y2 L) (hL:L<=268435456) (hB:(b1 == b2)=false) (hC:x2*(y1+1)<=x1*(y2+1)):
  Calls Tryz.prog 97 #[.agg #[.bool b1,n1,l1],.agg #[.bool b2,n2,l2]] w (Ret (ratR w (Rat.divInt (sgd b1 (x1*(y2+1)-x2*(y1+1))) ((y1+1)*(y2+1))) (2*L+4))):=by
 have hy1:=g1.nonneg
 have hy2:=g2.nonneg
 obtain⟨A1,c1,xs1,rfl,_⟩:=h1.open_
 obtain⟨A2,c2,xs2,rfl,_⟩:=g1.open_
 obtain⟨A3,c3,xs3,rfl,_⟩:=h2.open_
 obtain⟨A4,c4,xs4,rfl,_⟩:=g2.open_
 have HA:=hide (ai h1 (ai g1 (ai h2 g2)));clear h1 g1 h2 g2
 have HC:=hide hC
 have hS:decide (sgn (x1*(y2+1)) (x2*(y1+1))≥0)=true:=by
  apply decide_eq_true
  rcases Int.lt_trichotomy (x1*(y2+1)) (x2*(y1+1)) with h|h|h
  ·omega
  ·rw[h];simp[sgn]
  ·rw[zbC h];decide
 clear hC
 go_enter Tryz.func97,Tryz.ntmps97
 go_wp2_with fail
 have hb0:Below w.heap.size w (((w.alloc (.cells #[.bool b1,.slice A1 xs1.length c1,.slice A2 xs2.length c2] 43)).alloc (.cells #[.bool b2,.slice A3 xs3.length c3,.slice A4 xs4.length c4] 43)).alloc (.cells #[.bool false,.slice none 0 0,.slice none 0 0] 43)).drew:=((((blr _ _).alloc (nr _) _).alloc (by simp) _).alloc (by simp;omega) _).drew
 have hs0:Below (w.heap.size+3) (((w.alloc (.cells #[.bool b1,.slice A1 xs1.length c1,.slice A2 xs2.length c2] 43)).alloc (.cells #[.bool b2,.slice A3 xs3.length c3,.slice A4 xs4.length c4] 43)).alloc (.cells #[.bool false,.slice none 0 0,.slice none 0 0] 43)) (((w.alloc (.cells #[.bool b1,.slice A1 xs1.length c1,.slice A2 xs2.length c2] 43)).alloc (.cells #[.bool b2,.slice A3 xs3.length c3,.slice A4 xs4.length c4] 43)).alloc (.cells #[.bool false,.slice none 0 0,.slice none 0 0] 43)).drew:=(blr _ _).drew
 have HK:=hide (fun w' (h:Below (w.heap.size+3) (((w.alloc (.cells #[.bool b1,.slice A1 xs1.length c1,.slice A2 xs2.length c2] 43)).alloc (.cells #[.bool b2,.slice A3 xs3.length c3,.slice A4 xs4.length c4] 43)).alloc (.cells #[.bool false,.slice none 0 0,.slice none 0 0] 43)) w')=>(two_of h:(w'.cell? ⟨w.heap.size,0,none⟩=some (.bool b1)/\w'.cell? ⟨w.heap.size,1,none⟩=some (.slice A1 xs1.length c1)/\w'.cell? ⟨w.heap.size,2,none⟩=some (.slice A2 xs2.length c2)/\w'.cell? ⟨w.heap.size+1,0,none⟩=some (.bool b2)/\w'.cell? ⟨w.heap.size+1,1,none⟩=some (.slice A3 xs3.length c3)/\w'.cell? ⟨w.heap.size+1,2,none⟩=some (.slice A4 xs4.length c4))))
 go_region_held3 (fun w'=>(w'.cell? ⟨w.heap.size,0,none⟩=some (.bool b1)/\w'.cell? ⟨w.heap.size,1,none⟩=some (.slice A1 xs1.length c1)/\w'.cell? ⟨w.heap.size,2,none⟩=some (.slice A2 xs2.length c2)/\w'.cell? ⟨w.heap.size+1,0,none⟩=some (.bool b2)/\w'.cell? ⟨w.heap.size+1,1,none⟩=some (.slice A3 xs3.length c3)/\w'.cell? ⟨w.heap.size+1,2,none⟩=some (.slice A4 xs4.length c4)))
  (first|(go_keep;done)|(have hq:=HK.out _ hs4;simp only[zi (show w.heap.size≠w.heap.size+1+1 by omega),zi (show w.heap.size+1≠w.heap.size+1+1 by omega)];exact hq)|(exact HK.out _ hs4)|(have hq:=HK.out _ hs3;simp only[zi (show w.heap.size≠w.heap.size+1+1 by omega),zi (show w.heap.size+1≠w.heap.size+1+1 by omega)];exact hq)|(exact HK.out _ hs3)|(have hq:=HK.out _ hs2;simp only[zi (show w.heap.size≠w.heap.size+1+1 by omega),zi (show w.heap.size+1≠w.heap.size+1+1 by omega)];exact hq)|(exact HK.out _ hs2)|(have hq:=HK.out _ hs1;simp only[zi (show w.heap.size≠w.heap.size+1+1 by omega),zi (show w.heap.size+1≠w.heap.size+1+1 by omega)];exact hq)|(exact HK.out _ hs1))
  (first
   | (go_at_call_of 129 (Value.agg #[.bool b2,.slice A3 xs3.length c3,.slice A4 xs4.length c4]);refine(zar _ _ _ _ y2 L (HA.out.2.2.2.below hb0) (by omega)).mono ?_;rintro e w1 ⟨u1,rfl,q1,hd1⟩;have hs1:=zh hs0 hd1 (by simp);have hb1:=bnx hb0 hd1)
   | (go_at_call_of 128 (Value.slice A1 xs1.length c1);refine(zaz _ _ _ x1 (y2+1) L (L+2) (HA.out.1.below hb1) q1 (by omega) (by omega)).mono ?_;rintro e w2 ⟨u2,rfl,q2,hd2⟩;have hs2:=zh hs1 hd2 (by simp);have hb2:=bnx hb1 hd2)
   | (go_at_call_of 129 (Value.agg #[.bool b1,.slice A1 xs1.length c1,.slice A2 xs2.length c2]);refine(zar _ _ _ _ y1 L (HA.out.2.1.below hb2) (by omega)).mono ?_;rintro e w3 ⟨u3,rfl,q3,hd3⟩;have hs3:=zh hs2 hd3 (by simp);have hb3:=bnx hb2 hd3)
   | (go_at_call_of 128 (Value.slice A3 xs3.length c3);refine(zaz _ _ _ x2 (y1+1) L (L+2) (HA.out.2.2.1.below hb3) q3 (by omega) (by omega)).mono ?_;rintro e w4 ⟨u4,rfl,q4,hd4⟩;have hs4:=zh hs3 hd4 (by simp);have hb4:=bnx hb3 hd4))
 obtain⟨Aa,ca,xa,rfl,_⟩:=q2.open_
 obtain⟨Ab,cb,xb,rfl,_⟩:=q4.open_
 have HQ:=hide (ai (q2.below (bnx hd3 hd4)) q4)
 clear q1 q2 q3 q4
 clear hb1 hb2 hb3 hs1 hs2 hs3 hd1 hd2 hd3 hd4
 go_wp2_with fail
 have hd5:=(blr w4.heap.size w4).drew
 have hs5:=zh hs4 hd5 (by simp)
 have hb5:=bnx hb4 hd5
 go_region_held3 (fun w'=>(w'.cell? ⟨w.heap.size,0,none⟩=some (.bool b1)/\w'.cell? ⟨w.heap.size,1,none⟩=some (.slice A1 xs1.length c1)/\w'.cell? ⟨w.heap.size,2,none⟩=some (.slice A2 xs2.length c2)/\w'.cell? ⟨w.heap.size+1,0,none⟩=some (.bool b2)/\w'.cell? ⟨w.heap.size+1,1,none⟩=some (.slice A3 xs3.length c3)/\w'.cell? ⟨w.heap.size+1,2,none⟩=some (.slice A4 xs4.length c4)))
  (first|(go_keep;done)|(have hq:=HK.out _ hs8;simp only[zi (show w.heap.size≠w.heap.size+1+1 by omega),zi (show w.heap.size+1≠w.heap.size+1+1 by omega)];exact hq)|(exact HK.out _ hs8)|(have hq:=HK.out _ hs7;simp only[zi (show w.heap.size≠w.heap.size+1+1 by omega),zi (show w.heap.size+1≠w.heap.size+1+1 by omega)];exact hq)|(exact HK.out _ hs7)|(have hq:=HK.out _ hs6;simp only[zi (show w.heap.size≠w.heap.size+1+1 by omega),zi (show w.heap.size+1≠w.heap.size+1+1 by omega)];exact hq)|(exact HK.out _ hs6)|(exact HK.out _ hs5.drew))
  (first
   | (go_at_call_of 129 (Value.agg #[.bool b1,.slice A1 xs1.length c1,.slice A2 xs2.length c2]);refine(zar _ _ _ _ y1 L (HA.out.2.1.below hb5) (by omega)).mono ?_;rintro e w6 ⟨u6,rfl,q6,hd6⟩;have hs6:=zh hs5 hd6 (by simp);have hb6:=bnx hb5 hd6)
   | (go_at_call_of 129 (Value.agg #[.bool b2,.slice A3 xs3.length c3,.slice A4 xs4.length c4]);refine(zar _ _ _ _ y2 L (HA.out.2.2.2.below hb6) (by omega)).mono ?_;rintro e w7 ⟨u7,rfl,q7,hd7⟩;have hs7:=zh hs6 hd7 (by simp);have hb7:=bnx hb6 hd7)
   | (go_at_call_of 128 u6;refine(zaz _ _ _ (y1+1) (y2+1) (L+2) (L+2) (q6.below hd7) q7 (by omega) (by omega)).mono ?_;rintro e w8 ⟨u8,rfl,q8,hd8⟩;have hs8:=zh hs7 hd8 (by simp);have hb8:=bnx hb7 hd8))
 obtain⟨Ac,cc,xc,rfl,_⟩:=q8.open_
 have HP:=hide q8
 have HQ2:=hide (ai (HQ.out.1.below (bnx (bnx (bnx hd5 hd6) hd7) hd8)) (HQ.out.2.below (bnx (bnx (bnx hd5 hd6) hd7) hd8)))
 clear q6 q7 q8 HQ hd5 hd6 hd7 hd8 hs5 hs6 hs7 hb5 hb6 hb7
 obtain⟨k0,k1,k2,k3,k4,k5⟩:=HK.out _ hs8
 go_wp2_with fail
 refine(zdS _ _ _ (x1*(y2+1)) (x2*(y1+1)) (L+(L+2)) (L+(L+2)) HQ2.out.1 HQ2.out.2).mono ?_
 rintro e w9 ⟨_,rfl,rfl,m9,hw9⟩
 have hd9:Below w8.heap.size w8 w9:=by rw[hw9];exact zw (blr _ _) _
 have hs9:=zh hs8 hd9 (by simp)
 have hb9:=bnx hb8 hd9
 clear hw9 k0 k1 k2 k3 k4 k5
 obtain⟨k0,k1,k2,k3,k4,k5⟩:=HK.out _ hs9
 go_wp2_with fail
 have hd10:=(blr w9.heap.size w9).drew
 have hs10:=zh hs9 hd10 (by simp)
 have hb10:=bnx hb9 hd10
 go_region_held3 (fun w'=>(w'.cell? ⟨w.heap.size,0,none⟩=some (.bool b1)/\w'.cell? ⟨w.heap.size,1,none⟩=some (.slice A1 xs1.length c1)/\w'.cell? ⟨w.heap.size,2,none⟩=some (.slice A2 xs2.length c2)/\w'.cell? ⟨w.heap.size+1,0,none⟩=some (.bool b2)/\w'.cell? ⟨w.heap.size+1,1,none⟩=some (.slice A3 xs3.length c3)/\w'.cell? ⟨w.heap.size+1,2,none⟩=some (.slice A4 xs4.length c4)))
  (first|(go_keep;done)|(have hq:=HK.out _ hs12;simp only[zi (show w.heap.size≠w.heap.size+1+1 by omega),zi (show w.heap.size+1≠w.heap.size+1+1 by omega)];exact hq)|(exact HK.out _ hs12)|(have hq:=HK.out _ hs11;simp only[zi (show w.heap.size≠w.heap.size+1+1 by omega),zi (show w.heap.size+1≠w.heap.size+1+1 by omega)];exact hq)|(exact HK.out _ hs11)|(exact HK.out _ hs10.drew))
  (first
   | (go_at_call 142;refine(zda _ _ _ (x1*(y2+1)) (x2*(y1+1)) (L+(L+2)) (L+(L+2)) (HQ2.out.1.below (bnx hd9 hd10)) (HQ2.out.2.below (bnx hd9 hd10)) (by omega) HC.out).mono ?_;rintro e w11 ⟨u11,rfl,q11,hd11⟩;have hs11:=zh hs10 hd11 (by simp);have hb11:=bnx hb10 hd11)
   | (go_at_call 127;refine(zb7 _ _ _ _ (x1*(y2+1)-x2*(y1+1)) ((y1+1)*(y2+1)) (2*L+4) (q11.more (by omega)) ((HP.out.below (bnx (bnx hd9 hd10) hd11)).more (by omega)) (by omega) (Int.mul_pos (by omega) (by omega))).mono ?_;rintro e w12 ⟨u12,rfl,⟨rn,rl,rfl,q12,p12⟩,hd12⟩;have hs12:=zh hs11 hd12 (by simp);have hb12:=bnx hb11 hd12;obtain⟨_,_,⟨m0,m1,m2⟩,⟨f0,f1,f2⟩,hz⟩:=zaE hs12;obtain⟨Ae,ce,xe,rfl,_⟩:=q12.open_;obtain⟨Af,cf,xf,rfl,_⟩:=p12.open_))
 go_wp2
 refine bodyPost_ret (v:=.agg #[.bool (decide ((Rat.divInt (sgd b1 (x1*(y2+1)-x2*(y1+1))) ((y1+1)*(y2+1))).num<0)),.slice Ae xe.length ce,.slice Af xf.length cf]) ?_ rfl ?_
 ·simp[results,Tryz.results97,go_sem,m0,m1,m2,hz]
 refine⟨_,rfl,⟨.slice Ae xe.length ce,.slice Af xf.length cf,rfl,?_,?_⟩,zm hb12 (by omega) _ _ _⟩
 ·exact q12.set3 m0 m1 m2
 ·exact p12.set3 m0 m1 m2
theorem zkG (w:World) (b1 b2:Bool) (n1 l1 n2 l2:Value) (x1 y1 x2 y2:Int) (L:Nat) (h1:NatV w n1 x1 L) (g1:NatV w l1 y1 L) (h2:NatV w n2 x2 L) (g2:NatV w l2 y2 L) (hL:L<=268435456) (hB:(b1 == b2)=false) (hC:x1*(y2+1)<x2*(y1+1)):
  Calls Tryz.prog 97 #[.agg #[.bool b1,n1,l1],.agg #[.bool b2,n2,l2]] w (Ret (ratR w (Rat.divInt (sgd b2 (x2*(y1+1)-x1*(y2+1))) ((y1+1)*(y2+1))) (2*L+4))):=by
 have hy1:=g1.nonneg
 have hy2:=g2.nonneg
 obtain⟨A1,c1,xs1,rfl,_⟩:=h1.open_
 obtain⟨A2,c2,xs2,rfl,_⟩:=g1.open_
 obtain⟨A3,c3,xs3,rfl,_⟩:=h2.open_
 obtain⟨A4,c4,xs4,rfl,_⟩:=g2.open_
 have HA:=hide (ai h1 (ai g1 (ai h2 g2)));clear h1 g1 h2 g2
 have HC:=hide (show x1*(y2+1)<=x2*(y1+1) from by omega)
 have hS:decide (sgn (x1*(y2+1)) (x2*(y1+1))≥0)=false:=by
  rw[zbU hC];rfl
 clear hC
 go_enter Tryz.func97,Tryz.ntmps97
 go_wp2_with fail
 have hb0:Below w.heap.size w (((w.alloc (.cells #[.bool b1,.slice A1 xs1.length c1,.slice A2 xs2.length c2] 43)).alloc (.cells #[.bool b2,.slice A3 xs3.length c3,.slice A4 xs4.length c4] 43)).alloc (.cells #[.bool false,.slice none 0 0,.slice none 0 0] 43)).drew:=((((blr _ _).alloc (nr _) _).alloc (by simp) _).alloc (by simp;omega) _).drew
 have hs0:Below (w.heap.size+3) (((w.alloc (.cells #[.bool b1,.slice A1 xs1.length c1,.slice A2 xs2.length c2] 43)).alloc (.cells #[.bool b2,.slice A3 xs3.length c3,.slice A4 xs4.length c4] 43)).alloc (.cells #[.bool false,.slice none 0 0,.slice none 0 0] 43)) (((w.alloc (.cells #[.bool b1,.slice A1 xs1.length c1,.slice A2 xs2.length c2] 43)).alloc (.cells #[.bool b2,.slice A3 xs3.length c3,.slice A4 xs4.length c4] 43)).alloc (.cells #[.bool false,.slice none 0 0,.slice none 0 0] 43)).drew:=(blr _ _).drew
 have HK:=hide (fun w' (h:Below (w.heap.size+3) (((w.alloc (.cells #[.bool b1,.slice A1 xs1.length c1,.slice A2 xs2.length c2] 43)).alloc (.cells #[.bool b2,.slice A3 xs3.length c3,.slice A4 xs4.length c4] 43)).alloc (.cells #[.bool false,.slice none 0 0,.slice none 0 0] 43)) w')=>(two_of h:(w'.cell? ⟨w.heap.size,0,none⟩=some (.bool b1)/\w'.cell? ⟨w.heap.size,1,none⟩=some (.slice A1 xs1.length c1)/\w'.cell? ⟨w.heap.size,2,none⟩=some (.slice A2 xs2.length c2)/\w'.cell? ⟨w.heap.size+1,0,none⟩=some (.bool b2)/\w'.cell? ⟨w.heap.size+1,1,none⟩=some (.slice A3 xs3.length c3)/\w'.cell? ⟨w.heap.size+1,2,none⟩=some (.slice A4 xs4.length c4))))
 go_region_held3 (fun w'=>(w'.cell? ⟨w.heap.size,0,none⟩=some (.bool b1)/\w'.cell? ⟨w.heap.size,1,none⟩=some (.slice A1 xs1.length c1)/\w'.cell? ⟨w.heap.size,2,none⟩=some (.slice A2 xs2.length c2)/\w'.cell? ⟨w.heap.size+1,0,none⟩=some (.bool b2)/\w'.cell? ⟨w.heap.size+1,1,none⟩=some (.slice A3 xs3.length c3)/\w'.cell? ⟨w.heap.size+1,2,none⟩=some (.slice A4 xs4.length c4)))
  (first|(go_keep;done)|(have hq:=HK.out _ hs4;simp only[zi (show w.heap.size≠w.heap.size+1+1 by omega),zi (show w.heap.size+1≠w.heap.size+1+1 by omega)];exact hq)|(exact HK.out _ hs4)|(have hq:=HK.out _ hs3;simp only[zi (show w.heap.size≠w.heap.size+1+1 by omega),zi (show w.heap.size+1≠w.heap.size+1+1 by omega)];exact hq)|(exact HK.out _ hs3)|(have hq:=HK.out _ hs2;simp only[zi (show w.heap.size≠w.heap.size+1+1 by omega),zi (show w.heap.size+1≠w.heap.size+1+1 by omega)];exact hq)|(exact HK.out _ hs2)|(have hq:=HK.out _ hs1;simp only[zi (show w.heap.size≠w.heap.size+1+1 by omega),zi (show w.heap.size+1≠w.heap.size+1+1 by omega)];exact hq)|(exact HK.out _ hs1))
  (first
   | (go_at_call_of 129 (Value.agg #[.bool b2,.slice A3 xs3.length c3,.slice A4 xs4.length c4]);refine(zar _ _ _ _ y2 L (HA.out.2.2.2.below hb0) (by omega)).mono ?_;rintro e w1 ⟨u1,rfl,q1,hd1⟩;have hs1:=zh hs0 hd1 (by simp);have hb1:=bnx hb0 hd1)
   | (go_at_call_of 128 (Value.slice A1 xs1.length c1);refine(zaz _ _ _ x1 (y2+1) L (L+2) (HA.out.1.below hb1) q1 (by omega) (by omega)).mono ?_;rintro e w2 ⟨u2,rfl,q2,hd2⟩;have hs2:=zh hs1 hd2 (by simp);have hb2:=bnx hb1 hd2)
   | (go_at_call_of 129 (Value.agg #[.bool b1,.slice A1 xs1.length c1,.slice A2 xs2.length c2]);refine(zar _ _ _ _ y1 L (HA.out.2.1.below hb2) (by omega)).mono ?_;rintro e w3 ⟨u3,rfl,q3,hd3⟩;have hs3:=zh hs2 hd3 (by simp);have hb3:=bnx hb2 hd3)
   | (go_at_call_of 128 (Value.slice A3 xs3.length c3);refine(zaz _ _ _ x2 (y1+1) L (L+2) (HA.out.2.2.1.below hb3) q3 (by omega) (by omega)).mono ?_;rintro e w4 ⟨u4,rfl,q4,hd4⟩;have hs4:=zh hs3 hd4 (by simp);have hb4:=bnx hb3 hd4))
 obtain⟨Aa,ca,xa,rfl,_⟩:=q2.open_
 obtain⟨Ab,cb,xb,rfl,_⟩:=q4.open_
 have HQ:=hide (ai (q2.below (bnx hd3 hd4)) q4)
 clear q1 q2 q3 q4
 clear hb1 hb2 hb3 hs1 hs2 hs3 hd1 hd2 hd3 hd4
 go_wp2_with fail
 have hd5:=(blr w4.heap.size w4).drew
 have hs5:=zh hs4 hd5 (by simp)
 have hb5:=bnx hb4 hd5
 go_region_held3 (fun w'=>(w'.cell? ⟨w.heap.size,0,none⟩=some (.bool b1)/\w'.cell? ⟨w.heap.size,1,none⟩=some (.slice A1 xs1.length c1)/\w'.cell? ⟨w.heap.size,2,none⟩=some (.slice A2 xs2.length c2)/\w'.cell? ⟨w.heap.size+1,0,none⟩=some (.bool b2)/\w'.cell? ⟨w.heap.size+1,1,none⟩=some (.slice A3 xs3.length c3)/\w'.cell? ⟨w.heap.size+1,2,none⟩=some (.slice A4 xs4.length c4)))
  (first|(go_keep;done)|(have hq:=HK.out _ hs8;simp only[zi (show w.heap.size≠w.heap.size+1+1 by omega),zi (show w.heap.size+1≠w.heap.size+1+1 by omega)];exact hq)|(exact HK.out _ hs8)|(have hq:=HK.out _ hs7;simp only[zi (show w.heap.size≠w.heap.size+1+1 by omega),zi (show w.heap.size+1≠w.heap.size+1+1 by omega)];exact hq)|(exact HK.out _ hs7)|(have hq:=HK.out _ hs6;simp only[zi (show w.heap.size≠w.heap.size+1+1 by omega),zi (show w.heap.size+1≠w.heap.size+1+1 by omega)];exact hq)|(exact HK.out _ hs6)|(exact HK.out _ hs5.drew))
  (first
   | (go_at_call_of 129 (Value.agg #[.bool b1,.slice A1 xs1.length c1,.slice A2 xs2.length c2]);refine(zar _ _ _ _ y1 L (HA.out.2.1.below hb5) (by omega)).mono ?_;rintro e w6 ⟨u6,rfl,q6,hd6⟩;have hs6:=zh hs5 hd6 (by simp);have hb6:=bnx hb5 hd6)
   | (go_at_call_of 129 (Value.agg #[.bool b2,.slice A3 xs3.length c3,.slice A4 xs4.length c4]);refine(zar _ _ _ _ y2 L (HA.out.2.2.2.below hb6) (by omega)).mono ?_;rintro e w7 ⟨u7,rfl,q7,hd7⟩;have hs7:=zh hs6 hd7 (by simp);have hb7:=bnx hb6 hd7)
   | (go_at_call_of 128 u6;refine(zaz _ _ _ (y1+1) (y2+1) (L+2) (L+2) (q6.below hd7) q7 (by omega) (by omega)).mono ?_;rintro e w8 ⟨u8,rfl,q8,hd8⟩;have hs8:=zh hs7 hd8 (by simp);have hb8:=bnx hb7 hd8))
 obtain⟨Ac,cc,xc,rfl,_⟩:=q8.open_
 have HP:=hide q8
 have HQ2:=hide (ai (HQ.out.1.below (bnx (bnx (bnx hd5 hd6) hd7) hd8)) (HQ.out.2.below (bnx (bnx (bnx hd5 hd6) hd7) hd8)))
 clear q6 q7 q8 HQ hd5 hd6 hd7 hd8 hs5 hs6 hs7 hb5 hb6 hb7
 obtain⟨k0,k1,k2,k3,k4,k5⟩:=HK.out _ hs8
 go_wp2_with fail
 refine(zdS _ _ _ (x1*(y2+1)) (x2*(y1+1)) (L+(L+2)) (L+(L+2)) HQ2.out.1 HQ2.out.2).mono ?_
 rintro e w9 ⟨_,rfl,rfl,m9,hw9⟩
 have hd9:Below w8.heap.size w8 w9:=by rw[hw9];exact zw (blr _ _) _
 have hs9:=zh hs8 hd9 (by simp)
 have hb9:=bnx hb8 hd9
 clear hw9 k0 k1 k2 k3 k4 k5
 obtain⟨k0,k1,k2,k3,k4,k5⟩:=HK.out _ hs9
 go_wp2_with fail
 have hd10:=(blr w9.heap.size w9).drew
 have hs10:=zh hs9 hd10 (by simp)
 have hb10:=bnx hb9 hd10
 go_region_held3 (fun w'=>(w'.cell? ⟨w.heap.size,0,none⟩=some (.bool b1)/\w'.cell? ⟨w.heap.size,1,none⟩=some (.slice A1 xs1.length c1)/\w'.cell? ⟨w.heap.size,2,none⟩=some (.slice A2 xs2.length c2)/\w'.cell? ⟨w.heap.size+1,0,none⟩=some (.bool b2)/\w'.cell? ⟨w.heap.size+1,1,none⟩=some (.slice A3 xs3.length c3)/\w'.cell? ⟨w.heap.size+1,2,none⟩=some (.slice A4 xs4.length c4)))
  (first|(go_keep;done)|(have hq:=HK.out _ hs12;simp only[zi (show w.heap.size≠w.heap.size+1+1 by omega),zi (show w.heap.size+1≠w.heap.size+1+1 by omega)];exact hq)|(exact HK.out _ hs12)|(have hq:=HK.out _ hs11;simp only[zi (show w.heap.size≠w.heap.size+1+1 by omega),zi (show w.heap.size+1≠w.heap.size+1+1 by omega)];exact hq)|(exact HK.out _ hs11)|(exact HK.out _ hs10.drew))
  (first
   | (go_at_call 142;refine(zda _ _ _ (x2*(y1+1)) (x1*(y2+1)) (L+(L+2)) (L+(L+2)) (HQ2.out.2.below (bnx hd9 hd10)) (HQ2.out.1.below (bnx hd9 hd10)) (by omega) HC.out).mono ?_;rintro e w11 ⟨u11,rfl,q11,hd11⟩;have hs11:=zh hs10 hd11 (by simp);have hb11:=bnx hb10 hd11)
   | (go_at_call 127;refine(zb7 _ _ _ _ (x2*(y1+1)-x1*(y2+1)) ((y1+1)*(y2+1)) (2*L+4) (q11.more (by omega)) ((HP.out.below (bnx (bnx hd9 hd10) hd11)).more (by omega)) (by omega) (Int.mul_pos (by omega) (by omega))).mono ?_;rintro e w12 ⟨u12,rfl,⟨rn,rl,rfl,q12,p12⟩,hd12⟩;have hs12:=zh hs11 hd12 (by simp);have hb12:=bnx hb11 hd12;obtain⟨_,_,⟨m0,m1,m2⟩,⟨f0,f1,f2⟩,hz⟩:=zaE hs12;obtain⟨Ae,ce,xe,rfl,_⟩:=q12.open_;obtain⟨Af,cf,xf,rfl,_⟩:=p12.open_))
 go_wp2
 refine bodyPost_ret (v:=.agg #[.bool (decide ((Rat.divInt (sgd b2 (x2*(y1+1)-x1*(y2+1))) ((y1+1)*(y2+1))).num<0)),.slice Ae xe.length ce,.slice Af xf.length cf]) ?_ rfl ?_
 ·simp[results,Tryz.results97,go_sem,m0,m1,m2,hz]
 refine⟨_,rfl,⟨.slice Ae xe.length ce,.slice Af xf.length cf,rfl,?_,?_⟩,zm hb12 (by omega) _ _ _⟩
 ·exact q12.set3 m0 m1 m2
 ·exact p12.set3 m0 m1 m2
end Go.Proofs.YtpoahodnakhmiaaGreat
