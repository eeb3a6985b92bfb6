import Derived.Test.YtpoahodnakhmiaaGreatNew
set_option maxRecDepth 100000
namespace Go.Proofs.YtpoahodnakhmiaaGreat
set_option linter.unusedVariables false
set_option linter.unusedSimpArgs false
open Go.RowKit
theorem RowsV.at_ {w:World} {A:Option Addr} {n c:Nat} {rows:List (List Rat)} {L:Nat} (h:RowsV w (.slice A n c) rows L):n=rows.length/\rows.length<=c/\c<=maxLen /\
  (0<rows.length->∃b o,A=some ⟨b,o,none⟩/\∀i,i<rows.length->∃u,w.cell? ⟨b,o+i,none⟩=some u/\RowV w u (rows.getD i []) L):=by
 obtain⟨A',c',e,h1,h2,h3⟩:=h
 injection e with e1 e2 e3
 subst e1 e2 e3
 exact⟨rfl,h1,h2,h3⟩
def shapeB (rows:List (List Rat)) (i:Nat):Bool:=decide ((rows.getD i []).length≠(rows.getD 0 []).length)
def longB (rows:List (List Rat)) (i:Nat):Bool:=anyB (fun j=>longQ ((rows.getD i []).getD j 0)) (rows.getD i []).length
theorem zio (w:World) (B c i:Nat) (va u:Value) (rows:List (List Rat)) (L:Nat) (hB:w.cell? ⟨B,0,none⟩=some va) (ha:RowsV w va rows L) (hi:i<rows.length) (hu:RowV w u (rows.getD i []) L):
  Calls Tryz.prog 187 #[u,.pointer (some ⟨B,0,none⟩)] w (Ret (fun v w'=>v=.bool (shapeB rows i)/\Below w.heap.size w w')):=by
 obtain⟨A1,c1,rfl,hc1,hm1,hx⟩:=ha
 obtain⟨b,o,rfl,hat⟩:=hx (by omega)
 obtain⟨u0,hu0,A0,c0,rfl,_⟩:=hat 0 (by omega)
 obtain⟨A2,c2,rfl,_⟩:=hu
 have h0:0<rows.length:=by omega
 have hs:shapeB rows i=(((rows.getD i []).length:Int) != ((rows.getD 0 []).length:Int)):=by
  unfold shapeB
  rw[Bool.eq_iff_iff,decide_eq_true_eq,bne_iff_ne]
  omega
 rw[hs];clear hs
 rw[Nat.add_zero] at hu0
 generalize (rows.getD i []).length=m at *
 generalize (rows.getD 0 []).length=n at *
 clear hat hx
 go_enter Tryz.func187,Tryz.ntmps187
 go_wp2
 go_ret
 exact⟨_,rfl,rfl,blr _ _⟩
theorem zip (w:World) (i:Nat) (u:Value) (rows:List (List Rat)) (L:Nat) (hu:RowV w u (rows.getD i []) L) (hL:L<=1073741800):
  Calls Tryz.prog 189 #[u] w (Ret (fun v w'=>v=.bool (longB rows i)/\Below w.heap.size w w')):=by
 have HU:=hide hu
 obtain⟨A2,c2,rfl,_⟩:=hu
 go_enter Tryz.func189,Tryz.ntmps189
 go_wp2_with fail
 refine(zbw _ _ (rows.getD i []) L HU.out hL).mono ?_
 rintro e w1 ⟨_,rfl,rfl,hd1⟩
 go_wp2
 go_ret
 exact⟨_,rfl,rfl,hd1⟩
theorem zh2 (w:World) (va:Value) (rows:List (List Rat)) (L:Nat) (B:Nat) (hB:w.cell? ⟨B,0,none⟩=some va) (ha:RowsV w va rows L) (hL:L<=1073741800):
  Calls Tryz.prog 204 #[va,.func (.func 187) #[] #[.pointer (some ⟨B,0,none⟩)]] w (Ret (zdg w (anyB (shapeB rows) rows.length))):=by
 have HA:=hide ha
 obtain⟨A1,c1,rfl,hc1,hm1,_⟩:=ha
 have HB:=hide hB;clear hB
 unfold maxLen at hm1
 go_enter Tryz.func204,Tryz.ntmps204
 go_wp2
 go_loopw [8] (fun s8 wr=>∃k:Nat,k<=rows.length/\s8=.int .i64 k/\(∀i,i<k->shapeB rows i=false)/\Below w.heap.size w wr) (fun s8 _=>rows.length-(intOf s8).toNat)
 case atStart=>exact⟨0,Nat.zero_le _,rfl,fun i hi=>by omega,blr _ _⟩
 case round=>
  obtain⟨k,hk,rfl,hno,hbel⟩:=hrel
  by_cases hkl:k<rows.length
  ·obtain⟨_,_,_,hcell⟩:=(HA.out.below hbel).at_
   obtain⟨g1,o1,rfl,hcl1⟩:=hcell (by omega)
   obtain⟨u,hu,hr⟩:=hcl1 k hkl
   have HH:=hide (ai hno (ai hbel (ai hr ((hbel.cell (zf HB.out)).trans HB.out))));clear hno hbel hr hcell hcl1
   rcases hp:shapeB rows k with _|_
   ·have HP:=hide hp;clear hp
    go_wp2_with (go_at_call 187;refine(zio _ B 0 k _ _ rows L HH.out.2.2.2 (HA.out.below HH.out.2.1) hkl HH.out.2.2.1).mono ?_;rintro e w1 ⟨_,rfl,rfl,hd1⟩;rw[HP.out])
    go_roundw
    case rel=>
     refine⟨k+1,by omega,by go_num,fun i hi=>?_,bnx HH.out.2.1 hd1⟩
     by_cases h:i<k
     ·exact HH.out.1 i h
     ·obtain rfl:i=k:=by omega
      exact HP.out
    case measure=>simp[intOf];omega
   ·have HP:=hide hp;clear hp
    go_wp2_with (go_at_call 187;refine(zio _ B 0 k _ _ rows L HH.out.2.2.2 (HA.out.below HH.out.2.1) hkl HH.out.2.2.1).mono ?_;rintro e w1 ⟨_,rfl,rfl,hd1⟩;rw[HP.out])
    go_ret
    exact⟨_,rfl,k,rfl,by rw[zdf hkl HP.out];simp,bnx HH.out.2.1 hd1⟩
  ·obtain rfl:k=rows.length:=by omega
   have HH:=hide (ai hno hbel);clear hno hbel
   go_wp2
   go_ret
   exact⟨_,rfl,-1,rfl,by rw[zax HH.out.1];rfl,HH.out.2⟩
theorem zaP (w:World) (va:Value) (rows:List (List Rat)) (L:Nat) (B:Nat) (hB:w.cell? ⟨B,0,none⟩=some va) (ha:RowsV w va rows L) (hL:L<=1073741800):
  Calls Tryz.prog 186 #[va,.func (.func 187) #[] #[.pointer (some ⟨B,0,none⟩)]] w (Ret (fun v w'=>v=.bool (anyB (shapeB rows) rows.length)/\Below w.heap.size w w')):=by
 have HA:=hide ha
 obtain⟨A1,c1,rfl,hc1,hm1,_⟩:=ha
 have HB:=hide hB;clear hB
 go_enter Tryz.func186,Tryz.ntmps186
 go_wp2_with fail
 refine(zh2 _ _ rows L B HB.out HA.out hL).mono ?_
 rintro e w1 ⟨_,rfl,r,rfl,hr,hd1⟩
 have HR:=hide hr;clear hr
 go_wp2
 go_ret
 exact⟨_,rfl,by rw[<-HR.out];rfl,hd1⟩
theorem zh3 (w:World) (va:Value) (rows:List (List Rat)) (L:Nat) (ha:RowsV w va rows L) (hL:L<=1073741800):
  Calls Tryz.prog 204 #[va,.func (.func 189) #[] #[]] w (Ret (zdg w (anyB (longB rows) rows.length))):=by
 have HA:=hide ha
 obtain⟨A1,c1,rfl,hc1,hm1,_⟩:=ha
 skip
 unfold maxLen at hm1
 go_enter Tryz.func204,Tryz.ntmps204
 go_wp2
 go_loopw [8] (fun s8 wr=>∃k:Nat,k<=rows.length/\s8=.int .i64 k/\(∀i,i<k->longB rows i=false)/\Below w.heap.size w wr) (fun s8 _=>rows.length-(intOf s8).toNat)
 case atStart=>exact⟨0,Nat.zero_le _,rfl,fun i hi=>by omega,blr _ _⟩
 case round=>
  obtain⟨k,hk,rfl,hno,hbel⟩:=hrel
  by_cases hkl:k<rows.length
  ·obtain⟨_,_,_,hcell⟩:=(HA.out.below hbel).at_
   obtain⟨g1,o1,rfl,hcl1⟩:=hcell (by omega)
   obtain⟨u,hu,hr⟩:=hcl1 k hkl
   have HH:=hide (ai hno (ai hbel (ai hr trivial)));clear hno hbel hr hcell hcl1
   rcases hp:longB rows k with _|_
   ·have HP:=hide hp;clear hp
    go_wp2_with (go_at_call 189;refine(zip _ k _ rows L HH.out.2.2.1 hL).mono ?_;rintro e w1 ⟨_,rfl,rfl,hd1⟩;rw[HP.out])
    go_roundw
    case rel=>
     refine⟨k+1,by omega,by go_num,fun i hi=>?_,bnx HH.out.2.1 hd1⟩
     by_cases h:i<k
     ·exact HH.out.1 i h
     ·obtain rfl:i=k:=by omega
      exact HP.out
    case measure=>simp[intOf];omega
   ·have HP:=hide hp;clear hp
    go_wp2_with (go_at_call 189;refine(zip _ k _ rows L HH.out.2.2.1 hL).mono ?_;rintro e w1 ⟨_,rfl,rfl,hd1⟩;rw[HP.out])
    go_ret
    exact⟨_,rfl,k,rfl,by rw[zdf hkl HP.out];simp,bnx HH.out.2.1 hd1⟩
  ·obtain rfl:k=rows.length:=by omega
   have HH:=hide (ai hno hbel);clear hno hbel
   go_wp2
   go_ret
   exact⟨_,rfl,-1,rfl,by rw[zax HH.out.1];rfl,HH.out.2⟩
theorem zb1 (w:World) (va:Value) (rows:List (List Rat)) (L:Nat) (ha:RowsV w va rows L) (hL:L<=1073741800):
  Calls Tryz.prog 186 #[va,.func (.func 189) #[] #[]] w (Ret (fun v w'=>v=.bool (anyB (longB rows) rows.length)/\Below w.heap.size w w')):=by
 have HA:=hide ha
 obtain⟨A1,c1,rfl,hc1,hm1,_⟩:=ha
 skip
 go_enter Tryz.func186,Tryz.ntmps186
 go_wp2_with fail
 refine(zh3 _ _ rows L HA.out hL).mono ?_
 rintro e w1 ⟨_,rfl,r,rfl,hr,hd1⟩
 have HR:=hide hr;clear hr
 go_wp2
 go_ret
 exact⟨_,rfl,by rw[<-HR.out];rfl,hd1⟩
theorem zed (w:World) (va:Value) (rows:List (List Rat)) (L:Nat) (ha:RowsV w va rows L):
  Calls Tryz.prog 192 #[va] w (Ret (fun v w'=>v=.int .i64 ((rows.getD 0 []).length:Nat)/\w=w')):=by
 obtain⟨A1,c1,rfl,hc1,hm1,hx⟩:=ha
 rcases Nat.eq_zero_or_pos rows.length with h0|h0
 ·have hd:((rows.length:Int) == 0)=true:=by rw[h0];rfl
  have e:rows=[]:=List.eq_nil_of_length_eq_zero h0
  have hl:(rows.getD 0 []).length=0:=by rw[e];rfl
  rw[hl];clear hl e hx
  generalize rows.length=n at *
  subst h0
  go_enter Tryz.func192,Tryz.ntmps192
  go_wp2
  go_ret
  exact⟨_,rfl,rfl,rfl⟩
 ·obtain⟨b,o,rfl,hat⟩:=hx h0
  obtain⟨u0,hu0,A0,c0,rfl,_⟩:=hat 0 h0
  rw[Nat.add_zero] at hu0
  have hd:((rows.length:Int) == 0)=false:=by rw[beq_eq_false_iff_ne];omega
  generalize (rows.getD 0 []).length=n at *
  clear hat hx
  go_enter Tryz.func192,Tryz.ntmps192
  go_wp2
  go_ret
  exact⟨_,rfl,rfl,rfl⟩
def zeU (rows:List (List Rat)) (bs:List Rat):Int:=
 if 40<rows.length\/0<rows.length/\40<(rows.getD 0 []).length then 2
 else if bs.length≠rows.length\/anyB (shapeB rows) rows.length=true then 7
 else if anyB (fun i=>longQ (bs.getD i 0)) bs.length=true\/anyB (longB rows) rows.length=true then 11 else 0
theorem zi0 (w:World) (va vb:Value) (rows:List (List Rat)) (bs:List Rat) (L:Nat) (ha:RowsV w va rows L) (hb:RowV w vb bs L) (hL:L<=1073741800) (h40:40<rows.length):
  Calls Tryz.prog 166 #[va,vb] w (Ret (fun v w'=>v=.int .i64 2/\Below w.heap.size w w')):=by
 have HA:=hide (ai ha hb)
 obtain⟨A1,c1,rfl,hc1,hm1,hx⟩:=ha
 obtain⟨A2,c2,rfl,hc2,hm2,hy⟩:=hb
 clear hy
 clear hx
 have hd:decide ((40:Int)<(rows.length:Int))=true:=by rw[decide_eq_true_eq];omega
 have hb0:Below w.heap.size w (w.alloc (.cells #[.slice A1 rows.length c1] 31)):=(blr _ _).alloc (nr _) _
 go_enter Tryz.func166,Tryz.ntmps166
 go_wp2
 go_ret
 exact⟨_,rfl,rfl,hb0⟩
theorem zi1 (w:World) (va vb:Value) (rows:List (List Rat)) (bs:List Rat) (L:Nat) (ha:RowsV w va rows L) (hb:RowV w vb bs L) (hL:L<=1073741800) (h40:¬40<rows.length) (h0:0<rows.length) (hwd:40<(rows.getD 0 []).length):
  Calls Tryz.prog 166 #[va,vb] w (Ret (fun v w'=>v=.int .i64 2/\Below w.heap.size w w')):=by
 have HA:=hide (ai ha hb)
 obtain⟨A1,c1,rfl,hc1,hm1,hx⟩:=ha
 obtain⟨A2,c2,rfl,hc2,hm2,hy⟩:=hb
 clear hy
 obtain⟨b,o,rfl,hat⟩:=hx h0
 obtain⟨u0,hu0,A0,c0,rfl,hw0⟩:=hat 0 h0
 rw[Nat.add_zero] at hu0
 have hlw:b<w.heap.size:=zf hu0
 have hd:decide ((40:Int)<(rows.length:Int))=false:=by rw[decide_eq_false_iff_not];omega
 have hd0:decide ((0:Int)<(rows.length:Int))=true:=by rw[decide_eq_true_eq];omega
 have hd1:decide ((40:Int)<((rows.getD 0 []).length:Int))=true:=by rw[decide_eq_true_eq];omega
 generalize (rows.getD 0 []).length=wd at *
 clear hat hx hw0
 have hb0:Below w.heap.size w (w.alloc (.cells #[.slice (some ⟨b,o,none⟩) rows.length c1] 31)):=(blr _ _).alloc (nr _) _
 go_enter Tryz.func166,Tryz.ntmps166
 go_wp2
 go_ret
 exact⟨_,rfl,rfl,hb0⟩
theorem zi2 (w:World) (va vb:Value) (rows:List (List Rat)) (bs:List Rat) (L:Nat) (ha:RowsV w va rows L) (hb:RowV w vb bs L) (hL:L<=1073741800) (h40:¬40<rows.length) (h0:0<rows.length) (hwd:¬40<(rows.getD 0 []).length) (hbl:bs.length≠rows.length):
  Calls Tryz.prog 166 #[va,vb] w (Ret (fun v w'=>v=.int .i64 7/\Below w.heap.size w w')):=by
 have HA:=hide (ai ha hb)
 obtain⟨A1,c1,rfl,hc1,hm1,hx⟩:=ha
 obtain⟨A2,c2,rfl,hc2,hm2,hy⟩:=hb
 clear hy
 obtain⟨b,o,rfl,hat⟩:=hx h0
 obtain⟨u0,hu0,A0,c0,rfl,hw0⟩:=hat 0 h0
 rw[Nat.add_zero] at hu0
 have hlw:b<w.heap.size:=zf hu0
 have hd:decide ((40:Int)<(rows.length:Int))=false:=by rw[decide_eq_false_iff_not];omega
 have hd0:decide ((0:Int)<(rows.length:Int))=true:=by rw[decide_eq_true_eq];omega
 have hd1:decide ((40:Int)<((rows.getD 0 []).length:Int))=false:=by rw[decide_eq_false_iff_not];omega
 generalize (rows.getD 0 []).length=wd at *
 clear hat hx hw0
 have hl:((bs.length:Int) != (rows.length:Int))=true:=by rw[bne_iff_ne];omega
 have hb0:Below w.heap.size w (w.alloc (.cells #[.slice (some ⟨b,o,none⟩) rows.length c1] 31)):=(blr _ _).alloc (nr _) _
 go_enter Tryz.func166,Tryz.ntmps166
 go_wp2
 go_ret
 exact⟨_,rfl,rfl,hb0⟩
theorem zgH (w:World) (va vb:Value) (rows:List (List Rat)) (bs:List Rat) (L:Nat) (ha:RowsV w va rows L) (hb:RowV w vb bs L) (hL:L<=1073741800) (h40:¬40<rows.length) (h0:0<rows.length) (hwd:¬40<(rows.getD 0 []).length) (hbl:bs.length=rows.length) (hs:anyB (shapeB rows) rows.length=true):
  Calls Tryz.prog 166 #[va,vb] w (Ret (fun v w'=>v=.int .i64 7/\Below w.heap.size w w')):=by
 have HA:=hide (ai ha hb)
 obtain⟨A1,c1,rfl,hc1,hm1,hx⟩:=ha
 obtain⟨A2,c2,rfl,hc2,hm2,hy⟩:=hb
 clear hy
 obtain⟨b,o,rfl,hat⟩:=hx h0
 obtain⟨u0,hu0,A0,c0,rfl,hw0⟩:=hat 0 h0
 rw[Nat.add_zero] at hu0
 have hlw:b<w.heap.size:=zf hu0
 have hd:decide ((40:Int)<(rows.length:Int))=false:=by rw[decide_eq_false_iff_not];omega
 have hd0:decide ((0:Int)<(rows.length:Int))=true:=by rw[decide_eq_true_eq];omega
 have hd1:decide ((40:Int)<((rows.getD 0 []).length:Int))=false:=by rw[decide_eq_false_iff_not];omega
 generalize (rows.getD 0 []).length=wd at *
 clear hat hx hw0
 have hl:((bs.length:Int) != (rows.length:Int))=false:=by rw[hbl];simp
 have HL:=hide hbl;clear hbl
 have hsh:=hide hs;clear hs
 have hb0:Below w.heap.size w (w.alloc (.cells #[.slice (some ⟨b,o,none⟩) rows.length c1] 31)):=(blr _ _).alloc (nr _) _
 go_enter Tryz.func166,Tryz.ntmps166
 go_wp2_with fail
 refine(zaP _ _ rows L w.heap.size (zB _ _ _ rfl) (HA.out.1.below hb0) hL).mono ?_
 rintro e w1 ⟨_,rfl,rfl,hd2⟩
 have hb1:=bnx hb0 hd2
 have hbx:=(hd2.cell (by simp)).trans (zB w (.slice (some ⟨b,o,none⟩) rows.length c1) 31 rfl)
 rw[hsh.out]
 go_wp2
 go_ret
 exact⟨_,rfl,rfl,hb1⟩
theorem zh4 (w:World) (va vb:Value) (rows:List (List Rat)) (bs:List Rat) (L:Nat) (ha:RowsV w va rows L) (hb:RowV w vb bs L) (hL:L<=1073741800) (h40:¬40<rows.length) (h0:0<rows.length) (hwd:¬40<(rows.getD 0 []).length) (hbl:bs.length=rows.length) (hs:anyB (shapeB rows) rows.length=false) (hl2:anyB (fun i=>longQ (bs.getD i 0)) bs.length=true):
  Calls Tryz.prog 166 #[va,vb] w (Ret (fun v w'=>v=.int .i64 11/\Below w.heap.size w w')):=by
 have HA:=hide (ai ha hb)
 obtain⟨A1,c1,rfl,hc1,hm1,hx⟩:=ha
 obtain⟨A2,c2,rfl,hc2,hm2,hy⟩:=hb
 clear hy
 obtain⟨b,o,rfl,hat⟩:=hx h0
 obtain⟨u0,hu0,A0,c0,rfl,hw0⟩:=hat 0 h0
 rw[Nat.add_zero] at hu0
 have hlw:b<w.heap.size:=zf hu0
 have hd:decide ((40:Int)<(rows.length:Int))=false:=by rw[decide_eq_false_iff_not];omega
 have hd0:decide ((0:Int)<(rows.length:Int))=true:=by rw[decide_eq_true_eq];omega
 have hd1:decide ((40:Int)<((rows.getD 0 []).length:Int))=false:=by rw[decide_eq_false_iff_not];omega
 generalize (rows.getD 0 []).length=wd at *
 clear hat hx hw0
 have hl:((bs.length:Int) != (rows.length:Int))=false:=by rw[hbl];simp
 have HL:=hide hbl;clear hbl
 have hsh:=hide hs;clear hs
 have hlg:=hide hl2;clear hl2
 have hb0:Below w.heap.size w (w.alloc (.cells #[.slice (some ⟨b,o,none⟩) rows.length c1] 31)):=(blr _ _).alloc (nr _) _
 go_enter Tryz.func166,Tryz.ntmps166
 go_wp2_with fail
 refine(zaP _ _ rows L w.heap.size (zB _ _ _ rfl) (HA.out.1.below hb0) hL).mono ?_
 rintro e w1 ⟨_,rfl,rfl,hd2⟩
 have hb1:=bnx hb0 hd2
 have hbx:=(hd2.cell (by simp)).trans (zB w (.slice (some ⟨b,o,none⟩) rows.length c1) 31 rfl)
 rw[hsh.out]
 go_wp2_with fail
 refine(zbw _ _ bs L (HA.out.2.below hb1) hL).mono ?_
 rintro e w2 ⟨_,rfl,rfl,hd3⟩
 have hb2:=bnx hb1 hd3
 have hby:=(hd3.cell (zf hbx)).trans hbx
 clear hbx
 rw[hlg.out]
 go_wp2
 go_ret
 exact⟨_,rfl,rfl,hb2⟩
theorem zgI (w:World) (va vb:Value) (rows:List (List Rat)) (bs:List Rat) (L:Nat) (ha:RowsV w va rows L) (hb:RowV w vb bs L) (hL:L<=1073741800) (h40:¬40<rows.length) (h0:0<rows.length) (hwd:¬40<(rows.getD 0 []).length) (hbl:bs.length=rows.length) (hs:anyB (shapeB rows) rows.length=false) (hl2:anyB (fun i=>longQ (bs.getD i 0)) bs.length=false) (hl3:anyB (longB rows) rows.length=true):
  Calls Tryz.prog 166 #[va,vb] w (Ret (fun v w'=>v=.int .i64 11/\Below w.heap.size w w')):=by
 have HA:=hide (ai ha hb)
 obtain⟨A1,c1,rfl,hc1,hm1,hx⟩:=ha
 obtain⟨A2,c2,rfl,hc2,hm2,hy⟩:=hb
 clear hy
 obtain⟨b,o,rfl,hat⟩:=hx h0
 obtain⟨u0,hu0,A0,c0,rfl,hw0⟩:=hat 0 h0
 rw[Nat.add_zero] at hu0
 have hlw:b<w.heap.size:=zf hu0
 have hd:decide ((40:Int)<(rows.length:Int))=false:=by rw[decide_eq_false_iff_not];omega
 have hd0:decide ((0:Int)<(rows.length:Int))=true:=by rw[decide_eq_true_eq];omega
 have hd1:decide ((40:Int)<((rows.getD 0 []).length:Int))=false:=by rw[decide_eq_false_iff_not];omega
 generalize (rows.getD 0 []).length=wd at *
 clear hat hx hw0
 have hl:((bs.length:Int) != (rows.length:Int))=false:=by rw[hbl];simp
 have HL:=hide hbl;clear hbl
 have hsh:=hide hs;clear hs
 have hlg:=hide hl2;clear hl2
 have hlr:=hide hl3;clear hl3
 have hb0:Below w.heap.size w (w.alloc (.cells #[.slice (some ⟨b,o,none⟩) rows.length c1] 31)):=(blr _ _).alloc (nr _) _
 go_enter Tryz.func166,Tryz.ntmps166
 go_wp2_with fail
 refine(zaP _ _ rows L w.heap.size (zB _ _ _ rfl) (HA.out.1.below hb0) hL).mono ?_
 rintro e w1 ⟨_,rfl,rfl,hd2⟩
 have hb1:=bnx hb0 hd2
 have hbx:=(hd2.cell (by simp)).trans (zB w (.slice (some ⟨b,o,none⟩) rows.length c1) 31 rfl)
 rw[hsh.out]
 go_wp2_with fail
 refine(zbw _ _ bs L (HA.out.2.below hb1) hL).mono ?_
 rintro e w2 ⟨_,rfl,rfl,hd3⟩
 have hb2:=bnx hb1 hd3
 have hby:=(hd3.cell (zf hbx)).trans hbx
 clear hbx
 rw[hlg.out]
 go_wp2_with fail
 refine(zb1 _ _ rows L (HA.out.1.below hb2) hL).mono ?_
 rintro e w3 ⟨_,rfl,rfl,hd4⟩
 have hb3:=bnx hb2 hd4
 rw[hlr.out]
 go_wp2
 go_ret
 exact⟨_,rfl,rfl,hb3⟩
theorem zjR (w:World) (va vb:Value) (rows:List (List Rat)) (bs:List Rat) (L:Nat) (ha:RowsV w va rows L) (hb:RowV w vb bs L) (hL:L<=1073741800) (h40:¬40<rows.length) (h0:0<rows.length) (hwd:¬40<(rows.getD 0 []).length) (hbl:bs.length=rows.length) (hs:anyB (shapeB rows) rows.length=false) (hl2:anyB (fun i=>longQ (bs.getD i 0)) bs.length=false) (hl3:anyB (longB rows) rows.length=false):
  Calls Tryz.prog 166 #[va,vb] w (Ret (fun v w'=>v=.int .i64 0/\Below w.heap.size w w')):=by
 have HA:=hide (ai ha hb)
 obtain⟨A1,c1,rfl,hc1,hm1,hx⟩:=ha
 obtain⟨A2,c2,rfl,hc2,hm2,hy⟩:=hb
 clear hy
 obtain⟨b,o,rfl,hat⟩:=hx h0
 obtain⟨u0,hu0,A0,c0,rfl,hw0⟩:=hat 0 h0
 rw[Nat.add_zero] at hu0
 have hlw:b<w.heap.size:=zf hu0
 have hd:decide ((40:Int)<(rows.length:Int))=false:=by rw[decide_eq_false_iff_not];omega
 have hd0:decide ((0:Int)<(rows.length:Int))=true:=by rw[decide_eq_true_eq];omega
 have hd1:decide ((40:Int)<((rows.getD 0 []).length:Int))=false:=by rw[decide_eq_false_iff_not];omega
 generalize (rows.getD 0 []).length=wd at *
 clear hat hx hw0
 have hl:((bs.length:Int) != (rows.length:Int))=false:=by rw[hbl];simp
 have HL:=hide hbl;clear hbl
 have hsh:=hide hs;clear hs
 have hlg:=hide hl2;clear hl2
 have hlr:=hide hl3;clear hl3
 have hb0:Below w.heap.size w (w.alloc (.cells #[.slice (some ⟨b,o,none⟩) rows.length c1] 31)):=(blr _ _).alloc (nr _) _
 go_enter Tryz.func166,Tryz.ntmps166
 go_wp2_with fail
 refine(zaP _ _ rows L w.heap.size (zB _ _ _ rfl) (HA.out.1.below hb0) hL).mono ?_
 rintro e w1 ⟨_,rfl,rfl,hd2⟩
 have hb1:=bnx hb0 hd2
 have hbx:=(hd2.cell (by simp)).trans (zB w (.slice (some ⟨b,o,none⟩) rows.length c1) 31 rfl)
 rw[hsh.out]
 go_wp2_with fail
 refine(zbw _ _ bs L (HA.out.2.below hb1) hL).mono ?_
 rintro e w2 ⟨_,rfl,rfl,hd3⟩
 have hb2:=bnx hb1 hd3
 have hby:=(hd3.cell (zf hbx)).trans hbx
 clear hbx
 rw[hlg.out]
 go_wp2_with fail
 refine(zb1 _ _ rows L (HA.out.1.below hb2) hL).mono ?_
 rintro e w3 ⟨_,rfl,rfl,hd4⟩
 have hb3:=bnx hb2 hd4
 rw[hlr.out]
 go_wp2
 go_ret
 exact⟨_,rfl,rfl,hb3⟩
theorem zi3 (w:World) (va vb:Value) (rows:List (List Rat)) (bs:List Rat) (L:Nat) (ha:RowsV w va rows L) (hb:RowV w vb bs L) (hL:L<=1073741800) (h0:rows.length=0) (hbl:bs.length≠rows.length):
  Calls Tryz.prog 166 #[va,vb] w (Ret (fun v w'=>v=.int .i64 7/\Below w.heap.size w w')):=by
 have HA:=hide (ai ha hb)
 obtain⟨A1,c1,rfl,hc1,hm1,hx⟩:=ha
 obtain⟨A2,c2,rfl,hc2,hm2,hy⟩:=hb
 clear hy
 obtain rfl:rows=[]:=List.eq_nil_of_length_eq_zero h0
 simp only[List.length_nil] at *
 clear hx
 have hl:((bs.length:Int) != (0:Int))=true:=by rw[bne_iff_ne];omega
 have H0:=hide h0;clear h0
 have hb0:Below w.heap.size w (w.alloc (.cells #[.slice A1 0 c1] 31)):=(blr _ _).alloc (nr _) _
 go_enter Tryz.func166,Tryz.ntmps166
 go_wp2
 go_ret
 exact⟨_,rfl,rfl,hb0⟩
theorem zh5 (w:World) (va vb:Value) (rows:List (List Rat)) (bs:List Rat) (L:Nat) (ha:RowsV w va rows L) (hb:RowV w vb bs L) (hL:L<=1073741800) (h0:rows.length=0) (hbl:bs.length=rows.length) (hs:anyB (shapeB rows) rows.length=false) (hl2:anyB (fun i=>longQ (bs.getD i 0)) bs.length=true):
  Calls Tryz.prog 166 #[va,vb] w (Ret (fun v w'=>v=.int .i64 11/\Below w.heap.size w w')):=by
 have HA:=hide (ai ha hb)
 obtain⟨A1,c1,rfl,hc1,hm1,hx⟩:=ha
 obtain⟨A2,c2,rfl,hc2,hm2,hy⟩:=hb
 clear hy
 obtain rfl:rows=[]:=List.eq_nil_of_length_eq_zero h0
 simp only[List.length_nil] at *
 clear hx
 have hl:((bs.length:Int) != (0:Int))=false:=by rw[hbl];simp
 have HL:=hide hbl;clear hbl
 have H0:=hide h0;clear h0
 have hsh:=hide hs;clear hs
 have hlg:=hide hl2;clear hl2
 have hb0:Below w.heap.size w (w.alloc (.cells #[.slice A1 0 c1] 31)):=(blr _ _).alloc (nr _) _
 go_enter Tryz.func166,Tryz.ntmps166
 go_wp2_with fail
 refine(zaP _ _ [] L w.heap.size (zB _ _ _ rfl) (HA.out.1.below hb0) hL).mono ?_
 rintro e w1 ⟨_,rfl,rfl,hd2⟩
 have hb1:=bnx hb0 hd2
 have hbx:=(hd2.cell (by simp)).trans (zB w (.slice A1 0 c1) 31 rfl)
 rw[show anyB (shapeB []) ([]:List (List Rat)).length=false from rfl]
 go_wp2_with fail
 refine(zbw _ _ bs L (HA.out.2.below hb1) hL).mono ?_
 rintro e w2 ⟨_,rfl,rfl,hd3⟩
 have hb2:=bnx hb1 hd3
 have hby:=(hd3.cell (zf hbx)).trans hbx
 clear hbx
 rw[hlg.out]
 go_wp2
 go_ret
 exact⟨_,rfl,rfl,hb2⟩
theorem zjS (w:World) (va vb:Value) (rows:List (List Rat)) (bs:List Rat) (L:Nat) (ha:RowsV w va rows L) (hb:RowV w vb bs L) (hL:L<=1073741800) (h0:rows.length=0) (hbl:bs.length=rows.length) (hs:anyB (shapeB rows) rows.length=false) (hl2:anyB (fun i=>longQ (bs.getD i 0)) bs.length=false) (hl3:anyB (longB rows) rows.length=false):
  Calls Tryz.prog 166 #[va,vb] w (Ret (fun v w'=>v=.int .i64 0/\Below w.heap.size w w')):=by
 have HA:=hide (ai ha hb)
 obtain⟨A1,c1,rfl,hc1,hm1,hx⟩:=ha
 obtain⟨A2,c2,rfl,hc2,hm2,hy⟩:=hb
 clear hy
 obtain rfl:rows=[]:=List.eq_nil_of_length_eq_zero h0
 simp only[List.length_nil] at *
 clear hx
 have hl:((bs.length:Int) != (0:Int))=false:=by rw[hbl];simp
 have HL:=hide hbl;clear hbl
 have H0:=hide h0;clear h0
 have hsh:=hide hs;clear hs
 have hlg:=hide hl2;clear hl2
 have hlr:=hide hl3;clear hl3
 have hb0:Below w.heap.size w (w.alloc (.cells #[.slice A1 0 c1] 31)):=(blr _ _).alloc (nr _) _
 go_enter Tryz.func166,Tryz.ntmps166
 go_wp2_with fail
 refine(zaP _ _ [] L w.heap.size (zB _ _ _ rfl) (HA.out.1.below hb0) hL).mono ?_
 rintro e w1 ⟨_,rfl,rfl,hd2⟩
 have hb1:=bnx hb0 hd2
 have hbx:=(hd2.cell (by simp)).trans (zB w (.slice A1 0 c1) 31 rfl)
 rw[show anyB (shapeB []) ([]:List (List Rat)).length=false from rfl]
 go_wp2_with fail
 refine(zbw _ _ bs L (HA.out.2.below hb1) hL).mono ?_
 rintro e w2 ⟨_,rfl,rfl,hd3⟩
 have hb2:=bnx hb1 hd3
 have hby:=(hd3.cell (zf hbx)).trans hbx
 clear hbx
 rw[hlg.out]
 go_wp2_with fail
 refine(zb1 _ _ [] L (HA.out.1.below hb2) hL).mono ?_
 rintro e w3 ⟨_,rfl,rfl,hd4⟩
 have hb3:=bnx hb2 hd4
 rw[show anyB (longB []) ([]:List (List Rat)).length=false from rfl]
 go_wp2
 go_ret
 exact⟨_,rfl,rfl,hb3⟩
theorem zmH (w:World) (va vb:Value) (rows:List (List Rat)) (bs:List Rat) (L:Nat) (ha:RowsV w va rows L) (hb:RowV w vb bs L) (hL:L<=1073741800):
  Calls Tryz.prog 166 #[va,vb] w (Ret (fun v w'=>v=.int .i64 (zeU rows bs)/\Below w.heap.size w w')):=by
 have no:∀{b:Bool},¬b=true->b=false:=fun h=>by simpa using h
 unfold zeU
 by_cases h40:40<rows.length
 ·rw[if_pos (.inl h40)];exact zi0 w va vb rows bs L ha hb hL h40
 rcases Nat.eq_zero_or_pos rows.length with h0|h0
 ·rw[if_neg (by omega)]
  have s0:anyB (shapeB rows) rows.length=false:=by rw[h0];rfl
  have l0:anyB (longB rows) rows.length=false:=by rw[h0];rfl
  by_cases hbl:bs.length=rows.length
  ·rw[if_neg (by rw[s0];simp[hbl])]
   by_cases hl2:anyB (fun i=>longQ (bs.getD i 0)) bs.length=true
   ·rw[if_pos (.inl hl2)];exact zh5 w va vb rows bs L ha hb hL h0 hbl s0 hl2
   ·rw[if_neg (by rw[l0];simpa using hl2)];exact zjS w va vb rows bs L ha hb hL h0 hbl s0 (no hl2) l0
  ·rw[if_pos (.inl hbl)];exact zi3 w va vb rows bs L ha hb hL h0 hbl
 ·by_cases hwd:40<(rows.getD 0 []).length
  ·rw[if_pos (.inr ⟨h0,hwd⟩)];exact zi1 w va vb rows bs L ha hb hL h40 h0 hwd
  ·rw[if_neg (by omega)]
   by_cases hbl:bs.length=rows.length
   ·by_cases hs:anyB (shapeB rows) rows.length=true
    ·rw[if_pos (.inr hs)];exact zgH w va vb rows bs L ha hb hL h40 h0 hwd hbl hs
    ·rw[if_neg (by simp[hbl,no hs])]
     by_cases hl2:anyB (fun i=>longQ (bs.getD i 0)) bs.length=true
     ·rw[if_pos (.inl hl2)];exact zh4 w va vb rows bs L ha hb hL h40 h0 hwd hbl (no hs) hl2
     ·by_cases hl3:anyB (longB rows) rows.length=true
      ·rw[if_pos (.inr hl3)];exact zgI w va vb rows bs L ha hb hL h40 h0 hwd hbl (no hs) (no hl2) hl3
      ·rw[if_neg (fun h=>h.elim hl2 hl3)];exact zjR w va vb rows bs L ha hb hL h40 h0 hwd hbl (no hs) (no hl2) (no hl3)
   ·rw[if_pos (.inl hbl)];exact zi2 w va vb rows bs L ha hb hL h40 h0 hwd hbl
end Go.Proofs.YtpoahodnakhmiaaGreat
