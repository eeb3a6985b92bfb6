import Derived.Test.YtpoahodnakhmiaaGreatRatio
set_option maxRecDepth 100000
namespace Go.Proofs.YtpoahodnakhmiaaGreat
set_option linter.unusedVariables false
set_option linter.unusedSimpArgs false
open Go.RowKit
theorem OwnI.cut {w:World} {base g c m:Nat} {e:TypeId} {k:IntKind} {xs:List Int} (h:OwnI w base e k (.slice (some ⟨g,0,none⟩) xs.length c) xs) (hm:m<=xs.length):
  OwnI w base e k (.slice (some ⟨g,0,none⟩) m c) (xs.take m):=by
 have hl:(xs.take m).length=m:=by rw[List.length_take];omega
 unfold OwnI at h ⊢
 rw[hl]
 refine⟨by simp;omega,?_⟩
 rcases h.2 with ⟨h2,_⟩|⟨g',cap,cur,hv,hg,hh,hc,hmx,hs,ht⟩
 ·cases h2
 ·injection hv with e1 e2 e3
  subst e3
  injection e1 with e1
  injection e1 with e1
  subst e1
  refine .inr ⟨g,c,cur,rfl,hg,hh,by omega,hmx,hs,?_⟩
  rw[Nat.mul_one] at ht ⊢
  rw[List.map_take,<-ht,List.take_take,Nat.min_eq_left hm]
def lenOf:Value->Nat
 | .slice _ n _=>n
 | _=>0
theorem zgg (ds es:List Int) (i:Nat) (P x d:Int) (h1:val 10 ds=P) (hl:ds.length=9*i) (he:es=chunk 9 true d) (h0:0<=d) (hd:d<1000000000):
  (ds++es).length=9*(i+1)/\val 10 (ds++es)=P+1000000000^i*d:=by
 have hc:=zd5 9 true d h0 hd
 have hcl:=zd6 9 d
 rw[<-he] at hc hcl
 refine⟨by rw[List.length_append,hl,hcl];omega,?_⟩
 rw[zag,hc,hl,h1,Int.pow_mul]
 rfl
theorem zet (ds:List Int) (h:ds.getD (ds.length-1) 0=0) (hl:0<ds.length):val 10 (ds.take (ds.length-1))=val 10 ds:=by
 refine zbq _ _ _ fun j hj=>?_
 rcases Nat.lt_or_ge j ds.length with h1|h1
 ·have:j=ds.length-1:=by omega
  rw[this];exact h
 ·simp[List.getD,List.getElem?_eq_none h1]
theorem zhD (ds:List Int) (j:Nat) (h:j<ds.length):(asc ds).getD j 0=48+ds.getD j 0:=by
 simp[asc,List.getD,List.getElem?_map,List.getElem?_eq_getElem h]
theorem zhE (ds:List Int) (j:Nat):asc (ds.take j)=(asc ds).take j:=by simp[asc]
theorem zfg (ds:List Int) (z:Int) (hd:Dig 10 ds) (hn:Norm ds) (hv:val 10 ds=(z.natAbs:Int)) (hz:z≠0):
  intText z=if z<0 then 45::(asc ds).reverse else (asc ds).reverse:=by
 unfold intText
 rw[<-zfi hd hn hv (by omega)]
 split <;> rfl
theorem zkZ (w:World) (v:Value) (z:Int) (L:Nat) (hz:ZV w v z L) (h:z=0):
  Calls Tryz.prog 136 #[v] w (Ret (strR w (intText z))):=by
 obtain⟨m,rfl,hm⟩:=hz
 obtain⟨A,c,xs,rfl,_⟩:=hm.open_
 have h0:=zcv hm
 obtain rfl:xs=[]:=List.eq_nil_of_length_eq_zero (h0.2 (by omega))
 subst h
 clear h0 hm
 go_enter Tryz.func136,Tryz.ntmps136
 go_wp2
 go_ret
 exact⟨_,rfl,rfl,(blr _ _).alloc (nr _) _⟩
theorem zjv (w:World) (v:Value) (z:Int) (L:Nat) (hz:ZV w v z L) (h:z≠0) (hL:L<=1073741824) (hs:decide (z<0)=false):
  Calls Tryz.prog 136 #[v] w (Ret (strR w (intText z))):=by
 obtain⟨m,rfl,hm⟩:=hz
 rw[hs]
 obtain⟨A,c,xs,rfl,hc,hmx,harr,hdx,hnx,hvx,hxl⟩:=hm.open_
 have hl0:0<xs.length:=by
  have h0:=zcv hm
  rcases Nat.eq_zero_or_pos xs.length with e|e
  ·exact absurd (h0.1 e) (by omega)
  ·exact e
 have hd:((xs.length:Int) == 0)=false:=by rw[beq_eq_false_iff_ne];omega
 obtain⟨W,hW⟩:∃W,W=w.alloc (.cells #[.bool false,.slice A xs.length c] 53):=⟨_,rfl⟩
 have hb0:Below w.heap.size w W:=by rw[hW];exact(blr _ _).alloc (nr _) _
 have hr:W.heap[w.heap.size]?=some (.cells #[.bool false,.slice A xs.length c] 53):=by rw[hW];exact zj _ _
 have hWs:W.heap.size=w.heap.size+1:=by rw[hW];simp
 have harrW:Arr W A .i64 xs:=harr.below hb0
 have HT:=hide (fun ds hd hn hv=>zfg ds z hd hn hv h)
 have hxz:0<(z.natAbs:Int):=by omega
 have hz:=hide hs;clear hs
 obtain⟨k0,k1,_,_⟩:=ze hr
 have HW:=hide (ai hW (ai hb0 (ai hr (ai hWs (ai harrW (ai hdx (ai hvx hxz)))))));clear hW hb0 hr hWs harrW hdx hvx hxz harr hnx hm h
 obtain⟨X,hX⟩:∃X,X=(z.natAbs:Int):=⟨_,rfl⟩
 rw[<-hX] at HW HT
 clear hX
 go_enter Tryz.func136,Tryz.ntmps136
 go_wp2
 rw[<-HW.out.1]
 go_loopw [3,4] (fun s3 s4 wr=>∃(i:Nat) (ds:List Int),i<=xs.length/\s4=.int .i64 i/\OwnI wr W.heap.size 5 .u8 s3 (asc ds)/\Dig 10 ds/\ds.length=9*i/\val 10 ds=val 1000000000 (xs.take i)/\Below W.heap.size W wr) (fun _ s4 _=>xs.length-(intOf s4).toNat)
 case atStart=>exact⟨0,[],Nat.zero_le _,rfl,OwnI.nil _ _ _ _,Dig.nil _,rfl,rfl,blr _ _⟩
 case round=>
  obtain⟨i,ds,hi,rfl,hown,hdd,hdl,hval,hbel⟩:=hrel
  obtain⟨k0,k1,_,_⟩:=ze (at_later HW.out.2.2.1 hbel)
  by_cases hlt:i<xs.length
  ·obtain⟨b,o,rfl,hbl,hcell⟩:=HW.out.2.2.2.2.1.at_ (by omega)
   have hxc:=(hbel.cell (p:=⟨b,o+i,none⟩) hbl).trans (hcell i hlt)
   have hxb:=HW.out.2.2.2.2.2.1.at_ hlt
   have hts:=zo 1000000000 xs i hlt
   obtain⟨x,hx⟩:∃x,x=xs.getD i 0:=⟨_,rfl⟩
   rw[<-hx] at hxc hxb hts
   obtain⟨hx0,hx1⟩:=hxb
   have HV:=hide (ai hdd (ai hdl (ai hval hts)));clear hdd hdl hval hts hx hcell hbl
   have hil:i<=1073741824:=by omega
   go_wp2
   go_loopw [3,5,6] (fun s3 s5 s6 wr2=>∃(k:Nat) (d:Int) (es:List Int),k<=9/\s6=.int .i64 k/\s5=.int .i64 d/\0<=d/\d<1000000000/\es.length=k/\OwnI wr2 W.heap.size 5 .u8 s3 (asc (ds++es))/\es++chunk (9-k) true d=chunk 9 true x/\Below W.heap.size W wr2) (fun _ _ s6 _=>9-(intOf s6).toNat)
   case atStart=>exact⟨0,x,[],by omega,rfl,rfl,hx0,hx1,rfl,by rw[List.append_nil];exact hown,rfl,hbel⟩
   case round=>
    obtain⟨k,d,es,hk,rfl,rfl,hd0,hd1,hel,hown2,hch,hbel2⟩:=hrel
    by_cases hk9:k<9
    ·have hm9:9-k=(9-(k+1))+1:=by omega
     rw[hm9,chunk,if_pos (Or.inl rfl)] at hch
     have hesl:(asc (ds++es)).length<=17592186044000:=by
      have:=HV.out.2.1
      rw[zau,List.length_append];omega
     have HC:=hide (ai hch (ai hel hesl));clear hch hel hesl
     go_wp2_with (at_builtin;refine app1 Tryz.u8T _ rfl _ _ rfl W.heap.size _ (asc (ds++es)) (48+d%10) rfl (hown2.keep ((blr _ _).alloc (nr _) _)) ⟨wr.heap.size,0,none⟩ _ rfl (by simp[World.cell?_alloc_new]) HC.out.2.2 (by have:=hbel2.size;simp;omega) ?_;intro g c1 w2 hown3 _ _ hb2)
     go_roundw
     case rel=>
      refine⟨k+1,d / 10,es++[d%10],by omega,by go_num,by go_num,by omega,by omega,by simp[HC.out.2.1],?_,?_,?_⟩
      ·have e:asc (ds++(es++[d%10]))=asc (ds++es)++[48+d%10]:=by simp[asc]
       rw[e]
       exact hown3
      ·rw[List.append_assoc,List.singleton_append];exact HC.out.1
      ·exact(hbel2.alloc hbel2.size _).trans hb2
     case measure=>simp[intOf];omega
    ·obtain rfl:k=9:=by omega
     rw[show 9-9=0 by omega,chunk,List.append_nil] at hch
     have HC:=hide hch;clear hch
     go_wp2
     go_roundw
     case rel=>
      obtain⟨t1,t2⟩:=zgg ds es i _ (val 10 ds) x HV.out.2.2.1 HV.out.2.1 HC.out hx0 hx1
      refine⟨i+1,ds++es,by omega,by go_num,hown2,HV.out.1.append (by rw[HC.out];exact zd4 _ _ _),t1,?_,hbel2⟩
      rw[t2,HV.out.2.2.2]
     case measure=>simp[intOf];omega
  ·obtain rfl:i=xs.length:=by omega
   rw[List.take_length,HW.out.2.2.2.2.2.2.1] at hval
   have hll:ds.length<=9*1073741824:=by omega
   have HV:=hide (ai hdd (ai hdl (ai hval hll)));clear hdd hdl hval hll hlt hi
   go_wp2
   clear k0 k1
   go_loopw [3] (fun s3 wr2=>∃(es:List Int),OwnI wr2 W.heap.size 5 .u8 s3 (asc es)/\Dig 10 es/\val 10 es=X/\es.length<=9*1073741824/\Below W.heap.size W wr2) (fun s3 _=>lenOf s3)
   case atStart=>exact⟨ds,hown,HV.out.1,HV.out.2.2.1,HV.out.2.2.2,hbel⟩
   case round=>
    obtain⟨es,hown2,hde,hve,hel,hbel2⟩:=hrel
    have hne:0<es.length:=by
     rcases Nat.eq_zero_or_pos es.length with e|e
     ·rw[List.eq_nil_of_length_eq_zero e] at hve
      have:=HW.out.2.2.2.2.2.2.2
      simp[val] at hve
      omega
     ·exact e
    have hal:(asc es).length=es.length:=zau es
    obtain⟨g,cg,rest,rfl,hgb,hgc,hgm,hcel⟩:=hown2.cel (by omega)
    have hcl:=hcel.cell (j:=es.length-1) (by omega)
    rw[zhD es _ (by omega)] at hcl
    have hdg:=hde.at_ (k:=es.length-1) (by omega)
    have hdn:=zet es
    have hnl:es.getD (es.length-1) 0≠0->Norm es:=fun h=>Norm.of_last fun _=>h
    have hint:=HT.out es hde
    rw[hal] at hown2 hgc
    rw[hal]
    obtain⟨y,hy⟩:∃y,y=es.getD (es.length-1) 0:=⟨_,rfl⟩
    rw[<-hy] at hcl hdg hdn hnl
    obtain⟨hy0,hy1⟩:=hdg
    clear hy
    unfold maxLen at hgm
    by_cases hy2:y=0
    ·subst hy2
     have HE:=hide (ai hown2 (ai hde (ai hve (ai (hdn rfl hne) hel))));clear hown2 hde hve hdn hel hnl hint hcel
     go_wp2
     go_roundw
     case rel=>
      obtain⟨hown2,hde,hve,hdn,hel⟩:=HE.out
      refine⟨es.take (es.length-1),?_,hde.take _,hdn.trans hve,by rw[List.length_take];omega,hbel2⟩
      rw[zhE]
      rw[<-hal] at hown2
      have:=hown2.cut (m:=es.length-1) (by omega)
      exact this
     case measure=>simp[lenOf];omega
    ·have hyd:((48+y:Int) == 48)=false:=by rw[beq_eq_false_iff_ne];omega
     obtain⟨kb0,kb1,_,_⟩:=ze (at_later HW.out.2.2.1 hbel2)
     have hin:=hint (hnl hy2) hve
     rw[if_neg (of_decide_eq_false hz.out)] at hin
     have HE:=hide hel
     obtain⟨bs,hbs⟩:∃bs,bs=asc es:=⟨_,rfl⟩
     rw[<-hbs] at hin hcel hal
     clear hbs
     have hbl2:bs.length<=9663676416:=by omega
     have hbl3:1<=bs.length:=by omega
     have hcelb:Cel wr g 5 .u8 bs rest:=hcel
     have hinb:=hin
     have hbelb:=hbel2
     have hgbb:=hgb
     rw[<-hal] at hgc hcl ⊢
     have hne:1<=bs.length:=hbl3
     clear hown2 hde hve hdn hel hnl hint hcel hin hal
     have hrl:bs.length<=9663676417:=by omega
     have hb1:1<=bs.length:=by omega
     have HB:=hide (ai hcelb (ai hinb (ai hbelb hgbb)));clear hcelb hinb hbelb hgbb
     go_wp2
     go_loopw [7,8] (fun s7 s8 wr3=>∃(k j:Nat) (zs:List Int),2*k<=bs.length/\k+j+1=bs.length/\s7=.int .i64 k/\s8=.int .i64 j/\zdo bs zs k/\Cel wr3 g 5 .u8 zs rest/\Below W.heap.size W wr3) (fun s7 _ _=>bs.length-(intOf s7).toNat)
     case atStart=>exact⟨0,bs.length-1,bs,by omega,by omega,rfl,by go_num,zdp bs,HB.out.1,HB.out.2.2.1⟩
     case round=>
      obtain⟨k,j,zs,hk,hj,rfl,rfl,hrev,hcz,hbz⟩:=hrel
      have hzl:=hrev.1
      by_cases hlt:k<j
      ·have ci:=hcz.cell (j:=k) (by omega)
       have cj:=hcz.cell (j:=j) (by omega)
       have fi:=hcz.frozen k
       have fj:=hcz.frozen j
       obtain⟨p,hp⟩:∃p,p=zs.getD k 0:=⟨_,rfl⟩
       obtain⟨q,hq⟩:∃q,q=zs.getD j 0:=⟨_,rfl⟩
       rw[<-hp] at ci
       rw[<-hq] at cj
       have hne:¬k=j:=by omega
       have hne2:¬j=k:=by omega
       have hkl:k<bs.length:=by omega
       have hjl:j<bs.length:=by omega
       have HH:=hide (ai hrev (ai hp (ai hq (ai hcz hbz))));clear hrev hp hq hcz hbz
       go_wp2
       go_roundw
       case rel=>
        obtain⟨hrev,hp,hq,hcz,hbz⟩:=HH.out
        refine⟨k+1,j-1,(zs.set k q).set j p,by omega,by omega,by go_num,by go_num,?_,?_,?_⟩
        ·have:=zdq hrev (by omega)
         rw[show bs.length-1-k=j by omega,<-hp,<-hq] at this
         exact this
        ·exact(hcz.set_ q (by omega)).set_ p (by simp;omega)
        ·exact(hbz.setCell HB.out.2.2.2 _).setCell HB.out.2.2.2 _
       case measure=>simp[intOf];omega
      ·have e:=zdO hrev (by omega)
       subst e
       have hconv:=zd9 wr 194 9 5 g cg bs.reverse rest hcz (P:=Tryz.prog) (by kernel_rfl) (by kernel_rfl) (by kernel_rfl)
       rw[List.length_reverse] at hconv
       have HZ:=hide hbz;clear hbz hrev hcz
       go_wp2
       go_ret
       refine⟨_,rfl,?_,?_⟩
       ·have hin:=HB.out.2.1
        rw[hin]
        rfl
       ·exact HW.out.2.1.trans (HZ.out.mono HW.out.2.1.size)
theorem zk0 (w:World) (v:Value) (z:Int) (L:Nat) (hz:ZV w v z L) (h:z≠0) (hL:L<=1073741824) (hs:decide (z<0)=true):
  Calls Tryz.prog 136 #[v] w (Ret (strR w (intText z))):=by
 obtain⟨m,rfl,hm⟩:=hz
 rw[hs]
 obtain⟨A,c,xs,rfl,hc,hmx,harr,hdx,hnx,hvx,hxl⟩:=hm.open_
 have hl0:0<xs.length:=by
  have h0:=zcv hm
  rcases Nat.eq_zero_or_pos xs.length with e|e
  ·exact absurd (h0.1 e) (by omega)
  ·exact e
 have hd:((xs.length:Int) == 0)=false:=by rw[beq_eq_false_iff_ne];omega
 obtain⟨W,hW⟩:∃W,W=w.alloc (.cells #[.bool true,.slice A xs.length c] 53):=⟨_,rfl⟩
 have hb0:Below w.heap.size w W:=by rw[hW];exact(blr _ _).alloc (nr _) _
 have hr:W.heap[w.heap.size]?=some (.cells #[.bool true,.slice A xs.length c] 53):=by rw[hW];exact zj _ _
 have hWs:W.heap.size=w.heap.size+1:=by rw[hW];simp
 have harrW:Arr W A .i64 xs:=harr.below hb0
 have HT:=hide (fun ds hd hn hv=>zfg ds z hd hn hv h)
 have hxz:0<(z.natAbs:Int):=by omega
 have hz:=hide hs;clear hs
 obtain⟨k0,k1,_,_⟩:=ze hr
 have HW:=hide (ai hW (ai hb0 (ai hr (ai hWs (ai harrW (ai hdx (ai hvx hxz)))))));clear hW hb0 hr hWs harrW hdx hvx hxz harr hnx hm h
 obtain⟨X,hX⟩:∃X,X=(z.natAbs:Int):=⟨_,rfl⟩
 rw[<-hX] at HW HT
 clear hX
 go_enter Tryz.func136,Tryz.ntmps136
 go_wp2
 rw[<-HW.out.1]
 go_loopw [3,4] (fun s3 s4 wr=>∃(i:Nat) (ds:List Int),i<=xs.length/\s4=.int .i64 i/\OwnI wr W.heap.size 5 .u8 s3 (asc ds)/\Dig 10 ds/\ds.length=9*i/\val 10 ds=val 1000000000 (xs.take i)/\Below W.heap.size W wr) (fun _ s4 _=>xs.length-(intOf s4).toNat)
 case atStart=>exact⟨0,[],Nat.zero_le _,rfl,OwnI.nil _ _ _ _,Dig.nil _,rfl,rfl,blr _ _⟩
 case round=>
  obtain⟨i,ds,hi,rfl,hown,hdd,hdl,hval,hbel⟩:=hrel
  obtain⟨k0,k1,_,_⟩:=ze (at_later HW.out.2.2.1 hbel)
  by_cases hlt:i<xs.length
  ·obtain⟨b,o,rfl,hbl,hcell⟩:=HW.out.2.2.2.2.1.at_ (by omega)
   have hxc:=(hbel.cell (p:=⟨b,o+i,none⟩) hbl).trans (hcell i hlt)
   have hxb:=HW.out.2.2.2.2.2.1.at_ hlt
   have hts:=zo 1000000000 xs i hlt
   obtain⟨x,hx⟩:∃x,x=xs.getD i 0:=⟨_,rfl⟩
   rw[<-hx] at hxc hxb hts
   obtain⟨hx0,hx1⟩:=hxb
   have HV:=hide (ai hdd (ai hdl (ai hval hts)));clear hdd hdl hval hts hx hcell hbl
   have hil:i<=1073741824:=by omega
   go_wp2
   go_loopw [3,5,6] (fun s3 s5 s6 wr2=>∃(k:Nat) (d:Int) (es:List Int),k<=9/\s6=.int .i64 k/\s5=.int .i64 d/\0<=d/\d<1000000000/\es.length=k/\OwnI wr2 W.heap.size 5 .u8 s3 (asc (ds++es))/\es++chunk (9-k) true d=chunk 9 true x/\Below W.heap.size W wr2) (fun _ _ s6 _=>9-(intOf s6).toNat)
   case atStart=>exact⟨0,x,[],by omega,rfl,rfl,hx0,hx1,rfl,by rw[List.append_nil];exact hown,rfl,hbel⟩
   case round=>
    obtain⟨k,d,es,hk,rfl,rfl,hd0,hd1,hel,hown2,hch,hbel2⟩:=hrel
    by_cases hk9:k<9
    ·have hm9:9-k=(9-(k+1))+1:=by omega
     rw[hm9,chunk,if_pos (Or.inl rfl)] at hch
     have hesl:(asc (ds++es)).length<=17592186044000:=by
      have:=HV.out.2.1
      rw[zau,List.length_append];omega
     have HC:=hide (ai hch (ai hel hesl));clear hch hel hesl
     go_wp2_with (at_builtin;refine app1 Tryz.u8T _ rfl _ _ rfl W.heap.size _ (asc (ds++es)) (48+d%10) rfl (hown2.keep ((blr _ _).alloc (nr _) _)) ⟨wr.heap.size,0,none⟩ _ rfl (by simp[World.cell?_alloc_new]) HC.out.2.2 (by have:=hbel2.size;simp;omega) ?_;intro g c1 w2 hown3 _ _ hb2)
     go_roundw
     case rel=>
      refine⟨k+1,d / 10,es++[d%10],by omega,by go_num,by go_num,by omega,by omega,by simp[HC.out.2.1],?_,?_,?_⟩
      ·have e:asc (ds++(es++[d%10]))=asc (ds++es)++[48+d%10]:=by simp[asc]
       rw[e]
       exact hown3
      ·rw[List.append_assoc,List.singleton_append];exact HC.out.1
      ·exact(hbel2.alloc hbel2.size _).trans hb2
     case measure=>simp[intOf];omega
    ·obtain rfl:k=9:=by omega
     rw[show 9-9=0 by omega,chunk,List.append_nil] at hch
     have HC:=hide hch;clear hch
     go_wp2
     go_roundw
     case rel=>
      obtain⟨t1,t2⟩:=zgg ds es i _ (val 10 ds) x HV.out.2.2.1 HV.out.2.1 HC.out hx0 hx1
      refine⟨i+1,ds++es,by omega,by go_num,hown2,HV.out.1.append (by rw[HC.out];exact zd4 _ _ _),t1,?_,hbel2⟩
      rw[t2,HV.out.2.2.2]
     case measure=>simp[intOf];omega
  ·obtain rfl:i=xs.length:=by omega
   rw[List.take_length,HW.out.2.2.2.2.2.2.1] at hval
   have hll:ds.length<=9*1073741824:=by omega
   have HV:=hide (ai hdd (ai hdl (ai hval hll)));clear hdd hdl hval hll hlt hi
   go_wp2
   clear k0 k1
   go_loopw [3] (fun s3 wr2=>∃(es:List Int),OwnI wr2 W.heap.size 5 .u8 s3 (asc es)/\Dig 10 es/\val 10 es=X/\es.length<=9*1073741824/\Below W.heap.size W wr2) (fun s3 _=>lenOf s3)
   case atStart=>exact⟨ds,hown,HV.out.1,HV.out.2.2.1,HV.out.2.2.2,hbel⟩
   case round=>
    obtain⟨es,hown2,hde,hve,hel,hbel2⟩:=hrel
    have hne:0<es.length:=by
     rcases Nat.eq_zero_or_pos es.length with e|e
     ·rw[List.eq_nil_of_length_eq_zero e] at hve
      have:=HW.out.2.2.2.2.2.2.2
      simp[val] at hve
      omega
     ·exact e
    have hal:(asc es).length=es.length:=zau es
    obtain⟨g,cg,rest,rfl,hgb,hgc,hgm,hcel⟩:=hown2.cel (by omega)
    have hcl:=hcel.cell (j:=es.length-1) (by omega)
    rw[zhD es _ (by omega)] at hcl
    have hdg:=hde.at_ (k:=es.length-1) (by omega)
    have hdn:=zet es
    have hnl:es.getD (es.length-1) 0≠0->Norm es:=fun h=>Norm.of_last fun _=>h
    have hint:=HT.out es hde
    rw[hal] at hown2 hgc
    rw[hal]
    obtain⟨y,hy⟩:∃y,y=es.getD (es.length-1) 0:=⟨_,rfl⟩
    rw[<-hy] at hcl hdg hdn hnl
    obtain⟨hy0,hy1⟩:=hdg
    clear hy
    unfold maxLen at hgm
    by_cases hy2:y=0
    ·subst hy2
     have HE:=hide (ai hown2 (ai hde (ai hve (ai (hdn rfl hne) hel))));clear hown2 hde hve hdn hel hnl hint hcel
     go_wp2
     go_roundw
     case rel=>
      obtain⟨hown2,hde,hve,hdn,hel⟩:=HE.out
      refine⟨es.take (es.length-1),?_,hde.take _,hdn.trans hve,by rw[List.length_take];omega,hbel2⟩
      rw[zhE]
      rw[<-hal] at hown2
      have:=hown2.cut (m:=es.length-1) (by omega)
      exact this
     case measure=>simp[lenOf];omega
    ·have hyd:((48+y:Int) == 48)=false:=by rw[beq_eq_false_iff_ne];omega
     obtain⟨kb0,kb1,_,_⟩:=ze (at_later HW.out.2.2.1 hbel2)
     have hin:=hint (hnl hy2) hve
     have e45:(if z<0 then 45::(asc es).reverse else (asc es).reverse)=(asc es++[45]).reverse:=by rw[if_pos (of_decide_eq_true hz.out)];simp
     rw[e45] at hin
     have hesl:(asc es).length<=17592186044000:=by omega
     rw[<-hal] at hown2
     have hown9:=hown2
     have HAL:=hide hal
     have HE:=hide (ai hin (ai hesl hel));clear hown2 hin hesl hde hve hdn hel hnl hint hcel e45 hal
     go_wp2_with (at_builtin;refine app1 Tryz.u8T _ rfl _ _ rfl W.heap.size _ (asc es) 45 (by rw[HAL.out];rfl) (hown9.keep ((blr _ _).alloc (nr _) _)) ⟨wr.heap.size,0,none⟩ _ rfl (by simp[World.cell?_alloc_new]) HE.out.2.1 (by have:=hbel2.size;simp;omega) ?_
                  intro g1 c1 w3 hown3 _ _ hb2
                  obtain⟨bs,hbs⟩:∃bs,bs=asc es++[45]:=⟨_,rfl⟩
                  have hbl:(asc es).length+1=bs.length:=by rw[hbs];simp
                  rw[<-hbs] at hown3;rw[hbl] at hown3 ⊢
                  obtain⟨g2,c2,rest2,heq,hgbb,_,hgm2,hcelb⟩:=hown3.cel (by omega)
                  injection heq with e1 e2 e3
                  injection e1 with e1
                  injection e1 with e1
                  subst e1 e3
                  have hinb:intText z=bs.reverse:=by rw[hbs];exact HE.out.1
                  have hbl2:bs.length<=9663676417:=by (have:=HE.out.2.2;have:=HAL.out;omega)
                  have hb1:1<=bs.length:=by omega
                  have hbelb:Below W.heap.size W w3:=(hbel2.alloc hbel2.size _).trans hb2
                  have HB:=hide (ai hcelb (ai hinb (ai hbelb hgbb)))
                  clear hcelb hinb hbelb hgbb hbs hbl hown3 hb2 e2)
     go_loopw [7,8] (fun s7 s8 wr3=>∃(k j:Nat) (zs:List Int),2*k<=bs.length/\k+j+1=bs.length/\s7=.int .i64 k/\s8=.int .i64 j/\zdo bs zs k/\Cel wr3 g1 5 .u8 zs rest2/\Below W.heap.size W wr3) (fun s7 _ _=>bs.length-(intOf s7).toNat)
     case atStart=>exact⟨0,bs.length-1,bs,by omega,by omega,rfl,by go_num,zdp bs,HB.out.1,HB.out.2.2.1⟩
     case round=>
      obtain⟨k,j,zs,hk,hj,rfl,rfl,hrev,hcz,hbz⟩:=hrel
      have hzl:=hrev.1
      by_cases hlt:k<j
      ·have ci:=hcz.cell (j:=k) (by omega)
       have cj:=hcz.cell (j:=j) (by omega)
       have fi:=hcz.frozen k
       have fj:=hcz.frozen j
       obtain⟨p,hp⟩:∃p,p=zs.getD k 0:=⟨_,rfl⟩
       obtain⟨q,hq⟩:∃q,q=zs.getD j 0:=⟨_,rfl⟩
       rw[<-hp] at ci
       rw[<-hq] at cj
       have hne:¬k=j:=by omega
       have hne2:¬j=k:=by omega
       have hkl:k<bs.length:=by omega
       have hjl:j<bs.length:=by omega
       have HH:=hide (ai hrev (ai hp (ai hq (ai hcz hbz))));clear hrev hp hq hcz hbz
       go_wp2
       go_roundw
       case rel=>
        obtain⟨hrev,hp,hq,hcz,hbz⟩:=HH.out
        refine⟨k+1,j-1,(zs.set k q).set j p,by omega,by omega,by go_num,by go_num,?_,?_,?_⟩
        ·have:=zdq hrev (by omega)
         rw[show bs.length-1-k=j by omega,<-hp,<-hq] at this
         exact this
        ·exact(hcz.set_ q (by omega)).set_ p (by simp;omega)
        ·exact(hbz.setCell HB.out.2.2.2 _).setCell HB.out.2.2.2 _
       case measure=>simp[intOf];omega
      ·have e:=zdO hrev (by omega)
       subst e
       have hconv:=zd9 wr 194 9 5 g1 c1 bs.reverse rest2 hcz (P:=Tryz.prog) (by kernel_rfl) (by kernel_rfl) (by kernel_rfl)
       rw[List.length_reverse] at hconv
       have HZ:=hide hbz;clear hbz hrev hcz
       go_wp2
       go_ret
       refine⟨_,rfl,?_,?_⟩
       ·have hin:=HB.out.2.1
        rw[hin]
        rfl
       ·exact HW.out.2.1.trans (HZ.out.mono HW.out.2.1.size)
theorem zhF (w:World) (v:Value) (z:Int) (L:Nat) (hz:ZV w v z L) (hL:L<=1073741824):
  Calls Tryz.prog 136 #[v] w (Ret (strR w (intText z))):=by
 by_cases h:z=0
 ·exact zkZ w v z L hz h
 ·by_cases hn:z<0
  ·exact zk0 w v z L hz h hL (by simp[hn])
  ·exact zjv w v z L hz h hL (by simp[hn])
theorem ziP (L:Nat):(1000000000:Int)^L=10^(9*L):=by
 rw[Int.pow_mul];rfl
theorem ZV.text_size {w:World} {v:Value} {z:Int} {L:Nat} (h:ZV w v z L) (hL:L<=1073741824):(str (intText z)).size<=100000000000:=by
 obtain⟨m,rfl,hm⟩:=h
 have h1:=hm.lt
 rw[ziP] at h1
 have h2:=zcJ z.natAbs (9*L) h1
 have h3:(decText (z.natAbs:Int)).length<=9*L+1:=by
  unfold decText
  split
  ·simp
  ·rw[List.length_reverse,zau,Int.toNat_natCast];omega
 rw[zK]
 unfold intText
 rw[List.length_append]
 split <;> simp <;> omega
theorem zik (d:Nat):intText (d:Int)=decText (d:Int):=by
 unfold intText
 rw[if_neg (by omega)]
 rfl
theorem QV.parts {w:World} {v:Value} {q:Rat} {L:Nat} (h:QV w v q L):∃s A n c B m d,v=.agg #[.bool s,.slice A n c,.bool false,.slice B m d]/\ZV w (.agg #[.bool s,.slice A n c]) q.num L/\ZV w (.agg #[.bool false,.slice B m d]) (q.den:Int) L:=by
 obtain⟨n,d,rfl,hn,hd⟩:=h
 obtain⟨A,c,xs,rfl,_⟩:=hn.open_
 obtain⟨B,c',ys,rfl,_⟩:=hd.open_
 refine⟨_,_,_,_,_,_,_,rfl,⟨_,rfl,hn⟩,⟨.slice B ys.length c',?_,hd⟩⟩
 rw[show decide ((q.den:Int)<0)=false from decide_eq_false (by omega)]
theorem ziQ (w:World) (v:Value) (q:Rat) (L:Nat) (hq:QV w v q L) (hL:L<=1073741000):
  Calls Tryz.prog 78 #[v] w (Ret (strR w (ratText q))):=by
 obtain⟨s,A,n,c,B,m,d,rfl,hz,hy⟩:=hq.parts
 have z1:=hz.text_size (by omega)
 have z2:=hy.text_size (by omega)
 obtain⟨W,hW⟩:∃W,W=w.alloc (.cells #[.bool s,.slice A n c,.bool false,.slice B m d] 55):=⟨_,rfl⟩
 have hb0:Below w.heap.size w W:=by rw[hW];exact(blr _ _).alloc (nr _) _
 have hr:W.heap[w.heap.size]?=some (.cells #[.bool s,.slice A n c,.bool false,.slice B m d] 55):=by rw[hW];exact zj _ _
 have HW:=hide (ai hW (ai hb0 (ai hr (ai (hz.below hb0) (hy.below hb0)))));clear hW hb0 hr hz hy hq
 have hS:∀w',Below W.heap.size W w'->w'.cell? ⟨w.heap.size,0,none⟩=some (.bool s)/\w'.cell? ⟨w.heap.size,1,none⟩=some (.slice A n c)/\w'.cell? ⟨w.heap.size,2,none⟩=some (.bool false)/\w'.cell? ⟨w.heap.size,3,none⟩=some (.slice B m d):=fun w' h=>by
  obtain⟨a,b,c,d,_⟩:=zq (at_later HW.out.2.2.1 h)
  exact⟨a,b,c,d⟩
 have hdr:Below W.heap.size W W.drew:=(blr _ _).drew
 have hS0:=hS _ hdr
 have HS:=hide hS;clear hS
 have hdp:=zG q
 by_cases h1:q.den=1
 ·have hsg:sgn (q.den:Int) 1=0:=by unfold sgn;rw[if_neg (by omega),if_neg (by omega)]
  have hR:ratText q=intText q.num:=by unfold ratText;rw[if_pos h1,List.append_nil]
  rw[hR]
  have HD:=hide (ai hdp hsg);clear hdp hsg hR h1 z2
  go_enter Tryz.func78,Tryz.ntmps78
  go_wp2
  rw[<-HW.out.1]
  go_region_held3 (fun w'=>w'.cell? ⟨w.heap.size,0,none⟩=some (.bool s)/\w'.cell? ⟨w.heap.size,1,none⟩=some (.slice A n c)/\w'.cell? ⟨w.heap.size,2,none⟩=some (.bool false)/\w'.cell? ⟨w.heap.size,3,none⟩=some (.slice B m d))
   (first|exact hS0|exact HS.out _ hg4|exact HS.out _ hg5|(go_keep;done))
   (first
    | (go_at_call 110;refine(zgA _ 1 (by omega) (by omega)).mono ?_;rintro e w4 ⟨v4,rfl,hv4,hd4⟩;have hg4:Below W.heap.size W w4:=hdr.trans hd4;(obtain⟨s4,A4,n4,c4,rfl,hs4,_⟩:=hv4.parts);clear hs4;have HV4:=hide hv4;clear hv4 hd4)
    | (go_at_call 135;refine(zle _ _ _ (q.den:Int) 1 L 3 (HW.out.2.2.2.2.below hg4) HV4.out (by omega) (by omega) (by omega) (by omega)).mono ?_;rintro e w5 ⟨_,rfl,rfl,hd5⟩;rw[HD.out.2];have hg5:Below W.heap.size W w5:=hg4.trans (hd5.mono hg4.size);clear hd5))
  obtain⟨k0,k1,k2,k3⟩:=HS.out _ hg5
  go_wp2_with fail
  refine(zhF _ _ _ L (HW.out.2.2.2.1.below hg5) (by omega)).mono ?_
  rintro e w6 ⟨_,rfl,rfl,hd6⟩
  have HB:=hide (bnx HW.out.2.1 (hg5.trans (hd6.mono hg5.size)))
  go_wp2
  go_ret
  exact⟨_,rfl,rfl,HB.out⟩
 ·have hsg:sgn (q.den:Int) 1=1:=by unfold sgn;rw[if_neg (by omega),if_pos (by omega)]
  have hR:ratText q=intText q.num++([47]++intText (q.den:Int)):=by unfold ratText;rw[if_neg h1,zik];rfl
  rw[hR]
  have hc1:¬9223372036854775807<(str (intText q.num)).size+1:=by omega
  have hc2:¬9223372036854775807<(str (intText q.num)).size+1+(str (intText (q.den:Int))).size:=by omega
  have HD:=hide (ai hdp hsg);clear hdp hsg hR h1 z1 z2
  go_enter Tryz.func78,Tryz.ntmps78
  go_wp2
  rw[<-HW.out.1]
  go_region_held3 (fun w'=>w'.cell? ⟨w.heap.size,0,none⟩=some (.bool s)/\w'.cell? ⟨w.heap.size,1,none⟩=some (.slice A n c)/\w'.cell? ⟨w.heap.size,2,none⟩=some (.bool false)/\w'.cell? ⟨w.heap.size,3,none⟩=some (.slice B m d))
   (first|exact hS0|exact HS.out _ hg4|exact HS.out _ hg5|(go_keep;done))
   (first
    | (go_at_call 110;refine(zgA _ 1 (by omega) (by omega)).mono ?_;rintro e w4 ⟨v4,rfl,hv4,hd4⟩;have hg4:Below W.heap.size W w4:=hdr.trans hd4;(obtain⟨s4,A4,n4,c4,rfl,hs4,_⟩:=hv4.parts);clear hs4;have HV4:=hide hv4;clear hv4 hd4)
    | (go_at_call 135;refine(zle _ _ _ (q.den:Int) 1 L 3 (HW.out.2.2.2.2.below hg4) HV4.out (by omega) (by omega) (by omega) (by omega)).mono ?_;rintro e w5 ⟨_,rfl,rfl,hd5⟩;rw[HD.out.2];have hg5:Below W.heap.size W w5:=hg4.trans (hd5.mono hg4.size);clear hd5))
  obtain⟨k0,k1,k2,k3⟩:=HS.out _ hg5
  have hdr5:Below W.heap.size W w5.drew:=hg5.drew
  have hS5:=HS.out _ hdr5
  clear hg4 hS0 hdr
  go_wp2
  go_region_held3 (fun w'=>w'.cell? ⟨w.heap.size,0,none⟩=some (.bool s)/\w'.cell? ⟨w.heap.size,1,none⟩=some (.slice A n c)/\w'.cell? ⟨w.heap.size,2,none⟩=some (.bool false)/\w'.cell? ⟨w.heap.size,3,none⟩=some (.slice B m d))
   (first|exact hS5|exact HS.out _ hg6|exact HS.out _ hg7|(go_keep;done))
   (first
    | (have hsecond:=hg6;go_at_call 136;refine(zhF _ _ _ L (HW.out.2.2.2.2.below hg6) (by omega)).mono ?_;rintro e w7 ⟨_,rfl,rfl,hd7⟩;clear hsecond;have hg7:Below W.heap.size W w7:=hg6.trans (hd7.mono hg6.size);clear hd7)
    | (go_at_call 136;refine(zhF _ _ _ L (HW.out.2.2.2.1.below hdr5) (by omega)).mono ?_;rintro e w6 ⟨_,rfl,rfl,hd6⟩;have hg6:Below W.heap.size W w6:=hdr5.trans (hd6.mono hdr5.size);clear hd6))
  have HB:=hide (bnx HW.out.2.1 hg7)
  go_wp2
  go_ret
  refine⟨_,rfl,?_,HB.out⟩
  have e:str (intText q.num++47::intText (q.den:Int))=str (intText q.num)++(ByteArray.mk #[47])++str (intText (q.den:Int)):=by
   show _=str (intText q.num)++str [47]++str (intText (q.den:Int))
   rw[zbY,zbY,List.append_assoc];rfl
  rw[e]
  rfl
theorem QV.more {w:World} {v:Value} {q:Rat} {L L':Nat} (h:QV w v q L) (hL:L<=L'):QV w v q L':=by
 obtain⟨n,d,rfl,h1,h2⟩:=h;exact⟨n,d,rfl,h1.more hL,h2.more hL⟩
theorem QV.put4 {w:World} {v:Value} {q:Rat} {L B:Nat} {a b c d:Value} (h:QV w v q L) {cs:Array Value} {e:TypeId} (hB:w.heap[B]?=some (.cells cs e (0,0))) (he:e≠3):
  QV ((((w.setCell ⟨B,0,none⟩ a).setCell ⟨B,1,none⟩ b).setCell ⟨B,2,none⟩ c).setCell ⟨B,3,none⟩ d) v q L:=by
 obtain⟨n,d',rfl,h1,h2⟩:=h
 exact⟨n,d',rfl,zbk h1 hB he,zbk h2 hB he⟩
theorem zaa {B0 B:Nat} {a w:World} {x y z u:Value} (h:Below B0 a w) (hB:B0<=B):Below B0 a ((((w.setCell ⟨B,0,none⟩ x).setCell ⟨B,1,none⟩ y).setCell ⟨B,2,none⟩ z).setCell ⟨B,3,none⟩ u):=
 (((h.setCell (by exact hB) _).setCell (by exact hB) _).setCell (by exact hB) _).setCell (by exact hB) _
theorem zk1 {w:World} {B:Nat} {a b c d x y z u:Value} {e:TypeId} (h:w.heap[B]?=some (.cells #[a,b,c,d] e (0,0))):
  ((((w.setCell ⟨B,0,none⟩ x).setCell ⟨B,1,none⟩ y).setCell ⟨B,2,none⟩ z).setCell ⟨B,3,none⟩ u).heap[B]?=some (.cells #[x,y,z,u] e (0,0)):=by
 simp[World.setCell,Array.getElem?_modify,h]
theorem za4 (w:World) (a b:Int) (h0:-9223372036854775808<=a) (h1:a<=9223372036854775807) (g0:-9223372036854775808<=b) (g1:b<=9223372036854775807) (hb:b≠0):
  Calls Tryz.prog 59 #[.int .i64 a,.int .i64 b] w (Ret (qR w (Rat.divInt a b) 3)):=by
 obtain⟨W,hW⟩:∃W,W=w.alloc (.cells #[.bool false,.slice none 0 0,.bool false,.slice none 0 0] 55):=⟨_,rfl⟩
 have hb0:Below w.heap.size w W:=by rw[hW];exact(blr _ _).alloc (nr _) _
 have hr:W.heap[w.heap.size]?=some (.cells #[.bool false,.slice none 0 0,.bool false,.slice none 0 0] 55):=by rw[hW];exact zj _ _
 have HW:=hide (ai hW (ai hb0 (ai hr hb)));clear hW hb0 hr hb
 go_enter Tryz.func59,Tryz.ntmps59
 go_wp2_with fail
 refine(zgA _ a h0 h1).mono ?_
 rintro e w1 ⟨v1,rfl,z1,hd1⟩
 obtain⟨s1,A1,n1,c1,rfl,hs1,_⟩:=z1.parts
 clear hs1
 rw[<-HW.out.1] at hd1
 go_wp2_with fail
 refine(zgA _ b g0 g1).mono ?_
 rintro e w2 ⟨v2,rfl,z2,hd2⟩
 obtain⟨s2,A2,n2,c2,rfl,hs2,_⟩:=z2.parts
 clear hs2
 have z1':=z1.below hd2
 have HZ:=hide (ai z1' z2);clear z1 z1' z2
 go_wp2_with fail
 refine(zcE _ _ _ a b 3 HZ.out.1 HZ.out.2 (by omega) HW.out.2.2.2).mono ?_
 rintro e w3 ⟨v3,rfl,q3,hd3⟩
 obtain⟨s3,A3,n3,c3,B3,m3,d3,rfl,_⟩:=q3.parts
 have hbl:=bnx (bnx hd1 hd2) hd3
 have hr3:=at_later HW.out.2.2.1 hbl
 obtain⟨y0,y1,y2,y3,f0,f1,f2,f3⟩:=zq hr3
 have hlt:=lt_of_block hr3
 have HF:=hide (ai q3 (ai hr3 (bnx HW.out.2.1 hbl)));clear q3 hr3 hbl hd1 hd2 hd3
 go_wp2
 refine bodyPost_ret (v:=.agg #[.bool s3,.slice A3 n3 c3,.bool false,.slice B3 m3 d3]) ?_ rfl ?_
 ·simp[results,Tryz.results59,go_sem,y0,y1,y2,y3,hlt]
 exact⟨_,rfl,HF.out.1.put4 HF.out.2.1 (by decide),zaa HF.out.2.2 (by omega)⟩
end Go.Proofs.YtpoahodnakhmiaaGreat
