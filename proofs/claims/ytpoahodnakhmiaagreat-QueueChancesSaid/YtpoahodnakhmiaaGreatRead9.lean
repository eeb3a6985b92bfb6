import Derived.Test.YtpoahodnakhmiaaGreatTake
import Derived.Test.YtpoahodnakhmiaaGreatStr9
import Derived.Laws.RangeString
import Derived.Laws.RangeAny
import Derived.Lib.Strings
import Derived.Lib.Slices
import Derived.Lib.Walk
import Derived.Lib.Bytealg
import Derived.Deep.DeepCutAuto
set_option maxRecDepth 100000
namespace Go.Proofs.YtpoahodnakhmiaaGreat
open Go.RowKit
set_option linter.unusedVariables false
set_option linter.unusedSimpArgs false
def tv (bs:List Int):Int:=bs.foldl (fun v b=>10*v+(b-48)) 0
def Digs (bs:List Int):Prop:=∀b∈bs,48<=b/\b<58
theorem zdb (bs:List Int) (b:Int):tv (bs++[b])=10*tv bs+(b-48):=by simp[tv]
theorem ziG {Q:List Int->Prop} (h0:Q []) (h1:∀l a,Q l->Q (l++[a])) (l:List Int):Q l:=by
 rw[<-List.reverse_reverse l]
 induction l.reverse with
 | nil=>exact h0
 | cons a t ih=>rw[List.reverse_cons];exact h1 _ _ ih
theorem zkI (xs bs:List Int):tv (xs++bs)=10^bs.length*tv xs+tv bs:=by
 induction bs using ziG with
 | h0=>simp[tv]
 | h1 bs b ih=>
  rw[<-List.append_assoc,zdb,ih,zdb,List.length_append,List.length_singleton,Int.pow_succ]
  grind
theorem Digs.take {bs:List Int} (h:Digs bs) (k:Nat):Digs (bs.take k):=fun b hb=>h b (List.mem_of_mem_take hb)
theorem Digs.drop {bs:List Int} (h:Digs bs) (k:Nat):Digs (bs.drop k):=fun b hb=>h b (List.mem_of_mem_drop hb)
theorem zeH (bs:List Int) (h:Digs bs):0<=tv bs/\tv bs<10^bs.length:=by
 induction bs using ziG with
 | h0=>simp[tv]
 | h1 bs b ih=>
  have hb:=h b (by simp)
  have:=ih (fun c hc=>h c (by simp[hc]))
  rw[zdb,List.length_append,List.length_singleton,Int.pow_succ]
  omega
theorem znS (ds:List Int):tv ((asc ds).reverse)=val 10 ds:=by
 induction ds with
 | nil=>rfl
 | cons d ds ih=>
  simp only[asc,List.map_cons,List.reverse_cons] at ih ⊢
  rw[zdb,ih]
  simp only[val]
  omega
theorem ziH (x:Int) (h:0<=x):tv (decText x)=x:=by
 unfold decText
 split
 ·rename_i h0;subst h0;rfl
 ·rw[znS,zbQ];omega
theorem zaS (x:Int):Digs (decText x):=by
 unfold decText
 split
 ·intro b hb;simp at hb;subst hb;omega
 ·intro b hb
  rw[List.mem_reverse,asc,List.mem_map] at hb
  obtain⟨d,hd,rfl⟩:=hb
  have:=zd7 x.toNat d hd
  omega
theorem zkJ (k:Nat):(10:Int)^k<=4294967296^k:=by
 induction k with
 | zero=>simp
 | succ k ih=>
  rw[Int.pow_succ,Int.pow_succ]
  have h0:(0:Int)<10^k:=Int.pow_pos (by omega)
  omega
theorem ziI (bs:List Int) (k:Nat) (h:k<(str bs).size) (hd:Digs bs):((str bs)[k]'h).toNat=(bs.getD k 0).toNat/\48<=bs.getD k 0/\bs.getD k 0<58:=by
 have hk:k<bs.length:=by rw[zK] at h;exact h
 have hb:=hd (bs[k]) (List.getElem_mem hk)
 have e:bs.getD k 0=bs[k]:=by simp[List.getD,hk]
 rw[e]
 refine⟨?_,hb⟩
 show ((str bs).data[k]).toNat=_
 simp only[str,List.getElem_toArray,List.getElem_map]
 simp
 omega
theorem zcY (bs:List Int) (i j:Nat):(str bs).extract i j=str ((bs.drop i).take (j-i)):=by
 apply ByteArray.ext
 simp[str,ByteArray.data_extract,List.map_take,List.map_drop]
theorem zf5 (w:World) (bs:List Int) (hd:Digs bs) (hl:bs.length<=100000000):
  Calls Tryz.prog 133 #[.string (str bs)] w (Ret (natR w (tv bs) (bs.length+1))):=by
 have hsz:=zK bs
 have hsl:(str bs).size<=100000000:=by omega
 have HD:=hide (ai hd hsz);clear hd hsz
 obtain⟨n,hn⟩:∃n,n=(str bs).size:=⟨_,rfl⟩
 have HN:=hide hn
 go_enter Tryz.func133,Tryz.ntmps133
 go_wp2
 go_loopw [3,4] (fun s3 s4 wr=>∃k:Nat,k<=(str bs).size/\(k=0\/((str bs).size-k)%9=0)/\s4=.int .i64 k/\NatV wr s3 (tv (bs.take k)) (k+1)/\Below w.heap.size w wr) (fun _ s4 _=>(str bs).size-(intOf s4).toNat)
 case atStart=>exact⟨0,Nat.zero_le _,Or.inl rfl,rfl,NatV.nil _ _,blr _ _⟩
 case round=>
  obtain⟨k,hk,hk9,rfl,hnat,hbel⟩:=hrel
  by_cases hlt:k<(str bs).size
  ·obtain⟨j,hj⟩:∃j:Nat,(k:Int)+(((str bs).size-k-1)%9+1)=j:=⟨((k:Int)+(((str bs).size-k-1)%9+1)).toNat,by omega⟩
   have hjk:k<j/\j<=(str bs).size/\j<=k+9:=by omega
   have hsl2:∀w':World,(Instr.slice 9 (.string (str bs)) (some (.int .i64 (k:Int))) (some (.int .i64 ((k:Int)+(((str bs).size-k-1)%9+1)))) none).run Tryz.prog w'=.ok (.string (str ((bs.drop k).take (j-k)))) w':=fun w'=>by
    rw[hj,run_slice_string w' 9 (str bs) .i64 .i64 k j (by kernel_rfl) (by omega) (by omega) (by omega)]
    rw[<-zcY]
    rfl
   have hj9:(k=0\/j-k=9)/\((str bs).size-j)%9=0:=by
    rcases hk9 with h|h
    ·subst h;exact⟨Or.inl rfl,by omega⟩
    ·exact⟨Or.inr (by omega),by omega⟩
   have hjh:=hide (ai hj (ai hjk hj9))
   clear hj hjk hj9 hk9
   obtain⟨cs,hcs⟩:∃cs,cs=(bs.drop k).take (j-k):=⟨_,rfl⟩
   rw[<-hcs] at hsl2
   have hcd:Digs cs:=by rw[hcs];exact(HD.out.1.drop k).take _
   have hcl:cs.length<=9:=by rw[hcs,List.length_take];have:=hjh.out;omega
   have HC:=hide (ai hcs (ai hcd (ai hcl (zK cs))));clear hcs hcd hcl
   have HNAT:=hide hnat;clear hnat
   go_wp2
   clear hsl2
   go_loopw [6,8] (fun s6 s8 wr2=>∃i:Nat,i<=(str cs).size/\s6=.int .u64 (tv (cs.take i))/\wr2=wr.iter (str cs) i) (fun s6 s8 wr2=>(str cs).size-wr2.iterPos wr.heap.size)
   case atStart=>exact⟨0,Nat.zero_le _,rfl,rfl⟩
   case round=>
    obtain⟨i,hi,rfl,rfl⟩:=hrel
    by_cases hlt2:i<(str cs).size
    ·obtain⟨hg,hg0,hg1⟩:=ziI cs i hlt2 HC.out.2.1
     have hcl:i<cs.length:=by have:=HC.out.2.2.2;omega
     have hts:tv (cs.take (i+1))=10*tv (cs.take i)+(cs.getD i 0-48):=by
      rw[List.take_succ_eq_append_getElem hcl,zdb]
      simp[List.getD,hcl]
     have htb:=zeH (cs.take i) (HC.out.2.1.take i)
     have htl:(10:Int)^(cs.take i).length<=10^9:=zt (by omega) (by rw[List.length_take];have:=HC.out.2.2.1;omega)
     have hnx:=run_next_ascii (P:=Tryz.prog) wr (str cs) i 0 hlt2 (by omega)
     rw[hg] at hnx
     obtain⟨b,hb⟩:∃b,b=cs.getD i 0:=⟨_,rfl⟩
     rw[<-hb] at hnx hts hg0 hg1
     rw[show ((b.toNat:Nat):Int)=b by omega] at hnx
     obtain⟨t,ht⟩:∃t,t=tv (cs.take i):=⟨_,rfl⟩
     rw[<-ht] at hts htb ⊢
     obtain⟨ht0,ht1⟩:=htb
     have ht2:t<1000000000:=by
      have:(10:Int)^9=1000000000:=by decide
      omega
     have HT:=hide hts
     clear hts hg htl ht1 ht hb hcl
     go_wp2
     go_roundw
     case rel=>exact⟨i+1,by omega,by rw[HT.out],rfl⟩
     case measure=>simp;omega
    ·have hi2:i=(str cs).size:=by omega
     subst hi2
     have hnx:=run_next_end (P:=Tryz.prog) wr (str cs) (str cs).size 0 hlt2
     have htk:cs.take (str cs).size=cs:=List.take_of_length_le (by rw[HC.out.2.2.2];exact nr _)
     rw[htk]
     obtain⟨ht0,ht1⟩:=zeH cs HC.out.2.1
     have htl:(10:Int)^cs.length<=10^9:=zt (by omega) HC.out.2.2.1
     have ht2:tv cs<18446744073709551616:=by
      have:(10:Int)^9=1000000000:=by decide
      omega
     clear htk htl ht1
     have hb0:Below wr.heap.size wr (wr.iter (str cs) (str cs).size):=(blr _ _).alloc (nr _) _
     have hkl:k+1<=1073741824:=by omega
     go_wp2_with fail
     clear hnx
     refine(zc4 _ 1000000000 (by omega) (by omega)).mono ?_
     rintro e w1 ⟨v1,rfl,q1,hb1⟩
     go_wp2_with fail
     refine(zaz _ _ _ _ _ (k+1) 2 ((HNAT.out.below hb0).below hb1) q1 (by omega) (by omega)).mono ?_
     rintro e w2 ⟨v2,rfl,q2,hb2⟩
     replace hb2:=bnx (bnx hb0 hb1) hb2
     clear q1 hb0 hb1
     go_wp2_with fail
     refine(zc4 _ (tv cs) ht0 ht2).mono ?_
     rintro e w3 ⟨v3,rfl,q3,hb3⟩
     replace q2:=q2.below hb3
     replace hb3:=bnx hb2 hb3
     clear hb2
     go_wp2_with fail
     refine(zgC _ _ _ _ _ (k+1+2) 2 q2 q3 (by omega) (by omega)).mono ?_
     rintro e w4 ⟨v4,rfl,q4,hb4⟩
     have HB4:=hide (ai q4 (bnx hb3 hb4))
     clear q2 q3 q4 hb3 hb4
     go_wp2
     go_roundw
     case rel=>
      obtain⟨q4,hb4⟩:=HB4.out
      obtain⟨hj,⟨hj1,hj2,hj3⟩,hj9,hj0⟩:=hjh.out
      have hbl:bs.length=(str bs).size:=HD.out.2.symm
      have hcl:cs.length=j-k:=by rw[HC.out.1,List.length_take,List.length_drop];omega
      have htk:bs.take j=bs.take k++cs:=by
       rw[HC.out.1,<-List.take_add];congr 1;omega
      have e:tv (bs.take k)*1000000000+tv cs=tv (bs.take j):=by
       rw[htk,zkI,hcl]
       rcases hj9 with h|h
       ·subst h;simp[tv]
       ·rw[h,Int.mul_comm];rfl
      refine⟨j,hj2,Or.inr hj0,by rw[hj],?_,bnx hbel hb4⟩
      rw[e] at q4
      refine q4.fit ?_
      have h1:=zeH (bs.take j) (HD.out.1.take j)
      rw[List.length_take,show min j bs.length=j by omega] at h1
      have h2:=zkJ j
      have h3:=zt (B:=4294967296) (by omega) (show j<=j+1 by omega)
      omega
     case measure=>
      have:=hjh.out
      simp[intOf]
      omega
  ·have e:k=(str bs).size:=by omega
   subst e
   rw[HD.out.2,List.take_of_length_le (nr _)] at hnat
   have HF:=hide (ai hnat hbel);clear hnat hbel
   go_wp2
   go_ret
   exact⟨_,rfl,HF.out⟩
set_option maxHeartbeats 1000000 in
theorem zhp (s p:ByteArray) (w:World):
  Calls Tryz.prog 134 #[.string s,.string p] w fun e w'=>e=.returned (.string ⟨(Lib.trimPrefix s.data.toList p.data.toList).toArray⟩)/\w'=w:=by
 go_enter Tryz.func134,Tryz.ntmps134
 go_wp2
 ·have h1:p.size<=s.size:=by assumption
  have h2:((s.extract 0 p.size).toList == p.toList)=true:=by assumption
  go_ret
  refine⟨?_,rfl⟩
  rw[Lib.trimPrefix_hit s p h1 h2]
  rfl
 ·have h2:((s.extract 0 p.size).toList == p.toList)=false:=by assumption
  go_ret
  refine⟨?_,rfl⟩
  rw[Lib.trimPrefix_miss s p (by rw[h2];simp)]
  rfl
 ·have h1:¬p.size<=s.size:=by assumption
  go_ret
  refine⟨?_,rfl⟩
  rw[Lib.trimPrefix_miss s p (by simp[h1])]
  rfl
set_option maxHeartbeats 1000000 in
theorem zgs (s:ByteArray) (c:Int) (w:World):
  Calls Tryz.prog 210 #[.string s,.int .u8 c] w fun e w'=>e=.returned (.int .i64 (Lib.indexByte s.data.toList c.toNat.toUInt8))/\w'=w:=by
 go_enter Tryz.func210,Tryz.ntmps210
 go_wp2
 rw[run_callFunc_extern Tryz.func214 (by kernel_rfl) (by kernel_rfl) (by kernel_rfl) (e:=Extern.BytealgIndexByte.indexByte) (by kernel_rfl),Lib.run_indexByteString]
 simp only[Result.andThen]
 rw[Oper.upon_value]
 go_wp2
 go_ret
 exact⟨rfl,rfl⟩
set_option maxHeartbeats 2000000 in
theorem zf6 (s:ByteArray) (c:UInt8) (w:World):
  Calls Tryz.prog 200 #[.string s,.string ⟨#[c]⟩] w fun e w'=>e=.returned (.int .i64 (Lib.indexByte s.data.toList c))/\w'=w:=by
 go_enter Tryz.func200,Tryz.ntmps200
 go_wp2_with (go_at_call 210;refine(zgs _ _ _).mono ?_;rintro e w' ⟨rfl,rfl⟩)
 ·have h:([c] == s.toList)=true:=by assumption
  go_ret
  refine⟨?_,rfl⟩
  have e:s.data.toList=[c]:=by rw[<-Lib.toList_data];exact(beq_iff_eq.1 h).symm
  rw[e]
  simp[Lib.indexByte]
 ·go_ret
  exact⟨rfl,rfl⟩
theorem zdY (c:UInt8) (cs:List UInt8):∀xs:List UInt8,c∉xs->Lib.indexByte (xs++c::cs) c=xs.length
 | [],_=>by simp[Lib.indexByte]
 | b::l,h=>by
  have h1:c∉l:=fun e=>h (List.mem_cons_of_mem _ e)
  have h2:(b == c)=false:=by rw[beq_eq_false_iff_ne];intro e;exact h (by rw[e];exact List.mem_cons_self)
  have h3:=zdY c cs l h1
  rw[List.cons_append,Lib.indexByte,h2,h3]
  have h4:(((l.length:Int)) == -1)=false:=by rw[beq_eq_false_iff_ne];omega
  rw[h4]
  simp
theorem zdc (c:UInt8):∀xs:List UInt8,c∉xs->Lib.indexByte xs c=-1
 | [],_=>rfl
 | b::l,h=>by
  have h1:c∉l:=fun e=>h (List.mem_cons_of_mem _ e)
  have h2:(b == c)=false:=by rw[beq_eq_false_iff_ne];intro e;exact h (by rw[e];exact List.mem_cons_self)
  rw[Lib.indexByte,h2,zdc c l h1]
  simp
theorem zdy (bs:List Int):(str bs).data.toList=bs.map fun n=>UInt8.ofNat n.toNat:=by simp[str]
def zfw (bs:List Int):Prop:=∀b∈bs,b=45\/(48<=b/\b<58)
theorem zfa {bs:List Int} (h:zfw bs):(47:UInt8)∉bs.map fun n=>UInt8.ofNat n.toNat:=by
 intro hm
 rw[List.mem_map] at hm
 obtain⟨b,hb,e⟩:=hm
 have h1:=h b hb
 have h2:(UInt8.ofNat b.toNat).toNat=47:=by rw[e];rfl
 rw[UInt8.toNat_ofNat'] at h2
 omega
def zbl (u:Value) (w:World) (e:Ending) (w':World):Prop:=e=.returned u/\Below w.heap.size w w'
theorem zlW (xs cs:List Int) (h:zfw xs) (hl:xs.length<=1000000000) (hl2:cs.length<=1000000000) (w:World):
  Calls Tryz.prog 175 #[.string (str (xs++47::cs)),.string ⟨#[47]⟩] w (zbl (.tuple #[.string (str xs),.string (str cs),.bool true]) w):=by
 have hi:Lib.indexByte (str (xs++47::cs)).data.toList 47=xs.length:=by
  rw[zdy,List.map_append,List.map_cons]
  have:=zdY 47 (cs.map fun n=>UInt8.ofNat n.toNat) (xs.map fun n=>UInt8.ofNat n.toNat) (zfa h)
  rw[List.length_map] at this
  exact this
 obtain⟨S,hS⟩:∃S,S=str (xs++47::cs):=⟨_,rfl⟩
 have hz:S.size=xs.length+1+cs.length:=by rw[hS,zK];simp;omega
 have e1:∀w':World,(Instr.slice 9 (.string S) none (some (.int .i64 (xs.length:Int))) none).run Tryz.prog w'=.ok (.string (str xs)) w':=fun w'=>by
  rw[run_slice_string_h w' 9 S (by kernel_rfl) .i64 xs.length (by omega) (by omega)]
  rw[hS,zcY]
  simp
 have e2:∀w':World,(Instr.slice 9 (.string S) (some (.int .i64 ((xs.length:Int)+1))) none none).run Tryz.prog w'=.ok (.string (str cs)) w':=fun w'=>by
  rw[run_slice_string_l w' 9 S (by kernel_rfl) .i64 ((xs.length:Int)+1) (by omega) (by omega)]
  rw[hS,zcY,show ((xs.length:Int)+1).toNat=xs.length+1 by omega,<-hS,hz]
  rw[show (xs++47::cs).drop (xs.length+1)=cs by rw[show xs++47::cs=(xs++[47])++cs by simp,List.drop_left' (by simp)]]
  rw[List.take_of_length_le (by omega)]
 rw[<-hS] at hi ⊢
 clear hS
 have H:=hide (ai hi hz);clear hi hz
 go_enter Tryz.func175,Tryz.ntmps175
 go_wp2_with (go_at_call 200;refine(zf6 _ _ _).mono ?_;rintro e w' ⟨rfl,rfl⟩;rw[H.out.1])
 go_region
 go_wp2
 go_ret3
 exact⟨rfl,(blr _ _).drew⟩
theorem zne (xs cs:List Int) (h:zfw xs) (hl:xs.length<=1000000000) (hl2:cs.length<=1000000000) (w:World):
  Calls Tryz.prog 131 #[.string (str (xs++47::cs)),.string ⟨#[47]⟩] w (zbl (.tuple #[.string (str xs),.string (str cs),.bool true]) w):=by
 go_enter Tryz.func131,Tryz.ntmps131
 go_wp2_with fail
 refine(zlW xs cs h hl hl2 _).mono ?_
 rintro e w' ⟨rfl,hb⟩
 go_wp2
 go_ret3
 exact⟨rfl,hb⟩
theorem zkK (xs:List Int) (h:zfw xs) (w:World):
  Calls Tryz.prog 175 #[.string (str xs),.string ⟨#[47]⟩] w (zbl (.tuple #[.string (str xs),.string ⟨#[]⟩,.bool false]) w):=by
 have hi:Lib.indexByte (str xs).data.toList 47=-1:=by
  rw[zdy]
  exact zdc 47 _ (zfa h)
 have H:=hide hi;clear hi
 go_enter Tryz.func175,Tryz.ntmps175
 go_wp2_with (go_at_call 200;refine(zf6 _ _ _).mono ?_;rintro e w' ⟨rfl,rfl⟩;rw[H.out])
 go_ret3
 exact⟨rfl,blr _ _⟩
theorem zlX (xs:List Int) (h:zfw xs) (w:World):
  Calls Tryz.prog 131 #[.string (str xs),.string ⟨#[47]⟩] w (zbl (.tuple #[.string (str xs),.string ⟨#[]⟩,.bool false]) w):=by
 go_enter Tryz.func131,Tryz.ntmps131
 go_wp2_with fail
 refine(zkK xs h _).mono ?_
 rintro e w' ⟨rfl,hb⟩
 go_wp2
 go_ret3
 exact⟨rfl,hb⟩
theorem zfb (bs:List Int) (w:World):
  Calls Tryz.prog 134 #[.string (str (45::bs)),.string ⟨#[45]⟩] w (zbl (.string (str bs)) w):=by
 refine(zhp _ _ w).mono ?_
 rintro e w' ⟨rfl,rfl⟩
 refine⟨?_,blr _ _⟩
 congr 2
theorem zcZ (b:Int) (bs:List Int) (h0:48<=b) (h1:b<58) (w:World):
  Calls Tryz.prog 134 #[.string (str (b::bs)),.string ⟨#[45]⟩] w (zbl (.string (str (b::bs))) w):=by
 refine(zhp _ _ w).mono ?_
 rintro e w' ⟨rfl,rfl⟩
 refine⟨?_,blr _ _⟩
 have hb:((45:UInt8) == UInt8.ofNat b.toNat)=false:=by
  rw[beq_eq_false_iff_ne]
  intro e
  have h2:(UInt8.ofNat b.toNat).toNat=45:=by rw[<-e];rfl
  rw[UInt8.toNat_ofNat'] at h2
  omega
 congr 2
 rw[zdy]
 simp[Lib.trimPrefix,Lib.hasPrefix,str]
 simpa using hb
theorem zf7 (P:Program) (t:TypeId) (ds:List Int) (hd:Digs ds) (i:Nat) (hi:i<ds.length) (h:P.underlying t=some .string) (w:World):
  (Instr.index t (.string (str ds)) (.int .i64 (i:Int))).run P w=.ok (.int .u8 (ds.getD i 0)) w:=by
 have hz:=zK ds
 rw[run_index_string w t (str ds) .i64 i h,dif_pos (by omega)]
 obtain⟨h1,h2,h3⟩:=ziI ds i (by omega) hd
 have e:((((str ds)[((i:Nat):Int).toNat]'(by omega)).toNat:Nat):Int)=ds.getD i 0:=by
  have:((i:Nat):Int).toNat=i:=by omega
  simp only[this]
  rw[h1];omega
 rw[e]
theorem zep (s ds:List Int) (hd:Digs ds) (h0:0<ds.length) (hl:ds.length<=1000000000) (hb:ds.getD 0 0≠48)
  (ht:∀w,Calls Tryz.prog 134 #[.string (str s),.string ⟨#[45]⟩] w (zbl (.string (str ds)) w)) (w:World):
  Calls Tryz.prog 132 #[.string (str s)] w (zbl (.bool true) w):=by
 have hsz:=zK ds
 have hix:∀i:Nat,i<ds.length->∀w',(Instr.index 9 (.string (str ds)) (.int .i64 (i:Int))).run Tryz.prog w'=.ok (.int .u8 (ds.getD i 0)) w':=fun i hi w'=>zf7 _ _ ds hd i hi (by kernel_rfl) w'
 obtain⟨D,hD⟩:∃D,D=str ds:=⟨_,rfl⟩
 rw[<-hD] at hsz ht hix
 have hne:¬D.toList=[]:=by
  intro e
  have h1:D.data.toList=[]:=by rw[<-Lib.toList_data];exact e
  have h2:=Lib.size_eq D
  rw[h1,List.length_nil] at h2
  omega
 have hne2:D.toList.isEmpty=false:=by
  cases h:D.toList with
  | nil=>exact absurd h hne
  | cons a l=>rfl
 obtain⟨b,hbe⟩:∃b,b=ds.getD 0 0:=⟨_,rfl⟩
 have hi0:=fun w'=>hix 0 h0 w'
 rw[<-hbe] at hi0 hb
 have hb48:(b == 48)=false:=by rw[beq_eq_false_iff_ne];exact hb
 have hDs:D.size<=1000000000:=by omega
 have HS:=hide (ai hd (ai hix (ai hsz ht)));clear hd hix hsz ht hbe hD
 go_enter Tryz.func132,Tryz.ntmps132
 go_wp2_with fail
 refine(HS.out.2.2.2 _).mono ?_
 rintro e w1 ⟨rfl,hb1⟩
 replace hi0:=hi0 w1
 rw[show ((0:Nat):Int)=0 from rfl] at hi0
 go_wp2
 clear hi0
 go_loopw [20] (fun s20 wr=>∃i:Nat,i<=D.size/\s20=.int .i64 i/\Below w.heap.size w wr) (fun s20 _=>D.size-(intOf s20).toNat)
 case atStart=>exact⟨0,Nat.zero_le _,rfl,hb1⟩
 case round=>
  obtain⟨i,hi,rfl,hbel⟩:=hrel
  by_cases hlt:i<D.size
  ·have hxr:=HS.out.2.1 i (by have:=HS.out.2.2.1;omega) wr
   have hxb:=HS.out.1 (ds.getD i 0) (by
    have hi2:i<ds.length:=by (have:=HS.out.2.2.1;omega)
    simp[List.getD,List.getElem?_eq_getElem hi2])
   obtain⟨x,hx⟩:∃x,x=ds.getD i 0:=⟨_,rfl⟩
   rw[<-hx] at hxr hxb
   have hx1:¬x<48:=by omega
   have hx2:¬57<x:=by omega
   clear hx hxb
   go_wp2
   go_roundw
   case rel=>exact⟨i+1,by omega,by go_num,hbel⟩
   case measure=>simp[intOf];omega
  ·go_wp2
   go_ret
   exact⟨rfl,hbel⟩
theorem zgt (w:World):
  Calls Tryz.prog 132 #[.string (str [48])] w (zbl (.bool true) w):=by
 have hix:=zf7 Tryz.prog 9 [48] (by intro b hb;simp at hb;omega) 0 (by simp) (by kernel_rfl)
 have e:str [48]=⟨#[48]⟩:=rfl
 rw[e] at hix ⊢
 go_enter Tryz.func132,Tryz.ntmps132
 go_wp2_with fail
 refine(zcZ 48 [] (by omega) (by omega) _).mono ?_
 rintro e w1 ⟨rfl,hb1⟩
 go_wp2
 go_loopw [20] (fun s20 wr=>∃i:Nat,i<=1/\s20=.int .i64 i/\Below w.heap.size w wr) (fun s20 _=>1-(intOf s20).toNat)
 case atStart=>exact⟨0,Nat.zero_le _,rfl,hb1⟩
 case round=>
  obtain⟨i,hi,rfl,hbel⟩:=hrel
  by_cases hlt:i<1
  ·obtain rfl:i=0:=by omega
   go_wp2
   go_roundw
   case rel=>exact⟨1,by omega,rfl,hbel⟩
   case measure=>simp[intOf]
  ·obtain rfl:i=1:=by omega
   go_wp2
   go_ret
   exact⟨rfl,hbel⟩
theorem zaT (x:Int) (h:0<x):0<(decText x).length/\(decText x).getD 0 0≠48:=by
 have hn:=zdD x.toNat
 have hne:decOf x.toNat≠[]:=by
  intro e
  have:=zbQ x.toNat
  rw[e] at this
  simp[val] at this
  omega
 have hp:0<(decOf x.toNat).length:=List.length_pos_iff.2 hne
 have hl:=hn.last hp
 have hd:decText x=(asc (decOf x.toNat)).reverse:=by unfold decText;rw[if_neg (by omega)]
 rw[hd]
 refine⟨by rw[List.length_reverse,zau];exact hp,?_⟩
 have e:((asc (decOf x.toNat)).reverse).getD 0 0=48+(decOf x.toNat).getD ((decOf x.toNat).length-1) 0:=by
  have h1:(decOf x.toNat).length-1<(decOf x.toNat).length:=by omega
  simp[List.getD,List.getElem?_reverse,asc,hp,List.getElem?_eq_getElem h1]
 rw[e]
 omega
theorem zfc (z:Int) (hl:(intText z).length<=1000000000) (w:World):
  Calls Tryz.prog 132 #[.string (str (intText z))] w (zbl (.bool true) w):=by
 by_cases h0:z=0
 ·subst h0
  exact zgt w
 ·have hp:0<(z.natAbs:Int):=by omega
  obtain⟨h1,h2⟩:=zaT _ hp
  have hd:=zaS (z.natAbs:Int)
  unfold intText at hl ⊢
  by_cases hz:z<0
  ·rw[if_pos hz] at hl ⊢
   rw[List.length_append] at hl
   exact zep _ _ hd h1 (by omega) h2 (fun w=>zfb _ w) w
  ·rw[if_neg hz,List.nil_append] at hl ⊢
   obtain⟨b,t,e⟩:∃b t,decText (z.natAbs:Int)=b::t:=by
    cases h:decText (z.natAbs:Int) with
    | nil=>rw[h] at h1;simp at h1
    | cons b t=>exact⟨b,t,rfl⟩
   have hb:=hd b (by rw[e];exact List.mem_cons_self)
   refine zep _ _ hd h1 (by omega) h2 (fun w=>?_) w
   rw[e]
   exact zcZ b t hb.1 hb.2 w
theorem zbE (x:Int) (h:0<=x):intText x=decText x:=by
 unfold intText
 rw[if_neg (by omega),List.nil_append,show (x.natAbs:Int)=x by omega]
theorem zcF (z:Int):∃ds,Digs ds/\0<ds.length/\((intText z=ds/\0<=z/\(ds.getD 0 0=48->ds=[48]))\/(intText z=45::ds/\z<0/\ds.getD 0 0≠48)):=by
 refine⟨decText (z.natAbs:Int),zaS _,?_,?_⟩
 ·by_cases h0:z=0
  ·subst h0;simp[decText]
  ·exact(zaT _ (by omega)).1
 ·by_cases hz:z<0
  ·right
   refine⟨by unfold intText;rw[if_pos hz];rfl,hz,(zaT _ (by omega)).2⟩
  ·left
   refine⟨by unfold intText;rw[if_neg hz];rfl,by omega,fun h=>?_⟩
   by_cases h0:z=0
   ·subst h0;rfl
   ·exact absurd h (zaT _ (by omega)).2
theorem zc0 {x y:Int} (h:intText x=intText y):x=y:=by
 by_cases hx:x<0
 ·by_cases hy:y<0
  ·unfold intText at h
   rw[if_pos hx,if_pos hy] at h
   have:=zev (by omega) (by omega) (List.append_cancel_left h)
   omega
  ·exfalso
   obtain⟨ds,hd,h0,⟨h1,h2,_⟩|⟨h1,h2,_⟩⟩:=zcF y
   ·rw[h1] at h
    unfold intText at h
    rw[if_pos hx] at h
    have:=hd 45 (by rw[<-h];simp)
    omega
   ·omega
 ·by_cases hy:y<0
  ·exfalso
   obtain⟨ds,hd,h0,⟨h1,h2,_⟩|⟨h1,h2,_⟩⟩:=zcF x
   ·rw[h1] at h
    unfold intText at h
    rw[if_pos hy] at h
    have:=hd 45 (by rw[h];simp)
    omega
   ·omega
  ·rw[zbE _ (by omega),zbE _ (by omega)] at h
   exact zev (by omega) (by omega) h
theorem zeq (q:Rat) (xs cs:List Int) (hx:(47:Int)∉xs) (h:xs++47::cs=ratText q):xs=intText q.num/\cs=intText (q.den:Int)/\q.den≠1:=by
 have hn:∀z:Int,(47:Int)∉intText z:=by
  intro z hm
  obtain⟨ds,hd,h0,⟨h1,_⟩|⟨h1,_⟩⟩:=zcF z
  ·rw[h1] at hm;have:=hd _ hm;omega
  ·rw[h1] at hm
   rcases List.mem_cons.1 hm with e|e
   ·omega
   ·have:=hd _ e;omega
 unfold ratText at h
 by_cases h1:q.den=1
 ·exfalso
  rw[if_pos h1,List.append_nil] at h
  exact hn _ (by rw[<-h];simp)
 ·rw[if_neg h1] at h
  have key:∀(xs ys us vs:List Int),(47:Int)∉xs->(47:Int)∉ys->xs++47::us=ys++47::vs->xs=ys/\us=vs:=by
   intro xs
   induction xs with
   | nil=>
    intro ys us vs _ hy e
    cases ys with
    | nil=>simpa using e
    | cons y ys=>simp at e hy;exact absurd e.1 hy.1
   | cons x xs ih=>
    intro ys us vs hx hy e
    cases ys with
    | nil=>simp at e hx;exact absurd e.1.symm hx.1
    | cons y ys=>
     simp only[List.cons_append,List.cons.injEq] at e
     simp only[List.mem_cons,not_or] at hx hy
     obtain⟨e1,e2⟩:=ih ys us vs hx.2 hy.2 e.2
     exact⟨by rw[e.1,e1],e2⟩
  obtain⟨e1,e2⟩:=key _ _ _ _ hx (hn _) h
  refine⟨e1,?_,h1⟩
  rw[e2,zbE _ (by omega)]
theorem zdF (q:Rat) (xs:List Int) (hx:(47:Int)∉xs) (h:xs=ratText q):q.den=1/\xs=intText q.num:=by
 unfold ratText at h
 by_cases h1:q.den=1
 ·rw[if_pos h1,List.append_nil] at h
  exact⟨h1,h⟩
 ·rw[if_neg h1] at h
  exact absurd (by rw[h];simp) hx
def zcs (s:ByteArray):List Int:=s.data.toList.map fun b=>(b.toNat:Int)
open Go
section
variable {P:Program} {ops:Array Oper} {Q:Exit->Act->World->Prop} {md:Region.Mode} {S:World->Prop} {os:List Nat}
theorem zz {i:Nat} {oi:Oper} {fuel:Nat} {listed:Array Bool} {a:Act} {w:World} (hi:ops[i]?=some oi)
  (hs:Region.noSelect ops=true) (hf:Region.free md ops listed i=true) (hr:(Region.ready md ops listed).contains i=true) (hwait:zfA md ops os listed i=true)
  (hQ:∀c a w,Q (.panic c) (a.put oi.dst undef) w->Q (.panic c) a w) (hw:Region.wanted oi (yielded ops a.tmps)=false) (hS:S w) (d:Option Tmp) (hd:oi.dst=d)
  (h:AnyTill P md ops Q S os fuel (listed.setIfInBounds i true) (a.put d undef) w):AnyTill P md ops Q S os (fuel+1) listed a w:=by
 subst hd
 refine zdz (T:=S) hi (Region.noSelect_spec hs) hQ (fun _ _ h=>h) fuel listed a w (fun j oj h1 h2 h3 h4=>⟨Region.free_spec hi hf j oj h1 h2 h3 h4,fun w' h5=>h5 ?_⟩) (by simpa using hr) (.inr ⟨hw,rfl⟩) hS h
 have h6:=List.all_eq_true.1 hwait j (List.mem_range.2 (Array.getElem?_eq_some_iff.1 h1).1)
 simp only[Bool.or_eq_true,decide_eq_true_eq] at h6
 rcases h6 with ((h6|h6)|h6)|h6
 ·rw[h3] at h6;cases h6
 ·exact absurd h6 h2
 ·exact h6
 ·obtain⟨o',ho',e,he,hb,hon⟩:=Region.waitsFor_spec h6
  rw[h1] at ho'
  injection ho' with ho'
  subst ho'
  exact absurd hon (h4 e he hb)
end
theorem zer:∀(bs:List Int),(47:Int)∈bs->∃xs cs,bs=xs++47::cs/\(47:Int)∉xs
 | b::bs,h=>by
  by_cases hb:b=47
  ·subst hb;exact⟨[],bs,rfl,by simp⟩
  ·rcases List.mem_cons.1 h with e|e
   ·exact absurd e.symm hb
   ·obtain⟨xs,cs,rfl,hx⟩:=zer bs e
    refine⟨b::xs,cs,rfl,?_⟩
    rw[List.mem_cons]
    rintro(e|e)
    ·exact hb e.symm
    ·exact hx e
end Go.Proofs.YtpoahodnakhmiaaGreat
