/-
  facetroomref12: renamed, exprs: names replaced by two lists of names.
-/
import Derived.Test.YtmopichdofgndaaGreatDoorJnBa
import Derived.Test.YtmopichdofgndaaGreatDoorJnCl
set_option linter.unusedVariables false
set_option linter.unusedSimpArgs false
set_option maxHeartbeats 1600000
set_option maxRecDepth 100000
namespace Go.Proofs.YtmopichdofgndaaGreatDoor
open Go.RowKit Go.Shelf

theorem ba_eq {a b:ByteArray}:(a.toList==b.toList)=true↔a=b:=by
 rw[beq_iff_eq,toList_data]
 refine⟨fun h=>?_,fun h=>by rw[h]⟩
 have h2:a.data=b.data:=Array.toList_inj.1 h
 cases a;cases b;simp at h2;rw[h2]
def TxSl (w:World) (T:Nat→Prop) (l:List ByteArray) (A:Option Addr) (c:Nat):Prop:=
 l.length≤c∧c≤9223372036854775807∧(0 < l.length→∃b o,A=some ⟨b,o,none⟩∧T b∧∀(i:Nat) (s:ByteArray),l[i]?=some s→w.cell? ⟨b,o+i,none⟩=some (.string s))
theorem TxSl.keep {w w':World} {T T':Nat→Prop} {l:List ByteArray} {A:Option Addr} {c:Nat} (h:TxSl w T l A c) (hT:∀b,T b→T' b) (hs:SameS T w w'):TxSl w' T' l A c:=
 ⟨h.1,h.2.1,fun hp=>by
  obtain⟨b,o,e,hb,hh⟩:=h.2.2 hp
  exact⟨b,o,e,hT _ hb,fun i s hi=>((hs ⟨b,o+i,none⟩ hb).1).trans (hh i s hi)⟩⟩
def renL:List ByteArray→List ByteArray→ByteArray→ByteArray
 |f::fs,t::ts,nm=>if f=nm then t else renL fs ts nm
 |_,_,nm=>nm
theorem renL_at:∀ {fs ts:List ByteArray} {nm:ByteArray} {i:Nat} {t:ByteArray},(∀(j:Nat) (s:ByteArray),j < i→fs[j]?=some s→s≠nm)→fs[i]?=some nm→ts[i]?=some t→renL fs ts nm=t
 |f::fs,t0::ts,nm,0,t,_,h1,h2=>by
  simp only[List.getElem?_cons_zero,Option.some.injEq]at h1 h2
  simp[renL,h1,h2]
 |f::fs,t0::ts,nm,i+1,t,hb,h1,h2=>by
  have h0:=hb 0 f (by omega) rfl
  simp only[List.getElem?_cons_succ]at h1 h2
  simp only[renL,if_neg h0]
  exact renL_at (i:=i) (fun j s hj hs=>hb (j+1) s (by omega) (by simpa using hs)) h1 h2
 | [],_,_,_,_,_,h1,_=>by simp at h1
 |_::_, [],_,_,_,_,_,h2=>by simp at h2
theorem renL_no:∀ {fs ts:List ByteArray} {nm:ByteArray},(∀(j:Nat) (s:ByteArray),fs[j]?=some s→s≠nm)→renL fs ts nm=nm
 | [],ts,nm,_=>by cases ts<;>rfl
 |f::fs, [],nm,_=>rfl
 |f::fs,t::ts,nm,h=>by
  simp only[renL,if_neg (h 0 f rfl)]
  exact renL_no fun j s hs=>h (j+1) s (by simpa using hs)
structure NmR (w:World) (T:Nat→Prop) (n:Nms) (fs ts:List ByteArray) (Af:Option Addr) (cf:Nat) (At:Option Addr) (ct:Nat):Prop where
 from_:TxSl w T fs Af cf
 to_:TxSl w T ts At ct
 len:fs.length=ts.length
 says:∀nm,renL fs ts nm=ofN n nm
theorem NmR.keep {w w':World} {T T':Nat→Prop} {n:Nms} {fs ts:List ByteArray} {Af At:Option Addr} {cf ct:Nat} (h:NmR w T n fs ts Af cf At ct) (hT:∀b,T b→T' b) (hs:SameS T w w'):NmR w' T' n fs ts Af cf At ct:=
 ⟨h.from_.keep hT hs,h.to_.keep hT hs,h.len,h.says⟩
theorem renamed_any (n:Nms) (fs ts:List ByteArray) (Af At:Option Addr) (cf ct:Nat) (T:Nat→Prop) (nm:ByteArray) (w:World) (hx:NmR w T n fs ts Af cf At ct) (hB:∀b,T b→b < w.heap.size):
  Calls Tryz.prog 94 #[.string nm,.slice Af fs.length cf,.slice At ts.length ct] w fun e w'=>e= .returned (.string (ofN n nm))∧w'=w:=by
 have hlf:=leq9 hx.from_.1 hx.from_.2.1
 rw[←hx.len]
 have HX:=hdq hx
 obtain⟨m,hm⟩:=nmq fs.length
 rw[←hm]at hlf ⊢
 have HM:=hdq hm
 have hct:m≤ct:=by rw[hm,hx.len];exact hx.to_.1
 have hcf:m≤cf:=by rw[hm];exact hx.from_.1
 obtain⟨out,hout⟩:=nmq (ofN n nm)
 rw[←hout]
 have HO:=hdq (show renL fs ts nm=out by rw[hx.says,hout])
 clear hx hm hout
 go_enter Tryz.func94,Tryz.ntmps94
 go_wp2_with fail
 go_loop [7] (fun i=>∃k:Nat,k≤m∧i= .int .i64 k∧Hid (∀(j:Nat) (s:ByteArray),j < k→fs[j]?=some s→s≠nm)) (fun i=>m - (intOf i).toNat)
 case atStart=>exact⟨0,Nat.zero_le _,rfl,hdq fun j s hj=>absurd hj (by omega)⟩
 case round=>
  obtain⟨k,hk,rfl,hall⟩:=hrel
  by_cases hlt:k < m
  ·obtain⟨s,hs⟩:∃s,fs[k]?=some s:=⟨_,List.getElem?_eq_getElem (by rw[←HM.out];exact hlt)⟩
   obtain⟨t,ht⟩:∃s,ts[k]?=some s:=⟨_,List.getElem?_eq_getElem (by rw[←HX.out.len,←HM.out];exact hlt)⟩
   obtain⟨b,o,rfl,hb,hat⟩:=HX.out.from_.2.2 (by rw[←HM.out];omega)
   obtain⟨b',o',rfl,hb',hat'⟩:=HX.out.to_.2.2 (by rw[←HX.out.len,←HM.out];omega)
   have c0:=hat k s hs
   have c1:=hat' k t ht
   have bl:b < w.heap.size:=hB _ hb
   have bl':b' < w.heap.size:=hB _ hb'
   by_cases hsn:s=nm
   ·subst hsn
    have hsb:(s.toList==s.toList)=true:=by simp
    have HF:=hdq (show out=t by rw[←HO.out];exact renL_at hall.out hs ht)
    clear hs ht hat hat' hall
    go_wp2_with fail
    go_ret
    exact⟨by rw[HF.out];rfl,rfl⟩
   ·have HN:=hdq (show ∀(j:Nat) (z:ByteArray),j < k+1→fs[j]?=some z→z≠nm from fun j z hj hz=>by
     by_cases hjk:j < k
     ·exact hall.out j z hjk hz
     ·obtain rfl:j=k:=by omega
      rw[hs]at hz
      rw[←Option.some.inj hz]
      exact hsn)
    have hsb:(s.toList==nm.toList)=false:=by rw[Bool.eq_false_iff];intro h;exact hsn (ba_eq.1 h)
    clear hs ht hat hat' hall
    go_wp2_with fail
    go_round
    case rel=>exact⟨k+1,by omega,by go_num,HN⟩
    case measure=>simp[intOf];omega
  ·have HF:=hdq (show out=nm by
    rw[←HO.out]
    exact renL_no fun j s hs=>hall.out j s (by have:=(List.getElem?_eq_some_iff.1 hs).1;rw[←HM.out]at this;omega) hs)
   clear hall
   go_wp2_with fail
   go_ret
   exact⟨by rw[HF.out];rfl,rfl⟩

structure RxX (n:Nms) (W:World) (xs:Exs) (v:Value) (wr:World) (acc:List Ex) (cs:List Value) (k:Nat):Prop where
 row:wr.ownsRow W.heap.size 41 5 v acc.length cs
 rows:RowR oneX wr (NewR W.heap.size v wr) acc cs
 fr:Fr NoT W wr
 eq:exApp acc (exprN n (Exs.drop k xs))=exprN n xs
 len:acc.length=k
def R2xC (xs:Exs):Prop:=∀(n:Nms) (W:World) (S:Nat→Prop) (Z:Prop) (A:Option Addr) (c:Nat) (fs ts:List ByteArray) (Af At:Option Addr) (cf ct:Nat) (T:Nat→Prop),(∀b,S b→b < W.heap.size)→(∀b,T b→b < W.heap.size)→NmR W T n fs ts Af cf At ct→SlR (fun b o=>ExR W S Z xs b o) xs.len 64 A c→Calls Tryz.prog 95 #[.slice A xs.len c,.slice Af fs.length cf,.slice At ts.length ct] W (BxP (exprN n xs) W)
def R2xI (xs:Exs):Prop:=∀(i:Nat) (a0:Int) (a1:ByteArray) (a2:Int) (a3:Exs) (a4:Int) (ar:Exs),Exs.drop i xs= .cons a0 a1 a2 a3 a4 ar→R2xC a3
theorem r2x_one (xs:Exs) (hall0:R2xI xs):R2xC xs:=by
 intro n w S Z A c fs ts Af At cf ct T hS hB hnm hx
 have HNM:=hdq hnm
 obtain⟨nf,hnf⟩:=nmq fs.length
 obtain⟨nt,hnt⟩:=nmq ts.length
 rw[←hnf,←hnt]
 have HNF:=hdq (aiq hnf hnt)
 obtain⟨i0,hi,hz0,hz1,hz2⟩:=info_parts infoEx
 have HI:=hdq (aiq hi (aiq hz0 (aiq hz1 hz2)))
 have hl:xs.len≤9223372036854775807:=leq9 hx.1 hx.2.1.1
 have HA:=hdq hall0
 have HX:=hdq hx
 have HS:=hdq hS
 obtain⟨m,hm⟩:=nmq xs.len
 have HBIG:=hdq (show m*64≤140737488355328 from by rw[hm];exact hx.2.1.2)
 rw[←hm]at hl ⊢
 have HM:=hdq hm
 have HU0:=hdq (show RxX n w xs (.slice none 0 0) w [] [] 0 from⟨World.ownsRow_nil _ _ _ _,rfl,Fr.refl _ _,rfl,rfl⟩)
 clear hall0 hx hS hm hi hz0 hz1 hz2 hnm hnf hnt
 go_enter Tryz.func95,Tryz.ntmps95
 go_wp2_with fail
 go_loopw [7,8] (fun v i wr=>∃k:Nat,k≤m∧i= .int .i64 k∧∃(acc:List Ex) (cs:List Value),Hid (RxX n w xs v wr acc cs k)) (fun v i _=>m - (intOf i).toNat)
 case atStart=>exact⟨0,Nat.zero_le _,rfl, [], [],HU0⟩
 case round=>
  clear HU0
  obtain⟨k,hk,rfl,acc,cs,hb⟩:=hrel
  by_cases hlt:k < m
  ·obtain⟨a0,a1,a2,a3,a4,ar,hd⟩:=Exs.drop_cons (show k < xs.len from by rw[←HM.out];exact hlt)
   obtain⟨b,o,rfl,hat⟩:=HX.out.2.2 (by rw[←HM.out];omega)
   have hat1:=(ExR.keep (hb.out.fr.same fun b hb=>⟨HS.out b hb,id⟩) hat).drop k
   rw[hd]at hat1
   obtain⟨⟨hbS,_,r0,r1,r2,c0,c1,c2,c4⟩,⟨A3,q3,c3,s3⟩,_⟩:=hat1
   have hxr:b < wr.heap.size:=ltq (HS.out _ hbS) hb.out.fr.size
   have hlt':(k:Int) < (m:Int):=by omega
   have hge:(0:Int)≤(k:Int):=by omega
   obtain⟨l3,hl3⟩:=nmq a3.len
   rw[←hl3]at c3
   obtain⟨w5,hw5⟩:=nmq (wr.alloc (.cells #[.int .u8 a0,.string a1,.int .i64 a2,.slice A3 l3 q3,.int .i64 a4] 41))
   have hf5:Fr NoT wr w5:=by rw[hw5];exact(Fr.refl _ _).alloc _
   have hk5:Bk w5 wr.heap.size 41 #[.int .u8 a0,.string a1,.int .i64 a2,.slice A3 l3 q3,.int .i64 a4]:=by
    rw[hw5];exact Bk.new _ _ _
   have h7:=fun(W:World) (hW:Fr NoT wr W)=>HA.out k a0 a1 a2 a3 a4 ar hd n W S Z A3 q3 fs ts Af At cf ct T (fun b h=>ltq (ltq (HS.out b h) hb.out.fr.size) hW.size) (fun b h=>ltq (hB b h) (hb.out.fr.trans hW).size) (HNM.out.keep (fun _ h=>h) ((hb.out.fr.trans hW).same fun b h=>⟨hB b h,id⟩)) (s3.imp fun _ _ hx=>ExR.keep (hW.same fun b h=>⟨ltq (HS.out b h) hb.out.fr.size,id⟩) hx)
   have h6:=renamed_any n fs ts Af At cf ct T a1 w5 (HNM.out.keep (fun _ h=>h) ((hb.out.fr.trans hf5).same fun b h=>⟨hB b h,id⟩)) (fun b h=>ltq (hB b h) (hb.out.fr.trans hf5).size)
   rw[←HNF.out.1,←HNF.out.2]at h6
   rw[←hl3,←HNF.out.1,←HNF.out.2]at h7
   have H6:=hdq h6
   have H70:=hdq h7
   have HD:=hdq hd
   have HK5:=hdq hk5
   have HF5:=hdq hf5
   have HW5:=hdq hw5
   have HR:=hdq (aiq r0 (aiq r1 r2))
   obtain⟨nm6,hnm6⟩:=nmq (if a0=2 then ofN n a1 else a1)
   have HNM6:=hdq hnm6
   have hways:((a0==2)=true∧Hid (nm6=ofN n a1))∨((a0==2)=false∧Hid (nm6=a1)):=by
    by_cases h:a0=2
    ·exact .inl ⟨by simpa using h,by rw[hnm6,if_pos h];exact hdq rfl⟩
    ·exact .inr ⟨by simpa using h,by rw[hnm6,if_neg h];exact hdq rfl⟩
   clear hd hat hbS s3 r0 r1 r2 hl3 h7 h6 hk5 hf5 hw5 hnm6
   rcases hways with⟨h2,HN6⟩|⟨h2,HN6⟩
   case' inl=>
    go_wp2_with fail
    rw[←HW5.out]
    refine H6.out.mono ?_
    rintro _ wz ⟨rfl,hwz⟩
    rw[hwz,←HN6.out]
    clear hwz wz
    obtain⟨w6,hw6⟩:=nmq (w5.setCell ⟨wr.heap.size,1,none⟩ (.string nm6))
    have y1:=HK5.out.cell 1
    have z1:=HK5.out.frozen 1
    have yl:=HK5.out.lt
    have hk6:Bk w6 wr.heap.size 41 #[.int .u8 a0,.string nm6,.int .i64 a2,.slice A3 l3 q3,.int .i64 a4]:=by
     have:=HK5.out.set_ 1 (.string nm6)
     rw[hw6]
     simpa using this
    have hf6:Fr NoT wr w6:=by rw[hw6];exact Fr.high HF5.out (lrq _) _ _
    have y3:w6.cell? ⟨wr.heap.size,3,none⟩=some (.slice A3 l3 q3):=by
     have:=hk6.cell 3
     simpa using this
    rw[hw6]at y3
    simp only[getsL]at y1
    have HK6:=hdq hk6
    have HF6:=hdq hf6
    have HW6:=hdq hw6
    have H7:=hdq (H70.out w6 hf6)
    clear hk6 hf6 hw6 HW5 c0 c1 c2 c3 c4 hxr
    go_wp2_with fail
    rw[←HW6.out]
    clear y1 z1 yl y3
   case' inr=>
    obtain⟨w6,hw6⟩:=nmq w5
    have HK6:=hdq (show Bk w6 wr.heap.size 41 #[.int .u8 a0,.string nm6,.int .i64 a2,.slice A3 l3 q3,.int .i64 a4] by rw[hw6,HN6.out];exact HK5.out)
    have HF6:=hdq (show Fr NoT wr w6 by rw[hw6];exact HF5.out)
    have HW6:=hdq hw6
    have H7:=hdq (H70.out w6 HF6.out)
    clear hw6
    go_wp2_with fail
    rw[←HW5.out,←HW6.out]
    clear c0 c1 c2 c3 c4 hxr HW5
   all_goals
    refine H7.out.mono ?_
    rintro _ w7 ⟨A4,q4,rfl,s4,hf7⟩
    have hk7:=HK6.out.fr0 hf7
    have x0:=hk7.cell 0
    have x1:=hk7.cell 1
    have x2:=hk7.cell 2
    have x3:=hk7.cell 3
    have x4:=hk7.cell 4
    have z3:=hk7.frozen 3
    have xl:=hk7.lt
    simp only[getsL]at x0 x1 x2 x3 x4
    obtain⟨l4,hl4⟩:=nmq ((exprN n a3).len )
    rw[←hl4]
    have HL4:=hdq hl4
    -- the world ahead of the append
    obtain⟨w8,hw8⟩:=nmq (w7.setCell ⟨wr.heap.size,3,none⟩ (.slice A4 l4 q4))
    obtain⟨w9,hw9⟩:=nmq (w8.alloc (.cells #[.int .u8 a0,.string nm6,.int .i64 a2,.slice A4 l4 q4,.int .i64 a4] 41))
    have hf79:Fr (fun b=>b=wr.heap.size) w7 w9:=by rw[hw9,hw8];exact(Fr.own (Fr.refl _ _) 3 _).alloc _
    have hf9:Fr NoT wr w9:=by rw[hw9,hw8];exact(Fr.high (HF6.out.trans hf7) (lrq _) _ _).alloc _
    have hk9:Bk w9 w7.heap.size 41 ([.int .u8 a0,.string nm6,.int .i64 a2,.slice A4 l4 q4,.int .i64 a4]:List Value).toArray :=by rw[hw9];exact Bk.new_at _ _ _ (by rw[hw8];simp)
    have hrow9:=World.ownsRow.kept (w':=w9) hb.out.row (row:=none) ⟨hf9.os,hf9.tape,hf9.output,hf9.size,fun i hi _=>hf9.block i hi id⟩ (Classical.em _)
    have HROW9:=hdq hrow9
    have HK9:=hdq hk9
    have HF79:=hdq hf79
    have HF9:=hdq hf9
    have HF7:=hdq hf7
    have HS4:=hdq s4
    have hz9:w.heap.size≤w9.heap.size:=leq9 hb.out.fr.size hf9.size
    have hbig:(acc.length+1)*64≤140737488355328:=by have:=HBIG.out;have:=hb.out.len;omega
    have hacc:acc.length+1≤9223372036854775807:=by have:=hb.out.len;omega
    have HW9:=hdq hw9
    have HW8:=hdq hw8
    clear hl4 hw8 hw9 hf79 hf9 hk9 hrow9 hk7 hf7 s4
    go_wp2_with (at_builtin;rw[←HW8.out,←HW9.out];refine wpList_append_spot _ rfl _ _ 36 rfl w.heap.size 41 i0 (.agg #[.int .u8 0,.string ⟨#[]⟩,.int .i64 0,.slice none 0 0,.int .i64 0]) 5 64 Tryz.underlying36 HI.out.1 HI.out.2.1 HI.out.2.2.1 HI.out.2.2.2 rfl (by decide) _ _ _ rfl HROW9.out ⟨w7.heap.size,0,none⟩ 1 1 _ rfl rfl HK9.out.newsL ?c2 (by decide) ?c3 hbig hz9 ?_)
    case c2=>
     intro u hu
     simp only[List.mem_cons,List.not_mem_nil,or_false]at hu
     rcases hu with rfl|rfl|rfl|rfl|rfl<;>rfl
    case c3=>unfold maxLen;omega
    intro v' w10 hown hgrow hspot
    have hz57:wr.heap.size < w7.heap.size:=xl
    have hst:=RowR.step oneX_keep hb.out.row hb.out.fr.size hb.out.rows HF9.out (y:=(⟨a0,nm6,a2,exprN n a3,a4⟩:Ex)) (zs:= [.int .u8 a0,.string nm6,.int .i64 a2,.slice A4 l4 q4,.int .i64 a4])
     ⟨A4,q4,by rw[HL4.out],HR.out.1,HR.out.2.1,HR.out.2.2,HS4.out.imp fun _ _ h=>ExR.more (fun b hb=>⟨by have h1:=hb.1;have:=HF6.out.size;omega,by have h2:=hb.2;have:=HF79.out.size;omega⟩) (ExR.keep (HF79.out.same fun b hb=>⟨hb.2,fun e=>by have e:b=wr.heap.size:=e;have h1:=hb.1;have:=HK6.out.lt;omega⟩) h)⟩ hgrow hspot
    have hlen:(acc++ [(⟨a0,nm6,a2,exprN n a3,a4⟩:Ex)]).length =acc.length+1:=by simp
    have HNX:=hdq (show RxX n w xs v' w10 (acc++ [⟨a0,nm6,a2,exprN n a3,a4⟩]) (cs++ [.int .u8 a0,.string nm6,.int .i64 a2,.slice A4 l4 q4,.int .i64 a4]) (k+1)from
     ⟨by rw[hlen];exact hown,hst.1,Fr.back1 hb.out.fr hst.2 (lrq _),by
      rw[exApp_snoc,Exs.drop_succ k xs HD.out,←hb.out.eq,HD.out,HNM6.out];rfl,by rw[hlen,hb.out.len]⟩)
    clear hown hgrow hspot hst hlen hbig hacc hz9 x0 x1 x2 x3 x4 z3 xl
    go_wp2_with fail
    go_roundw
    case rel=>exact⟨k+1,by omega,by go_num,_,_,HNX⟩
    case measure=>simp[intOf];omega
  ·have hlt':¬(k:Int) < (m:Int):=by omega
   have hkm:k=m:=by omega
   have hle:(exprN n xs).len =acc.length:=by rw[exprN_len,←HM.out,hb.out.len,hkm]
   have heq:exprN n xs=exsOf acc:=by
    rw[←exApp_nil,←hb.out.eq,Exs.drop_nil (by rw[←HM.out];omega)];rfl
   obtain⟨A',c',he,hsl⟩:=RowR.slice oneX_keep (sz:=64) hb.out.row hb.out.rows (by rw[hb.out.len,hkm];exact HBIG.out) (P:=fun b o=>ExR wr (New w.heap.size wr) True (exprN n xs) b o) fun g hg hr hc=>by
    rw[heq];exact rowX (o:=0) hg hr fun j u hj=>by rw[Nat.zero_add];exact hc j u hj
   have HE:=hdq he
   have HSL:=hdq hsl
   have HLE:=hdq hle
   clear heq hle he hsl
   go_wp2_with fail
   go_ret
   refine⟨A',c',?_,?_,hb.out.fr⟩
   ·rw[HLE.out,HE.out];rfl
   ·rw[HLE.out];exact HSL.out
theorem r2xi_all:∀xs:Exs,R2xI xs
 | .nil,i,_,_,_,_,_,_,h=>by cases i<;>simp[Exs.drop]at h
 | .cons k nm n args at_ rest,0,a0,a1,a2,a3,a4,ar,h=>by
  simp only[Exs.drop,Exs.cons.injEq]at h
  obtain⟨_,_,_,rfl,_,_⟩:=h
  exact r2x_one _ (r2xi_all _)
 | .cons k nm n args at_ rest,i+1,a0,a1,a2,a3,a4,ar,h=>by
  simp only[Exs.drop]at h
  exact r2xi_all rest i a0 a1 a2 a3 a4 ar h
theorem r2exprs_any (xs:Exs):R2xC xs:=r2x_one xs (r2xi_all xs)

structure RcX (n:Nms) (W:World) (xs:Cds) (v:Value) (wr:World) (acc:List Cn) (cs:List Value) (k:Nat):Prop where
 row:wr.ownsRow W.heap.size 160 4 v acc.length cs
 rows:RowR oneC wr (NewR W.heap.size v wr) acc cs
 fr:Fr NoT W wr
 eq:cnApp acc (condN n (Cds.drop k xs))=condN n xs
 len:acc.length=k
def R2cC (xs:Cds):Prop:=∀(n:Nms) (W:World) (S:Nat→Prop) (Z:Prop) (A:Option Addr) (c:Nat) (fs ts:List ByteArray) (Af At:Option Addr) (cf ct:Nat) (T:Nat→Prop),(∀b,S b→b < W.heap.size)→(∀b,T b→b < W.heap.size)→NmR W T n fs ts Af cf At ct→SlR (fun b o=>CdR W S Z xs b o) xs.len 64 A c→Calls Tryz.prog 96 #[.slice A xs.len c,.slice Af fs.length cf,.slice At ts.length ct] W (BcP (condN n xs) W)
def R2cI (xs:Cds):Prop:=∀(i:Nat) (a0:Int) (a1:Exs) (a2:Cds) (a3:Int) (ar:Cds),Cds.drop i xs= .cons a0 a1 a2 a3 ar→R2cC a2
theorem r2c_one (xs:Cds) (hall0:R2cI xs):R2cC xs:=by
 intro n w S Z A c fs ts Af At cf ct T hS hB hnm hx
 have HNM:=hdq hnm
 obtain⟨nf,hnf⟩:=nmq fs.length
 obtain⟨nt,hnt⟩:=nmq ts.length
 rw[←hnf,←hnt]
 have HNF:=hdq (aiq hnf hnt)
 obtain⟨i0,hi,hz0,hz1,hz2⟩:=info_parts infoCd
 have HI:=hdq (aiq hi (aiq hz0 (aiq hz1 hz2)))
 have hl:xs.len≤9223372036854775807:=leq9 hx.1 hx.2.1.1
 have HA:=hdq hall0
 have HX:=hdq hx
 have HS:=hdq hS
 obtain⟨m,hm⟩:=nmq xs.len
 have HBIG:=hdq (show m*64≤140737488355328 from by rw[hm];exact hx.2.1.2)
 rw[←hm]at hl ⊢
 have HM:=hdq hm
 have HU0:=hdq (show RcX n w xs (.slice none 0 0) w [] [] 0 from⟨World.ownsRow_nil _ _ _ _,rfl,Fr.refl _ _,rfl,rfl⟩)
 clear hall0 hx hS hm hi hz0 hz1 hz2 hnm hnf hnt
 go_enter Tryz.func96,Tryz.ntmps96
 go_wp2_with fail
 go_loopw [7,8] (fun v i wr=>∃k:Nat,k≤m∧i= .int .i64 k∧∃(acc:List Cn) (cs:List Value),Hid (RcX n w xs v wr acc cs k)) (fun v i _=>m - (intOf i).toNat)
 case atStart=>exact⟨0,Nat.zero_le _,rfl, [], [],HU0⟩
 case round=>
  clear HU0
  obtain⟨k,hk,rfl,acc,cs,hb⟩:=hrel
  by_cases hlt:k < m
  ·obtain⟨a0,a1,a2,a3,ar,hd⟩:=Cds.drop_cons (show k < xs.len from by rw[←HM.out];exact hlt)
   obtain⟨b,o,rfl,hat⟩:=HX.out.2.2 (by rw[←HM.out];omega)
   have hat1:=(CdR.keep (hb.out.fr.same fun b hb=>⟨HS.out b hb,id⟩) hat).drop k
   rw[hd]at hat1
   obtain⟨⟨hbS,_,r0,r1,c0,c3⟩,⟨Aa1,qa1,c1,sa1⟩,⟨Aa2,qa2,c2,sa2⟩,_⟩:=hat1
   have hxr:b < wr.heap.size:=ltq (HS.out _ hbS) hb.out.fr.size
   have hlt':(k:Int) < (m:Int):=by omega
   have hge:(0:Int)≤(k:Int):=by omega
   obtain⟨la1,hla1⟩:=nmq a1.len
   rw[←hla1]at c1
   obtain⟨la2,hla2⟩:=nmq a2.len
   rw[←hla2]at c2
   obtain⟨w5,hw5⟩:=nmq (wr.alloc (.cells #[.int .u8 a0,.slice Aa1 la1 qa1,.slice Aa2 la2 qa2,.int .i64 a3] 160))
   have hf5:Fr NoT wr w5:=by rw[hw5];exact(Fr.refl _ _).alloc _
   have hk5:Bk w5 wr.heap.size 160 #[.int .u8 a0,.slice Aa1 la1 qa1,.slice Aa2 la2 qa2,.int .i64 a3]:=by rw[hw5];exact Bk.new _ _ _
   have ga1:=fun(W:World) (hf:Fr NoT wr W)=>r2exprs_any a1 n W S Z Aa1 qa1 fs ts Af At cf ct T (fun b h=>ltq (ltq (HS.out b h) hb.out.fr.size) hf.size) (fun b h=>ltq (hB b h) (hb.out.fr.trans hf).size) (HNM.out.keep (fun _ h=>h) ((hb.out.fr.trans hf).same fun b h=>⟨hB b h,id⟩)) (sa1.imp fun _ _ hx=>ExR.keep (hf.same fun b h=>⟨ltq (HS.out b h) hb.out.fr.size,id⟩) hx)
   rw[←hla1,←HNF.out.1,←HNF.out.2]at ga1
   have Ga1:=hdq ga1
   have ga2:=fun(W:World) (hf:Fr NoT wr W)=>(HA.out k a0 a1 a2 a3 ar hd) n W S Z Aa2 qa2 fs ts Af At cf ct T (fun b h=>ltq (ltq (HS.out b h) hb.out.fr.size) hf.size) (fun b h=>ltq (hB b h) (hb.out.fr.trans hf).size) (HNM.out.keep (fun _ h=>h) ((hb.out.fr.trans hf).same fun b h=>⟨hB b h,id⟩)) (sa2.imp fun _ _ hx=>CdR.keep (hf.same fun b h=>⟨ltq (HS.out b h) hb.out.fr.size,id⟩) hx)
   rw[←hla2,←HNF.out.1,←HNF.out.2]at ga2
   have Ga2:=hdq ga2
   have HD:=hdq hd
   have HF0:=hdq hf5
   have HK0:=hdq hk5
   have HW5:=hdq hw5
   have HR:=hdq (aiq r0 r1)
   have HW0:Hid (Fr (fun b=>b=wr.heap.size) wr w5):=hf5.any
   clear hd hat hbS sa1 hla1 ga1 sa2 hla2 ga2 r0 r1 hf5 hk5 hw5
   go_wp2_with fail
   rw[←HW5.out]
   clear c0 c1 c2 c3 hxr
   refine(Ga1.out _ HF0.out).mono ?_
   rintro _ v0 ⟨Ba1,ea1,rfl,ta1,hf⟩
   have hk:=HK0.out.fr0 hf
   have y0:=hk.cell 0
   have y1:=hk.cell 1
   have y2:=hk.cell 2
   have y3:=hk.cell 3
   have z:=hk.frozen 1
   have x0:=hk.lt
   simp only[getsL]at y0 y1 y2 y3
   obtain⟨ma1,hma1⟩:=nmq ((exprN n a1).len )
   rw[←hma1]
   have HMa1:=hdq hma1
   obtain⟨u0,hu0⟩:=nmq (v0.setCell ⟨wr.heap.size,1,none⟩ (.slice Ba1 ma1 ea1))
   have hff:Fr NoT wr u0:=by rw[hu0];exact Fr.high (HF0.out.trans hf) (lrq _) _ _
   have hfo:Fr (fun b=>b=wr.heap.size) v0 u0:=by rw[hu0];exact Fr.own (Fr.refl _ _) 1 _
   have hkk:Bk u0 wr.heap.size 160 #[.int .u8 a0,.slice Ba1 ma1 ea1,.slice Aa2 la2 qa2,.int .i64 a3]:=by
    rw[hu0]
    have:=hk.set_ 1 (.slice Ba1 ma1 ea1)
    simpa using this
   have hpv:Fr (fun b=>b=wr.heap.size) w5 u0:=hf.any.trans hfo
   have Ta1_0:=hdq (show SlR (fun b o=>ExR u0 (New (wr.heap.size+1) u0) True (exprN n a1) b o) (exprN n a1).len 64 Ba1 ea1 from ta1.imp fun _ _ h=>ExR.more (fun b hb=>⟨by have h1:=hb.1;have:=HK0.out.lt;omega,ltq hb.2 hfo.size⟩) (ExR.keep (hfo.same fun b hb=>⟨hb.2,fun e=>by have e:b=wr.heap.size:=e;have h1:=hb.1;have:=HK0.out.lt;omega⟩) h))
   have HFF0:=hdq hff
   have HKK0:=hdq hkk
   have HWW1:=hdq hu0
   clear ta1 hf hk hff hfo hkk hpv hu0 hma1
   go_wp2_with fail
   rw[←HWW1.out]
   clear x0 z y0 y1 y2 y3
   refine(Ga2.out _ HFF0.out).mono ?_
   rintro _ v1 ⟨Ba2,ea2,rfl,ta2,hf⟩
   have hk:=HKK0.out.fr0 hf
   have y0:=hk.cell 0
   have y1:=hk.cell 1
   have y2:=hk.cell 2
   have y3:=hk.cell 3
   have z:=hk.frozen 2
   have x0:=hk.lt
   simp only[getsL]at y0 y1 y2 y3
   obtain⟨ma2,hma2⟩:=nmq ((condN n a2).len )
   rw[←hma2]
   have HMa2:=hdq hma2
   obtain⟨u1,hu1⟩:=nmq (v1.setCell ⟨wr.heap.size,2,none⟩ (.slice Ba2 ma2 ea2))
   have hff:Fr NoT wr u1:=by rw[hu1];exact Fr.high (HFF0.out.trans hf) (lrq _) _ _
   have hfo:Fr (fun b=>b=wr.heap.size) v1 u1:=by rw[hu1];exact Fr.own (Fr.refl _ _) 2 _
   have hkk:Bk u1 wr.heap.size 160 #[.int .u8 a0,.slice Ba1 ma1 ea1,.slice Ba2 ma2 ea2,.int .i64 a3]:=by
    rw[hu1]
    have:=hk.set_ 2 (.slice Ba2 ma2 ea2)
    simpa using this
   have hpv:Fr (fun b=>b=wr.heap.size) u0 u1:=hf.any.trans hfo
   have Ta1_1:=hdq (show SlR (fun b o=>ExR u1 (New (wr.heap.size+1) u1) True (exprN n a1) b o) (exprN n a1).len 64 Ba1 ea1 from Ta1_0.out.imp fun _ _ h=>ExR.more (fun b hb=>⟨hb.1,ltq hb.2 hpv.size⟩) (ExR.keep (hpv.same fun b hb=>⟨hb.2,fun e=>by have e:b=wr.heap.size:=e;have h1:=hb.1;omega⟩) h))
   have Ta2_1:=hdq (show SlR (fun b o=>CdR u1 (New (wr.heap.size+1) u1) True (condN n a2) b o) (condN n a2).len 64 Ba2 ea2 from ta2.imp fun _ _ h=>CdR.more (fun b hb=>⟨by have h1:=hb.1;have:=HKK0.out.lt;omega,ltq hb.2 hfo.size⟩) (CdR.keep (hfo.same fun b hb=>⟨hb.2,fun e=>by have e:b=wr.heap.size:=e;have h1:=hb.1;have:=HKK0.out.lt;omega⟩) h))
   have HFF1:=hdq hff
   have HKK1:=hdq hkk
   have HWW2:=hdq hu1
   clear ta2 hf hk hff hfo hkk hpv hu1 hma2
   obtain⟨w9,hw9⟩:=nmq (u1.alloc (.cells #[.int .u8 a0,.slice Ba1 ma1 ea1,.slice Ba2 ma2 ea2,.int .i64 a3] 160))
   have hz:u1.heap.size=v1.heap.size:=by rw[HWW2.out];simp
   have hf9:Fr NoT wr w9:=by rw[hw9];exact HFF1.out.alloc _
   have hk9:Bk w9 v1.heap.size 160 ([.int .u8 a0,.slice Ba1 ma1 ea1,.slice Ba2 ma2 ea2,.int .i64 a3]:List Value).toArray :=by rw[hw9];exact Bk.new_at _ _ _ hz
   have hrow9:=World.ownsRow.kept (w':=w9) hb.out.row (row:=none) ⟨hf9.os,hf9.tape,hf9.output,hf9.size,fun i hi _=>hf9.block i hi id⟩ (Classical.em _)
   have hu9:Fr NoT u1 w9:=by rw[hw9];exact(Fr.refl _ _).alloc _
   have HROW9:=hdq hrow9
   have HK9:=hdq hk9
   have HU9:=hdq hu9
   have HF9:=hdq hf9
   have HW9:=hdq hw9
   have hz9:w.heap.size≤w9.heap.size:=leq9 hb.out.fr.size hf9.size
   have hbig:(acc.length+1)*64≤140737488355328:=by have:=HBIG.out;have:=hb.out.len;omega
   have hacc:acc.length+1≤9223372036854775807:=by have:=hb.out.len;omega
   clear hw9 hf9 hk9 hrow9 hu9 hz
   go_wp2_with (at_builtin;rw[←HWW2.out,←HW9.out];refine wpList_append_spot _ rfl _ _ 37 rfl w.heap.size 160 i0 (.agg #[.int .u8 0,.slice none 0 0,.slice none 0 0,.int .i64 0]) 4 64 Tryz.underlying37 HI.out.1 HI.out.2.1 HI.out.2.2.1 HI.out.2.2.2 rfl (by decide) _ _ _ rfl HROW9.out ⟨v1.heap.size,0,none⟩ 1 1 _ rfl rfl HK9.out.newsL ?c2 (by decide) ?c3 hbig hz9 ?_)
   case c2=>
    intro u hu
    simp only[List.mem_cons,List.not_mem_nil,or_false]at hu
    rcases hu with rfl|rfl|rfl|rfl<;>rfl
   case c3=>unfold maxLen;omega
   intro v' w10 hown hgrow hspot
   have hst:=RowR.step oneC_keep hb.out.row hb.out.fr.size hb.out.rows HF9.out (y:=(⟨a0,exprN n a1,condN n a2,a3⟩:Cn)) (zs:= [.int .u8 a0,.slice Ba1 ma1 ea1,.slice Ba2 ma2 ea2,.int .i64 a3])
    ⟨Ba1,ea1,Ba2,ea2,by rw[HMa1.out,HMa2.out],HR.out.1,HR.out.2,Ta1_1.out.imp fun _ _ h=>ExR.more (fun b hb=>⟨by have h1:=hb.1;omega,ltq hb.2 HU9.out.size⟩) (ExR.keep (HU9.out.same fun b hb=>⟨hb.2,id⟩) h),Ta2_1.out.imp fun _ _ h=>CdR.more (fun b hb=>⟨by have h1:=hb.1;omega,ltq hb.2 HU9.out.size⟩) (CdR.keep (HU9.out.same fun b hb=>⟨hb.2,id⟩) h)⟩ hgrow hspot
   have hlen:(acc++ [(⟨a0,exprN n a1,condN n a2,a3⟩:Cn)]).length =acc.length+1:=by simp
   have HNX:=hdq (show RcX n w xs v' w10 (acc++ [⟨a0,exprN n a1,condN n a2,a3⟩]) (cs++ [.int .u8 a0,.slice Ba1 ma1 ea1,.slice Ba2 ma2 ea2,.int .i64 a3]) (k+1)from
    ⟨by rw[hlen];exact hown,hst.1,Fr.back1 hb.out.fr hst.2 (lrq _),by
     rw[cnApp_snoc,Cds.drop_succ k xs HD.out,←hb.out.eq,HD.out];rfl,by rw[hlen,hb.out.len]⟩)
   clear hown hgrow hspot hst hlen hbig hacc hz9 x0 z y0 y1 y2 y3
   go_wp2_with fail
   go_roundw
   case rel=>exact⟨k+1,by omega,by go_num,_,_,HNX⟩
   case measure=>simp[intOf];omega
  ·have hlt':¬(k:Int) < (m:Int):=by omega
   have hkm:k=m:=by omega
   have hle:(condN n xs).len =acc.length:=by rw[condN_len,←HM.out,hb.out.len,hkm]
   have heq:condN n xs=cdsOf' acc:=by
    rw[←cnApp_nil,←hb.out.eq,Cds.drop_nil (by rw[←HM.out];omega)];rfl
   obtain⟨A',c',he,hsl⟩:=RowR.slice oneC_keep (sz:=64) hb.out.row hb.out.rows (by rw[hb.out.len,hkm];exact HBIG.out) (P:=fun b o=>CdR wr (New w.heap.size wr) True (condN n xs) b o) fun g hg hr hc=>by
    rw[heq];exact rowC (o:=0) hg hr fun j u hj=>by rw[Nat.zero_add];exact hc j u hj
   have HE:=hdq he
   have HSL:=hdq hsl
   have HLE:=hdq hle
   clear heq hle he hsl
   go_wp2_with fail
   go_ret
   refine⟨A',c',?_,?_,hb.out.fr⟩
   ·rw[HLE.out,HE.out];rfl
   ·rw[HLE.out];exact HSL.out
theorem r2ci_all:∀xs:Cds,R2cI xs
 | .nil,i,_,_,_,_,_,h=>by cases i<;>simp[Cds.drop]at h
 | .cons k args of_ at_ rest,0,a0,a1,a2,a3,ar,h=>by
  simp only[Cds.drop,Cds.cons.injEq]at h
  obtain⟨_,_,rfl,_,_⟩:=h
  exact r2c_one _ (r2ci_all _)
 | .cons k args of_ at_ rest,i+1,a0,a1,a2,a3,ar,h=>by
  simp only[Cds.drop]at h
  exact r2ci_all rest i a0 a1 a2 a3 ar h
theorem r2conds_any (xs:Cds):R2cC xs:=r2c_one xs (r2ci_all xs)
end Go.Proofs.YtmopichdofgndaaGreatDoor
