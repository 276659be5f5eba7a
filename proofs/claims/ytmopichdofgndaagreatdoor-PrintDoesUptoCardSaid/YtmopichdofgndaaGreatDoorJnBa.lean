/-
  ref10.bareExprs.
-/
import Derived.Test.YtmopichdofgndaaGreatDoorJnPq
import Derived.Test.YtmopichdofgndaaGreatDoorJnRw
import Derived.Deep.RegionHeld2
set_option linter.unusedVariables false
set_option linter.unusedSimpArgs false
set_option maxHeartbeats 1600000
set_option maxRecDepth 100000
namespace Go.Proofs.YtmopichdofgndaaGreatDoor
open Go.RowKit Go.Shelf

def BxP (xs:Exs) (W:World) (e:Ending) (w':World):Prop:=∃A c,e= .returned (.slice A xs.len c)∧SlR (fun b o=>ExR w' (New W.heap.size w') True xs b o) xs.len 64 A c∧Fr NoT W w'
structure BxX (W:World) (xs:Exs) (v:Value) (wr:World) (acc:List Ex) (cs:List Value) (k:Nat):Prop where
 row:wr.ownsRow W.heap.size 41 5 v acc.length cs
 rows:RowR oneX wr (NewR W.heap.size v wr) acc cs
 fr:Fr NoT W wr
 eq:exApp acc (Exs.drop k xs).bare =xs.bare
 len:acc.length=k
def BxC (xs:Exs):Prop:=∀(W:World) (S:Nat→Prop) (Z:Prop) (A:Option Addr) (c:Nat),(∀b,S b→b < W.heap.size)→SlR (fun b o=>ExR W S Z xs b o) xs.len 64 A c→Calls Tryz.prog 75 #[.slice A xs.len c] W (BxP xs.bare W)
def BxI (xs:Exs):Prop:=∀(i:Nat) (a0:Int) (a1:ByteArray) (a2:Int) (a3:Exs) (a4:Int) (ar:Exs),Exs.drop i xs= .cons a0 a1 a2 a3 a4 ar→BxC a3
theorem bx_one (xs:Exs) (hall0:BxI xs):BxC xs:=by
 intro w S Z A c hS hx
 obtain⟨i0,hi,hz0,hz1,hz2⟩:=info_parts infoEx
 have HI:=hdq (aiq hi (aiq hz0 (aiq hz1 hz2)))
 have hl:xs.len≤9223372036854775807:=leq9 hx.1 hx.2.1.1
 have HA:=hdq hall0
 have HX:=hdq hx
 have HS:=hdq hS
 obtain⟨m,hm⟩:=nmq xs.len
 have HBIG:=hdq (show m*64≤140737488355328 from by rw[hm];exact hx.2.1.2)
 rw[←hm]at hl ⊢
 have HM:=hdq hm
 have HU0:=hdq (show BxX w xs (.slice none 0 0) w [] [] 0 from⟨World.ownsRow_nil _ _ _ _,rfl,Fr.refl _ _,rfl,rfl⟩)
 clear hall0 hx hS hm hi hz0 hz1 hz2
 go_enter Tryz.func75,Tryz.ntmps75
 go_wp2_with fail
 go_loopw [3,4] (fun v i wr=>∃k:Nat,k≤m∧i= .int .i64 k∧∃(acc:List Ex) (cs:List Value),Hid (BxX w xs v wr acc cs k)) (fun v i _=>m - (intOf i).toNat)
 case atStart=>exact⟨0,Nat.zero_le _,rfl, [], [],HU0⟩
 case round=>
  clear HU0
  obtain⟨k,hk,rfl,acc,cs,hb⟩:=hrel
  by_cases hlt:k < m
  ·obtain⟨a0,a1,a2,a3,a4,ar,hd⟩:=Exs.drop_cons (show k < xs.len from by rw[←HM.out];exact hlt)
   obtain⟨b,o,rfl,hat⟩:=HX.out.2.2 (by rw[←HM.out];omega)
   have hat1:=(ExR.keep (hb.out.fr.same fun b hb=>⟨HS.out b hb,id⟩) hat).drop k
   rw[hd]at hat1
   obtain⟨⟨hbS,_,r0,r1,r2,c0,c1,c2,c4⟩,⟨A3,q3,c3,s3⟩,_⟩:=hat1
   have hxr:b < wr.heap.size:=ltq (HS.out _ hbS) hb.out.fr.size
   have hlt':(k:Int) < (m:Int):=by omega
   have hge:(0:Int)≤(k:Int):=by omega
   obtain⟨l3,hl3⟩:=nmq a3.len
   rw[←hl3]at c3
   obtain⟨w5,hw5⟩:=nmq (wr.alloc (.cells #[.int .u8 a0,.string a1,.int .i64 a2,.slice A3 l3 q3,.int .i64 0] 41))
   have hf5:Fr NoT wr w5:=by rw[hw5];exact(Fr.refl _ _).alloc _
   have hk5:Bk w5 wr.heap.size 41 #[.int .u8 a0,.string a1,.int .i64 a2,.slice A3 l3 q3,.int .i64 0]:=by
    rw[hw5];exact Bk.new _ _ _
   have h7:=HA.out k a0 a1 a2 a3 a4 ar hd w5 S Z A3 q3 (fun b h=>ltq (ltq (HS.out b h) hb.out.fr.size) hf5.size) (s3.imp fun _ _ hx=>ExR.keep (hf5.same fun b h=>⟨ltq (HS.out b h) hb.out.fr.size,id⟩) hx)
   rw[←hl3]at h7
   have H7:=hdq h7
   have HD:=hdq hd
   have HK5:=hdq hk5
   have HF5:=hdq hf5
   have HW5:=hdq hw5
   have HR:=hdq (aiq r0 (aiq r1 r2))
   clear hd hat hbS s3 r0 r1 r2 hl3 h7 hk5 hf5 hw5
   go_wp2_with fail
   rw[←HW5.out]
   clear c0 c1 c2 c3 c4 hxr
   refine H7.out.mono ?_
   rintro _ w7 ⟨A4,q4,rfl,s4,hf7⟩
   have hk7:=HK5.out.fr0 hf7
   have x0:=hk7.cell 0
   have x1:=hk7.cell 1
   have x2:=hk7.cell 2
   have x3:=hk7.cell 3
   have x4:=hk7.cell 4
   have z3:=hk7.frozen 3
   have xl:=hk7.lt
   simp only[getsL]at x0 x1 x2 x3 x4
   obtain⟨l4,hl4⟩:=nmq a3.bare.len
   rw[←hl4]
   have HL4:=hdq hl4
   -- the world ahead of the append
   obtain⟨w8,hw8⟩:=nmq (w7.setCell ⟨wr.heap.size,3,none⟩ (.slice A4 l4 q4))
   obtain⟨w9,hw9⟩:=nmq (w8.alloc (.cells #[.int .u8 a0,.string a1,.int .i64 a2,.slice A4 l4 q4,.int .i64 0] 41))
   have hf79:Fr (fun b=>b=wr.heap.size) w7 w9:=by rw[hw9,hw8];exact(Fr.own (Fr.refl _ _) 3 _).alloc _
   have hf9:Fr NoT wr w9:=by rw[hw9,hw8];exact(Fr.high (HF5.out.trans hf7) (lrq _) _ _).alloc _
   have hk9:Bk w9 w7.heap.size 41 ([.int .u8 a0,.string a1,.int .i64 a2,.slice A4 l4 q4,.int .i64 0]:List Value).toArray :=by rw[hw9];exact Bk.new_at _ _ _ (by rw[hw8];simp)
   have hrow9:=World.ownsRow.kept (w':=w9) hb.out.row (row:=none) ⟨hf9.os,hf9.tape,hf9.output,hf9.size,fun i hi _=>hf9.block i hi id⟩ (Classical.em _)
   have HROW9:=hdq hrow9
   have HK9:=hdq hk9
   have HF79:=hdq hf79
   have HF9:=hdq hf9
   have HF7:=hdq hf7
   have HS4:=hdq s4
   have hz9:w.heap.size≤w9.heap.size:=leq9 hb.out.fr.size hf9.size
   have hbig:(acc.length+1)*64≤140737488355328:=by have:=HBIG.out;have:=hb.out.len;omega
   have hacc:acc.length+1≤9223372036854775807:=by have:=hb.out.len;omega
   have HW9:=hdq hw9
   have HW8:=hdq hw8
   clear hl4 hw8 hw9 hf79 hf9 hk9 hrow9 hk7 hf7 s4
   go_wp2_with (at_builtin;rw[←HW8.out,←HW9.out];refine wpList_append_spot _ rfl _ _ 36 rfl w.heap.size 41 i0 (.agg #[.int .u8 0,.string ⟨#[]⟩,.int .i64 0,.slice none 0 0,.int .i64 0]) 5 64 Tryz.underlying36 HI.out.1 HI.out.2.1 HI.out.2.2.1 HI.out.2.2.2 rfl (by decide) _ _ _ rfl HROW9.out ⟨w7.heap.size,0,none⟩ 1 1 _ rfl rfl HK9.out.newsL ?c2 (by decide) ?c3 hbig hz9 ?_)
   case c2=>
    intro u hu
    simp only[List.mem_cons,List.not_mem_nil,or_false]at hu
    rcases hu with rfl|rfl|rfl|rfl|rfl<;>rfl
   case c3=>unfold maxLen;omega
   intro v' w10 hown hgrow hspot
   have hz57:wr.heap.size < w7.heap.size:=xl
   have hst:=RowR.step oneX_keep hb.out.row hb.out.fr.size hb.out.rows HF9.out (y:=(⟨a0,a1,a2,a3.bare,0⟩:Ex)) (zs:= [.int .u8 a0,.string a1,.int .i64 a2,.slice A4 l4 q4,.int .i64 0])
    ⟨A4,q4,by rw[HL4.out],HR.out.1,HR.out.2.1,by simp[in64],HS4.out.imp fun _ _ h=>ExR.more (fun b hb=>⟨by have h1:=hb.1;have:=HF5.out.size;omega,by have h2:=hb.2;have:=HF79.out.size;omega⟩) (ExR.keep (HF79.out.same fun b hb=>⟨hb.2,fun e=>by have e:b=wr.heap.size:=e;have h1:=hb.1;have:=HK5.out.lt;omega⟩) h)⟩ hgrow hspot
   have hlen:(acc++ [(⟨a0,a1,a2,a3.bare,0⟩:Ex)]).length =acc.length+1:=by simp
   have HNX:=hdq (show BxX w xs v' w10 (acc++ [⟨a0,a1,a2,a3.bare,0⟩]) (cs++ [.int .u8 a0,.string a1,.int .i64 a2,.slice A4 l4 q4,.int .i64 0]) (k+1)from
    ⟨by rw[hlen];exact hown,hst.1,Fr.back1 hb.out.fr hst.2 (lrq _),by
     rw[exApp_snoc,Exs.drop_succ k xs HD.out,←hb.out.eq,HD.out];rfl,by rw[hlen,hb.out.len]⟩)
   clear hown hgrow hspot hst hlen hbig hacc hz9 x0 x1 x2 x3 x4 z3 xl
   go_wp2_with fail
   go_roundw
   case rel=>exact⟨k+1,by omega,by go_num,_,_,HNX⟩
   case measure=>simp[intOf];omega
  ·have hlt':¬(k:Int) < (m:Int):=by omega
   have hkm:k=m:=by omega
   have hle:xs.bare.len=acc.length:=by rw[bareX_len,←HM.out,hb.out.len,hkm]
   have heq:xs.bare=exsOf acc:=by
    rw[←exApp_nil,←hb.out.eq,Exs.drop_nil (by rw[←HM.out];omega)];rfl
   obtain⟨A',c',he,hsl⟩:=RowR.slice oneX_keep (sz:=64) hb.out.row hb.out.rows (by rw[hb.out.len,hkm];exact HBIG.out) (P:=fun b o=>ExR wr (New w.heap.size wr) True xs.bare b o) fun g hg hr hc=>by
    rw[heq];exact rowX (o:=0) hg hr fun j u hj=>by rw[Nat.zero_add];exact hc j u hj
   have HE:=hdq he
   have HSL:=hdq hsl
   have HLE:=hdq hle
   clear heq hle he hsl
   go_wp2_with fail
   go_ret
   refine⟨A',c',?_,?_,hb.out.fr⟩
   ·rw[HLE.out,HE.out];rfl
   ·rw[HLE.out];exact HSL.out
theorem bxi_all:∀xs:Exs,BxI xs
 | .nil,i,_,_,_,_,_,_,h=>by cases i<;>simp[Exs.drop]at h
 | .cons k nm n args at_ rest,0,a0,a1,a2,a3,a4,ar,h=>by
  simp only[Exs.drop,Exs.cons.injEq]at h
  obtain⟨_,_,_,rfl,_,_⟩:=h
  exact bx_one _ (bxi_all _)
 | .cons k nm n args at_ rest,i+1,a0,a1,a2,a3,a4,ar,h=>by
  simp only[Exs.drop]at h
  exact bxi_all rest i a0 a1 a2 a3 a4 ar h
theorem bexprs_any (xs:Exs):BxC xs:=bx_one xs (bxi_all xs)

def cnApp (acc:List Cn) (t:Cds):Cds:=acc.foldr Cn.cons t
theorem cnApp_snoc (acc:List Cn) (x:Cn) (t:Cds):cnApp (acc++ [x]) t=cnApp acc (x.cons t):=by simp[cnApp,List.foldr_append]
theorem cnApp_nil:∀acc:List Cn,cnApp acc .nil =cdsOf' acc
 | []=>rfl
 |x::r=>by show x.cons (cnApp r .nil)=x.cons (cdsOf' r);rw[cnApp_nil r]
def BcP (xs:Cds) (W:World) (e:Ending) (w':World):Prop:=∃A c,e= .returned (.slice A xs.len c)∧SlR (fun b o=>CdR w' (New W.heap.size w') True xs b o) xs.len 64 A c∧Fr NoT W w'
structure BcX (W:World) (xs:Cds) (v:Value) (wr:World) (acc:List Cn) (cs:List Value) (k:Nat):Prop where
 row:wr.ownsRow W.heap.size 160 4 v acc.length cs
 rows:RowR oneC wr (NewR W.heap.size v wr) acc cs
 fr:Fr NoT W wr
 eq:cnApp acc (Cds.drop k xs).bare =xs.bare
 len:acc.length=k
def BcC (xs:Cds):Prop:=∀(W:World) (S:Nat→Prop) (Z:Prop) (A:Option Addr) (c:Nat),(∀b,S b→b < W.heap.size)→SlR (fun b o=>CdR W S Z xs b o) xs.len 64 A c→Calls Tryz.prog 76 #[.slice A xs.len c] W (BcP xs.bare W)
def BcI (xs:Cds):Prop:=∀(i:Nat) (a0:Int) (a1:Exs) (a2:Cds) (a3:Int) (ar:Cds),Cds.drop i xs= .cons a0 a1 a2 a3 ar→BcC a2
theorem bc_one (xs:Cds) (hall0:BcI xs):BcC xs:=by
 intro w S Z A c hS hx
 obtain⟨i0,hi,hz0,hz1,hz2⟩:=info_parts infoCd
 have HI:=hdq (aiq hi (aiq hz0 (aiq hz1 hz2)))
 have hl:xs.len≤9223372036854775807:=leq9 hx.1 hx.2.1.1
 have HA:=hdq hall0
 have HX:=hdq hx
 have HS:=hdq hS
 obtain⟨m,hm⟩:=nmq xs.len
 have HBIG:=hdq (show m*64≤140737488355328 from by rw[hm];exact hx.2.1.2)
 rw[←hm]at hl ⊢
 have HM:=hdq hm
 have HU0:=hdq (show BcX w xs (.slice none 0 0) w [] [] 0 from⟨World.ownsRow_nil _ _ _ _,rfl,Fr.refl _ _,rfl,rfl⟩)
 clear hall0 hx hS hm hi hz0 hz1 hz2
 go_enter Tryz.func76,Tryz.ntmps76
 go_wp2_with fail
 go_loopw [3,4] (fun v i wr=>∃k:Nat,k≤m∧i= .int .i64 k∧∃(acc:List Cn) (cs:List Value),Hid (BcX w xs v wr acc cs k)) (fun v i _=>m - (intOf i).toNat)
 case atStart=>exact⟨0,Nat.zero_le _,rfl, [], [],HU0⟩
 case round=>
  clear HU0
  obtain⟨k,hk,rfl,acc,cs,hb⟩:=hrel
  by_cases hlt:k < m
  ·obtain⟨a0,a1,a2,a3,ar,hd⟩:=Cds.drop_cons (show k < xs.len from by rw[←HM.out];exact hlt)
   obtain⟨b,o,rfl,hat⟩:=HX.out.2.2 (by rw[←HM.out];omega)
   have hat1:=(CdR.keep (hb.out.fr.same fun b hb=>⟨HS.out b hb,id⟩) hat).drop k
   rw[hd]at hat1
   obtain⟨⟨hbS,_,r0,r1,c0,c3⟩,⟨Aa1,qa1,c1,sa1⟩,⟨Aa2,qa2,c2,sa2⟩,_⟩:=hat1
   have hxr:b < wr.heap.size:=ltq (HS.out _ hbS) hb.out.fr.size
   have hlt':(k:Int) < (m:Int):=by omega
   have hge:(0:Int)≤(k:Int):=by omega
   obtain⟨la1,hla1⟩:=nmq a1.len
   rw[←hla1]at c1
   obtain⟨la2,hla2⟩:=nmq a2.len
   rw[←hla2]at c2
   obtain⟨w5,hw5⟩:=nmq (wr.alloc (.cells #[.int .u8 a0,.slice Aa1 la1 qa1,.slice Aa2 la2 qa2,.int .i64 0] 160))
   have hf5:Fr NoT wr w5:=by rw[hw5];exact(Fr.refl _ _).alloc _
   have hk5:Bk w5 wr.heap.size 160 #[.int .u8 a0,.slice Aa1 la1 qa1,.slice Aa2 la2 qa2,.int .i64 0]:=by rw[hw5];exact Bk.new _ _ _
   have ga1:=fun(W:World) (hf:Fr NoT wr W)=>bexprs_any a1 W S Z Aa1 qa1 (fun b h=>ltq (ltq (HS.out b h) hb.out.fr.size) hf.size) (sa1.imp fun _ _ hx=>ExR.keep (hf.same fun b h=>⟨ltq (HS.out b h) hb.out.fr.size,id⟩) hx)
   rw[←hla1]at ga1
   have Ga1:=hdq ga1
   have ga2:=fun(W:World) (hf:Fr NoT wr W)=>(HA.out k a0 a1 a2 a3 ar hd) W S Z Aa2 qa2 (fun b h=>ltq (ltq (HS.out b h) hb.out.fr.size) hf.size) (sa2.imp fun _ _ hx=>CdR.keep (hf.same fun b h=>⟨ltq (HS.out b h) hb.out.fr.size,id⟩) hx)
   rw[←hla2]at ga2
   have Ga2:=hdq ga2
   have HD:=hdq hd
   have HF0:=hdq hf5
   have HK0:=hdq hk5
   have HW5:=hdq hw5
   have HR:=hdq r0
   have HW0:Hid (Fr (fun b=>b=wr.heap.size) wr w5):=hf5.any
   clear hd hat hbS sa1 hla1 ga1 sa2 hla2 ga2 r0 r1 hf5 hk5 hw5
   go_wp2_with fail
   rw[←HW5.out]
   clear c0 c1 c2 c3 hxr
   refine(Ga1.out _ HF0.out).mono ?_
   rintro _ v0 ⟨Ba1,ea1,rfl,ta1,hf⟩
   have hk:=HK0.out.fr0 hf
   have y0:=hk.cell 0
   have y1:=hk.cell 1
   have y2:=hk.cell 2
   have y3:=hk.cell 3
   have z:=hk.frozen 1
   have x0:=hk.lt
   simp only[getsL]at y0 y1 y2 y3
   obtain⟨ma1,hma1⟩:=nmq a1.bare.len
   rw[←hma1]
   have HMa1:=hdq hma1
   obtain⟨u0,hu0⟩:=nmq (v0.setCell ⟨wr.heap.size,1,none⟩ (.slice Ba1 ma1 ea1))
   have hff:Fr NoT wr u0:=by rw[hu0];exact Fr.high (HF0.out.trans hf) (lrq _) _ _
   have hfo:Fr (fun b=>b=wr.heap.size) v0 u0:=by rw[hu0];exact Fr.own (Fr.refl _ _) 1 _
   have hkk:Bk u0 wr.heap.size 160 #[.int .u8 a0,.slice Ba1 ma1 ea1,.slice Aa2 la2 qa2,.int .i64 0]:=by
    rw[hu0]
    have:=hk.set_ 1 (.slice Ba1 ma1 ea1)
    simpa using this
   have hpv:Fr (fun b=>b=wr.heap.size) w5 u0:=hf.any.trans hfo
   have Ta1_0:=hdq (show SlR (fun b o=>ExR u0 (New (wr.heap.size+1) u0) True a1.bare b o) a1.bare.len 64 Ba1 ea1 from ta1.imp fun _ _ h=>ExR.more (fun b hb=>⟨by have h1:=hb.1;have:=HK0.out.lt;omega,ltq hb.2 hfo.size⟩) (ExR.keep (hfo.same fun b hb=>⟨hb.2,fun e=>by have e:b=wr.heap.size:=e;have h1:=hb.1;have:=HK0.out.lt;omega⟩) h))
   have HFF0:=hdq hff
   have HKK0:=hdq hkk
   have HWW1:=hdq hu0
   clear ta1 hf hk hff hfo hkk hpv hu0 hma1
   go_wp2_with fail
   rw[←HWW1.out]
   clear x0 z y0 y1 y2 y3
   refine(Ga2.out _ HFF0.out).mono ?_
   rintro _ v1 ⟨Ba2,ea2,rfl,ta2,hf⟩
   have hk:=HKK0.out.fr0 hf
   have y0:=hk.cell 0
   have y1:=hk.cell 1
   have y2:=hk.cell 2
   have y3:=hk.cell 3
   have z:=hk.frozen 2
   have x0:=hk.lt
   simp only[getsL]at y0 y1 y2 y3
   obtain⟨ma2,hma2⟩:=nmq a2.bare.len
   rw[←hma2]
   have HMa2:=hdq hma2
   obtain⟨u1,hu1⟩:=nmq (v1.setCell ⟨wr.heap.size,2,none⟩ (.slice Ba2 ma2 ea2))
   have hff:Fr NoT wr u1:=by rw[hu1];exact Fr.high (HFF0.out.trans hf) (lrq _) _ _
   have hfo:Fr (fun b=>b=wr.heap.size) v1 u1:=by rw[hu1];exact Fr.own (Fr.refl _ _) 2 _
   have hkk:Bk u1 wr.heap.size 160 #[.int .u8 a0,.slice Ba1 ma1 ea1,.slice Ba2 ma2 ea2,.int .i64 0]:=by
    rw[hu1]
    have:=hk.set_ 2 (.slice Ba2 ma2 ea2)
    simpa using this
   have hpv:Fr (fun b=>b=wr.heap.size) u0 u1:=hf.any.trans hfo
   have Ta1_1:=hdq (show SlR (fun b o=>ExR u1 (New (wr.heap.size+1) u1) True a1.bare b o) a1.bare.len 64 Ba1 ea1 from Ta1_0.out.imp fun _ _ h=>ExR.more (fun b hb=>⟨hb.1,ltq hb.2 hpv.size⟩) (ExR.keep (hpv.same fun b hb=>⟨hb.2,fun e=>by have e:b=wr.heap.size:=e;have h1:=hb.1;omega⟩) h))
   have Ta2_1:=hdq (show SlR (fun b o=>CdR u1 (New (wr.heap.size+1) u1) True a2.bare b o) a2.bare.len 64 Ba2 ea2 from ta2.imp fun _ _ h=>CdR.more (fun b hb=>⟨by have h1:=hb.1;have:=HKK0.out.lt;omega,ltq hb.2 hfo.size⟩) (CdR.keep (hfo.same fun b hb=>⟨hb.2,fun e=>by have e:b=wr.heap.size:=e;have h1:=hb.1;have:=HKK0.out.lt;omega⟩) h))
   have HFF1:=hdq hff
   have HKK1:=hdq hkk
   have HWW2:=hdq hu1
   clear ta2 hf hk hff hfo hkk hpv hu1 hma2
   obtain⟨w9,hw9⟩:=nmq (u1.alloc (.cells #[.int .u8 a0,.slice Ba1 ma1 ea1,.slice Ba2 ma2 ea2,.int .i64 0] 160))
   have hz:u1.heap.size=v1.heap.size:=by rw[HWW2.out];simp
   have hf9:Fr NoT wr w9:=by rw[hw9];exact HFF1.out.alloc _
   have hk9:Bk w9 v1.heap.size 160 ([.int .u8 a0,.slice Ba1 ma1 ea1,.slice Ba2 ma2 ea2,.int .i64 0]:List Value).toArray :=by rw[hw9];exact Bk.new_at _ _ _ hz
   have hrow9:=World.ownsRow.kept (w':=w9) hb.out.row (row:=none) ⟨hf9.os,hf9.tape,hf9.output,hf9.size,fun i hi _=>hf9.block i hi id⟩ (Classical.em _)
   have hu9:Fr NoT u1 w9:=by rw[hw9];exact(Fr.refl _ _).alloc _
   have HROW9:=hdq hrow9
   have HK9:=hdq hk9
   have HU9:=hdq hu9
   have HF9:=hdq hf9
   have HW9:=hdq hw9
   have hz9:w.heap.size≤w9.heap.size:=leq9 hb.out.fr.size hf9.size
   have hbig:(acc.length+1)*64≤140737488355328:=by have:=HBIG.out;have:=hb.out.len;omega
   have hacc:acc.length+1≤9223372036854775807:=by have:=hb.out.len;omega
   clear hw9 hf9 hk9 hrow9 hu9 hz
   go_wp2_with (at_builtin;rw[←HWW2.out,←HW9.out];refine wpList_append_spot _ rfl _ _ 37 rfl w.heap.size 160 i0 (.agg #[.int .u8 0,.slice none 0 0,.slice none 0 0,.int .i64 0]) 4 64 Tryz.underlying37 HI.out.1 HI.out.2.1 HI.out.2.2.1 HI.out.2.2.2 rfl (by decide) _ _ _ rfl HROW9.out ⟨v1.heap.size,0,none⟩ 1 1 _ rfl rfl HK9.out.newsL ?c2 (by decide) ?c3 hbig hz9 ?_)
   case c2=>
    intro u hu
    simp only[List.mem_cons,List.not_mem_nil,or_false]at hu
    rcases hu with rfl|rfl|rfl|rfl<;>rfl
   case c3=>unfold maxLen;omega
   intro v' w10 hown hgrow hspot
   have hst:=RowR.step oneC_keep hb.out.row hb.out.fr.size hb.out.rows HF9.out (y:=(⟨a0,a1.bare,a2.bare,0⟩:Cn)) (zs:= [.int .u8 a0,.slice Ba1 ma1 ea1,.slice Ba2 ma2 ea2,.int .i64 0])
    ⟨Ba1,ea1,Ba2,ea2,by rw[HMa1.out,HMa2.out],HR.out,by simp[in64],Ta1_1.out.imp fun _ _ h=>ExR.more (fun b hb=>⟨by have h1:=hb.1;omega,ltq hb.2 HU9.out.size⟩) (ExR.keep (HU9.out.same fun b hb=>⟨hb.2,id⟩) h),Ta2_1.out.imp fun _ _ h=>CdR.more (fun b hb=>⟨by have h1:=hb.1;omega,ltq hb.2 HU9.out.size⟩) (CdR.keep (HU9.out.same fun b hb=>⟨hb.2,id⟩) h)⟩ hgrow hspot
   have hlen:(acc++ [(⟨a0,a1.bare,a2.bare,0⟩:Cn)]).length =acc.length+1:=by simp
   have HNX:=hdq (show BcX w xs v' w10 (acc++ [⟨a0,a1.bare,a2.bare,0⟩]) (cs++ [.int .u8 a0,.slice Ba1 ma1 ea1,.slice Ba2 ma2 ea2,.int .i64 0]) (k+1)from
    ⟨by rw[hlen];exact hown,hst.1,Fr.back1 hb.out.fr hst.2 (lrq _),by
     rw[cnApp_snoc,Cds.drop_succ k xs HD.out,←hb.out.eq,HD.out];rfl,by rw[hlen,hb.out.len]⟩)
   clear hown hgrow hspot hst hlen hbig hacc hz9 x0 z y0 y1 y2 y3
   go_wp2_with fail
   go_roundw
   case rel=>exact⟨k+1,by omega,by go_num,_,_,HNX⟩
   case measure=>simp[intOf];omega
  ·have hlt':¬(k:Int) < (m:Int):=by omega
   have hkm:k=m:=by omega
   have hle:xs.bare.len=acc.length:=by rw[bareC_len,←HM.out,hb.out.len,hkm]
   have heq:xs.bare=cdsOf' acc:=by
    rw[←cnApp_nil,←hb.out.eq,Cds.drop_nil (by rw[←HM.out];omega)];rfl
   obtain⟨A',c',he,hsl⟩:=RowR.slice oneC_keep (sz:=64) hb.out.row hb.out.rows (by rw[hb.out.len,hkm];exact HBIG.out) (P:=fun b o=>CdR wr (New w.heap.size wr) True xs.bare b o) fun g hg hr hc=>by
    rw[heq];exact rowC (o:=0) hg hr fun j u hj=>by rw[Nat.zero_add];exact hc j u hj
   have HE:=hdq he
   have HSL:=hdq hsl
   have HLE:=hdq hle
   clear heq hle he hsl
   go_wp2_with fail
   go_ret
   refine⟨A',c',?_,?_,hb.out.fr⟩
   ·rw[HLE.out,HE.out];rfl
   ·rw[HLE.out];exact HSL.out
theorem bci_all:∀xs:Cds,BcI xs
 | .nil,i,_,_,_,_,_,h=>by cases i<;>simp[Cds.drop]at h
 | .cons k args of_ at_ rest,0,a0,a1,a2,a3,ar,h=>by
  simp only[Cds.drop,Cds.cons.injEq]at h
  obtain⟨_,_,rfl,_,_⟩:=h
  exact bc_one _ (bci_all _)
 | .cons k args of_ at_ rest,i+1,a0,a1,a2,a3,ar,h=>by
  simp only[Cds.drop]at h
  exact bci_all rest i a0 a1 a2 a3 ar h
theorem bconds_any (xs:Cds):BcC xs:=bc_one xs (bci_all xs)

def stApp (acc:List St) (t:Sts):Sts:=acc.foldr St.cons t
theorem stApp_snoc (acc:List St) (x:St) (t:Sts):stApp (acc++ [x]) t=stApp acc (x.cons t):=by simp[stApp,List.foldr_append]
theorem stApp_nil:∀acc:List St,stApp acc .nil =stsOf acc
 | []=>rfl
 |x::r=>by show x.cons (stApp r .nil)=x.cons (stsOf r);rw[stApp_nil r]
def BsP (xs:Sts) (W:World) (e:Ending) (w':World):Prop:=∃A c,e= .returned (.slice A xs.len c)∧SlR (fun b o=>StR w' (New W.heap.size w') True xs b o) xs.len 128 A c∧Fr NoT W w'
structure BsX (W:World) (xs:Sts) (v:Value) (wr:World) (acc:List St) (cs:List Value) (k:Nat):Prop where
 row:wr.ownsRow W.heap.size 39 7 v acc.length cs
 rows:RowR oneS wr (NewR W.heap.size v wr) acc cs
 fr:Fr NoT W wr
 eq:stApp acc (Sts.drop k xs).bare =xs.bare
 len:acc.length=k
def BsC (xs:Sts):Prop:=∀(W:World) (S:Nat→Prop) (Z:Prop) (A:Option Addr) (c:Nat),(∀b,S b→b < W.heap.size)→SlR (fun b o=>StR W S Z xs b o) xs.len 128 A c→Calls Tryz.prog 25 #[.slice A xs.len c] W (BsP xs.bare W)
def BsI (xs:Sts):Prop:=∀(i:Nat) (a0:Int) (a1:ByteArray) (a2:Exs) (a3:Cds) (a4 a5:Sts) (a6:Int) (ar:Sts),Sts.drop i xs= .cons a0 a1 a2 a3 a4 a5 a6 ar→BsC a4∧BsC a5
theorem bs_one (xs:Sts) (hall0:BsI xs):BsC xs:=by
 intro w S Z A c hS hx
 obtain⟨i0,hi,hz0,hz1,hz2⟩:=info_parts infoSt
 have HI:=hdq (aiq hi (aiq hz0 (aiq hz1 hz2)))
 have hl:xs.len≤9223372036854775807:=leq9 hx.1 hx.2.1.1
 have HA:=hdq hall0
 have HX:=hdq hx
 have HS:=hdq hS
 obtain⟨m,hm⟩:=nmq xs.len
 have HBIG:=hdq (show m*128≤140737488355328 from by rw[hm];exact hx.2.1.2)
 rw[←hm]at hl ⊢
 have HM:=hdq hm
 have HU0:=hdq (show BsX w xs (.slice none 0 0) w [] [] 0 from⟨World.ownsRow_nil _ _ _ _,rfl,Fr.refl _ _,rfl,rfl⟩)
 clear hall0 hx hS hm hi hz0 hz1 hz2
 go_enter Tryz.func25,Tryz.ntmps25
 go_wp2_with fail
 go_loopw [3,4] (fun v i wr=>∃k:Nat,k≤m∧i= .int .i64 k∧∃(acc:List St) (cs:List Value),Hid (BsX w xs v wr acc cs k)) (fun v i _=>m - (intOf i).toNat)
 case atStart=>exact⟨0,Nat.zero_le _,rfl, [], [],HU0⟩
 case round=>
  clear HU0
  obtain⟨k,hk,rfl,acc,cs,hb⟩:=hrel
  by_cases hlt:k < m
  ·obtain⟨a0,a1,a2,a3,a4,a5,a6,ar,hd⟩:=Sts.drop_cons (show k < xs.len from by rw[←HM.out];exact hlt)
   obtain⟨b,o,rfl,hat⟩:=HX.out.2.2 (by rw[←HM.out];omega)
   have hat1:=(StR.keep (hb.out.fr.same fun b hb=>⟨HS.out b hb,id⟩) hat).drop k
   rw[hd]at hat1
   obtain⟨⟨hbS,_,r0,r1,c0,c1,c6⟩,⟨Aa2,qa2,c2,sa2⟩,⟨Aa3,qa3,c3,sa3⟩,⟨Aa4,qa4,c4,sa4⟩,⟨Aa5,qa5,c5,sa5⟩,_⟩:=hat1
   have hxr:b < wr.heap.size:=ltq (HS.out _ hbS) hb.out.fr.size
   have hlt':(k:Int) < (m:Int):=by omega
   have hge:(0:Int)≤(k:Int):=by omega
   obtain⟨la2,hla2⟩:=nmq a2.len
   rw[←hla2]at c2
   obtain⟨la3,hla3⟩:=nmq a3.len
   rw[←hla3]at c3
   obtain⟨la4,hla4⟩:=nmq a4.len
   rw[←hla4]at c4
   obtain⟨la5,hla5⟩:=nmq a5.len
   rw[←hla5]at c5
   obtain⟨w5,hw5⟩:=nmq (wr.alloc (.cells #[.int .u8 a0,.string a1,.slice Aa2 la2 qa2,.slice Aa3 la3 qa3,.slice Aa4 la4 qa4,.slice Aa5 la5 qa5,.int .i64 0] 39))
   have hf5:Fr NoT wr w5:=by rw[hw5];exact(Fr.refl _ _).alloc _
   have hk5:Bk w5 wr.heap.size 39 #[.int .u8 a0,.string a1,.slice Aa2 la2 qa2,.slice Aa3 la3 qa3,.slice Aa4 la4 qa4,.slice Aa5 la5 qa5,.int .i64 0]:=by rw[hw5];exact Bk.new _ _ _
   have ga2:=fun(W:World) (hf:Fr NoT wr W)=>bexprs_any a2 W S Z Aa2 qa2 (fun b h=>ltq (ltq (HS.out b h) hb.out.fr.size) hf.size) (sa2.imp fun _ _ hx=>ExR.keep (hf.same fun b h=>⟨ltq (HS.out b h) hb.out.fr.size,id⟩) hx)
   rw[←hla2]at ga2
   have Ga2:=hdq ga2
   have ga3:=fun(W:World) (hf:Fr NoT wr W)=>bconds_any a3 W S Z Aa3 qa3 (fun b h=>ltq (ltq (HS.out b h) hb.out.fr.size) hf.size) (sa3.imp fun _ _ hx=>CdR.keep (hf.same fun b h=>⟨ltq (HS.out b h) hb.out.fr.size,id⟩) hx)
   rw[←hla3]at ga3
   have Ga3:=hdq ga3
   have ga4:=fun(W:World) (hf:Fr NoT wr W)=>(HA.out k a0 a1 a2 a3 a4 a5 a6 ar hd).1 W S Z Aa4 qa4 (fun b h=>ltq (ltq (HS.out b h) hb.out.fr.size) hf.size) (sa4.imp fun _ _ hx=>StR.keep (hf.same fun b h=>⟨ltq (HS.out b h) hb.out.fr.size,id⟩) hx)
   rw[←hla4]at ga4
   have Ga4:=hdq ga4
   have ga5:=fun(W:World) (hf:Fr NoT wr W)=>(HA.out k a0 a1 a2 a3 a4 a5 a6 ar hd).2 W S Z Aa5 qa5 (fun b h=>ltq (ltq (HS.out b h) hb.out.fr.size) hf.size) (sa5.imp fun _ _ hx=>StR.keep (hf.same fun b h=>⟨ltq (HS.out b h) hb.out.fr.size,id⟩) hx)
   rw[←hla5]at ga5
   have Ga5:=hdq ga5
   have HD:=hdq hd
   have HF0:=hdq hf5
   have HK0:=hdq hk5
   have HW5:=hdq hw5
   have HR:=hdq r0
   have HW0:Hid (Fr (fun b=>b=wr.heap.size) wr w5):=hf5.any
   clear hd hat hbS sa2 hla2 ga2 sa3 hla3 ga3 sa4 hla4 ga4 sa5 hla5 ga5 r0 r1 hf5 hk5 hw5
   go_wp2_with fail
   rw[←HW5.out]
   clear c0 c1 c2 c3 c4 c5 c6 hxr
   refine(Ga2.out _ HF0.out).mono ?_
   rintro _ v0 ⟨Ba2,ea2,rfl,ta2,hf⟩
   have hk:=HK0.out.fr0 hf
   have y0:=hk.cell 0
   have y1:=hk.cell 1
   have y2:=hk.cell 2
   have y3:=hk.cell 3
   have y4:=hk.cell 4
   have y5:=hk.cell 5
   have y6:=hk.cell 6
   have z:=hk.frozen 2
   have x0:=hk.lt
   simp only[getsL]at y0 y1 y2 y3 y4 y5 y6
   obtain⟨ma2,hma2⟩:=nmq a2.bare.len
   rw[←hma2]
   have HMa2:=hdq hma2
   obtain⟨u0,hu0⟩:=nmq (v0.setCell ⟨wr.heap.size,2,none⟩ (.slice Ba2 ma2 ea2))
   have hff:Fr NoT wr u0:=by rw[hu0];exact Fr.high (HF0.out.trans hf) (lrq _) _ _
   have hfo:Fr (fun b=>b=wr.heap.size) v0 u0:=by rw[hu0];exact Fr.own (Fr.refl _ _) 2 _
   have hkk:Bk u0 wr.heap.size 39 #[.int .u8 a0,.string a1,.slice Ba2 ma2 ea2,.slice Aa3 la3 qa3,.slice Aa4 la4 qa4,.slice Aa5 la5 qa5,.int .i64 0]:=by
    rw[hu0]
    have:=hk.set_ 2 (.slice Ba2 ma2 ea2)
    simpa using this
   have hpv:Fr (fun b=>b=wr.heap.size) w5 u0:=hf.any.trans hfo
   have Ta2_0:=hdq (show SlR (fun b o=>ExR u0 (New (wr.heap.size+1) u0) True a2.bare b o) a2.bare.len 64 Ba2 ea2 from ta2.imp fun _ _ h=>ExR.more (fun b hb=>⟨by have h1:=hb.1;have:=HK0.out.lt;omega,ltq hb.2 hfo.size⟩) (ExR.keep (hfo.same fun b hb=>⟨hb.2,fun e=>by have e:b=wr.heap.size:=e;have h1:=hb.1;have:=HK0.out.lt;omega⟩) h))
   have HFF0:=hdq hff
   have HKK0:=hdq hkk
   have HWW1:=hdq hu0
   clear ta2 hf hk hff hfo hkk hpv hu0 hma2
   go_wp2_with fail
   rw[←HWW1.out]
   clear x0 z y0 y1 y2 y3 y4 y5 y6
   refine(Ga3.out _ HFF0.out).mono ?_
   rintro _ v1 ⟨Ba3,ea3,rfl,ta3,hf⟩
   have hk:=HKK0.out.fr0 hf
   have y0:=hk.cell 0
   have y1:=hk.cell 1
   have y2:=hk.cell 2
   have y3:=hk.cell 3
   have y4:=hk.cell 4
   have y5:=hk.cell 5
   have y6:=hk.cell 6
   have z:=hk.frozen 3
   have x0:=hk.lt
   simp only[getsL]at y0 y1 y2 y3 y4 y5 y6
   obtain⟨ma3,hma3⟩:=nmq a3.bare.len
   rw[←hma3]
   have HMa3:=hdq hma3
   obtain⟨u1,hu1⟩:=nmq (v1.setCell ⟨wr.heap.size,3,none⟩ (.slice Ba3 ma3 ea3))
   have hff:Fr NoT wr u1:=by rw[hu1];exact Fr.high (HFF0.out.trans hf) (lrq _) _ _
   have hfo:Fr (fun b=>b=wr.heap.size) v1 u1:=by rw[hu1];exact Fr.own (Fr.refl _ _) 3 _
   have hkk:Bk u1 wr.heap.size 39 #[.int .u8 a0,.string a1,.slice Ba2 ma2 ea2,.slice Ba3 ma3 ea3,.slice Aa4 la4 qa4,.slice Aa5 la5 qa5,.int .i64 0]:=by
    rw[hu1]
    have:=hk.set_ 3 (.slice Ba3 ma3 ea3)
    simpa using this
   have hpv:Fr (fun b=>b=wr.heap.size) u0 u1:=hf.any.trans hfo
   have Ta2_1:=hdq (show SlR (fun b o=>ExR u1 (New (wr.heap.size+1) u1) True a2.bare b o) a2.bare.len 64 Ba2 ea2 from Ta2_0.out.imp fun _ _ h=>ExR.more (fun b hb=>⟨hb.1,ltq hb.2 hpv.size⟩) (ExR.keep (hpv.same fun b hb=>⟨hb.2,fun e=>by have e:b=wr.heap.size:=e;have h1:=hb.1;omega⟩) h))
   have Ta3_1:=hdq (show SlR (fun b o=>CdR u1 (New (wr.heap.size+1) u1) True a3.bare b o) a3.bare.len 64 Ba3 ea3 from ta3.imp fun _ _ h=>CdR.more (fun b hb=>⟨by have h1:=hb.1;have:=HKK0.out.lt;omega,ltq hb.2 hfo.size⟩) (CdR.keep (hfo.same fun b hb=>⟨hb.2,fun e=>by have e:b=wr.heap.size:=e;have h1:=hb.1;have:=HKK0.out.lt;omega⟩) h))
   have HFF1:=hdq hff
   have HKK1:=hdq hkk
   have HWW2:=hdq hu1
   clear ta3 hf hk hff hfo hkk hpv hu1 hma3
   go_wp2_with fail
   rw[←HWW2.out]
   clear x0 z y0 y1 y2 y3 y4 y5 y6
   refine(Ga4.out _ HFF1.out).mono ?_
   rintro _ v2 ⟨Ba4,ea4,rfl,ta4,hf⟩
   have hk:=HKK1.out.fr0 hf
   have y0:=hk.cell 0
   have y1:=hk.cell 1
   have y2:=hk.cell 2
   have y3:=hk.cell 3
   have y4:=hk.cell 4
   have y5:=hk.cell 5
   have y6:=hk.cell 6
   have z:=hk.frozen 4
   have x0:=hk.lt
   simp only[getsL]at y0 y1 y2 y3 y4 y5 y6
   obtain⟨ma4,hma4⟩:=nmq a4.bare.len
   rw[←hma4]
   have HMa4:=hdq hma4
   obtain⟨u2,hu2⟩:=nmq (v2.setCell ⟨wr.heap.size,4,none⟩ (.slice Ba4 ma4 ea4))
   have hff:Fr NoT wr u2:=by rw[hu2];exact Fr.high (HFF1.out.trans hf) (lrq _) _ _
   have hfo:Fr (fun b=>b=wr.heap.size) v2 u2:=by rw[hu2];exact Fr.own (Fr.refl _ _) 4 _
   have hkk:Bk u2 wr.heap.size 39 #[.int .u8 a0,.string a1,.slice Ba2 ma2 ea2,.slice Ba3 ma3 ea3,.slice Ba4 ma4 ea4,.slice Aa5 la5 qa5,.int .i64 0]:=by
    rw[hu2]
    have:=hk.set_ 4 (.slice Ba4 ma4 ea4)
    simpa using this
   have hpv:Fr (fun b=>b=wr.heap.size) u1 u2:=hf.any.trans hfo
   have Ta2_2:=hdq (show SlR (fun b o=>ExR u2 (New (wr.heap.size+1) u2) True a2.bare b o) a2.bare.len 64 Ba2 ea2 from Ta2_1.out.imp fun _ _ h=>ExR.more (fun b hb=>⟨hb.1,ltq hb.2 hpv.size⟩) (ExR.keep (hpv.same fun b hb=>⟨hb.2,fun e=>by have e:b=wr.heap.size:=e;have h1:=hb.1;omega⟩) h))
   have Ta3_2:=hdq (show SlR (fun b o=>CdR u2 (New (wr.heap.size+1) u2) True a3.bare b o) a3.bare.len 64 Ba3 ea3 from Ta3_1.out.imp fun _ _ h=>CdR.more (fun b hb=>⟨hb.1,ltq hb.2 hpv.size⟩) (CdR.keep (hpv.same fun b hb=>⟨hb.2,fun e=>by have e:b=wr.heap.size:=e;have h1:=hb.1;omega⟩) h))
   have Ta4_2:=hdq (show SlR (fun b o=>StR u2 (New (wr.heap.size+1) u2) True a4.bare b o) a4.bare.len 128 Ba4 ea4 from ta4.imp fun _ _ h=>StR.more (fun b hb=>⟨by have h1:=hb.1;have:=HKK1.out.lt;omega,ltq hb.2 hfo.size⟩) (StR.keep (hfo.same fun b hb=>⟨hb.2,fun e=>by have e:b=wr.heap.size:=e;have h1:=hb.1;have:=HKK1.out.lt;omega⟩) h))
   have HFF2:=hdq hff
   have HKK2:=hdq hkk
   have HWW3:=hdq hu2
   clear ta4 hf hk hff hfo hkk hpv hu2 hma4
   go_wp2_with fail
   rw[←HWW3.out]
   clear x0 z y0 y1 y2 y3 y4 y5 y6
   refine(Ga5.out _ HFF2.out).mono ?_
   rintro _ v3 ⟨Ba5,ea5,rfl,ta5,hf⟩
   have hk:=HKK2.out.fr0 hf
   have y0:=hk.cell 0
   have y1:=hk.cell 1
   have y2:=hk.cell 2
   have y3:=hk.cell 3
   have y4:=hk.cell 4
   have y5:=hk.cell 5
   have y6:=hk.cell 6
   have z:=hk.frozen 5
   have x0:=hk.lt
   simp only[getsL]at y0 y1 y2 y3 y4 y5 y6
   obtain⟨ma5,hma5⟩:=nmq a5.bare.len
   rw[←hma5]
   have HMa5:=hdq hma5
   obtain⟨u3,hu3⟩:=nmq (v3.setCell ⟨wr.heap.size,5,none⟩ (.slice Ba5 ma5 ea5))
   have hff:Fr NoT wr u3:=by rw[hu3];exact Fr.high (HFF2.out.trans hf) (lrq _) _ _
   have hfo:Fr (fun b=>b=wr.heap.size) v3 u3:=by rw[hu3];exact Fr.own (Fr.refl _ _) 5 _
   have hkk:Bk u3 wr.heap.size 39 #[.int .u8 a0,.string a1,.slice Ba2 ma2 ea2,.slice Ba3 ma3 ea3,.slice Ba4 ma4 ea4,.slice Ba5 ma5 ea5,.int .i64 0]:=by
    rw[hu3]
    have:=hk.set_ 5 (.slice Ba5 ma5 ea5)
    simpa using this
   have hpv:Fr (fun b=>b=wr.heap.size) u2 u3:=hf.any.trans hfo
   have Ta2_3:=hdq (show SlR (fun b o=>ExR u3 (New (wr.heap.size+1) u3) True a2.bare b o) a2.bare.len 64 Ba2 ea2 from Ta2_2.out.imp fun _ _ h=>ExR.more (fun b hb=>⟨hb.1,ltq hb.2 hpv.size⟩) (ExR.keep (hpv.same fun b hb=>⟨hb.2,fun e=>by have e:b=wr.heap.size:=e;have h1:=hb.1;omega⟩) h))
   have Ta3_3:=hdq (show SlR (fun b o=>CdR u3 (New (wr.heap.size+1) u3) True a3.bare b o) a3.bare.len 64 Ba3 ea3 from Ta3_2.out.imp fun _ _ h=>CdR.more (fun b hb=>⟨hb.1,ltq hb.2 hpv.size⟩) (CdR.keep (hpv.same fun b hb=>⟨hb.2,fun e=>by have e:b=wr.heap.size:=e;have h1:=hb.1;omega⟩) h))
   have Ta4_3:=hdq (show SlR (fun b o=>StR u3 (New (wr.heap.size+1) u3) True a4.bare b o) a4.bare.len 128 Ba4 ea4 from Ta4_2.out.imp fun _ _ h=>StR.more (fun b hb=>⟨hb.1,ltq hb.2 hpv.size⟩) (StR.keep (hpv.same fun b hb=>⟨hb.2,fun e=>by have e:b=wr.heap.size:=e;have h1:=hb.1;omega⟩) h))
   have Ta5_3:=hdq (show SlR (fun b o=>StR u3 (New (wr.heap.size+1) u3) True a5.bare b o) a5.bare.len 128 Ba5 ea5 from ta5.imp fun _ _ h=>StR.more (fun b hb=>⟨by have h1:=hb.1;have:=HKK2.out.lt;omega,ltq hb.2 hfo.size⟩) (StR.keep (hfo.same fun b hb=>⟨hb.2,fun e=>by have e:b=wr.heap.size:=e;have h1:=hb.1;have:=HKK2.out.lt;omega⟩) h))
   have HFF3:=hdq hff
   have HKK3:=hdq hkk
   have HWW4:=hdq hu3
   clear ta5 hf hk hff hfo hkk hpv hu3 hma5
   obtain⟨w9,hw9⟩:=nmq (u3.alloc (.cells #[.int .u8 a0,.string a1,.slice Ba2 ma2 ea2,.slice Ba3 ma3 ea3,.slice Ba4 ma4 ea4,.slice Ba5 ma5 ea5,.int .i64 0] 39))
   have hz:u3.heap.size=v3.heap.size:=by rw[HWW4.out];simp
   have hf9:Fr NoT wr w9:=by rw[hw9];exact HFF3.out.alloc _
   have hk9:Bk w9 v3.heap.size 39 ([.int .u8 a0,.string a1,.slice Ba2 ma2 ea2,.slice Ba3 ma3 ea3,.slice Ba4 ma4 ea4,.slice Ba5 ma5 ea5,.int .i64 0]:List Value).toArray :=by rw[hw9];exact Bk.new_at _ _ _ hz
   have hrow9:=World.ownsRow.kept (w':=w9) hb.out.row (row:=none) ⟨hf9.os,hf9.tape,hf9.output,hf9.size,fun i hi _=>hf9.block i hi id⟩ (Classical.em _)
   have hu9:Fr NoT u3 w9:=by rw[hw9];exact(Fr.refl _ _).alloc _
   have HROW9:=hdq hrow9
   have HK9:=hdq hk9
   have HU9:=hdq hu9
   have HF9:=hdq hf9
   have HW9:=hdq hw9
   have hz9:w.heap.size≤w9.heap.size:=leq9 hb.out.fr.size hf9.size
   have hbig:(acc.length+1)*128≤140737488355328:=by have:=HBIG.out;have:=hb.out.len;omega
   have hacc:acc.length+1≤9223372036854775807:=by have:=hb.out.len;omega
   clear hw9 hf9 hk9 hrow9 hu9 hz
   go_wp2_with (at_builtin;rw[←HWW4.out,←HW9.out];refine wpList_append_spot _ rfl _ _ 25 rfl w.heap.size 39 i0 (.agg #[.int .u8 0,.string ⟨#[]⟩,.slice none 0 0,.slice none 0 0,.slice none 0 0,.slice none 0 0,.int .i64 0]) 7 128 Tryz.underlying25 HI.out.1 HI.out.2.1 HI.out.2.2.1 HI.out.2.2.2 rfl (by decide) _ _ _ rfl HROW9.out ⟨v3.heap.size,0,none⟩ 1 1 _ rfl rfl HK9.out.newsL ?c2 (by decide) ?c3 hbig hz9 ?_)
   case c2=>
    intro u hu
    simp only[List.mem_cons,List.not_mem_nil,or_false]at hu
    rcases hu with rfl|rfl|rfl|rfl|rfl|rfl|rfl<;>rfl
   case c3=>unfold maxLen;omega
   intro v' w10 hown hgrow hspot
   have hst:=RowR.step oneS_keep hb.out.row hb.out.fr.size hb.out.rows HF9.out (y:=(⟨a0,a1,a2.bare,a3.bare,a4.bare,a5.bare,0⟩:St)) (zs:= [.int .u8 a0,.string a1,.slice Ba2 ma2 ea2,.slice Ba3 ma3 ea3,.slice Ba4 ma4 ea4,.slice Ba5 ma5 ea5,.int .i64 0])
    ⟨Ba2,ea2,Ba3,ea3,Ba4,ea4,Ba5,ea5,by rw[HMa2.out,HMa3.out,HMa4.out,HMa5.out],HR.out,by simp[in64],Ta2_3.out.imp fun _ _ h=>ExR.more (fun b hb=>⟨by have h1:=hb.1;omega,ltq hb.2 HU9.out.size⟩) (ExR.keep (HU9.out.same fun b hb=>⟨hb.2,id⟩) h),Ta3_3.out.imp fun _ _ h=>CdR.more (fun b hb=>⟨by have h1:=hb.1;omega,ltq hb.2 HU9.out.size⟩) (CdR.keep (HU9.out.same fun b hb=>⟨hb.2,id⟩) h),Ta4_3.out.imp fun _ _ h=>StR.more (fun b hb=>⟨by have h1:=hb.1;omega,ltq hb.2 HU9.out.size⟩) (StR.keep (HU9.out.same fun b hb=>⟨hb.2,id⟩) h),Ta5_3.out.imp fun _ _ h=>StR.more (fun b hb=>⟨by have h1:=hb.1;omega,ltq hb.2 HU9.out.size⟩) (StR.keep (HU9.out.same fun b hb=>⟨hb.2,id⟩) h)⟩ hgrow hspot
   have hlen:(acc++ [(⟨a0,a1,a2.bare,a3.bare,a4.bare,a5.bare,0⟩:St)]).length =acc.length+1:=by simp
   have HNX:=hdq (show BsX w xs v' w10 (acc++ [⟨a0,a1,a2.bare,a3.bare,a4.bare,a5.bare,0⟩]) (cs++ [.int .u8 a0,.string a1,.slice Ba2 ma2 ea2,.slice Ba3 ma3 ea3,.slice Ba4 ma4 ea4,.slice Ba5 ma5 ea5,.int .i64 0]) (k+1)from
    ⟨by rw[hlen];exact hown,hst.1,Fr.back1 hb.out.fr hst.2 (lrq _),by
     rw[stApp_snoc,Sts.drop_succ k xs HD.out,←hb.out.eq,HD.out];rfl,by rw[hlen,hb.out.len]⟩)
   clear hown hgrow hspot hst hlen hbig hacc hz9 x0 z y0 y1 y2 y3 y4 y5 y6
   go_wp2_with fail
   go_roundw
   case rel=>exact⟨k+1,by omega,by go_num,_,_,HNX⟩
   case measure=>simp[intOf];omega
  ·have hlt':¬(k:Int) < (m:Int):=by omega
   have hkm:k=m:=by omega
   have hle:xs.bare.len=acc.length:=by rw[bareS_len,←HM.out,hb.out.len,hkm]
   have heq:xs.bare=stsOf acc:=by
    rw[←stApp_nil,←hb.out.eq,Sts.drop_nil (by rw[←HM.out];omega)];rfl
   obtain⟨A',c',he,hsl⟩:=RowR.slice oneS_keep (sz:=128) hb.out.row hb.out.rows (by rw[hb.out.len,hkm];exact HBIG.out) (P:=fun b o=>StR wr (New w.heap.size wr) True xs.bare b o) fun g hg hr hc=>by
    rw[heq];exact rowS (o:=0) hg hr fun j u hj=>by rw[Nat.zero_add];exact hc j u hj
   have HE:=hdq he
   have HSL:=hdq hsl
   have HLE:=hdq hle
   clear heq hle he hsl
   go_wp2_with fail
   go_ret
   refine⟨A',c',?_,?_,hb.out.fr⟩
   ·rw[HLE.out,HE.out];rfl
   ·rw[HLE.out];exact HSL.out
theorem bsi_all:∀xs:Sts,BsI xs
 | .nil,i,_,_,_,_,_,_,_,_,h=>by cases i<;>simp[Sts.drop]at h
 | .cons k nm args cond body els at_ rest,0,a0,a1,a2,a3,a4,a5,a6,ar,h=>by
  simp only[Sts.drop,Sts.cons.injEq]at h
  obtain⟨_,_,_,_,rfl,rfl,_,_⟩:=h
  exact⟨bs_one _ (bsi_all _),bs_one _ (bsi_all _)⟩
 | .cons k nm args cond body els at_ rest,i+1,a0,a1,a2,a3,a4,a5,a6,ar,h=>by
  simp only[Sts.drop]at h
  exact bsi_all rest i a0 a1 a2 a3 a4 a5 a6 ar h
theorem bstmts_any (xs:Sts):BsC xs:=bs_one xs (bsi_all xs)

def BvP (xs:List Va) (W:World) (e:Ending) (w':World):Prop:=∃A c,e= .returned (.slice A xs.length c)∧SlR (fun b o=>VaR w' (New W.heap.size w') True xs b o) xs.length 24 A c∧Fr NoT W w'
structure BvX (W:World) (xs:List Va) (v:Value) (wr:World) (acc:List Va) (cs:List Value) (k:Nat):Prop where
 row:wr.ownsRow W.heap.size 43 2 v acc.length cs
 rows:RowR oneV wr (NewR W.heap.size v wr) acc cs
 fr:Fr NoT W wr
 eq:acc++(xs.drop k).map Va.bare=xs.map Va.bare
 len:acc.length=k
theorem bvars_any (xs:List Va) (w:World) (S:Nat→Prop) (Z:Prop) (A:Option Addr) (c:Nat) (hS:∀b,S b→b < w.heap.size) (hx:SlR (fun b o=>VaR w S Z xs b o) xs.length 24 A c):
  Calls Tryz.prog 24 #[.slice A xs.length c] w (BvP (xs.map Va.bare) w):=by
 obtain⟨i0,hi,hz0,hz1,hz2⟩:=info_parts infoVa
 have HI:=hdq (aiq hi (aiq hz0 (aiq hz1 hz2)))
 have hl:xs.length≤9223372036854775807:=leq9 hx.1 hx.2.1.1
 have HX:=hdq hx
 have HS:=hdq hS
 obtain⟨m,hm⟩:=nmq xs.length
 have HBIG:=hdq (show m*24≤140737488355328 from by rw[hm];exact hx.2.1.2)
 rw[←hm]at hl ⊢
 have HM:=hdq hm
 have HU0:=hdq (show BvX w xs (.slice none 0 0) w [] [] 0 from⟨World.ownsRow_nil _ _ _ _,rfl,Fr.refl _ _,rfl,rfl⟩)
 clear hx hS hm hi hz0 hz1 hz2
 go_enter Tryz.func24,Tryz.ntmps24
 go_wp2_with fail
 go_loopw [3,4] (fun v i wr=>∃k:Nat,k≤m∧i= .int .i64 k∧∃(acc:List Va) (cs:List Value),Hid (BvX w xs v wr acc cs k)) (fun v i _=>m - (intOf i).toNat)
 case atStart=>exact⟨0,Nat.zero_le _,rfl, [], [],HU0⟩
 case round=>
  clear HU0
  obtain⟨k,hk,rfl,acc,cs,hb⟩:=hrel
  by_cases hlt:k < m
  ·obtain⟨⟨a0,a1⟩,ar,hd⟩:=drop_head1 (show k < xs.length from by rw[←HM.out];exact hlt)
   obtain⟨b,o,rfl,hat⟩:=HX.out.2.2 (by rw[←HM.out];omega)
   have hat1:=(VaR.keep (hb.out.fr.same fun b hb=>⟨HS.out b hb,id⟩) hat).drop k
   rw[hd.1]at hat1
   obtain⟨⟨hbS,_,r0,c0,c1⟩,_⟩:=hat1
   have hxr:b < wr.heap.size:=ltq (HS.out _ hbS) hb.out.fr.size
   have hlt':(k:Int) < (m:Int):=by omega
   have hge:(0:Int)≤(k:Int):=by omega
   simp only at c0 c1
   have HD:=hdq hd
   obtain⟨w9,hw9⟩:=nmq (wr.alloc (.cells #[.string a0,.int .i64 0] 43))
   have hf9:Fr NoT wr w9:=by rw[hw9];exact(Fr.refl _ _).alloc _
   have hk9:Bk w9 wr.heap.size 43 ([.string a0,.int .i64 0]:List Value).toArray :=by rw[hw9];exact Bk.new _ _ _
   have hrow9:=World.ownsRow.kept (w':=w9) hb.out.row (row:=none) ⟨hf9.os,hf9.tape,hf9.output,hf9.size,fun i hi _=>hf9.block i hi id⟩ (Classical.em _)
   have HROW9:=hdq hrow9
   have HK9:=hdq hk9
   have HF9:=hdq hf9
   have HW9:=hdq hw9
   have hz9:w.heap.size≤w9.heap.size:=leq9 hb.out.fr.size hf9.size
   have hbig:(acc.length+1)*24≤140737488355328:=by have:=HBIG.out;have:=hb.out.len;omega
   have hacc:acc.length+1≤9223372036854775807:=by have:=hb.out.len;omega
   clear hd hat hbS r0 hw9 hf9 hk9 hrow9
   go_wp2_with (at_builtin;rw[←HW9.out];refine wpList_append_spot _ rfl _ _ 22 rfl w.heap.size 43 i0 (.agg #[.string ⟨#[]⟩,.int .i64 0]) 2 24 Tryz.underlying22 HI.out.1 HI.out.2.1 HI.out.2.2.1 HI.out.2.2.2 rfl (by decide) _ _ _ rfl HROW9.out ⟨wr.heap.size,0,none⟩ 1 1 _ rfl rfl HK9.out.newsL ?c2 (by decide) ?c3 hbig hz9 ?_)
   case c2=>
    intro u hu
    simp only[List.mem_cons,List.not_mem_nil,or_false]at hu
    rcases hu with rfl|rfl<;>rfl
   case c3=>unfold maxLen;omega
   intro v' w10 hown hgrow hspot
   have hst:=RowR.step oneV_keep hb.out.row hb.out.fr.size hb.out.rows HF9.out (y:=(⟨a0,0⟩:Va)) (zs:= [.string a0,.int .i64 0]) ⟨rfl,by simp[in64]⟩ hgrow hspot
   have hlen:(acc++ [(⟨a0,0⟩:Va)]).length =acc.length+1:=by simp
   have HNX:=hdq (show BvX w xs v' w10 (acc++ [⟨a0,0⟩]) (cs++ [.string a0,.int .i64 0]) (k+1)from
    ⟨by rw[hlen];exact hown,hst.1,Fr.back1 hb.out.fr hst.2 (lrq _),by
     rw[←hb.out.eq,HD.out.1,HD.out.2];simp[Va.bare],by rw[hlen,hb.out.len]⟩)
   clear hown hgrow hspot hst hlen hbig hacc hz9 c0 c1 hxr
   go_wp2_with fail
   go_roundw
   case rel=>exact⟨k+1,by omega,by go_num,_,_,HNX⟩
   case measure=>simp[intOf];omega
  ·have hlt':¬(k:Int) < (m:Int):=by omega
   have hkm:k=m:=by omega
   have hle:(xs.map Va.bare).length =acc.length:=by rw[List.length_map,←HM.out,hb.out.len,hkm]
   have heq:xs.map Va.bare=acc:=by
    rw[←hb.out.eq,List.drop_eq_nil_of_le (by rw[←HM.out];omega)];simp
   obtain⟨A',c',he,hsl⟩:=RowR.slice oneV_keep (sz:=24) hb.out.row hb.out.rows (by rw[hb.out.len,hkm];exact HBIG.out) (P:=fun b o=>VaR wr (New w.heap.size wr) True (xs.map Va.bare) b o) fun g hg hr hc=>by
    rw[heq];exact rowV (o:=0) hg hr fun j u hj=>by rw[Nat.zero_add];exact hc j u hj
   have HE:=hdq he
   have HSL:=hdq hsl
   have HLE:=hdq hle
   clear heq hle he hsl
   go_wp2_with fail
   go_ret
   refine⟨A',c',?_,?_,hb.out.fr⟩
   ·rw[HLE.out,HE.out];rfl
   ·rw[HLE.out];exact HSL.out

theorem infoTr:(Tryz.prog.info? 27).map (·.size)=some 4:=by kernel_rfl
def NewP (L U P:Nat):Nat→Prop:=fun b=>L≤b∧b < U∧b≠P
structure BaQ (L U:Nat) (t:Tre) (P:Nat) (A1:Option Addr) (c1:Nat) (A4:Option Addr) (c4:Nat) (wx:World):Prop where
  up:U≤wx.heap.size
  vars:SlR (fun b o=>VaR wx (NewP L U P) True (t.vars.map Va.bare) b o) (t.vars.map Va.bare).length 24 A1 c1
  main:SlR (fun b o=>StR wx (NewP L U P) True t.main.bare b o) t.main.bare.len 128 A4 c4
theorem BaQ.fr {L U:Nat} {t:Tre} {P:Nat} {A1 A4:Option Addr} {c1 c4:Nat} {T:Nat→Prop} {w w':World} (h:BaQ L U t P A1 c1 A4 c4 w) (hf:Fr T w w') (hT:∀b,T b→b=P∨U≤b):BaQ L U t P A1 c1 A4 c4 w':=by
  have hs:SameS (NewP L U P) w w':=hf.same fun b hb=>⟨ltq hb.2.1 h.up,fun e=>by
    rcases hT b e with e|e
    · exact hb.2.2 e
    · have:=hb.2.1;omega⟩
  exact⟨leq9 h.up hf.size,h.vars.imp fun _ _ h=>VaR.keep hs h,h.main.imp fun _ _ h=>StR.keep hs h⟩
theorem BaQ.more {L U U':Nat} {t:Tre} {P:Nat} {A1 A4:Option Addr} {c1 c4:Nat} {w:World} (h:BaQ L U t P A1 c1 A4 c4 w) (hu:U≤U') (hw:U'≤w.heap.size):BaQ L U' t P A1 c1 A4 c4 w:=
  ⟨hw,h.vars.imp fun _ _ h=>VaR.more (fun b hb=>⟨hb.1,ltq hb.2.1 hu,hb.2.2⟩) h,h.main.imp fun _ _ h=>StR.more (fun b hb=>⟨hb.1,ltq hb.2.1 hu,hb.2.2⟩) h⟩
theorem BaQ.of {L:Nat} {t:Tre} {P:Nat} {A1 A4:Option Addr} {c1 c4:Nat} {u5 w5 u7 w7 wx:World} (h1:SlR (fun b o=>VaR w5 (New u5.heap.size w5) True (t.vars.map Va.bare) b o) (t.vars.map Va.bare).length 24 A1 c1)
    (h4:SlR (fun b o=>StR w7 (New u7.heap.size w7) True t.main.bare b o) t.main.bare.len 128 A4 c4) (f5:Fr (fun b=>b=P) w5 wx) (f7:Fr (fun b=>b=P) w7 wx) (hL:L≤u5.heap.size∧L≤u7.heap.size)
    (hP5:P < u5.heap.size∨w5.heap.size≤P) (hP7:P < u7.heap.size∨w7.heap.size≤P):BaQ L wx.heap.size t P A1 c1 A4 c4 wx:=
  ⟨lrq _,h1.imp fun _ _ h=>VaR.more (fun b hb=>⟨by have:=hb.1;omega,by have:=hb.2;have:=f5.size;omega,by have h1:=hb.1;have h2:=hb.2;omega⟩) (VaR.keep (f5.same fun b hb=>⟨hb.2,by have h1:=hb.1;have h2:=hb.2;intro e;have e:b=P:=e;omega⟩) h),
   h4.imp fun _ _ h=>StR.more (fun b hb=>⟨by have:=hb.1;omega,by have:=hb.2;have:=f7.size;omega,by have h1:=hb.1;have h2:=hb.2;omega⟩) (StR.keep (f7.same fun b hb=>⟨hb.2,by have h1:=hb.1;have h2:=hb.2;intro e;have e:b=P:=e;omega⟩) h)⟩
structure TaX (w1 wc:World) (t:Tre) (P:Nat) (A1:Option Addr) (c1:Nat) (A4:Option Addr) (c4:Nat) (v:Value) (wr:World) (acc:List Arr) (cs:List Value) (k:Nat):Prop where
  fr:Fr NoT w1 wr
  bk:Bk wr P 27 #[.slice A1 t.vars.length c1,v,.slice none 0 0,.slice A4 t.main.bare.len c4]
  bq:BaQ w1.heap.size wc.heap.size t P A1 c1 A4 c4 wr
  sz:wc.heap.size≤wr.heap.size
  row:wr.ownsRow wc.heap.size 66 3 v acc.length cs
  rows:RowR oneA wr (NewR wc.heap.size v wr) acc cs
  eq:acc++(t.arrays.drop k).map Arr.bare=t.arrays.map Arr.bare
  len:acc.length=k
theorem TaX.step {w1 wc:World} {t:Tre} {P:Nat} {A1:Option Addr} {c1:Nat} {A4:Option Addr} {c4:Nat} {v:Value} {wr:World} {acc:List Arr} {cs:List Value} {k:Nat} (h:TaX w1 wc t P A1 c1 A4 c4 v wr acc cs k)
    (hP:w1.heap.size≤P) (hPc:P < wc.heap.size) {a0:ByteArray} {a1 a2:Int} {ar:List Arr} (hd:t.arrays.drop k=(⟨a0,a1,a2⟩:Arr)::ar∧t.arrays.drop (k+1)=ar) (hin:in64 a1) {w8 w9:World} (h8:w8=(wr.alloc (.cells #[.string a0,.int .i64 a1,.int .i64 0] 66)).drew) {g cap:Nat}
    (hown:w9.ownsRow wc.heap.size 66 3 (.slice (some ⟨g,0,none⟩) (acc.length+1) cap) (acc.length+1) (cs++ [.string a0,.int .i64 a1,.int .i64 0])) (hg:w8.grownBy w9 v.ownBlock) (hsp:v.ownBlock=some g∨g=w8.heap.size):
    TaX w1 wc t P A1 c1 A4 c4 (.slice (some ⟨g,0,none⟩) (acc.length+1) cap) (w9.setCell ⟨P,1,none⟩ (.slice (some ⟨g,0,none⟩) (acc.length+1) cap)) (acc++ [⟨a0,a1,0⟩]) (cs++ [.string a0,.int .i64 a1,.int .i64 0]) (k+1):=by
  have hf8:Fr NoT wr w8:=by rw[h8];exact((Fr.refl _ _).alloc _).drew
  have hst:=RowR.step oneA_keep h.row h.sz h.rows hf8 (y:=(⟨a0,a1,0⟩:Arr)) (zs:= [.string a0,.int .i64 a1,.int .i64 0]) ⟨rfl,hin,by simp[in64]⟩ hg (v':= .slice (some ⟨g,0,none⟩) (acc.length+1) cap) (by
    rcases hsp with e|e
    · exact .inl (by rw[e];rfl)
    · exact .inr (by rw[e];rfl))
  have hlen:(acc++ [(⟨a0,a1,0⟩:Arr)]).length =acc.length+1:=by simp
  have hn:¬wc.heap.size≤P:=by omega
  have hfp:Fr (fun b=>b=P) w9 (w9.setCell ⟨P,1,none⟩ (.slice (some ⟨g,0,none⟩) (acc.length+1) cap)):=Fr.own (Fr.refl _ _) _ _
  have hk9:Bk w9 P 27 #[.slice A1 t.vars.length c1,v,.slice none 0 0,.slice A4 t.main.bare.len c4]:=h.bk.fr hst.2 hn
  have hgl:=(hown.lt g rfl).1
  refine⟨Fr.high (Fr.back1 h.fr hst.2 (by have:=hn;omega)) hP _ _,?_,?_,?_,?_,?_,?_,by rw[hlen,h.len]⟩
  · have:=hk9.set_ 1 (.slice (some ⟨g,0,none⟩) (acc.length+1) cap)
    simpa using this
  · exact(h.bq.fr hst.2 fun b e=> .inr e).fr hfp fun b e=> .inl e
  · have:=h.sz;have:=hst.2.size;have:=hfp.size;omega
  · rw[hlen]
    have:=ownsRow_setCell_below hown (a:=⟨P,1,none⟩) (by exact hPc) (.slice (some ⟨g,0,none⟩) (acc.length+1) cap)
    simpa using this
  · exact RowR.imp oneA_keep (hfp.same fun b hb=>⟨hb.2.1,fun e=>by have e:b=P:=e;have:=hb.1;omega⟩) (fun b hb=>⟨hb.1,ltq hb.2.1 hfp.size,hb.2.2⟩) hst.1
  · rw[←h.eq,hd.1,hd.2];simp[Arr.bare]
def BaP (t:Tre) (W:World) (e:Ending) (w':World):Prop:=∃Av Aa Ap Am cv ca cp cm,e= .returned (trV t Av Aa Ap Am cv ca cp cm)∧TrR w' (New W.heap.size w') True t Av Aa Ap Am cv ca cp cm∧Fr NoT W w'
structure TpX (w1 wd:World) (t:Tre) (P:Nat) (A1:Option Addr) (c1:Nat) (A2:Option Addr) (c2:Nat) (A4:Option Addr) (c4:Nat) (v:Value) (wr:World) (acc:List Prc) (cs:List Value) (k:Nat):Prop where
  fr:Fr NoT w1 wr
  bk:Bk wr P 27 #[.slice A1 t.vars.length c1,.slice A2 t.arrays.length c2,v,.slice A4 t.main.bare.len c4]
  bq:BaQ w1.heap.size wd.heap.size t P A1 c1 A4 c4 wr
  ba:SlR (fun b o=>ArR wr (NewP w1.heap.size wd.heap.size P) True (t.arrays.map Arr.bare) b o) (t.arrays.map Arr.bare).length 32 A2 c2
  sz:wd.heap.size≤wr.heap.size
  row:wr.ownsRow wd.heap.size 68 4 v acc.length cs
  rows:RowR oneP wr (NewR wd.heap.size v wr) acc cs
  eq:acc++(t.procs.drop k).map Prc.bare=t.procs.map Prc.bare
  len:acc.length=k
theorem TpX.step {w1 wd:World} {t:Tre} {P:Nat} {A1:Option Addr} {c1:Nat} {A2:Option Addr} {c2:Nat} {A4:Option Addr} {c4:Nat} {v:Value} {wr:World} {acc:List Prc} {cs:List Value} {k:Nat} (h:TpX w1 wd t P A1 c1 A2 c2 A4 c4 v wr acc cs k)
    (hP:w1.heap.size≤P) (hPc:P < wd.heap.size) {x:Prc} {ar:List Prc} (hd:t.procs.drop k=x::ar∧t.procs.drop (k+1)=ar) {w8 w9:World} (hf8:Fr NoT wr w8) {B1 B2:Option Addr} {e1 e2:Nat} {zs:List Value} (hzs:zs= [.string x.nm,.slice B1 (x.params.map Va.bare).length e1,.slice B2 x.body.bare.len e2,.int .i64 0])
    (h1:SlR (fun b o=>VaR w8 (fun b=>wr.heap.size≤b∧b < w8.heap.size) True (x.params.map Va.bare) b o) (x.params.map Va.bare).length 24 B1 e1)
    (h2:SlR (fun b o=>StR w8 (fun b=>wr.heap.size≤b∧b < w8.heap.size) True x.body.bare b o) x.body.bare.len 128 B2 e2) {g cap:Nat}
    (hown:w9.ownsRow wd.heap.size 68 4 (.slice (some ⟨g,0,none⟩) (acc.length+1) cap) (acc.length+1) (cs++zs)) (hg:w8.grownBy w9 v.ownBlock) (hsp:v.ownBlock=some g∨g=w8.heap.size):
    TpX w1 wd t P A1 c1 A2 c2 A4 c4 (.slice (some ⟨g,0,none⟩) (acc.length+1) cap) (w9.setCell ⟨P,2,none⟩ (.slice (some ⟨g,0,none⟩) (acc.length+1) cap)) (acc++ [x.bare]) (cs++zs) (k+1):=by
  have hst:=RowR.step oneP_keep h.row h.sz h.rows hf8 (y:=x.bare) (zs:=zs) ⟨B1,e1,B2,e2,hzs,by simp[in64,Prc.bare],h1,h2⟩ hg (v':= .slice (some ⟨g,0,none⟩) (acc.length+1) cap) (by
    rcases hsp with e|e
    · exact .inl (by rw[e];rfl)
    · exact .inr (by rw[e];rfl))
  have hlen:(acc++ [x.bare]).length =acc.length+1:=by simp
  have hn:¬wd.heap.size≤P:=by omega
  have hfp:Fr (fun b=>b=P) w9 (w9.setCell ⟨P,2,none⟩ (.slice (some ⟨g,0,none⟩) (acc.length+1) cap)):=Fr.own (Fr.refl _ _) _ _
  have hk9:=h.bk.fr hst.2 hn
  refine⟨Fr.high (Fr.back1 h.fr hst.2 (by have:=hn;omega)) hP _ _,?_,?_,?_,?_,?_,?_,?_,by rw[hlen,h.len]⟩
  · have:=hk9.set_ 2 (.slice (some ⟨g,0,none⟩) (acc.length+1) cap)
    simpa using this
  · exact(h.bq.fr hst.2 fun b e=> .inr e).fr hfp fun b e=> .inl e
  · have hs:SameS (NewP w1.heap.size wd.heap.size P) wr (w9.setCell ⟨P,2,none⟩ (.slice (some ⟨g,0,none⟩) (acc.length+1) cap)):=
      (hst.2.same fun b hb=>⟨ltq hb.2.1 h.sz,by have h1:=hb.2.1;exact fun e=>by have e:wd.heap.size≤b:=e;omega⟩).trans (hfp.same fun b hb=>⟨ltq (ltq hb.2.1 h.sz) hst.2.size,hb.2.2⟩)
    exact h.ba.imp fun _ _ h=>ArR.keep hs h
  · have:=h.sz;have:=hst.2.size;have:=hfp.size;omega
  · rw[hlen]
    have:=ownsRow_setCell_below hown (a:=⟨P,2,none⟩) (by exact hPc) (.slice (some ⟨g,0,none⟩) (acc.length+1) cap)
    simpa using this
  · exact RowR.imp oneP_keep (hfp.same fun b hb=>⟨hb.2.1,fun e=>by have e:b=P:=e;have:=hb.1;omega⟩) (fun b hb=>⟨hb.1,ltq hb.2.1 hfp.size,hb.2.2⟩) hst.1
  · rw[←h.eq,hd.1,hd.2];simp
end Go.Proofs.YtmopichdofgndaaGreatDoor
