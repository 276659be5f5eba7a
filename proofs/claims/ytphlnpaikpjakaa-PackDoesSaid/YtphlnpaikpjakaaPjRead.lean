/-
  facetroomref26.read, Scalars: an edge's scalars.
-/
import Derived.Test.YtphlnpaikpjakaaPjP
set_option linter.unusedVariables false
set_option linter.unusedSimpArgs false
namespace Go.Proofs.Ytphlnpaikpjakaa
open Go.RowKit Go.Shelf

structure GrowR (w wr:World) (y y':Value):Prop where
 g:w.grownBy wr y.ownBlock
 own:y'.ownBlock=y.ownBlock∨∀b,y'.ownBlock=some b→w.heap.size≤b
theorem GrowR.refl (w:World) (y:Value):GrowR w w y y:=⟨⟨rfl,rfl,rfl,lrq _,fun _ _ _=>rfl⟩,.inl rfl⟩
theorem GrowR.trans {a b c:World} {x y z:Value} (h:GrowR a b x y) (k:GrowR b c y z):GrowR a c x z:=by
 refine⟨⟨k.g.os.trans h.g.os,k.g.tape.trans h.g.tape,k.g.output.trans h.g.output,leq9 h.g.size k.g.size,fun i hi hne=>?_⟩,?_⟩
 ·have h1:=h.g.block i hi hne
  refine(k.g.block i (ltq hi h.g.size) fun e=>?_).trans h1
  rcases h.own with e1|e1
  ·exact hne (e.trans e1)
  ·have:=e1 i e.symm
   omega
 ·rcases k.own with e1|e1
  ·rcases h.own with e2|e2
   ·exact .inl (e1.trans e2)
   ·exact .inr fun b hb=>e2 b (e1▸hb)
  ·exact .inr fun b hb=>leq9 h.g.size (e1 b hb)
theorem GrowR.below {w wr:World} {y y':Value} {L n:Nat} {xs:List Value} (h:GrowR w wr y y') (ho:w.ownsRow L 3 1 y n xs) (hL:L≤w.heap.size):Below L w wr:=
 (Below.refl L w).grown h.g hL fun g hg=>(own_lt ho hg).1
theorem GrowR.one {w wr w2:World} {y y1 y2:Value} {o:Obj} (h:GrowR w wr y y1) (hg:(wr.alloc o).grownBy w2 y1.ownBlock) (hn:y2.ownBlock=y1.ownBlock∨y2.ownBlock=some (wr.alloc o).heap.size):GrowR w w2 y y2:=by
 refine h.trans ⟨⟨hg.os,hg.tape,hg.output,leq9 (by simp) hg.size,fun i hi hne=>?_⟩,?_⟩
 ·rw[hg.block i (by simp;omega) hne]
  exact Below.heap_alloc wr o i hi
 ·rcases hn with e|e
  ·exact .inl e
  ·refine .inr fun b hb=>?_
   rw[e]at hb
   injection hb with hb
   simp at hb
   omega
def ReadP (L:Nat) (y:Value) (xs:List Int) (W:World) (e:Ending) (w':World):Prop:=∃y',e= .returned y'∧w'.ownsRow L 3 1 y' xs.length (intZ xs)∧GrowR W w' y y'
def ReadR (xs:Exs):Prop:=∀(y:Value) (pre:List Int) (L:Nat) (A:Option Addr) (c B:Nat) (w:World),B≤L→L≤w.heap.size→w.ownsRow L 3 1 y pre.length (intZ pre)→ExSl w B xs A c→pre.length+(readX xs).length ≤1000000→
 Calls Try.prog 69 #[y,.slice A xs.len c] w (ReadP L y (pre++readX xs) w)
def ReadRAll (xs:Exs):Prop:=∀(i:Nat) (k:Int) (nm:ByteArray) (n:Int) (args:Exs) (at_:Int) (rest:Exs),Exs.drop i xs= .cons k nm n args at_ rest→ReadR args
structure RdI (L:Nat) (w wr:World) (xs:Exs) (pre:List Int) (y y':Value) (k:Nat) (ds:List Int):Prop where
 eq:pre++readX xs=ds++readX (Exs.drop k xs)
 row:wr.ownsRow L 3 1 y' ds.length (intZ ds)
 grow:GrowR w wr y y'
set_option maxRecDepth 100000 in
set_option maxHeartbeats 3200000 in
theorem readR_core (xs:Exs) (hall:ReadRAll xs):ReadR xs:=by
 intro y pre L A c B w hBL hLw ho hx hlen
 have hl:xs.len≤9223372036854775807:=leq9 hx.1 hx.2.1
 have HALL:=hdq hall
 have HX:=hdq hx
 have HO:=hdq ho
 obtain⟨i0,hi,hz0,hz1,hz2⟩:=info_parts infoInt7
 have HI:=hdq (aiq hi (aiq hz0 (aiq hz1 hz2)))
 have HLEN:=hdq hlen
 have HS:=hdq (show RdI L w w xs pre y y 0 pre from⟨by cases xs<;>rfl,ho,GrowR.refl _ _⟩)
 clear hall hx ho hi hz0 hz1 hz2 hlen
 go_enter Try.func69,Try.ntmps69
 go_wp2_with fail
 go_loopw [0,5] (fun y' i wr=>∃(k:Nat) (ds:List Int),k≤xs.len∧i= .int .i64 k∧Hid (RdI L w wr xs pre y y' k ds)) (fun _ i _=>xs.len - (intOf i).toNat)
 case atStart=>exact⟨0,pre,Nat.zero_le _,rfl,HS⟩
 case round=>
  obtain⟨k,ds,hk,rfl,hI⟩:=hrel
  have hb:Below L w wr:=hI.out.grow.below HO.out hLw
  by_cases hlt:k < xs.len
  ·obtain⟨a0,a1,a2,a3,a4,a5,hd⟩:=Exs.drop_cons hlt
   obtain⟨b,o,rfl,hat⟩:=HX.out.2.2 (by omega)
   have hsame:Same B w wr:=Same.of hb hBL
   obtain⟨hbB,c0,c1,c2,⟨A',c',c3,hsl⟩,c4,_⟩:=(hat.keep hsame).at_ hd
   have hbl:b < wr.heap.size:=by have:=hb.size;omega
   have hLr:L≤wr.heap.size:=leq9 hLw hb.size
   have heq:=hI.out.eq
   rw[readX_drop hd]at heq
   have hln:=congrArg List.length heq
   have hlen:=HLEN.out
   simp only[List.length_append]at hln
   have HREC:=hdq (HALL.out k a0 a1 a2 a3 a4 a5 hd)
   have HROW:=hdq hI.out.row
   have HGR:=hdq hI.out.grow
   have HSL:=hdq hsl
   clear hd hat hsl hI
   by_cases h2:a0=2
   ·subst h2
    rw[if_pos rfl]at heq hln
    simp only[List.length_cons,List.length_nil]at hln
    have HEQ:=hdq heq
    have hds:ds.length+1+(readX a3).length ≤1000000:=by omega
    have HDS:=hdq hds
    have hd1:ds.length≤1000000:=by omega
    clear heq hln hlen hds
    go_wp2_with (at_builtin;refine wpList_append_own_at _ rfl _ _ 22 rfl L 3 i0 (.int .i64 0) 1 8 Try.underlying22 HI.out.1 HI.out.2.1 HI.out.2.2.1 HI.out.2.2.2 rfl (by decide) _ _ _ rfl (HROW.out.alloc _) ⟨wr.heap.size,0,none⟩ 1 1 [.int .i64 a2] rfl rfl ?c1 ?c2 ?c3 ?c4 ?c5 ?_)
    case c1=>exact cell_one_new _ _ _
    case c2=>
     intro u hu
     rw[List.mem_singleton.1 hu]
     rfl
    case c3=>unfold maxLen;omega
    case c4=>omega
    case c5=>simp;omega
    intro y2 w2 ho2 hg2 _ hn2
    have hgr2:GrowR w w2 y y2:=HGR.out.one (o:= .cells #[.int .i64 a2] 3) hg2 (by rw[World.size_alloc];exact hn2)
    have hb2:Below L w w2:=hgr2.below HO.out hLw
    have ho2':w2.ownsRow L 3 1 y2 (ds++ [a2]).length (intZ (ds++ [a2])):=by
     have e:intZ (ds++ [a2])=intZ ds++ [.int .i64 a2]:=by simp[intZ]
     rw[e,List.length_append]
     exact ho2
    have hcB:Same B wr w2:=fun p hp=>by
     have h1:=Same.of hb2 hBL p hp
     have h2:=hsame p hp
     rw[h1,h2]
    obtain⟨hbB',c0',c1',c2',c3',c4',_⟩:b < B∧w2.cell? ⟨b,o+k*5,none⟩=some (.int .u8 2)∧w2.cell? ⟨b,o+k*5+1,none⟩=some (.string a1)∧w2.cell? ⟨b,o+k*5+2,none⟩=some (.int .i64 a2)∧w2.cell? ⟨b,o+k*5+3,none⟩=some (.slice A' a3.len c')∧w2.cell? ⟨b,o+k*5+4,none⟩=some (.int .i64 a4)∧True:=
     ⟨hbB,(hcB _ hbB).trans c0,(hcB _ hbB).trans c1,(hcB _ hbB).trans c2,(hcB _ hbB).trans c3,(hcB _ hbB).trans c4,trivial⟩
    have hbl2:b < w2.heap.size:=by have:=hb2.size;omega
    have HC:=hdq (HREC.out y2 (ds++ [a2]) L A' c' B w2 hBL (leq9 hLw hb2.size) ho2' (HSL.out.keep hcB) (by simp only[List.length_append,List.length_cons,List.length_nil];exact HDS.out))
    have HGR2:=hdq hgr2
    clear ho2 hg2 hn2 hgr2 ho2' c0 c1 c2 c3 c4 hbl hsame hb hb2 hcB
    go_wp2_with fail
    go_at_call 69
    refine HC.out.mono ?_
    rintro _ w3 ⟨y3,rfl,ho3,hg3⟩
    have HN:=hdq (show RdI L w w3 xs pre y y3 (k+1) (ds++ [a2]++readX a3)from⟨by rw[HEQ.out];simp,ho3,HGR2.out.trans hg3⟩)
    clear ho3 hg3
    go_wp2_with fail
    go_roundw
    case rel=>exact⟨k+1,_,by omega,by go_num,HN⟩
    case measure=>simp[intOf];omega
   ·rw[if_neg h2]at heq hln
    simp only[List.length_nil]at hln
    have HEQ:=hdq heq
    have h2b:(a0==2)=false:=by simpa using h2
    have HC:=hdq (HREC.out u0 ds L A' c' B wr hBL hLr HROW.out HSL.out (by omega))
    clear heq hln hlen c1 c4
    go_wp2_with fail
    go_at_call 69
    refine HC.out.mono ?_
    rintro _ w3 ⟨y3,rfl,ho3,hg3⟩
    have HN:=hdq (show RdI L w w3 xs pre y y3 (k+1) (ds++readX a3)from⟨by rw[HEQ.out];simp,ho3,HGR.out.trans hg3⟩)
    clear ho3 hg3
    go_wp2_with fail
    go_roundw
    case rel=>exact⟨k+1,_,by omega,by go_num,HN⟩
    case measure=>simp[intOf];omega
  ·have hI2:=hI.out
   have hds:pre++readX xs=ds:=by have h:=hI2.eq;rw[Exs.drop_nil (by omega)]at h;simpa[readX]using h
   have HF:=hdq (show ReadP L y (pre++readX xs) w (.returned u0) wr from⟨_,rfl,by rw[hds];exact hI2.row,hI2.grow⟩)
   clear hI hI2 hds
   go_wp2_with fail
   go_ret
   exact HF.out
theorem readR_all:∀xs:Exs,ReadRAll xs
 | .nil =>fun i _ _ _ _ _ _ hd=>by cases i<;>simp[Exs.drop]at hd
 | .cons k nm n args at_ rest=>fun i k' nm' n' args' at' rest' hd=>by
  cases i with
  |zero=>
   simp only[Exs.drop]at hd
   injection hd with e1 e2 e3 e4 e5 e6
   subst e4
   exact readR_core args (readR_all args)
  |succ i=>
   simp only[Exs.drop]at hd
   exact readR_all rest i k' nm' n' args' at' rest' hd
theorem readR_any (xs:Exs):ReadR xs:=readR_core xs (readR_all xs)
end Go.Proofs.Ytphlnpaikpjakaa
