/-
  facetroomref12: statements with calls put in place. Printed by wip/gen_r2/st.py.
-/
import Derived.Test.YtmopichdofgndaaGreatDoorJgR2Pr
import Derived.Test.YtmopichdofgndaaGreatDoorInCall
set_option linter.unusedVariables false
set_option linter.unusedSimpArgs false
namespace Go.Proofs.YtmopichdofgndaaGreatDoor
open Go.RowKit Go.Shelf Go.Maps

def RP (K:RK) (r:Sts×Ist) (s:Ist) (w:World) (v:Value) (e:Ending) (w':World):Prop:=
 ∃v' vo acc cs,e= .returned vo∧RkAt K w' r.2 v'∧OutRow w.heap.size v' w' vo acc cs∧r.1=stsOf acc∧Fr (RT K v) w w'∧SpotP w v v'∧s.many+acc.length≤r.2.many∧r.2.calls≤r.2.many
def RB (K:RK) (v:Value) (w:World) (T:Nat→Prop):Prop:=∀b,T b→b < w.heap.size∧b≠K.P∧v.ownBlock≠some b
def RC (K:RK) (stm:Sts→Nms→Ist→Sts×Ist) (xs:Sts):Prop:=
 ∀(w:World) (s:Ist) (v:Value) (n:Nms) (A:Option Addr) (c:Nat) (fs ts:List ByteArray) (Af At:Option Addr) (cf ct:Nat) (T:Nat→Prop),RkAt K w s v→s.calls≤s.many→NmR w T n fs ts Af cf At ct→RB K v w T→n []=none→SlR (fun b o=>StR K.W0 K.S False xs b o) xs.len 128 A c→
  Calls Tryz.prog 32 #[.pointer (some ⟨K.P,0,none⟩),.slice A xs.len c,.slice Af fs.length cf,.slice At ts.length ct] w (RP K (stm xs n s) s w v)
structure RSt (K:RK) (call:ByteArray→Exs→Nms→Int→Ist→Sts×Ist) (xs:Sts) (s:Ist) (n:Nms) (wr:World) (v vo:Value) (acc:List St) (cs:List Value) (si:Ist) (k:Nat) (v0:Value) (w:World) (fs ts:List ByteArray) (Af At:Option Addr) (cf ct:Nat) (T:Nat→Prop):Prop where
 st:RkAt K wr si v
 cm:si.calls≤si.many
 out:OutRow w.heap.size v wr vo acc cs
 nms:NmR wr T n fs ts Af cf At ct
 nb:RB K v wr T
 tw:∀b,T b→b < w.heap.size
 fr:Fr (RT K v0) w wr
 spot:SpotP w v0 v
 eq:(Sts.app (stsOf acc) (inlS call (Sts.drop k xs) n si).1,(inlS call (Sts.drop k xs) n si).2)=inlS call xs n s
 many:s.many+acc.length≤si.many
theorem RSt.next {K:RK} {call:ByteArray→Exs→Nms→Int→Ist→Sts×Ist} {xs:Sts} {s:Ist} {n:Nms} {wr:World} {vk vo:Value} {acc:List St} {cs:List Value} {si:Ist} {k:Nat} {v:Value} {w:World} {fs ts:List ByteArray} {Af At:Option Addr} {cf ct:Nat} {T:Nat→Prop}
  (h:RSt K call xs s n wr vk vo acc cs si k v w fs ts Af At cf ct T) (hL:K.P < w.heap.size∧K.W0.heap.size≤w.heap.size) {a0:Int} {a1 nm':ByteArray} {a2:Exs} {a3:Cds} {a4 a5:Sts} {a6:Int} {ar:Sts} (hd:Sts.drop k xs= .cons a0 a1 a2 a3 a4 a5 a6 ar) (hfl:fullB si=false) (h9:¬a0=9) (hnm:nm'=if a0=3 then a1 else ofN n a1) (r0:in8 a0) (r1:in64 a6)
  {w8 w9 w10 w11 w12 w13 w14 w15 w16:World} (hf8:Fr (fun i=>i=K.P∨i=wr.heap.size) wr w8) (hz8:wr.heap.size < w8.heap.size) (hf9:Fr (fun i=>i=wr.heap.size) w8 w9) (hf10:Fr (fun i=>i=wr.heap.size) w9 w10) (hf11:Fr (fun i=>i=wr.heap.size) w10 w11)
  {X2 X3 A4 A5:Option Addr} {x2 x3 c4 c5:Nat} (hs2:SlR (fun b o=>ExR w9 (New w8.heap.size w9) True (exprN n a2) b o) a2.len 64 X2 x2) (hs3:SlR (fun b o=>CdR w10 (New w9.heap.size w10) True (condN n a3) b o) a3.len 64 X3 x3)
  {s1 s2 s3:Ist} (hs1:s1=⟨si.calls,si.vars,si.many+1⟩) {v12 v13:Value} {acc12 acc13:List St} (e2:(inlS call a4 n s1).2 =s2) (e3:(inlS call a5 n s2).2 =s3) (hr12:(inlS call a4 n s1).1 =stsOf acc12) (hr13:(inlS call a5 n s2).1 =stsOf acc13)
  (hf12:Fr (fun i=>RT K vk i∨i=wr.heap.size) w11 w12) (hsp12:SpotP w11 vk v12) (hb12:SlR (fun b o=>StR w12 (fun i=>w11.heap.size≤i∧i < w12.heap.size∧v12.ownBlock≠some i) True (stsOf acc12) b o) acc12.length 128 A4 c4) (hm12:s1.many+acc12.length≤s2.many)
  (h13:RkAt K w13 s3 v13) (hf13:Fr (RT K v12) w12 w13) (hsp13:SpotP w12 v12 v13) (hb13:SlR (fun b o=>StR w13 (fun i=>w12.heap.size≤i∧i < w13.heap.size∧v13.ownBlock≠some i) True (stsOf acc13) b o) acc13.length 128 A5 c5) (hm13:s2.many+acc13.length≤s3.many) (hc13:s3.calls≤s3.many)
  (hf14:Fr (fun i=>i=wr.heap.size) w13 w14) (hf15:Fr NoT w14 w15) {vo':Value} (hown:w16.ownsRow w.heap.size 39 7 vo' (acc.length+1) (cs++ [.int .u8 a0,.string nm',.slice X2 a2.len x2,.slice X3 a3.len x3,.slice A4 acc12.length c4,.slice A5 acc13.length c5,.int .i64 a6])) (hg:w15.grownBy w16 vo.ownBlock) (hsp:vo'.ownBlock=vo.ownBlock∨vo'.ownBlock=some w15.heap.size):
  RSt K call xs s n w16 v13 vo' (acc++ [⟨a0,nm',exprN n a2,condN n a3,stsOf acc12,stsOf acc13,a6⟩]) (cs++ [.int .u8 a0,.string nm',.slice X2 a2.len x2,.slice X3 a3.len x3,.slice A4 acc12.length c4,.slice A5 acc13.length c5,.int .i64 a6]) s3 (k+1) v w fs ts Af At cf ct T:=by
 obtain⟨hLP,hW0⟩:=hL
 have z0:=h.fr.size
 have z9:=hf9.size
 have z10:=hf10.size
 have z11:=hf11.size
 have z12:=hf12.size
 have z13:=hf13.size
 have z14:=hf14.size
 have z15:=hf15.size
 have hvk:∀i,vk.ownBlock=some i→i < wr.heap.size:=fun i hi=>by obtain⟨c9,h9,_⟩:=h.st.row;exact(row_lt h9 hi).2
 have hv12:∀i,v12.ownBlock=some i→vk.ownBlock=some i∨w11.heap.size≤i:=fun i hi=>by
  rcases hsp12 with e|⟨g,e,hg9⟩
  ·exact .inl (e▸hi)
  ·rw[e]at hi;have:=Option.some.inj hi;exact .inr (by omega)
 have hv13:∀i,v13.ownBlock=some i→v12.ownBlock=some i∨w12.heap.size≤i:=fun i hi=>by
  rcases hsp13 with e|⟨g,e,hg9⟩
  ·exact .inl (e▸hi)
  ·rw[e]at hi;have:=Option.some.inj hi;exact .inr (by omega)
 have hv13':∀i,v13.ownBlock=some i→vk.ownBlock=some i∨w11.heap.size≤i:=fun i hi=>by
  rcases hv13 i hi with e|e
  ·exact hv12 i e
  ·exact .inr (by omega)
 have hv13l:∀i,v13.ownBlock=some i→i < w13.heap.size:=fun i hi=>by obtain⟨c9,h9,_⟩:=h13.row;exact(row_lt h9 hi).2
 have hvo:∀i,vo.ownBlock=some i→w.heap.size≤i∧i < wr.heap.size:=fun i hi=>row_lt h.out.row hi
 have hspk:SpotP wr vk v13:=(hsp12.trans hsp13 z12).trans (SpotP.refl w13 v13) (by omega) |> fun k=>by
  rcases k with e|⟨g,e,hg9⟩
  ·exact .inl e
  ·exact .inr ⟨g,e,by omega⟩
 -- frames
 have f10:Fr (RT K vk) wr w10:=Fr.thenT (Fr.thenT (Fr.thenT (Fr.refl _ _) hf8 fun i hi e=>(by rcases e with e|e;exact .inl e;omega)) hf9 fun i hi e=>(by have e:i=wr.heap.size:=e;omega)) hf10 fun i hi e=>(by have e:i=wr.heap.size:=e;omega)
 have f12:Fr (RT K vk) wr w12:=Fr.thenT (Fr.thenT f10 hf11 fun i hi e=>(by have e:i=wr.heap.size:=e;omega)) hf12 fun i hi e=>(by
  rcases e with e|e
  ·exact e
  ·have e:i=wr.heap.size:=e;omega)
 have f13:Fr (RT K vk) wr w13:=Fr.thenT f12 hf13 fun i hi e=>by
  rcases e with e|e
  ·exact .inl e
  ·rcases hv12 i e with k9|k9
   ·exact .inr k9
   ·omega
 have f15:Fr (RT K vk) wr w15:=Fr.thenT (Fr.thenT f13 hf14 fun i hi e=>(by have e:i=wr.heap.size:=e;omega)) hf15 fun _ _ e=>e.elim
 have up9:∀i,w8.heap.size≤i→¬(i=wr.heap.size):=fun i hi e=>by omega
 have hnot12:∀i,w8.heap.size≤i→i < w11.heap.size→¬RT K vk i:=fun i h1 h2 e=>by
  rcases e with e|e
  ·omega
  ·have:=hvk i e;omega
 have hnot13:∀i,w8.heap.size≤i→i < w11.heap.size→¬RT K v12 i:=fun i h1 h2 e=>by
  rcases e with e|e
  ·omega
  ·rcases hv12 i e with k9|k9
   ·have:=hvk i k9;omega
   ·omega
 have s9:SameS (New w8.heap.size w9) w9 w15:=(((((hf10.same fun i hi=>⟨hi.2,up9 i hi.1⟩).trans (hf11.same fun i hi=>⟨by have:=hi.2;omega,up9 i hi.1⟩)).trans (hf12.same fun i hi=>⟨by have:=hi.2;omega,fun e=>e.elim (hnot12 i hi.1 (by have:=hi.2;omega)) (up9 i hi.1)⟩)).trans (hf13.same fun i hi=>⟨by have:=hi.2;omega,hnot13 i hi.1 (by have:=hi.2;omega)⟩)).trans (hf14.same fun i hi=>⟨by have:=hi.2;omega,up9 i hi.1⟩)).trans (hf15.same fun i hi=>⟨by have:=hi.2;omega,id⟩)
 have s10:SameS (New w9.heap.size w10) w10 w15:=((((hf11.same fun i hi=>⟨hi.2,up9 i (by have:=hi.1;omega)⟩).trans (hf12.same fun i hi=>⟨by have:=hi.2;omega,fun e=>e.elim (hnot12 i (by have:=hi.1;omega) (by have:=hi.2;omega)) (up9 i (by have:=hi.1;omega))⟩)).trans (hf13.same fun i hi=>⟨by have:=hi.2;omega,hnot13 i (by have:=hi.1;omega) (by have:=hi.2;omega)⟩)).trans (hf14.same fun i hi=>⟨by have:=hi.2;omega,up9 i (by have:=hi.1;omega)⟩)).trans (hf15.same fun i hi=>⟨by have:=hi.2;omega,id⟩)
 have s12:SameS (fun i=>w11.heap.size≤i∧i < w12.heap.size∧v12.ownBlock≠some i) w12 w15:=((hf13.same fun i hi=>⟨hi.2.1,fun e=>by
   rcases e with e|e
   ·have:=hi.1;omega
   ·exact hi.2.2 e⟩).trans (hf14.same fun i hi=>⟨by have:=hi.2.1;omega,up9 i (by have:=hi.1;omega)⟩)).trans (hf15.same fun i hi=>⟨by have:=hi.2.1;omega,id⟩)
 have s13:SameS (fun i=>w12.heap.size≤i∧i < w13.heap.size∧v13.ownBlock≠some i) w13 w15:=(hf14.same fun i hi=>⟨hi.2.1,up9 i (by have:=hi.1;omega)⟩).trans (hf15.same fun i hi=>⟨by have:=hi.2.1;omega,id⟩)
 have hone:One1 [.int .u8 a0,.string nm',.slice X2 a2.len x2,.slice X3 a3.len x3,.slice A4 acc12.length c4,.slice A5 acc13.length c5,.int .i64 a6]:=by
  intro u hu
  simp only[List.mem_cons,List.not_mem_nil,or_false]at hu
  rcases hu with rfl|rfl|rfl|rfl|rfl|rfl|rfl<;>rfl
 have hnv:∀i,w8.heap.size≤i→i < w11.heap.size→v13.ownBlock≠some i:=fun i h1 h2 e=>by
  rcases hv13' i e with k9|k9
  ·have:=hvk i k9;omega
  ·omega
 have h1s:oneS w15 (OutS w.heap.size vo v13 w15) ⟨a0,nm',exprN n a2,condN n a3,stsOf acc12,stsOf acc13,a6⟩ [.int .u8 a0,.string nm',.slice X2 a2.len x2,.slice X3 a3.len x3,.slice A4 acc12.length c4,.slice A5 acc13.length c5,.int .i64 a6]:=by
  refine⟨X2,x2,X3,x3,A4,c4,A5,c5,by simp only[exprN_len,condN_len,stsOf_len],r0,r1,?_,?_,?_,?_⟩
  ·show SlR _ (exprN n a2).len 64 X2 x2
   rw[exprN_len]
   exact hs2.imp fun _ _ hx=>ExR.more (fun i hi=>⟨by have:=hi.1;omega,by have:=hi.2;omega,fun e=>by have:=hvo i e;have:=hi.1;omega,hnv i hi.1 (by have:=hi.2;omega)⟩) (ExR.keep s9 hx)
  ·show SlR _ (condN n a3).len 64 X3 x3
   rw[condN_len]
   exact hs3.imp fun _ _ hx=>CdR.more (fun i hi=>⟨by have:=hi.1;omega,by have:=hi.2;omega,fun e=>by have:=hvo i e;have:=hi.1;omega,hnv i (by have:=hi.1;omega) (by have:=hi.2;omega)⟩) (CdR.keep s10 hx)
  ·show SlR _ (stsOf acc12).len 128 A4 c4
   rw[stsOf_len]
   exact hb12.imp fun _ _ hx=>StR.more (fun i hi=>⟨by have:=hi.1;omega,by have:=hi.2.1;omega,fun e=>by have:=hvo i e;have:=hi.1;omega,fun e=>by
    rcases hv13 i e with k9|k9
    ·exact hi.2.2 k9
    ·have:=hi.2.1;omega⟩) (StR.keep s12 hx)
  ·show SlR _ (stsOf acc13).len 128 A5 c5
   rw[stsOf_len]
   exact hb13.imp fun _ _ hx=>StR.more (fun i hi=>⟨by have:=hi.1;omega,by have:=hi.2.1;omega,fun e=>by have:=hvo i e;have:=hi.1;omega,hi.2.2⟩) (StR.keep s13 hx)
 have hout15:=h.out.keep f15 hspk hLP
 obtain⟨hout16,hf16⟩:=hout15.step (ys:= [⟨a0,nm',exprN n a2,condN n a3,stsOf acc12,stsOf acc13,a6⟩]) ⟨_, [],by simp,h1s,rfl⟩ hone hown hg hsp (fun i hi=>by have:=hv13l i hi;omega)
 have hT8:∀i,v13.ownBlock=some i→¬i=wr.heap.size:=fun i hi e=>by
  rcases hv13' i hi with k9|k9
  ·have:=hvk i k9;omega
  ·omega
 have h15:RkAt K w15 s3 v13:=(h13.frT hf14 (fun i e=>by have e:i=wr.heap.size:=e;omega) (fun e=>by have e:K.P=wr.heap.size:=e;omega) hT8).fr0 hf15
 have hT:∀i,vo.ownBlock=some i→w.heap.size≤i:=fun i hi=>(hvo i hi).1
 have hnb:∀b,T b→v13.ownBlock≠some b:=fun b hb e=>by
  rcases hv13' b e with k9|k9
  ·exact(h.nb b hb).2.2 k9
  ·have:=h.tw b hb;omega
 refine⟨h15.frT hf16 (fun i hi=>by have:=hT i hi;omega) (fun e=>by have:=hT _ e;omega) (fun i hi e=>hout15.ne i e hi),hc13,hout16,?_,?_,h.tw,?_,h.spot.trans hspk z0,?_,?_⟩
 ·refine(h.nms.keep (fun _ h=>h) (f15.same fun b hb=>⟨(h.nb b hb).1,fun e=>?_⟩)).keep (fun _ h=>h) (hf16.same fun b hb=>⟨by have:=h.tw b hb;omega,fun e=>by have:=hT _ e;have:=h.tw b hb;omega⟩)
  rcases e with e|e
  ·exact(h.nb b hb).2.1 e
  ·exact(h.nb b hb).2.2 e
 ·exact fun b hb=>⟨by have:=h.tw b hb;have:=hf16.size;omega,(h.nb b hb).2.1,hnb b hb⟩
 ·refine Fr.thenT (Fr.thenT h.fr f15 fun i hi e=>?_) hf16 fun i hi e=>by have:=hT i e;omega
  rcases e with e|e
  ·exact .inl e
  ·rcases h.spot with k9|⟨g9,k9,hg9⟩
   ·exact .inr (k9▸e)
   ·rw[k9]at e;have:=Option.some.inj e;omega
 ·rw[stsOf_app,app_assoc,←h.eq,hd,Sts.drop_succ k xs hd]
  conv=>rhs;unfold inlS
  rw[if_neg (by rw[hfl];simp),if_neg h9,←hs1,e2,e3,hr12,hr13,←hnm]
  rfl
 ·have:=h.many
  rw[List.length_append]
  rw[hs1]at hm12
  simp only[List.length_cons,List.length_nil]at hm12 ⊢
  omega
def RStI (K:RK) (call:ByteArray→Exs→Nms→Int→Ist→Sts×Ist) (xs:Sts):Prop:=
 ∀(i:Nat) (a0:Int) (a1:ByteArray) (a2:Exs) (a3:Cds) (a4 a5:Sts) (a6:Int) (ar:Sts),Sts.drop i xs= .cons a0 a1 a2 a3 a4 a5 a6 ar→RC K (inlS call) a4∧RC K (inlS call) a5∧(a0=2∨a0=3∨a0=4∨a0=9∨a1.data.toList= [])
def RCaP (K:RK) (call:ByteArray→Exs→Nms→Int→Ist→Sts×Ist) (xs:Sts):Prop:=
 ∀(i:Nat) (a1:ByteArray) (a2:Exs) (a3:Cds) (a4 a5:Sts) (a6:Int) (ar:Sts),Sts.drop i xs= .cons 9 a1 a2 a3 a4 a5 a6 ar→∀(w:World) (s:Ist) (v:Value) (n:Nms) (A2:Option Addr) (c2:Nat) (V3 V4 V5:Value) (fs ts:List ByteArray) (Af At:Option Addr) (cf ct:Nat) (T:Nat→Prop),RkAt K w s v→s.calls≤s.many→fullB s=false→NmR w T n fs ts Af cf At ct→RB K v w T→n []=none→SlR (fun b o=>ExR K.W0 K.S False a2 b o) a2.len 64 A2 c2→in64 a6→
  Calls Tryz.prog 92 #[.pointer (some ⟨K.P,0,none⟩),.agg #[.int .u8 9,.string a1,.slice A2 a2.len c2,V3,V4,V5,.int .i64 a6],.slice Af fs.length cf,.slice At ts.length ct] w (RP K (call a1 a2 n a6 s) s w v)

structure OutX (L:Nat) (E:Nat→Prop) (w:World) (vo:Value) (acc:List St) (cs:List Value):Prop where
 row:w.ownsRow L 39 7 vo acc.length cs
 rows:RowR oneS w (fun b=>L≤b∧b < w.heap.size∧vo.ownBlock≠some b∧¬E b) acc cs
 one:One1 cs
 ne:∀b,vo.ownBlock=some b→¬E b
theorem OutX.keep {L:Nat} {E E' T:Nat→Prop} {w w':World} {vo:Value} {acc:List St} {cs:List Value} (h:OutX L E w vo acc cs) (hf:Fr T w w') (hT:∀b,T b→b < L∨E b) (hE:∀b,b < w.heap.size→E' b→E b):OutX L E' w' vo acc cs:=
 ⟨rw_keep h.row hf fun b hb e=>by
   rcases hT b e with k|k
   ·have:=(row_lt h.row hb).1;omega
   ·exact h.ne b hb k,
  RowR.imp oneS_keep (hf.same fun b hb=>⟨hb.2.1,fun e=>by
   rcases hT b e with k|k
   ·have:=hb.1;omega
   ·exact hb.2.2.2 k⟩) (fun b hb=>⟨hb.1,ltq hb.2.1 hf.size,hb.2.2.1,fun e=>hb.2.2.2 (hE b hb.2.1 e)⟩) h.rows,h.one,fun b hb e=>h.ne b hb (hE b (row_lt h.row hb).2 e)⟩
theorem OutX.step {L:Nat} {E:Nat→Prop} {w w9:World} {vo vo':Value} {acc ys:List St} {cs zs:List Value} (h:OutX L E w vo acc cs) (hy:RowR oneS w (fun b=>L≤b∧b < w.heap.size∧vo.ownBlock≠some b∧¬E b) ys zs) (h1:One1 zs)
  (hrow:w9.ownsRow L 39 7 vo' (acc.length+ys.length) (cs++zs)) (hg:w.grownBy w9 vo.ownBlock) (hsp:vo'.ownBlock=vo.ownBlock∨vo'.ownBlock=some w.heap.size) (hE:∀b,E b→b < w.heap.size):
  OutX L E w9 vo' (acc++ys) (cs++zs)∧Fr (fun b=>vo.ownBlock=some b) w w9:=by
 have hf:Fr (fun b=>vo.ownBlock=some b) w w9:=Fr.grown hg fun g e _=>e
 have hs:∀b,(L≤b∧b < w.heap.size∧vo.ownBlock≠some b∧¬E b)→(L≤b∧b < w9.heap.size∧vo'.ownBlock≠some b∧¬E b):=fun b hb=>⟨hb.1,ltq hb.2.1 hf.size,fun e=>by
  rcases hsp with h|h
  ·exact hb.2.2.1 (h▸e)
  ·rw[h]at e
   have:=Option.some.inj e
   have:=hb.2.1
   omega,hb.2.2.2⟩
 have hsm:SameS (fun b=>L≤b∧b < w.heap.size∧vo.ownBlock≠some b∧¬E b) w w9:=hf.same fun b hb=>⟨hb.2.1,hb.2.2.1⟩
 refine⟨⟨by rw[List.length_append];exact hrow,RowR.app (RowR.imp oneS_keep hsm hs hy) (RowR.imp oneS_keep hsm hs h.rows),h.one.app h1,fun b hb=>?_⟩,hf⟩
 rcases hsp with e|e
 ·exact h.ne b (e▸hb)
 ·rw[e]at hb
  have:=Option.some.inj hb
  exact fun hvb=>by have:=hE b hvb;omega
theorem OutX.toRow {L:Nat} {E:Nat→Prop} {w:World} {vo v:Value} {acc:List St} {cs:List Value} (h:OutX L E w vo acc cs) (hv:∀b,v.ownBlock=some b→E b):OutRow L v w vo acc cs:=
 ⟨h.row,RowR.imp oneS_keep (SameS.refl _ _) (fun b hb=>⟨hb.1,hb.2.1,hb.2.2.1,fun e=>hb.2.2.2 (hv b e)⟩) h.rows,h.one,fun b hb e=>h.ne b hb (hv b e)⟩
structure CaL (K:RK) (v0:Value) (w:World) (X L:Nat) (T:Nat→Prop):Prop where
 p:K.P < w.heap.size
 x:w.heap.size < X∧X < L
 w0:K.W0.heap.size≤w.heap.size
 nb:RB K v0 w T
 v0l:∀i,v0.ownBlock=some i→i < w.heap.size
structure CaF (K:RK) (v0:Value) (w:World) (X L:Nat) (bx bs:Array Value) (n:Nms) (fs ts:List ByteArray) (Af At:Option Addr) (cf ct:Nat) (T:Nat→Prop) (wr:World) (v:Value):Prop where
 fr:Fr (RT K v0) w wr
 spot:SpotP w v0 v
 vL:∀i,v.ownBlock=some i→i < w.heap.size∨L≤i
 xb:Bk wr X 68 bx
 box:Bk wr w.heap.size 39 bs
 nms:NmR wr T n fs ts Af cf At ct
 sz:L≤wr.heap.size
theorem CaF.go {K:RK} {v0:Value} {w:World} {X L:Nat} {bx bs:Array Value} {n:Nms} {fs ts:List ByteArray} {Af At:Option Addr} {cf ct:Nat} {T:Nat→Prop} {wr w':World} {v v':Value} {U:Nat→Prop} (hl:CaL K v0 w X L T)
  (h:CaF K v0 w X L bx bs n fs ts Af At cf ct T wr v) (hf:Fr U wr w') (hU:∀i,U i→i=K.P∨v.ownBlock=some i∨L≤i) (hv:SpotP wr v v'):CaF K v0 w X L bx bs n fs ts Af At cf ct T w' v':=by
 have hlx:=hl.x
 have hlp:=hl.p
 have hz:=h.fr.size
 have hv0:∀i,i < w.heap.size→v.ownBlock=some i→v0.ownBlock=some i:=fun i hi e=>by
  rcases h.spot with k|⟨g,k,hg⟩
  ·exact k▸e
  ·rw[k]at e;have:=Option.some.inj e;omega
 refine⟨Fr.thenT h.fr hf fun i hi e=>?_,h.spot.trans hv hz,fun i hi=>?_,h.xb.fr hf fun e=>?_,h.box.fr hf fun e=>?_,h.nms.keep (fun _ h=>h) (hf.same fun b hb=>⟨?_,fun e=>?_⟩),leq9 h.sz hf.size⟩
 ·rcases hU i e with k|k|k
  ·exact .inl k
  ·exact .inr (hv0 i hi k)
  ·omega
 ·rcases hv with k|⟨g,k,hg⟩
  ·exact h.vL i (k▸hi)
  ·rw[k]at hi;have:=Option.some.inj hi;have:=h.sz;exact .inr (by omega)
 ·rcases hU _ e with k|k|k
  ·omega
  ·have:=h.vL _ k;omega
  ·omega
 ·rcases hU _ e with k|k|k
  ·omega
  ·have:=hl.v0l _ ((by
    rcases h.spot with q|⟨g,q,hg⟩
    ·exact q▸k
    ·exfalso;have:=h.vL _ k;omega:v0.ownBlock=some w.heap.size));omega
  ·omega
 ·have:=(hl.nb b hb).1;omega
 ·have hb1:=hl.nb b hb
  rcases hU _ e with k|k|k
  ·exact hb1.2.1 k
  ·exact hb1.2.2 (hv0 b hb1.1 k)
  ·have:=hb1.1;omega
def CE (v vf vt:Value):Nat→Prop:=fun b=>v.ownBlock=some b∨vf.ownBlock=some b∨vt.ownBlock=some b
def TxRow (w:World) (L:Nat) (v:Value) (l:List ByteArray):Prop:=w.ownsRow L 9 1 v l.length (l.map Value.string)
structure CaQ (K:RK) (v0:Value) (w:World) (X L:Nat) (bx bs:Array Value) (n:Nms) (fs ts:List ByteArray) (Af At:Option Addr) (cf ct:Nat) (T:Nat→Prop) (wr:World) (st:Ist) (v vo vf vt:Value) (acc:List St) (cs:List Value) (nfs nts:List ByteArray):Prop where
 fs_:CaF K v0 w X L bx bs n fs ts Af At cf ct T wr v
 st_:RAtF K wr st v false
 out:OutX L (CE v vf vt) wr vo acc cs
 nf:TxRow wr L vf nfs
 nt:TxRow wr L vt nts
 ne1:∀i,vf.ownBlock=some i→vt.ownBlock≠some i∧v.ownBlock≠some i
 ne2:∀i,vt.ownBlock=some i→v.ownBlock≠some i
variable {K:RK} {v0:Value} {w:World} {X L:Nat} {bx bs:Array Value} {n:Nms} {fs ts:List ByteArray} {Af At:Option Addr} {cf ct:Nat} {T:Nat→Prop} {wr w9:World} {st:Ist} {v vo vf vt:Value} {acc:List St} {cs:List Value} {nfs nts:List ByteArray}
theorem RAtF.vlt {fl:Bool} (h:RAtF K wr st v fl):∀i,v.ownBlock=some i→i < wr.heap.size:=fun i hi=>by obtain⟨c9,h9,_⟩:=h.row;exact(row_lt h9 hi).2
theorem CaQ.fr0 (hl:CaL K v0 w X L T) (h:CaQ K v0 w X L bx bs n fs ts Af At cf ct T wr st v vo vf vt acc cs nfs nts) (hf:Fr NoT wr w9):CaQ K v0 w X L bx bs n fs ts Af At cf ct T w9 st v vo vf vt acc cs nfs nts:=
 ⟨h.fs_.go hl hf (fun _ e=>e.elim) (SpotP.refl _ _),h.st_.fr0 hf,h.out.keep hf (fun _ e=>e.elim) (fun _ _ e=>e),rw_keep h.nf hf fun _ _=>id,rw_keep h.nt hf fun _ _=>id,h.ne1,h.ne2⟩
theorem CaQ.name (hl:CaL K v0 w X L T) (h:CaQ K v0 w X L bx bs n fs ts Af At cf ct T wr st v vo vf vt acc cs nfs nts) {vf':Value} {s:ByteArray}
  (hrow:w9.ownsRow L 9 1 vf' (nfs.length+1) (nfs.map Value.string++ [.string s])) (hg:wr.grownBy w9 vf.ownBlock) (hsp:vf'.ownBlock=vf.ownBlock∨vf'.ownBlock=some wr.heap.size):
  CaQ K v0 w X L bx bs n fs ts Af At cf ct T w9 st v vo vf' vt acc cs (nfs++ [s]) nts:=by
 have hf:Fr (fun b=>vf.ownBlock=some b) wr w9:=Fr.grown hg fun g e _=>e
 have hfl:∀i,vf.ownBlock=some i→L≤i∧i < wr.heap.size:=fun i hi=>row_lt h.nf hi
 have hlx:=hl.x
 have hlp:=hl.p
 have hw0:=hl.w0
 have hE:∀b,b < wr.heap.size→CE v vf' vt b→CE v vf vt b:=fun b hb e=>by
  rcases e with e|e|e
  ·exact .inl e
  ·rcases hsp with k|k
   ·exact .inr (.inl (k▸e))
   ·rw[k]at e;have:=Option.some.inj e;omega
  ·exact .inr (.inr e)
 have hvl:=h.st_.vlt
 have htl:∀i,vt.ownBlock=some i→i < wr.heap.size:=fun i hi=>(row_lt h.nt hi).2
 refine⟨h.fs_.go hl hf (fun i e=> .inr (.inr (hfl i e).1)) (SpotP.refl _ _),h.st_.frT hf (fun i e=>by have:=hfl i e;omega) (fun e=>by have:=hfl _ e;omega) (fun i hi e=>(h.ne1 i e).2 hi),h.out.keep hf (fun b e=> .inr (.inr (.inl e))) hE,?_,rw_keep h.nt hf fun i hi e=>(h.ne1 i e).1 hi,fun i hi=>?_,h.ne2⟩
 ·unfold TxRow
  rw[List.length_append,List.map_append]
  exact hrow
 ·rcases hsp with k|k
  ·exact h.ne1 i (k▸hi)
  ·rw[k]at hi
   have:=Option.some.inj hi
   exact⟨fun e=>by have:=htl i e;omega,fun e=>by have:=hvl i e;omega⟩
theorem CaQ.new_ (hl:CaL K v0 w X L T) (h:CaQ K v0 w X L bx bs n fs ts Af At cf ct T wr st v vo vf vt acc cs nfs nts) {vt':Value} {s:ByteArray}
  (hrow:w9.ownsRow L 9 1 vt' (nts.length+1) (nts.map Value.string++ [.string s])) (hg:wr.grownBy w9 vt.ownBlock) (hsp:vt'.ownBlock=vt.ownBlock∨vt'.ownBlock=some wr.heap.size):
  CaQ K v0 w X L bx bs n fs ts Af At cf ct T w9 st v vo vf vt' acc cs nfs (nts++ [s]):=by
 have hf:Fr (fun b=>vt.ownBlock=some b) wr w9:=Fr.grown hg fun g e _=>e
 have hfl:∀i,vt.ownBlock=some i→L≤i∧i < wr.heap.size:=fun i hi=>row_lt h.nt hi
 have hlx:=hl.x
 have hlp:=hl.p
 have hw0:=hl.w0
 have hE:∀b,b < wr.heap.size→CE v vf vt' b→CE v vf vt b:=fun b hb e=>by
  rcases e with e|e|e
  ·exact .inl e
  ·exact .inr (.inl e)
  ·rcases hsp with k|k
   ·exact .inr (.inr (k▸e))
   ·rw[k]at e;have:=Option.some.inj e;omega
 have hvl:=h.st_.vlt
 have htl:∀i,vf.ownBlock=some i→i < wr.heap.size:=fun i hi=>(row_lt h.nf hi).2
 refine⟨h.fs_.go hl hf (fun i e=> .inr (.inr (hfl i e).1)) (SpotP.refl _ _),h.st_.frT hf (fun i e=>by have:=hfl i e;omega) (fun e=>by have:=hfl _ e;omega) (fun i hi e=>h.ne2 i e hi),h.out.keep hf (fun b e=> .inr (.inr (.inr e))) hE,rw_keep h.nf hf fun i hi e=>(h.ne1 i hi).1 e,?_,fun i hi=>?_,fun i hi=>?_⟩
 ·unfold TxRow
  rw[List.length_append,List.map_append]
  exact hrow
 ·rcases hsp with k|k
  ·exact⟨k▸(h.ne1 i hi).1,(h.ne1 i hi).2⟩
  ·exact⟨fun e=>by rw[k]at e;have:=Option.some.inj e;have:=htl i hi;omega,(h.ne1 i hi).2⟩
 ·rcases hsp with k|k
  ·exact h.ne2 i (k▸hi)
  ·rw[k]at hi
   have:=Option.some.inj hi
   exact fun e=>by have:=hvl i e;omega
theorem CaQ.put (hl:CaL K v0 w X L T) (h:CaQ K v0 w X L bx bs n fs ts Af At cf ct T wr st v vo vf vt acc cs nfs nts) {vo':Value} {y:St} {zs:List Value}
  (hy:oneS wr (fun b=>L≤b∧b < wr.heap.size∧vo.ownBlock≠some b∧¬CE v vf vt b) y zs) (h1:One1 zs)
  (hrow:w9.ownsRow L 39 7 vo' (acc.length+1) (cs++zs)) (hg:wr.grownBy w9 vo.ownBlock) (hsp:vo'.ownBlock=vo.ownBlock∨vo'.ownBlock=some wr.heap.size):
  CaQ K v0 w X L bx bs n fs ts Af At cf ct T w9 st v vo' vf vt (acc++ [y]) (cs++zs) nfs nts:=by
 have hol:∀i,vo.ownBlock=some i→L≤i∧i < wr.heap.size:=fun i hi=>row_lt h.out.row hi
 have hlx:=hl.x
 have hlp:=hl.p
 have hw0:=hl.w0
 obtain⟨ho,hf⟩:=h.out.step (ys:= [y]) ⟨_, [],by simp,hy,rfl⟩ h1 hrow hg hsp (fun b e=>by
  rcases e with e|e|e
  ·exact h.st_.vlt b e
  ·exact(row_lt h.nf e).2
  ·exact(row_lt h.nt e).2)
 exact⟨h.fs_.go hl hf (fun i e=> .inr (.inr (hol i e).1)) (SpotP.refl _ _),h.st_.frT hf (fun i e=>by have:=hol i e;omega) (fun e=>by have:=hol _ e;omega) (fun i hi e=>h.out.ne i e (.inl hi)),ho,rw_keep h.nf hf fun i hi e=>h.out.ne i e (.inr (.inl hi)),rw_keep h.nt hf fun i hi e=>h.out.ne i e (.inr (.inr hi)),h.ne1,h.ne2⟩
theorem CaQ.push (hl:CaL K v0 w X L T) (h:CaQ K v0 w X L bx bs n fs ts Af At cf ct T wr st v vo vf vt acc cs nfs nts) {v':Value} {x:Va} {cs9:List Value} (hrows:RowR oneV wr (fun _=>True) st.vars cs9) (hx:in64 x.at_) (hlen:st.vars.length+1≤36)
  (hrow:w9.ownsRow K.W0.heap.size 43 2 v' (st.vars.length+1) (cs9++ [.string x.nm,.int .i64 x.at_])) (hg:wr.grownBy w9 v.ownBlock) (hsp:v'.ownBlock=v.ownBlock∨v'.ownBlock=some wr.heap.size):
  CaQ K v0 w X L bx bs n fs ts Af At cf ct T (w9.setCell ⟨K.P,2,none⟩ v') ⟨st.calls,st.vars++ [x],st.many⟩ v' vo vf vt acc cs nfs nts:=by
 have hf:Fr (fun b=>v.ownBlock=some b) wr w9:=Fr.grown hg fun g e _=>e
 have hlow:∀b,v.ownBlock=some b→K.W0.heap.size≤b:=fun b hb=>by
  obtain⟨cs,h1,_⟩:=h.st_.row
  exact(row_lt h1 hb).1
 have hvl:=h.st_.vlt
 have hPl:=h.st_.bk.lt
 have hlx:=hl.x
 have hlp:=hl.p
 have hbk9:=h.st_.bk.fr hf h.st_.ne
 have hne:v'.ownBlock≠some K.P:=by
  rcases hsp with e|e
  ·rw[e];exact h.st_.ne
  ·rw[e];exact fun e=>by have:=Option.some.inj e;omega
 have hf9:Fr (fun b=>b=K.P) w9 (w9.setCell ⟨K.P,2,none⟩ v'):=Fr.own (Fr.refl _ _) 2 v'
 have hft:Fr (fun b=>b=K.P∨v.ownBlock=some b) wr (w9.setCell ⟨K.P,2,none⟩ v'):=(hf.mono fun _ _ e=> .inr e).trans (hf9.mono fun _ _ e=> .inl e)
 have hvv:∀i,i < wr.heap.size→v'.ownBlock=some i→v.ownBlock=some i:=fun i hi e=>by
  rcases hsp with k|k
  ·exact k▸e
  ·rw[k]at e;have:=Option.some.inj e;omega
 have hfl:∀i,vf.ownBlock=some i→L≤i∧i < wr.heap.size:=fun i hi=>row_lt h.nf hi
 have htl:∀i,vt.ownBlock=some i→L≤i∧i < wr.heap.size:=fun i hi=>row_lt h.nt hi
 refine⟨h.fs_.go hl hft (fun i e=>e.elim .inl fun e=> .inr (.inl e)) ?_,⟨Fr.back1 h.st_.fr (hft.mono fun b _ e=>(by
   show K.W0.heap.size≤b
   rcases e with e|e
   ·have:=h.st_.high;omega
   ·exact hlow b e)) (lrq _),?_,⟨cs9++ [.string x.nm,.int .i64 x.at_],?_,?_⟩,h.st_.high,hne,h.st_.most.1,h.st_.most.2.1,?_⟩,h.out.keep hft (fun b e=>?_) (fun b hb e=>?_),rw_keep h.nf hft fun i hi e=>?_,rw_keep h.nt hft fun i hi e=>?_,fun i hi=>⟨(h.ne1 i hi).1,fun e=>(h.ne1 i hi).2 (hvv i (hfl i hi).2 e)⟩,fun i hi e=>h.ne2 i hi (hvv i (htl i hi).2 e)⟩
 ·rcases hsp with e|e
  ·exact .inl e
  ·exact .inr ⟨_,e,lrq _⟩
 ·have:=hbk9.set_ 2 v'
  simpa using this
 ·show World.ownsRow _ _ _ _ _ (st.vars++ [x]).length _
  rw[List.length_append]
  exact rw_keep hrow hf9 fun b hb e=>by have e:b=K.P:=e;subst e;exact hne hb
 ·exact RowR.any (RowR.snoc (w:=wr) ⟨rfl,hx⟩ hrows)
 ·show(st.vars++ [x]).length ≤36
  simpa using hlen
 ·rcases e with e|e
  ·exact .inl (by omega)
  ·exact .inr (.inl e)
 ·rcases e with e|e|e
  ·exact .inl (hvv b hb e)
  ·exact .inr (.inl e)
  ·exact .inr (.inr e)
 ·rcases e with e|e
  ·have:=hfl i hi;omega
  ·exact(h.ne1 i hi).2 e
 ·rcases e with e|e
  ·have:=htl i hi;omega
  ·exact h.ne2 i hi e
theorem TxRow.nil (w:World) (L:Nat):TxRow w L (.slice none 0 0) []:=World.ownsRow_nil _ _ _ _
theorem TxRow.sl {w:World} {L:Nat} {v:Value} {l:List ByteArray} (h:TxRow w L v l) {S:Nat→Prop} (hS:∀b,v.ownBlock=some b→S b):∃A c,v= .slice A l.length c∧TxSl w S l A c:=by
 rcases h.2 with⟨e,h0⟩|⟨g,cap,cur,e,hb,hg,hn,hc,hcs,ht⟩
 ·exact⟨none,0,by rw[e,h0],by rw[h0];exact lrq 0,by decide,fun hp=>by omega⟩
 ·refine⟨some ⟨g,0,none⟩,cap,e,hn,by unfold maxLen at hc;omega,fun _=>⟨g,0,rfl,hS g (by rw[e];rfl),fun i s hs=>?_⟩⟩
  have h2:w.ownsRow L 9 1 v l.length (l.map Value.string):=h
  rw[e]at h2
  have:=h2.cells (g:=g) rfl i (.string s) (by rw[List.getElem?_map,hs];rfl)
  rw[add_at]at this
  exact this
theorem renL_map (p:ByteArray) (c:Nat) (y:ByteArray):∀(ps:List Va),((∃v∈ps,v.nm=y)→renL (ps.map Va.nm) (ps.map fun v=>parN p c v.nm) y=parN p c y)∧((¬∃v∈ps,v.nm=y)→renL (ps.map Va.nm) (ps.map fun v=>parN p c v.nm) y=y)
 | []=>⟨fun⟨_,h,_⟩=>(by simp at h),fun _=>rfl⟩
 |v::r=>by
  have ih:=renL_map p c y r
  simp only[List.map_cons,renL]
  by_cases e:v.nm=y
  ·exact⟨fun _=>by rw[if_pos e,e],fun h=>absurd ⟨v,by simp,e⟩ h⟩
  ·refine⟨fun⟨z,hz,hzy⟩=>?_,fun h=>?_⟩
   ·rw[if_neg e]
    refine ih.1 ⟨z,?_,hzy⟩
    rcases List.mem_cons.1 hz with rfl|hz
    ·exact absurd hzy e
    ·exact hz
   ·rw[if_neg e]
    exact ih.2 fun⟨z,hz,hzy⟩=>h ⟨z,by simp[hz],hzy⟩
theorem ownN_at (p:ByteArray) (c:Nat) (y:ByteArray):∀(ps:List Va) (o:Nms),((∃v∈ps,v.nm=y)→ownN p c ps o y.data.toList=some (parN p c y))∧((¬∃v∈ps,v.nm=y)→ownN p c ps o y.data.toList=o y.data.toList)
 | [],o=>⟨fun⟨_,h,_⟩=>(by simp at h),fun _=>rfl⟩
 |v::r,o=>by
  have ih:=ownN_at p c y r (fun z=>if z=v.nm.data.toList then some (parN p c v.nm)else o z)
  simp only[ownN]
  have hby:∀a b:ByteArray,a.data.toList=b.data.toList→a=b:=fun a b h=>by
   cases a;cases b
   simp only[ByteArray.mk.injEq]
   exact Array.toList_inj.1 h
  by_cases hr:∃z∈r,z.nm=y
  ·exact⟨fun _=>ih.1 hr,fun h=>absurd (by obtain⟨z,hz,hzy⟩:=hr;exact⟨z,by simp[hz],hzy⟩) h⟩
  ·rw[ih.2 hr]
   refine⟨fun⟨z,hz,hzy⟩=>?_,fun h=>?_⟩
   ·rcases List.mem_cons.1 hz with rfl|hz
    ·rw[if_pos (by rw[hzy]),hzy]
    ·exact absurd ⟨z,hz,hzy⟩ hr
   ·rw[if_neg fun e=>h ⟨v,by simp,(hby _ _ e).symm⟩]
theorem ownN_nil (p:ByteArray) (c:Nat):∀(ps:List Va) (o:Nms),(∀v∈ps,v.nm.data.toList≠ [])→o []=none→ownN p c ps o []=none
 | [],o,_,h=>h
 |v::r,o,hp,h=>ownN_nil p c r _ (fun z hz=>hp z (by simp[hz])) (by rw[if_neg fun e=>hp v (by simp) e.symm];exact h)
theorem NmR.built {w:World} {L:Nat} {vf vt:Value} (p:ByteArray) (c:Nat) (ps:List Va) (hf:TxRow w L vf (ps.map Va.nm)) (ht:TxRow w L vt (ps.map fun v=>parN p c v.nm)):
  ∃Af cf At ct,vf= .slice Af (ps.map Va.nm).length cf∧vt= .slice At (ps.map fun v=>parN p c v.nm).length ct∧NmR w (fun b=>vf.ownBlock=some b∨vt.ownBlock=some b) (ownN p c ps fun _=>none) (ps.map Va.nm) (ps.map fun v=>parN p c v.nm) Af cf At ct:=by
 obtain⟨Af,cf,e1,h1⟩:=hf.sl (S:=fun b=>vf.ownBlock=some b∨vt.ownBlock=some b) fun b hb=> .inl hb
 obtain⟨At,ct,e2,h2⟩:=ht.sl (S:=fun b=>vf.ownBlock=some b∨vt.ownBlock=some b) fun b hb=> .inr hb
 refine⟨Af,cf,At,ct,e1,e2,h1,h2,by simp,fun y=>?_⟩
 unfold ofN
 by_cases hy:∃v∈ps,v.nm=y
 ·rw[(renL_map p c y ps).1 hy,(ownN_at p c y ps _).1 hy];rfl
 ·rw[(renL_map p c y ps).2 hy,(ownN_at p c y ps _).2 hy];rfl
end Go.Proofs.YtmopichdofgndaaGreatDoor
