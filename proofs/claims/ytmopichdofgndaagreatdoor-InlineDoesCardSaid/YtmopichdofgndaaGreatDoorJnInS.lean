/-
  inline: statements with calls put in place. Printed by wip/gen_in/reg.py.
-/
import Derived.Test.YtmopichdofgndaaGreatDoorInCall
set_option linter.unusedVariables false
set_option linter.unusedSimpArgs false
set_option maxHeartbeats 3200000
set_option maxRecDepth 100000
namespace Go.Proofs.YtmopichdofgndaaGreatDoor
open Go.RowKit Go.Shelf Go.Maps

structure StSt (K:InK) (call:ByteArray→Exs→Nms→Int→Ist→Sts×Ist) (xs:Sts) (s:Ist) (n:Nms) (wr:World) (v vo:Value) (acc:List St) (cs:List Value) (si:Ist) (k:Nat) (v0:Value) (w:World) (b q:Nat):Prop where
 st:InAt K wr si v
 cm:si.calls≤si.many
 out:OutRow w.heap.size v wr vo acc cs
 nms:NmM wr b q n
 nb:InB K v b
 fr:Fr (InT K v0) w wr
 spot:SpotP w v0 v
 eq:(Sts.app (stsOf acc) (inlS call (Sts.drop k xs) n si).1,(inlS call (Sts.drop k xs) n si).2)=inlS call xs n s
 many:s.many+acc.length≤si.many
def StI (K:InK) (call:ByteArray→Exs→Nms→Int→Ist→Sts×Ist) (xs:Sts):Prop:=
 ∀(i:Nat) (a0:Int) (a1:ByteArray) (a2:Exs) (a3:Cds) (a4 a5:Sts) (a6:Int) (ar:Sts),Sts.drop i xs= .cons a0 a1 a2 a3 a4 a5 a6 ar→StC K (inlS call) a4∧StC K (inlS call) a5∧a1.size≤9223372036854775807∧szX a2∧szC a3
def CaPC (K:InK) (call:ByteArray→Exs→Nms→Int→Ist→Sts×Ist) (xs:Sts):Prop:=
 ∀(i:Nat) (a1:ByteArray) (a2:Exs) (a3:Cds) (a4 a5:Sts) (a6:Int) (ar:Sts),Sts.drop i xs= .cons 9 a1 a2 a3 a4 a5 a6 ar→∀(w:World) (s:Ist) (v:Value) (n:Nms) (b q:Nat) (A2:Option Addr) (c2:Nat) (V3 V4 V5:Value),InAt K w s v→s.calls≤s.many→fullB s=false→NmM w b q n→InB K v b→SlR (fun b o=>ExR K.W0 K.S False a2 b o) a2.len 64 A2 c2→in64 a6→
  Calls Tryz.prog 83 #[.pointer (some ⟨K.P,0,none⟩),.agg #[.int .u8 9,.string a1,.slice A2 a2.len c2,V3,V4,V5,.int .i64 a6],.map (some b)] w (InP K (call a1 a2 n a6 s) s w v)
theorem StSt.next {K:InK} {call:ByteArray→Exs→Nms→Int→Ist→Sts×Ist} {xs:Sts} {s:Ist} {n:Nms} {wr:World} {vk vo:Value} {acc:List St} {cs:List Value} {si:Ist} {k:Nat} {v:Value} {w:World} {b q:Nat}
  (h:StSt K call xs s n wr vk vo acc cs si k v w b q) (hL:K.P < w.heap.size∧K.bp < w.heap.size∧b < w.heap.size∧K.W0.heap.size≤w.heap.size) {a0:Int} {a1 nm':ByteArray} {a2:Exs} {a3:Cds} {a4 a5:Sts} {a6:Int} {ar:Sts} (hd:Sts.drop k xs= .cons a0 a1 a2 a3 a4 a5 a6 ar) (hfl:fullB si=false) (h9:¬a0=9) (hnm:nm'=if a0=3 then a1 else ofN n a1) (r0:in8 a0) (r1:in64 a6)
  {w8 w9 w10 w11 w12 w13 w14 w15 w16:World} (hf8:Fr (fun i=>i=K.P∨i=wr.heap.size) wr w8) (hz8:wr.heap.size < w8.heap.size) (hf9:Fr NoT w8 w9) (hf10:Fr NoT w9 w10) (hf11:Fr (fun i=>i=wr.heap.size) w10 w11)
  {X2 X3 A4 A5:Option Addr} {x2 x3 c4 c5:Nat} (hs2:SlR (fun b o=>ExR w9 (New w8.heap.size w9) True (exprN n a2) b o) a2.len 64 X2 x2) (hs3:SlR (fun b o=>CdR w10 (New w9.heap.size w10) True (condN n a3) b o) a3.len 64 X3 x3)
  {s1 s2 s3:Ist} (hs1:s1=⟨si.calls,si.vars,si.many+1⟩) {v12 v13:Value} {acc12 acc13:List St} (e2:(inlS call a4 n s1).2 =s2) (e3:(inlS call a5 n s2).2 =s3) (hr12:(inlS call a4 n s1).1 =stsOf acc12) (hr13:(inlS call a5 n s2).1 =stsOf acc13)
  (hf12:Fr (InT K vk) w11 w12) (hsp12:SpotP w11 vk v12) (hb12:SlR (fun b o=>StR w12 (fun i=>w11.heap.size≤i∧i < w12.heap.size∧v12.ownBlock≠some i) True (stsOf acc12) b o) acc12.length 128 A4 c4) (hm12:s1.many+acc12.length≤s2.many)
  (h13:InAt K w13 s3 v13) (hf13:Fr (InT K v12) w12 w13) (hsp13:SpotP w12 v12 v13) (hb13:SlR (fun b o=>StR w13 (fun i=>w12.heap.size≤i∧i < w13.heap.size∧v13.ownBlock≠some i) True (stsOf acc13) b o) acc13.length 128 A5 c5) (hm13:s2.many+acc13.length≤s3.many) (hc13:s3.calls≤s3.many)
  (hf14:Fr (fun i=>i=wr.heap.size) w13 w14) (hf15:Fr NoT w14 w15) {vo':Value} (hown:w16.ownsRow w.heap.size 39 7 vo' (acc.length+1) (cs++ [.int .u8 a0,.string nm',.slice X2 a2.len x2,.slice X3 a3.len x3,.slice A4 acc12.length c4,.slice A5 acc13.length c5,.int .i64 a6])) (hg:w15.grownBy w16 vo.ownBlock) (hsp:vo'.ownBlock=vo.ownBlock∨vo'.ownBlock=some w15.heap.size):
  StSt K call xs s n w16 v13 vo' (acc++ [⟨a0,nm',exprN n a2,condN n a3,stsOf acc12,stsOf acc13,a6⟩]) (cs++ [.int .u8 a0,.string nm',.slice X2 a2.len x2,.slice X3 a3.len x3,.slice A4 acc12.length c4,.slice A5 acc13.length c5,.int .i64 a6]) s3 (k+1) v w b q:=by
 obtain⟨hLP,hLb,hLn,hW0⟩:=hL
 have z0:=h.fr.size
 have z9:=hf9.size
 have z10:=hf10.size
 have z11:=hf11.size
 have z12:=hf12.size
 have z13:=hf13.size
 have z14:=hf14.size
 have z15:=hf15.size
 have hvk:∀i,vk.ownBlock=some i→i < wr.heap.size:=fun i hi=>by obtain⟨c9,h9,_⟩:=h.st.row;exact(row_lt h9 hi).2
 have hv12:∀i,v12.ownBlock=some i→vk.ownBlock=some i∨w11.heap.size≤i:=fun i hi=>by
  rcases hsp12 with e|⟨g,e,hg9⟩
  ·exact .inl (e▸hi)
  ·rw[e]at hi;have:=Option.some.inj hi;exact .inr (by omega)
 have hv13:∀i,v13.ownBlock=some i→v12.ownBlock=some i∨w12.heap.size≤i:=fun i hi=>by
  rcases hsp13 with e|⟨g,e,hg9⟩
  ·exact .inl (e▸hi)
  ·rw[e]at hi;have:=Option.some.inj hi;exact .inr (by omega)
 have hv13':∀i,v13.ownBlock=some i→vk.ownBlock=some i∨w11.heap.size≤i:=fun i hi=>by
  rcases hv13 i hi with e|e
  ·exact hv12 i e
  ·exact .inr (by omega)
 have hv13l:∀i,v13.ownBlock=some i→i < w13.heap.size:=fun i hi=>by obtain⟨c9,h9,_⟩:=h13.row;exact(row_lt h9 hi).2
 have hvo:∀i,vo.ownBlock=some i→w.heap.size≤i∧i < wr.heap.size:=fun i hi=>row_lt h.out.row hi
 have hspk:SpotP wr vk v13:=(hsp12.trans hsp13 z12).trans (SpotP.refl w13 v13) (by omega) |> fun k=>by
  rcases k with e|⟨g,e,hg9⟩
  ·exact .inl e
  ·exact .inr ⟨g,e,by omega⟩
 -- frames
 have f10:Fr (InT K vk) wr w10:=Fr.thenT (Fr.thenT (Fr.thenT (Fr.refl _ _) hf8 fun i hi e=>(by rcases e with e|e;exact .inl e;omega)) hf9 fun _ _ e=>e.elim) hf10 fun _ _ e=>e.elim
 have f12:Fr (InT K vk) wr w12:=(Fr.thenT f10 hf11 fun i hi e=>(by have e:i=wr.heap.size:=e;omega)).trans hf12
 have f13:Fr (InT K vk) wr w13:=Fr.thenT f12 hf13 fun i hi e=>by
  rcases e with e|e
  ·exact .inl e
  ·rcases hv12 i e with k9|k9
   ·exact .inr k9
   ·omega
 have f15:Fr (InT K vk) wr w15:=Fr.thenT (Fr.thenT f13 hf14 fun i hi e=>(by have e:i=wr.heap.size:=e;omega)) hf15 fun _ _ e=>e.elim
 have up9:∀i,w8.heap.size≤i→¬(i=wr.heap.size):=fun i hi e=>by omega
 have hnot12:∀i,w8.heap.size≤i→i < w11.heap.size→¬InT K vk i:=fun i h1 h2 e=>by
  rcases e with e|e
  ·omega
  ·have:=hvk i e;omega
 have hnot13:∀i,w8.heap.size≤i→i < w11.heap.size→¬InT K v12 i:=fun i h1 h2 e=>by
  rcases e with e|e
  ·omega
  ·rcases hv12 i e with k9|k9
   ·have:=hvk i k9;omega
   ·omega
 have s9:SameS (New w8.heap.size w9) w9 w15:=(((((hf10.same fun i hi=>⟨hi.2,id⟩).trans (hf11.same fun i hi=>⟨by have:=hi.2;omega,up9 i hi.1⟩)).trans (hf12.same fun i hi=>⟨by have:=hi.2;omega,hnot12 i hi.1 (by have:=hi.2;omega)⟩)).trans (hf13.same fun i hi=>⟨by have:=hi.2;omega,hnot13 i hi.1 (by have:=hi.2;omega)⟩)).trans (hf14.same fun i hi=>⟨by have:=hi.2;omega,up9 i hi.1⟩)).trans (hf15.same fun i hi=>⟨by have:=hi.2;omega,id⟩)
 have s10:SameS (New w9.heap.size w10) w10 w15:=((((hf11.same fun i hi=>⟨hi.2,up9 i (by have:=hi.1;omega)⟩).trans (hf12.same fun i hi=>⟨by have:=hi.2;omega,hnot12 i (by have:=hi.1;omega) (by have:=hi.2;omega)⟩)).trans (hf13.same fun i hi=>⟨by have:=hi.2;omega,hnot13 i (by have:=hi.1;omega) (by have:=hi.2;omega)⟩)).trans (hf14.same fun i hi=>⟨by have:=hi.2;omega,up9 i (by have:=hi.1;omega)⟩)).trans (hf15.same fun i hi=>⟨by have:=hi.2;omega,id⟩)
 have s12:SameS (fun i=>w11.heap.size≤i∧i < w12.heap.size∧v12.ownBlock≠some i) w12 w15:=((hf13.same fun i hi=>⟨hi.2.1,fun e=>by
   rcases e with e|e
   ·have:=hi.1;omega
   ·exact hi.2.2 e⟩).trans (hf14.same fun i hi=>⟨by have:=hi.2.1;omega,up9 i (by have:=hi.1;omega)⟩)).trans (hf15.same fun i hi=>⟨by have:=hi.2.1;omega,id⟩)
 have s13:SameS (fun i=>w12.heap.size≤i∧i < w13.heap.size∧v13.ownBlock≠some i) w13 w15:=(hf14.same fun i hi=>⟨hi.2.1,up9 i (by have:=hi.1;omega)⟩).trans (hf15.same fun i hi=>⟨by have:=hi.2.1;omega,id⟩)
 have hone:One1 [.int .u8 a0,.string nm',.slice X2 a2.len x2,.slice X3 a3.len x3,.slice A4 acc12.length c4,.slice A5 acc13.length c5,.int .i64 a6]:=by
  intro u hu
  simp only[List.mem_cons,List.not_mem_nil,or_false]at hu
  rcases hu with rfl|rfl|rfl|rfl|rfl|rfl|rfl<;>rfl
 have hnv:∀i,w8.heap.size≤i→i < w11.heap.size→v13.ownBlock≠some i:=fun i h1 h2 e=>by
  rcases hv13' i e with k9|k9
  ·have:=hvk i k9;omega
  ·omega
 have h1s:oneS w15 (OutS w.heap.size vo v13 w15) ⟨a0,nm',exprN n a2,condN n a3,stsOf acc12,stsOf acc13,a6⟩ [.int .u8 a0,.string nm',.slice X2 a2.len x2,.slice X3 a3.len x3,.slice A4 acc12.length c4,.slice A5 acc13.length c5,.int .i64 a6]:=by
  refine⟨X2,x2,X3,x3,A4,c4,A5,c5,by simp only[exprN_len,condN_len,stsOf_len],r0,r1,?_,?_,?_,?_⟩
  ·show SlR _ (exprN n a2).len 64 X2 x2
   rw[exprN_len]
   exact hs2.imp fun _ _ hx=>ExR.more (fun i hi=>⟨by have:=hi.1;omega,by have:=hi.2;omega,fun e=>by have:=hvo i e;have:=hi.1;omega,hnv i hi.1 (by have:=hi.2;omega)⟩) (ExR.keep s9 hx)
  ·show SlR _ (condN n a3).len 64 X3 x3
   rw[condN_len]
   exact hs3.imp fun _ _ hx=>CdR.more (fun i hi=>⟨by have:=hi.1;omega,by have:=hi.2;omega,fun e=>by have:=hvo i e;have:=hi.1;omega,hnv i (by have:=hi.1;omega) (by have:=hi.2;omega)⟩) (CdR.keep s10 hx)
  ·show SlR _ (stsOf acc12).len 128 A4 c4
   rw[stsOf_len]
   exact hb12.imp fun _ _ hx=>StR.more (fun i hi=>⟨by have:=hi.1;omega,by have:=hi.2.1;omega,fun e=>by have:=hvo i e;have:=hi.1;omega,fun e=>by
    rcases hv13 i e with k9|k9
    ·exact hi.2.2 k9
    ·have:=hi.2.1;omega⟩) (StR.keep s12 hx)
  ·show SlR _ (stsOf acc13).len 128 A5 c5
   rw[stsOf_len]
   exact hb13.imp fun _ _ hx=>StR.more (fun i hi=>⟨by have:=hi.1;omega,by have:=hi.2.1;omega,fun e=>by have:=hvo i e;have:=hi.1;omega,hi.2.2⟩) (StR.keep s13 hx)
 have hout15:=h.out.keep f15 hspk hLP
 obtain⟨hout16,hf16⟩:=hout15.step (ys:= [⟨a0,nm',exprN n a2,condN n a3,stsOf acc12,stsOf acc13,a6⟩]) ⟨_, [],by simp,h1s,rfl⟩ hone hown hg hsp (fun i hi=>by have:=hv13l i hi;omega)
 have hT8:∀i,v13.ownBlock=some i→¬i=wr.heap.size:=fun i hi e=>by
  rcases hv13' i hi with k9|k9
  ·have:=hvk i k9;omega
  ·omega
 have h15:InAt K w15 s3 v13:=(h13.frT hf14 (fun i e=>by have e:i=wr.heap.size:=e;omega) (fun e=>by have e:K.P=wr.heap.size:=e;omega) (fun e=>by have e:K.bp=wr.heap.size:=e;omega) hT8).fr0 hf15
 have hT:∀i,vo.ownBlock=some i→w.heap.size≤i:=fun i hi=>(hvo i hi).1
 have hnb:v13.ownBlock≠some b:=fun e=>by
  rcases hv13' b e with k9|k9
  ·exact h.nb.v k9
  ·omega
 refine⟨h15.frT hf16 (fun i hi=>by have:=hT i hi;omega) (fun e=>by have:=hT _ e;omega) (fun e=>by have:=hT _ e;omega) (fun i hi e=>hout15.ne i e hi),hc13,hout16,?_,⟨h.nb.p,h.nb.m,hnb⟩,?_,h.spot.trans hspk z0,?_,?_⟩
 ·refine(h.nms.fr f15 fun e=>?_).fr hf16 fun e=>by have:=hT _ e;omega
  rcases e with e|e
  ·exact h.nb.p e
  ·exact h.nb.v e
 ·refine Fr.thenT (Fr.thenT h.fr f15 fun i hi e=>?_) hf16 fun i hi e=>by have:=hT i e;omega
  rcases e with e|e
  ·exact .inl e
  ·rcases h.spot with k9|⟨g9,k9,hg9⟩
   ·exact .inr (k9▸e)
   ·rw[k9]at e;have:=Option.some.inj e;omega
 ·rw[stsOf_app,app_assoc,←h.eq,hd,Sts.drop_succ k xs hd]
  conv=>rhs;unfold inlS
  rw[if_neg (by rw[hfl];simp),if_neg h9,←hs1,e2,e3,hr12,hr13,←hnm]
  rfl
 ·have:=h.many
  rw[List.length_append]
  rw[hs1]at hm12
  simp only[List.length_cons,List.length_nil]at hm12 ⊢
  omega
theorem istm_one (K:InK) (hk:K.Ok) (call:ByteArray→Exs→Nms→Int→Ist→Sts×Ist) (xs:Sts) (hin:StI K call xs) (hca:CaPC K call xs):StC K (inlS call) xs:=by
 intro w s v n b q A c h hcm hn hb hx
 have hl:xs.len≤9223372036854775807:=leq9 hx.1 hx.2.1.1
 obtain⟨m,hm⟩:=nmq xs.len
 have HST:=hdq (show StSt K call xs s n w v (.slice none 0 0) [] [] s 0 v w b q from⟨h,hcm,OutRow.nil _ _ _,hn,hb,Fr.refl _ _,SpotP.refl _ _,rfl,lrq _⟩)
 have HVW:Hid (∀i,v.ownBlock=some i→i < w.heap.size):=hdq (fun i hi=>by obtain⟨cs,h9,_⟩:=h.row;exact(row_lt h9 hi).2)
 have HLW:=hdq (aiq h.bk.lt (aiq h.map.lt (aiq hn.lt h.fr.size)))
 have HK:=hdq hk
 have HIN:=hdq hin
 have HCA:=hdq hca
 have HX:=hdq hx
 rw[←hm]at hl ⊢
 have HM:=hdq hm
 clear hk hin hca h hcm hn hb hx hm
 go_enter Tryz.func28,Tryz.ntmps28
 go_wp2_with fail
 go_loopw [6,11] (fun vo i wr=>∃k:Nat,k≤m∧i= .int .i64 k∧∃(v':Value) (acc:List St) (cs:List Value) (si:Ist),Hid (StSt K call xs s n wr v' vo acc cs si k v w b q)) (fun _ i _=>m - (intOf i).toNat)
 case atStart=>exact⟨0,Nat.zero_le _,rfl,_,_,_,_,HST⟩
 case round=>
  clear HST
  obtain⟨k,hk,rfl,vk,acc,cs,si,hb⟩:=hrel
  by_cases hlt:k < m
  ·obtain⟨a0,a1,a2,a3,a4,a5,a6,ar,hd⟩:=Sts.drop_cons (show k < xs.len from by rw[←HM.out];exact hlt)
   obtain⟨gb,go,rfl,hat⟩:=HX.out.2.2 (by rw[←HM.out];omega)
   have hat0:=hat.drop k
   rw[hd]at hat0
   obtain⟨⟨hbS,_,r0,r1,d0,d1,d6⟩,⟨A2,q2,d2,s2⟩,⟨A3,q3,d3,s3⟩,⟨A4,q4,d4,s4⟩,⟨A5,q5,d5,s5⟩,_⟩:=hat0
   have hg0:=HK.out.low _ hbS
   have c0:=(hb.out.st.fr.cell (p:=⟨gb,go+k*7,none⟩) hg0 id).trans d0
   have c1:=(hb.out.st.fr.cell (p:=⟨gb,go+k*7+1,none⟩) hg0 id).trans d1
   have c2:=(hb.out.st.fr.cell (p:=⟨gb,go+k*7+2,none⟩) hg0 id).trans d2
   have c3:=(hb.out.st.fr.cell (p:=⟨gb,go+k*7+3,none⟩) hg0 id).trans d3
   have c4:=(hb.out.st.fr.cell (p:=⟨gb,go+k*7+4,none⟩) hg0 id).trans d4
   have c5:=(hb.out.st.fr.cell (p:=⟨gb,go+k*7+5,none⟩) hg0 id).trans d5
   have c6:=(hb.out.st.fr.cell (p:=⟨gb,go+k*7+6,none⟩) hg0 id).trans d6
   have hxr:gb < wr.heap.size:=ltq (HK.out.low _ hbS) hb.out.st.fr.size
   have hlt':(k:Int) < (m:Int):=by omega
   have hge:(0:Int)≤(k:Int):=by omega
   obtain⟨l2,hl2⟩:=nmq a2.len
   obtain⟨l3,hl3⟩:=nmq a3.len
   obtain⟨l4,hl4⟩:=nmq a4.len
   obtain⟨l5,hl5⟩:=nmq a5.len
   rw[←hl2]at c2
   rw[←hl3]at c3
   rw[←hl4]at c4
   rw[←hl5]at c5
   obtain⟨w5,hw5⟩:=nmq (wr.alloc (.cells #[.int .u8 a0,.string a1,.slice A2 l2 q2,.slice A3 l3 q3,.slice A4 l4 q4,.slice A5 l5 q5,.int .i64 a6] 39))
   have hf5:Fr NoT wr w5:=by rw[hw5];exact(Fr.refl _ _).alloc _
   have hk5:Bk w5 wr.heap.size 39 #[.int .u8 a0,.string a1,.slice A2 l2 q2,.slice A3 l3 q3,.slice A4 l4 q4,.slice A5 l5 q5,.int .i64 a6]:=by rw[hw5];exact Bk.new _ _ _
   have HFULL:=hdq (full_any K w5 si vk (hb.out.st.fr0 hf5))
   obtain⟨hi4,hi5,hsz1,hszx,hszc⟩:=HIN.out k a0 a1 a2 a3 a4 a5 a6 ar hd
   have HP:=hdq (aiq s2 (aiq s3 (aiq s4 (aiq s5 (aiq hi4 (aiq hi5 (aiq hsz1 (aiq hszx (aiq hszc (aiq r0 r1))))))))))
   have HL:=hdq (aiq hl2 (aiq hl3 (aiq hl4 hl5)))
   have HD:=hdq hd
   have HW5:=hdq hw5
   have HF5:=hdq hf5
   have HK5:=hdq hk5
   clear hat hbS s2 s3 s4 s5 d0 d1 d2 d3 d4 d5 d6 hi4 hi5 hsz1 hszx hszc r0 r1 hl2 hl3 hl4 hl5 hd hw5 hf5 hk5 hg0
   go_wp2_with fail
   rw[←HW5.out]
   clear c0 c1 c2 c3 c4 c5 c6 hxr
   refine HFULL.out.mono ?_
   rintro _ w6 ⟨rfl,rfl⟩
   cases hfl:fullB si with
   |true=>
    have hr:inlS call xs n s=(Sts.app (stsOf acc) .nil,si):=by
     rw[←hb.out.eq,HD.out]
     unfold inlS
     rw[if_pos hfl]
    have HR:=hdq hr
    clear hr hfl
    go_wp2_with fail
    go_ret
    exact⟨vk,u6,acc,cs,rfl,by rw[HR.out];exact hb.out.st.fr0 HF5.out,hb.out.out.fr0 HF5.out,by rw[HR.out,app_nil],hb.out.fr.trans HF5.out.any,hb.out.spot,by rw[HR.out];exact hb.out.many,by rw[HR.out];exact hb.out.cm⟩
   |false=>
    have HFL:=hdq hfl
    clear hfl
    have t0:=HK5.out.cell 0
    have tl:=HK5.out.lt
    simp only[getsL]at t0
    by_cases h9:a0=9
    ·
     subst h9
     have t1:=HK5.out.cell 1
     have t2:=HK5.out.cell 2
     have t3:=HK5.out.cell 3
     have t4:=HK5.out.cell 4
     have t5:=HK5.out.cell 5
     have t6:=HK5.out.cell 6
     simp only[getsL]at t1 t2 t3 t4 t5 t6
     have HCC:=HCA.out k a1 a2 a3 a4 a5 a6 ar HD.out w6 si vk n b q A2 q2 (.slice A3 l3 q3) (.slice A4 l4 q4) (.slice A5 l5 q5) (hb.out.st.fr0 HF5.out) hb.out.cm HFL.out (hb.out.nms.fr HF5.out id) hb.out.nb HP.out.1 HP.out.2.2.2.2.2.2.2.2.2.2
     rw[←HL.out.1]at HCC
     have HCC:=hdq HCC
     go_wp2_with fail
     refine HCC.out.mono ?_
     rintro _ w7 ⟨v7,vo7,acc7,cs7,rfl,h7,hout7,hr7,hf7,hsp7,hm7,hc7⟩
     have hout1:=(hb.out.out.fr0 HF5.out).keep hf7 hsp7 HLW.out.1
     have hz6:w.heap.size≤w6.heap.size:=leq9 hb.out.fr.size HF5.out.size
     have hz7:w.heap.size≤w7.heap.size:=leq9 hz6 hf7.size
     have hlow:∀i,u6.ownBlock=some i→i < w6.heap.size:=fun i hi=>ltq (row_lt hb.out.out.row hi).2 HF5.out.size
     have hv7:∀i,v7.ownBlock=some i→i < w7.heap.size:=fun i hi=>by obtain⟨c9,h9,_⟩:=h7.row;exact(row_lt h9 hi).2
     have hsz7:acc.length+acc7.length≤1000000:=by have h8:=h7.most.1;have h9:=hb.out.many;omega
     have HO:=hdq (aiq hout1 (aiq hout7 (aiq hlow hv7)))
     have H7:=hdq (aiq h7 (aiq hr7 (aiq hf7 (aiq hsp7 (aiq hm7 hc7)))))
     clear hout1 hout7 hlow hv7 h7 hr7 hf7 hsp7 hm7 hc7 t0 t1 t2 t3 t4 t5 t6 tl
     go_wp2_with (at_builtin;refine wpList_out rfl _ _ rfl rfl rfl HO.out.1 HO.out.2.1 hz6 HO.out.2.2.1 hz7 hsz7 HO.out.2.2.2 ?_)
     intro vo8 w8 hout8 hf8 hsp8
     have hT:∀i,u6.ownBlock=some i→w.heap.size≤i:=fun i hi=>(row_lt HO.out.1.row hi).1
     have hne:∀i,u6.ownBlock=some i→v7.ownBlock≠some i:=fun i hi=>HO.out.1.ne i hi
     obtain⟨h7,hr7,hf7,hsp7,hm7,hc7⟩:=H7.out
     have hbl:b < w.heap.size:=HLW.out.2.2.1
     have HNX:=hdq (show StSt K call xs s n w8 v7 vo8 (acc++acc7) (cs++cs7) (call a1 a2 n a6 si).2 (k+1) v w b q from
      ⟨h7.frT hf8 (fun i hi=>by have:=hT i hi;have:=HLW.out.2.2.2;omega) (fun e=>by have:=hT _ e;have:=HLW.out.1;omega) (fun e=>by have:=hT _ e;have:=HLW.out.2.1;omega) (fun i hi e=>hne i e hi),hc7,hout8,
       ((hb.out.nms.fr HF5.out id).fr hf7 (fun e=>by
        rcases e with e|e
        ·exact hb.out.nb.p e
        ·exact hb.out.nb.v e)).fr hf8 (fun e=>by have:=hT _ e;omega),
       ⟨hb.out.nb.p,hb.out.nb.m,fun e=>by
        rcases hsp7 with k9|⟨g9,k9,hg9⟩
        ·exact hb.out.nb.v (k9▸e)
        ·rw[k9]at e;have:=Option.some.inj e;omega⟩,
       Fr.thenT (Fr.thenT (hb.out.fr.trans HF5.out.any) hf7 fun i hi e=>by
        rcases e with e|e
        ·exact Or.inl e
        ·rcases hb.out.spot with k9|⟨g9,k9,hg9⟩
         ·exact Or.inr (k9▸e)
         ·rw[k9]at e;have:=Option.some.inj e;omega) hf8 fun i hi e=>by have:=hT i e;omega,
       hb.out.spot.trans hsp7 hz6,by
        rw[stsOf_app,app_assoc,←hb.out.eq,HD.out,Sts.drop_succ k xs HD.out]
        conv=>rhs;unfold inlS
        rw[if_neg (by rw[HFL.out];simp),if_pos rfl,←hr7],by rw[List.length_append];have:=hb.out.many;omega⟩)
     clear hout8 hf8 hsp8 hT hne h7 hr7 hf7 hsp7 hm7 hc7 hbl
     go_wp2_with fail
     go_roundw
     case rel=>exact⟨k+1,by omega,by go_num,_,_,_,_,HNX⟩
     case measure=>simp[intOf];omega
    ·have h9':¬a0=9:=h9
     obtain⟨mn,hmn⟩:=nmq si.many
     have g3:=(hb.out.st.fr0 HF5.out).bk.cell 3
     have f3:=(hb.out.st.fr0 HF5.out).bk.frozen 3
     have lP3:=(hb.out.st.fr0 HF5.out).bk.lt
     have t1:=HK5.out.cell 1
     simp only[getsL]at g3 t1
     rw[←hmn]at g3
     have hm256:mn≤256:=by
      have h2:=HFL.out
      unfold fullB at h2
      simp only[Bool.or_eq_false_iff,decide_eq_false_iff_not]at h2
      omega
     have hneT:K.P≠wr.heap.size:=fun e=>by have:=HLW.out.1;have:=hb.out.fr.size;omega
     obtain⟨w7,hw7⟩:=nmq (w6.setCell ⟨K.P,3,none⟩ (.int .i64 ((mn:Int)+1)))
     have hf7:Fr (fun i=>i=K.P) w6 w7:=by rw[hw7];exact Fr.own (Fr.refl _ _) _ _
     have h7:InAt K w7 ⟨si.calls,si.vars,si.many+1⟩ vk:=by
      rw[hw7,hmn]
      exact(hb.out.st.fr0 HF5.out).set 3 _ (by simp) rfl ⟨by show si.many+1≤261;omega,by show si.calls≤si.many+1+1;have:=hb.out.cm;omega⟩
     have hk7:=HK5.out.fr hf7 (fun e=>hneT e.symm)
     have hn7:=(hb.out.nms.fr HF5.out id).fr hf7 (fun e=>hb.out.nb.p e)
     have HOF:=hdq (nof_any b q n a1 w7 hn7 HP.out.2.2.2.2.2.2.1)
     have t7:=hk7.cell 0
     have t71:=hk7.cell 1
     have tf1:=hk7.frozen 1
     have tl7:=hk7.lt
     simp only[getsL]at t7 t71
     obtain⟨nm',hnm⟩:=nmq (if a0=3 then a1 else ofN n a1)
     have H7:=hdq h7
     have HF7:=hdq (HF5.out.any.trans hf7:Fr (fun i=>i=K.P) wr w7)
     have HK7:=hdq hk7
     have HN7:=hdq hn7
     have HW7:=hdq hw7
     have HMN:=hdq (aiq hmn hnm)
     have hneT':wr.heap.size≠K.P:=fun e=>hneT e.symm
     clear hmn hnm h7 hf7 hk7 hn7 hw7 t7 t71 tf1 tl7
     by_cases h3:a0=3
     case' pos=>
      have hs3:nm'=a1:=by rw[HMN.out.2,if_pos h3]
      go_wp2_with fail
      rw[←HW7.out]
      obtain⟨w8,hw8⟩:=nmq w7
      rw[←hw8]
      have H8:=hdq (show InAt K w8 ⟨si.calls,si.vars,si.many+1⟩ vk∧Fr (fun i=>i=K.P∨i=wr.heap.size) wr w8∧Bk w8 wr.heap.size 39 #[.int .u8 a0,.string nm',.slice A2 l2 q2,.slice A3 l3 q3,.slice A4 l4 q4,.slice A5 l5 q5,.int .i64 a6]∧NmM w8 b q n from by
       rw[hw8,hs3];exact⟨H7.out,HF7.out.mono fun _ _ e=> .inl e,HK7.out,HN7.out⟩)
      clear hw8 hs3 h3
     case' neg=>
      have hs3:nm'=ofN n a1:=by rw[HMN.out.2,if_neg h3]
      rw[←hs3]at HOF
      have h3':¬a0=3:=h3
      go_wp2_with fail
      rw[←HW7.out]
      go_at_call 84
      refine HOF.out.mono ?_
      rintro _ wo ⟨rfl,hfo⟩
      have ko:=HK7.out.fr0 hfo
      have o1:=ko.cell 1
      have of1:=ko.frozen 1
      have ol:=ko.lt
      simp only[getsL]at o1
      obtain⟨w8,hw8⟩:=nmq (wo.setCell ⟨wr.heap.size,1,none⟩ (.string nm'))
      have hf8:Fr (fun i=>i=wr.heap.size) w7 w8:=by rw[hw8];exact hfo.any.trans (Fr.own (Fr.refl _ _) _ _)
      have H8:=hdq (show InAt K w8 ⟨si.calls,si.vars,si.many+1⟩ vk∧Fr (fun i=>i=K.P∨i=wr.heap.size) wr w8∧Bk w8 wr.heap.size 39 #[.int .u8 a0,.string nm',.slice A2 l2 q2,.slice A3 l3 q3,.slice A4 l4 q4,.slice A5 l5 q5,.int .i64 a6]∧NmM w8 b q n from
       ⟨H7.out.frT hf8 (fun i e=>by have e:i=wr.heap.size:=e;have:=hb.out.st.fr.size;omega) hneT (fun e=>by have e:K.bp=wr.heap.size:=e;have:=hb.out.st.map.lt;omega) (fun i hi e=>by have e:i=wr.heap.size:=e;obtain⟨c9,h9,_⟩:=hb.out.st.row;have:=(row_lt h9 hi).2;omega),
        (HF7.out.mono fun _ _ e=> .inl e).trans (hf8.mono fun _ _ e=> .inr e),by have:=ko.set_ 1 (.string nm');rw[hw8];simpa using this,HN7.out.fr hf8 (fun e=>by have e:b=wr.heap.size:=e;have:=HLW.out.2.2.1;have:=hb.out.fr.size;omega)⟩)
      have HW8:=hdq hw8
      clear hw8 hs3 h3 hf8 ko hfo
      go_wp2_with fail
      rw[←HW8.out]
      clear o1 of1 ol HW8 wo h3'
     all_goals
      clear g3 f3 lP3 t0 t1 tl hm256
      have d2:=H8.out.2.2.1.cell 2
      have d3:=H8.out.2.2.1.cell 3
      have dl:=H8.out.2.2.1.lt
      simp only[getsL]at d2 d3
      have hW8:=H8.out.1.fr
      have hTl:wr.heap.size < w8.heap.size:=dl
      have HX2:=hdq (fun(W:World) (hf:Fr NoT w8 W)=>anew_any a2 W K.S A2 q2 n b q (H8.out.2.2.2.fr hf id) (fun i hi=>ltq (ltq (HK.out.low i hi) hW8.size) hf.size) HP.out.2.2.2.2.2.2.2.1 (HP.out.1.imp fun _ _ h=>ExR.keep ((hW8.trans hf).same fun i hi=>⟨HK.out.low i hi,id⟩) h))
      have HX3:=hdq (fun(W:World) (hf:Fr NoT w8 W)=>anewC_any a3 W K.S A3 q3 n b q (H8.out.2.2.2.fr hf id) (fun i hi=>ltq (ltq (HK.out.low i hi) hW8.size) hf.size) HP.out.2.2.2.2.2.2.2.2.1 (HP.out.2.1.imp fun _ _ h=>CdR.keep ((hW8.trans hf).same fun i hi=>⟨HK.out.low i hi,id⟩) h))
      rw[←HL.out.1]at HX2
      rw[←HL.out.2.1]at HX3
      clear hW8
      refine wp_region_E (fun W'=>wr.heap.size < W'.heap.size∧W'.cell? ⟨wr.heap.size,2,none⟩=some (.slice A2 l2 q2)∧W'.cell? ⟨wr.heap.size,3,none⟩=some (.slice A3 l3 q3)) (fun i=>decide (i < 11)) (by kernel_rfl) ⟨dl,d2,d3⟩ (fun hHeld=>?_)
      refine wpE_pu 0 ?_
      try simp only[putsL]
      refine wpE_pu 2 ?_
      try simp only[putsL]
      refine wpE_pu 5 ?_
      try simp only[putsL]
      refine wpE_pu 7 ?_
      try simp only[putsL]
      refine wpE_tk 1 hHeld ?_
      try simp only[putsL]
      refine wpE_tk 6 hHeld ?_
      try simp only[putsL]
      refine wpE_pu 3 ?_
      try simp only[putsL]
      refine wpE_pu 8 ?_
      try simp only[putsL]
      refine wpE_next 4 rfl (by kernel_rfl) (fun KK hK=>?_)
      go_simp
      go_at_call 85
      refine(HX2.out _ ((Fr.refl NoT w8).drew)).mono ?_
      rintro _ w9 ⟨X2,x2,rfl,hs2,hf9'⟩
      have hf9:Fr NoT w8 w9:=((Fr.refl NoT w8).drew).trans hf9'
      have hs9:wr.heap.size < w9.heap.size∧w9.cell? ⟨wr.heap.size,2,none⟩=some (.slice A2 l2 q2)∧w9.cell? ⟨wr.heap.size,3,none⟩=some (.slice A3 l3 q3):=⟨ltq dl hf9.size,(hf9.cell (p:=⟨wr.heap.size,2,none⟩) dl id).trans d2,(hf9.cell (p:=⟨wr.heap.size,3,none⟩) dl id).trans d3⟩
      have HF9:=hdq hf9
      have HS2:=hdq hs2
      clear hHeld hs2 hf9 hf9'
      try dsimp only
      refine hK _ _ (fun _ _=>hs9) ?_
      clear hK KK
      have hHeld:=hs9
      clear hs9
      try simp only[putsL]
      refine wpE_pu 10 ?_
      try simp only[putsL]
      refine wpE_next 9 rfl (by kernel_rfl) (fun KK hK=>?_)
      go_simp
      go_at_call 87
      refine(HX3.out _ HF9.out).mono ?_
      rintro _ w10 ⟨X3,x3,rfl,hs3,hf10⟩
      have k10:=(H8.out.2.2.1.fr0 HF9.out).fr0 hf10
      have y2:=k10.cell 2
      have y3:=k10.cell 3
      have yf2:=k10.frozen 2
      have yf3:=k10.frozen 3
      have yl:=k10.lt
      simp only[getsL]at y2 y3
      have HF10:=hdq hf10
      have HK10:=hdq k10
      have HS3:=hdq hs3
      clear hs3 hf10 k10 hHeld
      try dsimp only
      refine hK _ _ (fun _ _=>⟨yl,y2,y3⟩) ?_
      clear hK KK
      try simp only[putsL]
      refine wpE_next 11 rfl (by kernel_rfl) (fun KK hK=>?_)
      go_simp
      refine hK _ _ (fun h=>absurd h (by decide)) ?_
      clear hK KK
      try simp only[putsL]
      refine wpE_next 12 rfl (by kernel_rfl) (fun KK hK=>?_)
      go_simp
      refine hK _ _ (fun h=>absurd h (by decide)) ?_
      clear hK KK
      try simp only[putsL]
      refine wpE_next 13 rfl (by kernel_rfl) (fun KK hK=>?_)
      go_simp
      refine hK _ _ (fun h=>absurd h (by decide)) ?_
      clear hK KK
      try simp only[putsL]
      refine wpE_done (by kernel_rfl) ?_
      obtain⟨w11,hw11⟩:=nmq ((w10.setCell ⟨wr.heap.size,2,none⟩ (.slice X2 l2 x2)).setCell ⟨wr.heap.size,3,none⟩ (.slice X3 l3 x3))
      rw[←hw11]
      have hf11:Fr (fun i=>i=wr.heap.size) w10 w11:=by rw[hw11];exact Fr.own (Fr.own (Fr.refl _ _) _ _) _ _
      have hk11:Bk w11 wr.heap.size 39 #[.int .u8 a0,.string nm',.slice X2 l2 x2,.slice X3 l3 x3,.slice A4 l4 q4,.slice A5 l5 q5,.int .i64 a6]:=by
       have:=(HK10.out.set_ 2 (.slice X2 l2 x2)).set_ 3 (.slice X3 l3 x3)
       rw[hw11];simpa using this
      have HF11:=hdq hf11
      have HK11:=hdq hk11
      clear hw11 hf11 hk11 y2 y3 yf2 yf3 yl d2 d3 dl
      have hzT:wr.heap.size < w11.heap.size:=HK11.out.lt
      have hvT:∀i,vk.ownBlock=some i→¬i=wr.heap.size:=fun i hi e=>by obtain⟨c9,h9,_⟩:=hb.out.st.row;have:=(row_lt h9 hi).2;omega
      have hbpT:¬K.bp=wr.heap.size:=fun e=>by have:=HLW.out.2.1;have:=hb.out.fr.size;omega
      have hbT:¬b=wr.heap.size:=fun e=>by have:=HLW.out.2.2.1;have:=hb.out.fr.size;omega
      obtain⟨s1,hs1⟩:=nmq ((⟨si.calls,si.vars,si.many+1⟩:Ist))
      have h11:InAt K w11 s1 vk:=by
       rw[hs1]
       exact((H8.out.1.fr0 HF9.out).fr0 HF10.out).frT HF11.out (fun i e=>by have e:i=wr.heap.size:=e;have:=hb.out.fr.size;have:=HLW.out.2.2.2;omega) hneT hbpT hvT
      have hn11:NmM w11 b q n:=((H8.out.2.2.2.fr HF9.out id).fr HF10.out id).fr HF11.out hbT
      have HB4:=hdq (fun(W:World) (hf:Fr NoT w11 W)=>HP.out.2.2.2.2.1 W s1 vk n b q A4 q4 (h11.fr0 hf) (by rw[hs1];show si.calls≤si.many+1;have:=hb.out.cm;omega) (hn11.fr hf id) hb.out.nb HP.out.2.2.1)
      rw[←HL.out.2.2.1]at HB4
      have e4:=HK11.out.cell 4
      have e5:=HK11.out.cell 5
      simp only[getsL]at e4 e5
      have HS1:=hdq hs1
      have HN11:=hdq hn11
      clear hs1 hn11 h11
      go_wp2_with fail
      refine wp_region_E (fun W'=>wr.heap.size < W'.heap.size∧W'.cell? ⟨wr.heap.size,4,none⟩=some (.slice A4 l4 q4)∧W'.cell? ⟨wr.heap.size,5,none⟩=some (.slice A5 l5 q5)) (fun i=>decide (i < 11)) (by kernel_rfl) ⟨hzT,e4,e5⟩ (fun hHeld=>?_)
      refine wpE_pu 0 ?_
      try simp only[putsL]
      refine wpE_pu 1 ?_
      try simp only[putsL]
      refine wpE_pu 3 ?_
      try simp only[putsL]
      refine wpE_pu 5 ?_
      try simp only[putsL]
      refine wpE_pu 6 ?_
      try simp only[putsL]
      refine wpE_pu 8 ?_
      try simp only[putsL]
      refine wpE_tk 2 hHeld ?_
      try simp only[putsL]
      refine wpE_tk 7 hHeld ?_
      try simp only[putsL]
      refine wpE_next 4 rfl (by kernel_rfl) (fun KK hK=>?_)
      go_simp
      go_at_call 28
      refine(HB4.out _ ((Fr.refl NoT w11).drew)).mono ?_
      rintro _ w12 ⟨v12,vo12,acc12,cs12,rfl,h12,hout12,hr12,hf12',hsp12,hm12,hc12⟩
      obtain⟨B4,c4',rfl,hb12⟩:=hout12.slice (by have:=h12.most.1;omega)
      have hf12:Fr (InT K vk) w11 w12:=((Fr.refl _ w11).drew).trans hf12'
      have hTn:¬InT K vk wr.heap.size:=fun e=>by
       rcases e with e|e
       ·exact hneT e.symm
       ·exact hvT _ e rfl
      have hs12:wr.heap.size < w12.heap.size∧w12.cell? ⟨wr.heap.size,4,none⟩=some (.slice A4 l4 q4)∧w12.cell? ⟨wr.heap.size,5,none⟩=some (.slice A5 l5 q5):=⟨ltq hzT hf12.size,(hf12.cell (p:=⟨wr.heap.size,4,none⟩) hzT hTn).trans e4,(hf12.cell (p:=⟨wr.heap.size,5,none⟩) hzT hTn).trans e5⟩
      have H12:=hdq (aiq h12 (aiq hr12 (aiq hf12 (aiq hsp12 (aiq hm12 (aiq hc12 hb12))))))
      have HK12:=hdq (HK11.out.fr hf12 hTn)
      clear h12 hout12 hr12 hf12 hf12' hsp12 hm12 hc12 hb12 hHeld
      try dsimp only
      refine hK _ _ (fun _ _=>hs12) ?_
      clear hK KK hs12
      try simp only[putsL]
      refine wpE_pu 10 ?_
      try simp only[putsL]
      refine wpE_next 9 rfl (by kernel_rfl) (fun KK hK=>?_)
      go_simp
      go_at_call 28
      have hb12n:v12.ownBlock≠some b:=fun e=>by
       rcases H12.out.2.2.2.1 with k9|⟨g9,k9,hg9⟩
       ·exact hb.out.nb.v (k9▸e)
       ·rw[k9]at e;have:=Option.some.inj e;have:w11.heap.size≤g9:=hg9;have:=HLW.out.2.2.1;have:=hb.out.fr.size;omega
      have HB5:=HP.out.2.2.2.2.2.1 w12 (inlS call a4 n s1).2 v12 n b q A5 q5 H12.out.1 H12.out.2.2.2.2.2.1 (HN11.out.fr H12.out.2.2.1 (fun e=>by
       rcases e with e|e
       ·exact hb.out.nb.p e
       ·exact hb.out.nb.v e)) ⟨hb.out.nb.p,hb.out.nb.m,hb12n⟩ HP.out.2.2.2.1
      rw[←HL.out.2.2.2]at HB5
      refine HB5.mono ?_
      clear HB5
      rintro _ w13 ⟨v13,vo13,acc13,cs13,rfl,h13,hout13,hr13,hf13,hsp13,hm13,hc13⟩
      obtain⟨B5,c5',rfl,hb13⟩:=hout13.slice (by have:=h13.most.1;omega)
      have hTn2:¬InT K v12 wr.heap.size:=fun e=>by
       rcases e with e|e
       ·exact hneT e.symm
       ·rcases H12.out.2.2.2.1 with k9|⟨g9,k9,hg9⟩
        ·exact hvT _ (k9▸e) rfl
        ·rw[k9]at e;have:=Option.some.inj e;have:w11.heap.size≤g9:=hg9;omega
      have k13:=HK12.out.fr hf13 hTn2
      have y4:=k13.cell 4
      have y5:=k13.cell 5
      have yf4:=k13.frozen 4
      have yf5:=k13.frozen 5
      have yl:=k13.lt
      simp only[getsL]at y4 y5
      have HK13:=hdq k13
      have H13:=hdq (aiq h13 (aiq hr13 (aiq hf13 (aiq hsp13 (aiq hm13 (aiq hc13 hb13))))))
      clear h13 hout13 hr13 hf13 hsp13 hm13 hc13 hb13 k13 hb12n
      try dsimp only
      refine hK _ _ (fun _ _=>⟨yl,y4,y5⟩) ?_
      clear hK KK
      try simp only[putsL]
      refine wpE_next 11 rfl (by kernel_rfl) (fun KK hK=>?_)
      go_simp
      refine hK _ _ (fun h=>absurd h (by decide)) ?_
      clear hK KK
      try simp only[putsL]
      refine wpE_next 12 rfl (by kernel_rfl) (fun KK hK=>?_)
      go_simp
      refine hK _ _ (fun h=>absurd h (by decide)) ?_
      clear hK KK
      try simp only[putsL]
      refine wpE_next 13 rfl (by kernel_rfl) (fun KK hK=>?_)
      go_simp
      refine hK _ _ (fun h=>absurd h (by decide)) ?_
      clear hK KK
      try simp only[putsL]
      refine wpE_done (by kernel_rfl) ?_
      obtain⟨w14,hw14⟩:=nmq ((w13.setCell ⟨wr.heap.size,4,none⟩ (.slice B4 acc12.length c4')).setCell ⟨wr.heap.size,5,none⟩ (.slice B5 acc13.length c5'))
      rw[←hw14]
      have hf14:Fr (fun i=>i=wr.heap.size) w13 w14:=by rw[hw14];exact Fr.own (Fr.own (Fr.refl _ _) _ _) _ _
      have hk14:Bk w14 wr.heap.size 39 #[.int .u8 a0,.string nm',.slice X2 l2 x2,.slice X3 l3 x3,.slice B4 acc12.length c4',.slice B5 acc13.length c5',.int .i64 a6]:=by
       have:=(HK13.out.set_ 4 (.slice B4 acc12.length c4')).set_ 5 (.slice B5 acc13.length c5')
       rw[hw14];simpa using this
      have j0:=hk14.cell 0
      have j1:=hk14.cell 1
      have j2:=hk14.cell 2
      have j3:=hk14.cell 3
      have j4:=hk14.cell 4
      have j5:=hk14.cell 5
      have j6:=hk14.cell 6
      have jl:=hk14.lt
      simp only[getsL]at j0 j1 j2 j3 j4 j5 j6
      obtain⟨w15,hw15⟩:=nmq (w14.alloc (.cells #[.int .u8 a0,.string nm',.slice X2 l2 x2,.slice X3 l3 x3,.slice B4 acc12.length c4',.slice B5 acc13.length c5',.int .i64 a6] 39))
      have hf15:Fr NoT w14 w15:=by rw[hw15];exact(Fr.refl _ _).alloc _
      have hk15:Bk w15 w14.heap.size 39 ([.int .u8 a0,.string nm',.slice X2 l2 x2,.slice X3 l3 x3,.slice B4 acc12.length c4',.slice B5 acc13.length c5',.int .i64 a6]:List Value).toArray :=by rw[hw15];exact Bk.new _ _ _
      obtain⟨i0,hi0,hz0,hzs,hzb⟩:=info_parts infoSt
      have HI:=hdq (aiq hi0 (aiq hz0 (aiq hzs hzb)))
      have hfwr:∀i,u6.ownBlock=some i→¬InT K vk i∧¬InT K v12 i∧¬i=wr.heap.size:=fun i hi=>by
       have h1:=row_lt hb.out.out.row hi
       have hh:¬InT K vk i:=fun e=>by
        rcases e with e|e
        ·have:=HLW.out.1;omega
        ·exact hb.out.out.ne i hi e
       refine⟨hh,fun e=>?_,by omega⟩
       rcases e with e|e
       ·have:=HLW.out.1;omega
       ·rcases H12.out.2.2.2.1 with k9|⟨g9,k9,hg9⟩
        ·exact hh (.inr (k9▸e))
        ·rw[k9]at e;have:=Option.some.inj e;have:w11.heap.size≤g9:=hg9;omega
      have hrow15:=rw_keep (rw_keep (rw_keep (rw_keep (rw_keep (rw_keep (rw_keep (rw_keep hb.out.out.row H8.out.2.1 fun i hi e=>(by
       rcases e with e|e
       ·exact(hfwr i hi).1 (.inl e)
       ·exact(hfwr i hi).2.2 e)) HF9.out fun _ _=>id) HF10.out fun _ _=>id) HF11.out fun i hi=>(hfwr i hi).2.2) H12.out.2.2.1 fun i hi=>(hfwr i hi).1) H13.out.2.2.1 fun i hi=>(hfwr i hi).2.1) hf14 fun i hi=>(hfwr i hi).2.2) hf15 fun _ _=>id
      have hz15:w.heap.size≤w15.heap.size:=by have h1:=hb.out.fr.size;have h2:=jl;have h3:=hf15.size;omega
      have hacc:acc.length≤261:=by have:=hb.out.many;have:=hb.out.st.most.1;omega
      have HROW15:=hdq hrow15
      have HK15:=hdq hk15
      have HF14:=hdq hf14
      have HF15:=hdq hf15
      have HW15:=hdq hw15
      clear hrow15 hk15 hf14 hf15 hw15 hk14 hw14 hfwr y4 y5 yf4 yf5 yl hi0 hz0 hzs hzb e4 e5
      go_wp2_with (at_builtin;rw[←HW15.out];refine wpList_append_spotA _ rfl _ _ 25 rfl w.heap.size 39 i0 (.agg zeroSt) 7 128 Tryz.underlying25 HI.out.1 HI.out.2.1 HI.out.2.2.1 HI.out.2.2.2 rfl (by decide) u6 acc.length cs rfl HROW15.out ⟨w14.heap.size,0,none⟩ 1 1 _ rfl rfl HK15.out.newsL ?c2 ?c63 ?cby hz15 ?_)
      case c2=>
       intro u hu
       simp only[List.mem_cons,List.not_mem_nil,or_false]at hu
       rcases hu with rfl|rfl|rfl|rfl|rfl|rfl|rfl<;>rfl
      case c63=>unfold maxLen;omega
      case cby=>omega
      intro vo16 w16 hown16 hg16 hsp16
      rw[HL.out.1,HL.out.2.1]at hown16
      have HS2':=HS2.out
      have HS3':=HS3.out
      rw[HL.out.1]at HS2'
      rw[HL.out.2.1]at HS3'
      have HNX:=hdq (StSt.next hb.out HLW.out HD.out HFL.out h9 HMN.out.2 HP.out.2.2.2.2.2.2.2.2.2.1 HP.out.2.2.2.2.2.2.2.2.2.2 H8.out.2.1 hTl HF9.out HF10.out HF11.out HS2' HS3' HS1.out rfl rfl H12.out.2.1 H13.out.2.1 H12.out.2.2.1 H12.out.2.2.2.1 H12.out.2.2.2.2.2.2 H12.out.2.2.2.2.1 H13.out.1 H13.out.2.2.1 H13.out.2.2.2.1 H13.out.2.2.2.2.2.2 H13.out.2.2.2.2.1 H13.out.2.2.2.2.2.1 HF14.out HF15.out hown16 hg16 hsp16)
      clear hown16 hg16 hsp16 HS2' HS3' hb j0 j1 j2 j3 j4 j5 j6 jl
      go_wp2_with fail
      go_roundw
      case rel=>exact⟨k+1,by omega,by go_num,_,_,_,_,HNX⟩
      case measure=>simp[intOf];omega
  ·have hlt':¬(k:Int) < (m:Int):=by omega
   have hr:inlS call xs n s=(stsOf acc,si):=by
    rw[←hb.out.eq,Sts.drop_nil (by rw[←HM.out];omega)]
    simp only[inlS,app_nil]
   have HR:=hdq hr
   clear hr
   go_wp2_with fail
   go_ret
   exact⟨vk,u6,acc,cs,rfl,by rw[HR.out];exact hb.out.st,hb.out.out,by rw[HR.out],hb.out.fr,hb.out.spot,by rw[HR.out];exact hb.out.many,by rw[HR.out];exact hb.out.cm⟩

theorem lvB_at {procs:List UInt8→Option Prc} {low:Sts→Prop}:∀(i:Nat) {xs:Sts} {a0:Int} {a1:ByteArray} {a2:Exs} {a3:Cds} {a4 a5:Sts} {a6:Int} {ar:Sts},LvB procs low xs→szS xs→Sts.drop i xs= .cons a0 a1 a2 a3 a4 a5 a6 ar→
  (a0=9→∃x,procs a1.data.toList=some x∧x.params.length=a2.len∧low x.body)∧a1.size≤9223372036854775807∧szX a2∧szC a3
 |0,.cons _ _ _ _ _ _ _ _,_,_,_,_,_,_,_,_,h,hz,hd=>by
  simp only[Sts.drop]at hd
  cases hd
  exact⟨h.1,hz.1,hz.2.1,hz.2.2.1⟩
 |0,.nil,_,_,_,_,_,_,_,_,_,_,hd=>by simp[Sts.drop]at hd
 |i+1,.nil,_,_,_,_,_,_,_,_,_,_,hd=>by simp[Sts.drop]at hd
 |i+1,.cons _ _ _ _ _ _ _ _,_,_,_,_,_,_,_,_,h,hz,hd=>by
  simp only[Sts.drop]at hd
  exact lvB_at i h.2.2.2 hz.2.2.2.2.2 hd
theorem sti_all {K:InK} (hk:K.Ok) {call:ByteArray→Exs→Nms→Int→Ist→Sts×Ist} {low:Sts→Prop} (hca:∀xs,LvB K.procs low xs→szS xs→CaPC K call xs):∀(xs:Sts),LvB K.procs low xs→szS xs→StI K call xs
 | .nil,_,_,i,_,_,_,_,_,_,_,_,h=>by cases i<;>simp[Sts.drop]at h
 | .cons k nm args cond body els at_ r,hl,hz,0,a0,a1,a2,a3,a4,a5,a6,ar,h=>by
  simp only[Sts.drop,Sts.cons.injEq]at h
  obtain⟨_,rfl,rfl,rfl,rfl,rfl,_,_⟩:=h
  exact⟨istm_one K hk call _ (sti_all hk hca _ hl.2.1 hz.2.2.2.1) (hca _ hl.2.1 hz.2.2.2.1),istm_one K hk call _ (sti_all hk hca _ hl.2.2.1 hz.2.2.2.2.1) (hca _ hl.2.2.1 hz.2.2.2.2.1),hz.1,hz.2.1,hz.2.2.1⟩
 | .cons k nm args cond body els at_ r,hl,hz,i+1,a0,a1,a2,a3,a4,a5,a6,ar,h=>by
  simp only[Sts.drop]at h
  exact sti_all hk hca r hl.2.2.2 hz.2.2.2.2.2 i a0 a1 a2 a3 a4 a5 a6 ar h
theorem stc_of {K:InK} (hk:K.Ok) {call:ByteArray→Exs→Nms→Int→Ist→Sts×Ist} {low:Sts→Prop} (hca:∀xs,LvB K.procs low xs→szS xs→CaPC K call xs) (xs:Sts) (hl:LvB K.procs low xs) (hz:szS xs):StC K (inlS call) xs:=
 istm_one K hk call xs (sti_all hk hca xs hl hz) (hca xs hl hz)
theorem stc_all {K:InK} (hk:K.Ok):∀(f:Nat) (xs:Sts),Lv K.procs f xs→szS xs→StC K (inlF K.procs f) xs
 |0,xs,hl,hz=>stc_of hk (low:=fun _=>False) (fun ys hl hz i a1 a2 a3 a4 a5 a6 ar hd=>by
  obtain⟨x,_,_,h⟩:=(lvB_at i hl hz hd).1 rfl
  exact h.elim) xs hl hz
 |f+1,xs,hl,hz=>stc_of hk (low:=Lv K.procs f) (fun ys hl hz i a1 a2 a3 a4 a5 a6 ar hd w s v n b q A2 c2 V3 V4 V5 h hcm hfull hn hb ha hat=>by
  obtain⟨h1,h2,h3,h4⟩:=lvB_at i hl hz hd
  obtain⟨x,hx,hp,hlow⟩:=h1 rfl
  exact icall_any K hk (inlF K.procs f) x (stc_all hk f x.body hlow (hk.few _ _ hx).2.2.2.1) w s v n b q 9 a1 a2 A2 c2 V3 V4 V5 a6 h hcm hfull hn hb hx hp h2 h3 ha hat) xs hl hz

theorem res_cell_tmp {P:Program} {fn:Func} {p q:Tmp} {ty:TypeId} (h:fn.results= #[.cell p ty,.tmp q]) (tmps:Array Value) (w:World) (g:Nat) (t:TypeId) (cs:Array Value) (fr:Nat×Nat) (d:TypeDesc)
  (hp:tmps.getD p undef= .pointer (some ⟨g,0,none⟩)) (hg:w.heap[g]?=some (.cells cs t fr))
  (hu:P.underlying ty=some d) (hd:(match d with| .struct _| .array _ _=>true|_=>false)=true) (hi:(P.info? ty).map (·.size)=some cs.size):
  (results fn tmps).run P w= .ok (.tuple #[.agg cs,tmps.getD q undef]) w:=by
 have hp':tmps[p]?.getD undef= .pointer (some ⟨g,0,none⟩):=by simpa using hp
 simp[results,h,hp',asAddr,run_loadVar_row w g t ty cs fr d hg hu hd hi]
theorem bk_two (w:World) (c0 c1:Array Value) (t0 t1:TypeId):Bk ((w.alloc (.cells c0 t0)).alloc (.cells c1 t1)) w.heap.size t0 c0∧Bk ((w.alloc (.cells c0 t0)).alloc (.cells c1 t1)) (w.heap.size+1) t1 c1:=
 ⟨(Bk.new _ _ _).alloc _,Bk.new_at _ _ _ (by simp)⟩
theorem sizeTr:(Tryz.prog.info? 27).map (·.size)=some 4:=by kernel_rfl
theorem prR_in {w:World} {S:Nat→Prop} {Z:Prop}:∀ {xs:List Prc} {b o:Nat},PrR w S Z xs b o→∀x∈xs,in64 x.at_∧∀v∈x.params,in64 v.at_
 | [],_,_,_,_,h=>by simp at h
 |p::r,b,o,⟨⟨_,_,h1,_⟩,⟨A,c,_,hs⟩,_,hr⟩,x,hx=>by
  rcases List.mem_cons.1 hx with rfl|hx
  ·refine⟨h1,fun v hv=>?_⟩
   have hp:0 < x.params.length:=List.length_pos_iff.2 fun e=>by rw[e]at hv;simp at hv
   obtain⟨b',o',_,hva⟩:=hs.2.2 hp
   have:∀ {l:List Va} {b o:Nat},VaR w S Z l b o→v∈l→in64 v.at_:=by
    intro l
    induction l with
    |nil=>intro b o _ h;simp at h
    |cons u r ih=>
     intro b o h hm
     rcases List.mem_cons.1 hm with rfl|hm
     ·exact h.1.2.2.1
     ·exact ih h.2 hm
   exact this hva hv
  ·exact prR_in hr x hx
def InlP (r:Tre×Int) (W:World) (e:Ending) (w':World):Prop:=∃Av Aa Ap Am cv ca cp cm,e= .returned (.tuple #[trV r.1 Av Aa Ap Am cv ca cp cm,.int .i64 r.2])∧TrR w' (New W.heap.size w') True r.1 Av Aa Ap Am cv ca cp cm∧Fr NoT W w'
theorem noTre_at (w:World) (S:Nat→Prop) {Z:Prop}:TrR w S Z noTre none none none none 0 0 0 0:=⟨slr0,slr0,slr0,slr0⟩
theorem procsOf_snoc:∀(l:List Prc) (x:Prc) (y:List UInt8),procsOf (l++ [x]) y=if y=x.nm.data.toList then some x else procsOf l y
 | [],x,y=>by simp[procsOf]
 |p::r,x,y=>by
  simp only[List.cons_append,procsOf,procsOf_snoc r x y]
  by_cases e:y=x.nm.data.toList
  ·simp[e]
  ·simp[e]
def PrM (W0:World) (S:Nat→Prop) (procs:List UInt8→Option Prc) (f:List UInt8→Option Value):Prop:=
 (∀y,procs y=none→f y=none)∧∀y x,procs y=some x→∃A c B e,f y=some (prcV x A c B e)∧SlR (VaR W0 S False x.params) x.params.length 24 A c∧SlR (StR W0 S False x.body) x.body.len 128 B e
theorem PrM.put {W0:World} {S:Nat→Prop} {l:List Prc} {f:List UInt8→Option Value} (h:PrM W0 S (procsOf l) f) {x:Prc} {A:Option Addr} {c:Nat} {B:Option Addr} {e:Nat} (h1:SlR (VaR W0 S False x.params) x.params.length 24 A c) (h2:SlR (StR W0 S False x.body) x.body.len 128 B e):
  PrM W0 S (procsOf (l++ [x])) (fun y=>if y=x.nm.data.toList then some (prcV x A c B e)else f y):=by
 refine⟨fun y hy=>?_,fun y z hy=>?_⟩
 ·rw[procsOf_snoc]at hy
  by_cases e9:y=x.nm.data.toList
  ·rw[if_pos e9]at hy;cases hy
  ·rw[if_neg e9]at hy;simp only[if_neg e9];exact h.1 y hy
 ·rw[procsOf_snoc]at hy
  by_cases e9:y=x.nm.data.toList
  ·rw[if_pos e9]at hy
   have hy:=Option.some.inj hy
   subst hy
   exact⟨A,c,B,e,by simp only[if_pos e9],h1,h2⟩
  ·rw[if_neg e9]at hy;simp only[if_neg e9];exact h.2 y z hy
theorem procs_few {t:Tre} (h:OkT t) (hz:SzT t) (hx:∀x∈t.procs,in64 x.at_∧∀v∈x.params,in64 v.at_) {y:List UInt8} {x:Prc} (e:procsOf t.procs y=some x):x.params.length≤4∧x.nm.size≤16∧(∀v∈x.params,v.nm.size≤16∧in64 v.at_)∧szS x.body∧in64 x.at_:=by
 obtain⟨hm,_⟩:=procsOf_in e
 have hs:∀ {b:ByteArray},nameB b.data.toList=true→b.size≤16:=fun {b} h=>by
  unfold nameB at h
  simp only[Bool.and_eq_true,beq_iff_eq,decide_eq_true_eq]at h
  have:=h.1.1.1.1
  have:=h.1.1.2
  have e:b.size=b.data.toList.length:=by rw[Array.length_toList];rfl
  omega
 have ht:=h.tree
 unfold okTr okPs allPr okVs allVa at ht
 simp only[Bool.and_eq_true,List.all_eq_true]at ht
 have h1:=ht.2 x hm
 have h4:∀ {l:List Prc} {kn:Kn},okPs' l kn→x∈l→x.params.length≤4:=by
  intro l
  induction l with
  |nil=>intro kn _ h;simp at h
  |cons p r ih=>
   intro kn ⟨⟨h1,_,_⟩,h2⟩ h
   rcases List.mem_cons.1 h with rfl|h
   ·exact h1
   ·exact ih h2 h
 exact⟨h4 h.each hm,hs h1.1.1,fun v hv=>⟨hs (h1.1.2 v hv),(hx x hm).2 v hv⟩,(hz.procs x hm).2.2,(hx x hm).1⟩
theorem RowR.anyV {w w':World} {S S':Nat→Prop}:∀ {xs:List Va} {cs:List Value},RowR oneV w S xs cs→RowR oneV w' S' xs cs
 | [],_,h=>h
 |x::r,cs,⟨ys,cs',e,h1,h2⟩=>⟨ys,cs',e,h1,RowR.anyV h2⟩
theorem RowR.anyA {w w':World} {S S':Nat→Prop}:∀ {xs:List Arr} {cs:List Value},RowR oneA w S xs cs→RowR oneA w' S' xs cs
 | [],_,h=>h
 |x::r,cs,⟨ys,cs',e,h1,h2⟩=>⟨ys,cs',e,h1,RowR.anyA h2⟩
theorem inl_of (t:Tre) (w:World) (S:Nat→Prop) (Z:Prop) (Av Aa Ap Am:Option Addr) (cv ca cp cm:Nat) (htab:Lib.TabIs Tryz.prog w "internal/strconv.uint64pow10" .u64 Lib.pow10Tab) (hS:∀b,S b→b < w.heap.size) (hsz:SzT t) (hx:TrR w S Z t Av Aa Ap Am cv ca cp cm) (hch:∀w1,Fr NoT w w1→Calls Tryz.prog 26 #[trV t Av Aa Ap Am cv ca cp cm] w1 (AtE (treeC t) w1)) (hok:(treeC t).2 =0→t.vars.length≤12∧(∀y x,procsOf t.procs y=some x→x.params.length≤4∧x.nm.size≤16∧(∀v∈x.params,v.nm.size≤16∧in64 v.at_)∧szS x.body∧in64 x.at_)∧∀K:InK,K.Ok→K.procs=procsOf t.procs→StC K (inlF K.procs t.procs.length) t.main):
  Calls Tryz.prog 8 #[trV t Av Aa Ap Am cv ca cp cm] w (InlP (inlT t) w):=by
 obtain⟨n1,hn1⟩:=nmq t.vars.length
 obtain⟨n2,hn2⟩:=nmq t.arrays.length
 obtain⟨n3,hn3⟩:=nmq t.procs.length
 obtain⟨n4,hn4⟩:=nmq t.main.len
 have hl3:=leq9 hx.procs.1 hx.procs.2.1.1
 obtain⟨F,hF⟩:=nmq (treeC t)
 obtain⟨w1,hw1⟩:=nmq ((w.alloc (.cells #[.slice Av n1 cv,.slice Aa n2 ca,.slice Ap n3 cp,.slice Am n4 cm] 27)).alloc (.cells #[.slice none 0 0,.slice none 0 0,.slice none 0 0,.slice none 0 0] 27))
 have hf1:Fr NoT w w1:=by rw[hw1];exact((Fr.refl _ _).alloc _).alloc _
 have kk:=bk_two w #[.slice Av n1 cv,.slice Aa n2 ca,.slice Ap n3 cp,.slice Am n4 cm] #[.slice none 0 0,.slice none 0 0,.slice none 0 0,.slice none 0 0] 27 27
 rw[←hw1]at kk
 replace hch:=hch w1 hf1
 unfold trV at hch ⊢
 rw[←hn1,←hn2,←hn3,←hn4,←hF]at hch
 rw[←hn1,←hn2,←hn3,←hn4]
 rw[←hn3]at hl3
 have HCH:=hdq hch
 have HSTC:=hdq hok
 have HN:=hdq (aiq hn1 (aiq hn2 (aiq hn3 hn4)))
 have HX:=hdq (aiq hS (aiq hsz (aiq hx htab)))
 have HW1:=hdq hw1
 have HF1:=hdq hf1
 have HK0:=hdq kk.1
 have HK1:=hdq kk.2
 have HFF:=hdq hF
 have HZ1:=hdq (show w1.heap.size=w.heap.size+2 from by rw[hw1];simp)
 clear hch hok hn1 hn2 hn3 hn4 hS hsz hx htab hw1 hf1 kk hF
 obtain⟨F1,F2⟩:=F
 go_enter Tryz.func8,Tryz.ntmps8
 go_wp2_with fail
 rw[←HW1.out]
 go_at_call 26
 refine HCH.out.mono ?_
 rintro _ w2 ⟨rfl,hf2⟩
 have HF2:=hdq hf2
 have HF02:=hdq (HF1.out.trans hf2)
 have hk0:=HK0.out.fr0 hf2
 have hk1:=HK1.out.fr0 hf2
 have HK02:=hdq hk0
 have HK12:=hdq hk1
 clear hf2
 by_cases h0:F2=0
 ·subst h0
  have hk:=hk0.cell 0
  have hkl:=hk0.lt
  simp only[getsL]at hk
  have HOK:=hdq (HSTC.out (by rw[←HFF.out]))
  have hmm:= @run_makeMap Tryz.prog
  obtain⟨w3,hw3⟩:=nmq (w2.alloc (.map #[] 0))
  have hf3:Fr NoT w2 w3:=by rw[hw3];exact(Fr.refl _ _).alloc _
  have hm3:MpV w3 w2.heap.size 0 fun _=>none:=by rw[hw3];exact MpV.made w2
  have hfw3:Fr NoT w w3:=HF02.out.trans hf3
  obtain⟨csv,hcl,hrowv,honev,hnilv,hcsv⟩:=slV HX.out.2.2.1.vars
  have hclv:=cloneV_any Av n1 cv csv w3 (by rw[HN.out.1];exact leq9 HX.out.2.2.1.vars.1 HX.out.2.2.1.vars.2.1.1) (by rw[HN.out.1];exact HX.out.2.2.1.vars.2.1.2) (by rw[HN.out.1];exact hcl) honev (fun e=>by rw[HN.out.1];exact hnilv e) (fun ad e j u hj=>by
   have h1:=hcsv ad e j u hj
   exact(hfw3.cell (cell_low h1) id).trans h1)
  have HCLV:=hdq hclv
  have HW3:=hdq hw3
  have HF3:=hdq hf3
  have HM3:=hdq hm3
  have HROWV:=hdq hrowv
  have HFW3:=hdq hfw3
  clear hclv hw3 hf3 hm3 hcl hrowv honev hnilv hcsv hfw3
  go_wp2_with fail
  rw[←HW3.out]
  go_at_call 27
  refine HCLV.out.mono ?_
  rintro _ w4 ⟨v,rfl,hown4,hf4,Av',cv',rfl⟩
  obtain⟨w5,hw5⟩:=nmq (w4.alloc (.cells #[.map (some w2.heap.size),.int .i64 0,.slice Av' n1 cv',.int .i64 0] 76))
  have hf5:Fr NoT w4 w5:=by rw[hw5];exact(Fr.refl _ _).alloc _
  have hk5:Bk w5 w4.heap.size 76 #[.map (some w2.heap.size),.int .i64 0,.slice Av' n1 cv',.int .i64 0]:=by rw[hw5];exact Bk.new _ _ _
  have hf35:Fr NoT w3 w5:=hf4.trans hf5
  have hown5:=rw_keep hown4 hf5 fun _ _=>id
  have hk05:=(HK02.out.fr0 HF3.out).fr0 hf35
  have hk15:=(HK12.out.fr0 HF3.out).fr0 hf35
  have hk04:=(HK02.out.fr0 HF3.out).fr0 hf4
  have x2:=hk04.cell 2
  have x2l:=hk04.lt
  simp only[getsL]at x2
  have hz35:=hf4.size
  have hz23:w3.heap.size=w2.heap.size+1:=by rw[HW3.out];simp
  have hzz:w.heap.size+2≤w2.heap.size:=by have:=HZ1.out;have:=HF2.out.size;omega
  have hvl:∀i,(Value.slice Av' n1 cv').ownBlock =some i→w3.heap.size≤i∧i < w4.heap.size:=fun i hi=>row_lt hown4 hi
  have HVL:=hdq hvl
  have HB:=hdq (aiq hk5 (aiq hk05 (aiq hk15 (aiq hown5 (aiq hz35 (aiq hz23 hzz))))))
  have HST:=hdq (show MpV w5 w2.heap.size 0 (fun _=>none)∧PrM w S (procsOf (t.procs.take 0)) (fun _=>none)∧Fr NoT w5 w5 from⟨HM3.out.fr hf35 id,⟨fun _ _=>rfl,fun y x h=>by simp[procsOf]at h⟩,Fr.refl _ _⟩)
  have HFW5:=hdq (HFW3.out.trans hf35)
  have HW5:=hdq hw5
  clear hvl hown4 hf4 hw5 hf5 hk5 hf35 hown5 hk05 hk15 hz35 hz23 hzz hk hkl hk0 hk1
  go_wp2_with fail
  rw[←HW5.out]
  clear x2 x2l hk04
  go_loopw [28] (fun i wr=>∃k:Nat,k≤n3∧i= .int .i64 k∧∃f:List UInt8→Option Value,Hid (MpV wr w2.heap.size k f∧PrM w S (procsOf (t.procs.take k)) f∧Fr (fun i=>i=w2.heap.size) w5 wr)) (fun i _=>n3 - (intOf i).toNat)
  case atStart=>exact⟨0,Nat.zero_le _,rfl,_,hdq ⟨HST.out.1,HST.out.2.1,Fr.refl _ _⟩⟩
  case round=>
   clear HST
   obtain⟨k,hk,rfl,f,hb⟩:=hrel
   by_cases hlt:k < n3
   ·
    obtain⟨px,pr,hd,hd1⟩:=drop_head1 (show k < t.procs.length from by rw[←HN.out.2.2.1];exact hlt)
    obtain⟨gb,go,rfl,hat⟩:=HX.out.2.2.1.procs.2.2 (by rw[←HN.out.2.2.1];omega)
    have hat1:=hat.drop k
    rw[hd]at hat1
    obtain⟨⟨hbS,_,r1,d0,d3⟩,⟨A1,q1,d1,s1⟩,⟨A2,q2,d2,s2⟩,_⟩:=hat1
    have hbp:w.heap.size≤w2.heap.size:=HF02.out.size
    have hfwr:Fr NoT w wr:=Fr.back1 HFW5.out (hb.out.2.2.mono fun i _ e=>(by have e:i=w2.heap.size:=e;show w.heap.size≤i;omega)) (lrq _)
    have hg0:=HX.out.1 _ hbS
    have c0:=(hfwr.cell (p:=⟨gb,go+k*4,none⟩) hg0 id).trans d0
    have c1:=(hfwr.cell (p:=⟨gb,go+k*4+1,none⟩) hg0 id).trans d1
    have c2:=(hfwr.cell (p:=⟨gb,go+k*4+2,none⟩) hg0 id).trans d2
    have c3:=(hfwr.cell (p:=⟨gb,go+k*4+3,none⟩) hg0 id).trans d3
    have hxr:gb < wr.heap.size:=ltq hg0 hfwr.size
    have hlt':(k:Int) < (n3:Int):=by omega
    have hge:(0:Int)≤(k:Int):=by omega
    obtain⟨l1,hl1⟩:=nmq px.params.length
    obtain⟨l2,hl2⟩:=nmq px.body.len
    rw[←hl1]at c1
    rw[←hl2]at c2
    obtain⟨w6,hw6⟩:=nmq (wr.alloc (.cells #[.string px.nm,.slice A1 l1 q1,.slice A2 l2 q2,.int .i64 px.at_] 68))
    have hf6:Fr NoT wr w6:=by rw[hw6];exact(Fr.refl _ _).alloc _
    have hk6:Bk w6 wr.heap.size 68 #[.string px.nm,.slice A1 l1 q1,.slice A2 l2 q2,.int .i64 px.at_]:=by rw[hw6];exact Bk.new _ _ _
    have hkP:=(HB.out.1.fr hb.out.2.2 (fun e=>by have e:w4.heap.size=w2.heap.size:=e;have:=HB.out.2.2.2.2.1;have:=HB.out.2.2.2.2.2.1;omega)).fr0 hf6
    obtain⟨w7,hput,hm7,hg7⟩:=((hb.out.1.fr hf6 id).fr ((Fr.refl NoT w6).drew) id).put Tryz.underlying74 (s:=px.nm) ((HX.out.2.1.procs px (by have:=List.mem_of_mem_drop (i:=k) (l:=t.procs) (a:=px) (by rw[hd];simp);exact this)).1) (.agg #[.string px.nm,.slice A1 l1 q1,.slice A2 l2 q2,.int .i64 px.at_]) (by have h1:=HN.out.2.2.1;unfold maxLen;omega)
    have p0:=hkP.cell 0
    have pl:=hkP.lt
    have t0:=hk6.cell 0
    have t1:=hk6.cell 1
    have t2:=hk6.cell 2
    have t3:=hk6.cell 3
    have tl:=hk6.lt
    simp only[getsL]at p0 t0 t1 t2 t3
    have hf57:Fr (fun i=>i=w2.heap.size) w5 w7:=(hb.out.2.2.trans hf6.any).trans (((Fr.refl _ w6).drew).trans (Fr.grown hg7 fun g e _=>(Option.some.inj e).symm))
    have hNX:MpV w7 w2.heap.size (k+1) (fun y=>if y=px.nm.data.toList then some (prcV px A1 q1 A2 q2)else f y)∧PrM w S (procsOf (t.procs.take (k+1))) (fun y=>if y=px.nm.data.toList then some (prcV px A1 q1 A2 q2)else f y)∧Fr (fun i=>i=w2.heap.size) w5 w7:=by
     refine⟨?_,?_,hf57⟩
     ·have:=hm7
      rw[hl1,hl2]at this
      exact this
     ·have e9:t.procs.take (k+1)=t.procs.take k++ [px]:=by
       have h1:=List.take_add_one (l:=t.procs) (i:=k)
       have h2:t.procs[k]?=some px:=by
        have:=congrArg List.head? hd
        rw[List.head?_drop]at this
        exact this
       rw[h1,h2];rfl
      rw[e9]
      exact hb.out.2.1.put (s1.imp fun _ _=>VaR.lax) (s2.imp fun _ _=>StR.lax)
    have HNX:=hdq hNX
    have HW6:=hdq hw6
    clear hd hd1 hat hbS r1 d0 d1 d2 d3 s1 s2 hfwr hg0 hl1 hl2 hw6 hf6 hk6 hkP hm7 hg7 hf57 hNX
    go_wp2_with fail
    rw[←HW6.out]
    clear c0 c1 c2 c3 hxr
    refine wp_region_E (fun W'=>w4.heap.size < W'.heap.size∧wr.heap.size < W'.heap.size∧W'.cell? ⟨w4.heap.size,0,none⟩=some (.map (some w2.heap.size))∧W'.cell? ⟨wr.heap.size,0,none⟩=some (.string px.nm)∧W'.cell? ⟨wr.heap.size,1,none⟩=some (.slice A1 l1 q1)∧W'.cell? ⟨wr.heap.size,2,none⟩=some (.slice A2 l2 q2)∧W'.cell? ⟨wr.heap.size,3,none⟩=some (.int .i64 px.at_)) (fun i=>decide (i < 7)) (by kernel_rfl) ⟨pl,tl,p0,t0,t1,t2,t3⟩ (fun hHeld=>?_)
    refine wpE_pu 0 ?_
    try simp only[putsL]
    refine wpE_pu 1 ?_
    try simp only[putsL]
    refine wpE_pu 2 ?_
    try simp only[putsL]
    refine wpE_pu 4 ?_
    try simp only[putsL]
    refine wpE_tk 3 hHeld ?_
    try simp only[putsL]
    refine wpE_tk 5 hHeld ?_
    try simp only[putsL]
    refine wpE_tk 6 hHeld ?_
    try simp only[putsL]
    refine wpE_next 7 rfl (by kernel_rfl) (fun KK hK=>?_)
    go_simp
    refine hK _ _ (fun h=>absurd h (by decide)) ?_
    clear hK KK
    try simp only[putsL]
    refine wpE_done (by kernel_rfl) ?_
    clear p0 pl t0 t1 t2 t3 tl hput hHeld
    go_wp2_with fail
    go_roundw
    case rel=>exact⟨k+1,by omega,by go_num,_,HNX⟩
    case measure=>simp[intOf];omega
   ·have hlt':¬(k:Int) < (n3:Int):=by omega
    have htk:t.procs.take k=t.procs:=List.take_of_length_le (by have:=HN.out.2.2.1;omega)
    have hbp:w.heap.size≤w2.heap.size:=HF02.out.size
    have hfwr:Fr NoT w wr:=Fr.back1 HFW5.out (hb.out.2.2.mono fun i _ e=>(by have e:i=w2.heap.size:=e;show w.heap.size≤i;omega)) (lrq _)
    have hz4:=HB.out.2.2.2.2.1
    have hz3:=HB.out.2.2.2.2.2.1
    have hz2:=HB.out.2.2.2.2.2.2
    have hz5:w5.heap.size=w4.heap.size+1:=by rw[HW5.out];simp
    have hzr:=hb.out.2.2.size
    have hprm:=hb.out.2.1
    rw[htk]at hprm
    obtain⟨w7,hw7⟩:=nmq (wr.alloc (.map #[] 0))
    have hf7:Fr NoT wr w7:=by rw[hw7];exact(Fr.refl _ _).alloc _
    have hn7:NmM w7 wr.heap.size 0 fun _=>none:=by rw[hw7];exact MpV.made wr
    obtain⟨K,hKd⟩:∃K:InK,K=⟨w,S,w4.heap.size,w2.heap.size,k,f,procsOf t.procs⟩:=⟨_,rfl⟩
    have hOk:K.Ok:=by
     rw[hKd]
     exact⟨HX.out.2.2.2,HX.out.1,hprm.1,hprm.2,HOK.out.2.1⟩
    have hvbp:∀i,(Value.slice Av' n1 cv').ownBlock =some i→¬i=w2.heap.size:=fun i hi e=>by have:=HVL.out i hi;omega
    have h7:InAt K w7 ⟨0,t.vars,0⟩ (.slice Av' n1 cv'):=by
     rw[hKd]
     refine⟨hfwr.trans hf7,(HB.out.1.fr hb.out.2.2 (fun e=>by have e:w4.heap.size=w2.heap.size:=e;omega)).fr0 hf7,hb.out.1.fr hf7 id,⟨csv,?_,(RowR.imp (w':=w) oneV_keep (SameS.refl _ _) (fun _ _=>trivial) HROWV.out:RowR oneV w (fun _=>True) t.vars csv).any⟩,⟨by show w.heap.size≤w4.heap.size;omega,hbp⟩,⟨by show w4.heap.size≠w2.heap.size;omega,fun e=>?_,fun e=>hvbp _ e rfl⟩,by show 0≤261;omega,by show 0≤0+1;omega,?_⟩
     ·show w7.ownsRow w.heap.size _ _ _ t.vars.length csv
      rw[←HN.out.1]
      exact row_lower (rw_keep (rw_keep HB.out.2.2.2.1 hb.out.2.2 hvbp) hf7 fun _ _=>id) (by omega)
     ·have:=(HVL.out _ e).2
      simp at this
     ·have:=HOK.out.1
      show t.vars.length≤36
      omega
    have hinb:InB K (.slice Av' n1 cv') wr.heap.size:=by
     rw[hKd]
     refine⟨by show wr.heap.size≠w4.heap.size;omega,by show wr.heap.size≠w2.heap.size;omega,fun e=>?_⟩
     have:=(HVL.out _ e).2
     omega
    have hstm:=HOK.out.2.2 K hOk (by rw[hKd]) w7 ⟨0,t.vars,0⟩ (.slice Av' n1 cv') (fun _=>none) wr.heap.size 0 Am cm h7 (lrq _) hn7 hinb (by rw[hKd];exact HX.out.2.2.1.main.imp fun _ _=>StR.lax)
    have hQ:inlF K.procs t.procs.length t.main (fun _=>none) ⟨0,t.vars,0⟩=inlQ t:=by rw[hKd];rfl
    have hPe:K.P=w4.heap.size:=by rw[hKd]
    rw[hQ,hPe,←HN.out.2.2.2]at hstm
    have hkt:=HB.out.2.1.fr hb.out.2.2 (fun e=>by have e:w.heap.size=w2.heap.size:=e;omega)
    have hku:=HB.out.2.2.1.fr hb.out.2.2 (fun e=>by have e:w.heap.size+1=w2.heap.size:=e;omega)
    have x3:=hkt.cell 3
    have x3l:=hkt.lt
    simp only[getsL]at x3
    have HSTM:=hdq hstm
    have HW7:=hdq hw7
    have HF7:=hdq hf7
    have HKT:=hdq hkt
    have HKU:=hdq hku
    have HKd:=hdq hKd
    have HOk:=hdq hOk
    have HFWR:=hdq hfwr
    have HZ:=hdq (aiq hz4 (aiq hz3 (aiq hz2 (aiq hz5 hzr))))
    clear hstm hw7 hf7 hkt hku hKd hOk hfwr hz4 hz3 hz2 hz5 hzr hprm hn7 hvbp h7 hinb hQ hPe hbp hb
    go_wp2_with fail
    rw[←HW7.out]
    go_at_call 28
    refine HSTM.out.mono ?_
    rintro _ w8 ⟨v8,vo8,acc8,cs8,rfl,h8,hout8,hr8,hf8,hsp8,hm8,hc8⟩
    obtain⟨A8,c8,rfl,hb8⟩:=hout8.slice (by have:=h8.most.1;omega)
    obtain⟨csv8,hrow8,hrows8⟩:=h8.row
    obtain⟨V8,cV8,rfl,_⟩:=row_slice hrow8
    have hnT:∀i,i < w3.heap.size→¬InT K (.slice Av' n1 cv') i:=fun i hi e=>by
     rcases e with e|e
     ·rw[HKd.out]at e;have e:i=w4.heap.size:=e;have:=HZ.out.1;omega
     ·have:=HVL.out i e;omega
    have hz:=HZ.out
    have hku8:=(HKU.out.fr0 HF7.out).fr hf8 (hnT _ (by omega))
    have hkt8:=(HKT.out.fr0 HF7.out).fr hf8 (hnT _ (by omega))
    have hfw8:Fr NoT w w8:=Fr.thenT (HFWR.out.trans HF7.out) hf8 fun i hi e=>hnT i (by omega) e
    have hw78:w7.heap.size≤w8.heap.size:=hf8.size
    have hwr7:wr.heap.size≤w7.heap.size:=HF7.out.size
    have hfull:=full_any K w8 (inlQ t).2 _ h8
    have hPe:K.P=w4.heap.size:=by rw[HKd.out]
    rw[hPe]at hfull
    have hp8:=h8.bk
    rw[hPe]at hp8
    obtain⟨s8,hs8⟩:=nmq ((inlQ t).2 )
    rw[←hs8]at hfull hp8 hrow8 hrows8
    have hvb:∀i,(Value.slice V8 s8.vars.length cV8).ownBlock =some i→¬i=w.heap.size+1:=fun i hi e=>by
     rw[hs8]at hi
     rcases hsp8 with k9|⟨g9,k9,hg9⟩
     ·have:=HVL.out i (k9▸hi);omega
     ·rw[k9]at hi;have:=Option.some.inj hi;omega
    have hacc8:acc8.length≤261:=by have:=h8.most.1;omega
    obtain⟨vl,hvl⟩:=nmq s8.vars.length
    rw[←hvl]at hp8 hvb
    have HFULL:=hdq hfull
    have H8:=hdq (aiq hb8 (aiq hrow8 (aiq hrows8 (aiq hr8 (aiq hvb hacc8)))))
    have HS8:=hdq (aiq hs8 hvl)
    have HKU8:=hdq hku8
    have HKT8:=hdq hkt8
    have HFW8:=hdq hfw8
    have HP8:=hdq hp8
    have HZZ:=hdq (aiq hw78 (aiq hwr7 (by omega:w.heap.size+2≤w7.heap.size)))
    clear hb8 hrow8 hrows8 hr8 hvb hacc8 hs8 hvl hku8 hkt8 hfw8 hp8 hw78 hwr7 hfull hPe hz hnT hf8 hsp8 hm8 hc8 h8 hout8
    go_wp2_with fail
    go_at_call 29
    refine HFULL.out.mono ?_
    rintro _ w9 ⟨rfl,rfl⟩
    have z0:=HKU8.out.frozen 0
    have z1:=HKU8.out.frozen 1
    have z2:=HKU8.out.frozen 2
    have z3:=HKU8.out.frozen 3
    have y0:=HKU8.out.cell 0
    have y1:=HKU8.out.cell 1
    have y2:=HKU8.out.cell 2
    have y3:=HKU8.out.cell 3
    have yl:=HKU8.out.lt
    simp only[getsL]at y0 y1 y2 y3
    cases hfl:fullB s8 with
    |true=>
     have HR:=hdq (show inlT t=(noTre,9)from by unfold inlT;rw[←HFF.out,if_pos rfl,←HS8.out.1,hfl];rfl)
     obtain⟨wf,hwf⟩:=nmq ((((w9.setCell ⟨w.heap.size+1,0,none⟩ (.slice none 0 0)).setCell ⟨w.heap.size+1,1,none⟩ (.slice none 0 0)).setCell ⟨w.heap.size+1,2,none⟩ (.slice none 0 0)).setCell ⟨w.heap.size+1,3,none⟩ (.slice none 0 0))
     have hff:Fr NoT w wf:=by rw[hwf];exact(((HFW8.out.high (by omega) _ _).high (by omega) _ _).high (by omega) _ _).high (by omega) _ _
     have hkf:Bk wf (w.heap.size+1) 27 #[.slice none 0 0,.slice none 0 0,.slice none 0 0,.slice none 0 0]:=by
      have:=(((HKU8.out.set_ 0 (.slice none 0 0)).set_ 1 (.slice none 0 0)).set_ 2 (.slice none 0 0)).set_ 3 (.slice none 0 0)
      rw[hwf];simpa using this
     have HWF:=hdq hwf
     have HFF2:=hdq hff
     have HKF:=hdq hkf
     clear hwf hff hkf hfl
     go_wp2_with fail
     rw[←HWF.out]
     refine bodyPost_ret (res_cell_tmp (p:=2) (q:=3) (ty:=27) rfl _ _ (w.heap.size+1) 27 _ (0,0) _ rfl HKF.out Tryz.underlying27 rfl sizeTr) rfl ?_
     rw[HR.out]
     exact⟨none,none,none,none,0,0,0,0,rfl,noTre_at _ _,HFF2.out⟩
    |false=>
     have HR:=hdq (show inlT t=(⟨s8.vars,t.arrays, [],stsOf acc8⟩,0)from by
      unfold inlT
      rw[←HFF.out,if_pos rfl,←HS8.out.1,hfl]
      simp only[Bool.false_eq_true,if_false,H8.out.2.2.2.1])
     obtain⟨csa,hcla,hrowa,honea,hnila,hcsa⟩:=slA HX.out.2.2.1.arrays
     have hcla2:=fun(W:World) (hf:Fr NoT w9 W)=>cloneA_any Aa n2 ca csa W (by rw[HN.out.2.1];exact leq9 HX.out.2.2.1.arrays.1 HX.out.2.2.1.arrays.2.1.1) (by rw[HN.out.2.1];exact HX.out.2.2.1.arrays.2.1.2) (by rw[HN.out.2.1];exact hcla) honea (fun e=>by rw[HN.out.2.1];exact hnila e) (fun ad e j u hj=>by
      have h1:=hcsa ad e j u hj
      exact((HFW8.out.trans hf).cell (cell_low h1) id).trans h1)
     have HCLA:=hdq hcla2
     have HROWA:=hdq hrowa
     have p2:=HP8.out.cell 2
     have pl:=HP8.out.lt
     have q1:=HKT8.out.cell 1
     have ql:=HKT8.out.lt
     simp only[getsL]at p2 q1
     have HFL:=hdq hfl
     clear hcla hrowa honea hnila hcsa hcla2 hfl
     go_wp2_with fail
     refine wp_region_E (fun W'=>w4.heap.size < W'.heap.size∧w.heap.size < W'.heap.size∧W'.cell? ⟨w4.heap.size,2,none⟩=some (.slice V8 vl cV8)∧W'.cell? ⟨w.heap.size,1,none⟩=some (.slice Aa n2 ca)) (fun i=>decide (i < 9)) (by kernel_rfl) ⟨pl,ql,p2,q1⟩ (fun hHeld=>?_)
     refine wpE_pu 0 ?_
     try simp only[putsL]
     refine wpE_pu 1 ?_
     try simp only[putsL]
     refine wpE_pu 2 ?_
     try simp only[putsL]
     refine wpE_pu 4 ?_
     try simp only[putsL]
     refine wpE_pu 7 ?_
     try simp only[putsL]
     refine wpE_tk 3 hHeld ?_
     try simp only[putsL]
     refine wpE_tk 5 hHeld ?_
     try simp only[putsL]
     refine wpE_next 6 rfl (by kernel_rfl) (fun KK hK=>?_)
     go_simp
     go_at_call 30
     refine(HCLA.out _ ((Fr.refl NoT w9).drew)).mono ?_
     rintro _ w10 ⟨va,rfl,howna,hf10',Ax,cx,rfl⟩
     have hf10:Fr NoT w9 w10:=((Fr.refl NoT w9).drew).trans hf10'
     have hs10:w4.heap.size < w10.heap.size∧w.heap.size < w10.heap.size∧w10.cell? ⟨w4.heap.size,2,none⟩=some (.slice V8 vl cV8)∧w10.cell? ⟨w.heap.size,1,none⟩=some (.slice Aa n2 ca):=⟨ltq pl hf10.size,ltq ql hf10.size,(hf10.cell (p:=⟨w4.heap.size,2,none⟩) pl id).trans p2,(hf10.cell (p:=⟨w.heap.size,1,none⟩) ql id).trans q1⟩
     have hk10:=HKU8.out.fr0 hf10
     clear z0 z1 z2 z3 y0 y1 y2 y3 yl
     have z0:=hk10.frozen 0
     have z1:=hk10.frozen 1
     have z2:=hk10.frozen 2
     have z3:=hk10.frozen 3
     have y0:=hk10.cell 0
     have y1:=hk10.cell 1
     have y2:=hk10.cell 2
     have y3:=hk10.cell 3
     have yl:=hk10.lt
     simp only[getsL]at y0 y1 y2 y3
     have HF10:=hdq hf10
     have HK10:=hdq hk10
     have HOA:=hdq howna
     clear hf10 hf10' hk10 howna hHeld
     try dsimp only
     refine hK _ _ (fun _ _=>hs10) ?_
     clear hK KK hs10
     try simp only[putsL]
     refine wpE_pu 8 ?_
     try simp only[putsL]
     refine wpE_next 9 rfl (by kernel_rfl) (fun KK hK=>?_)
     go_simp
     refine hK _ _ (fun h=>absurd h (by decide)) ?_
     clear hK KK
     try simp only[putsL]
     refine wpE_next 10 rfl (by kernel_rfl) (fun KK hK=>?_)
     go_simp
     refine hK _ _ (fun h=>absurd h (by decide)) ?_
     clear hK KK
     try simp only[putsL]
     refine wpE_done (by kernel_rfl) ?_
     obtain⟨wf,hwf⟩:=nmq ((((w10.setCell ⟨w.heap.size+1,0,none⟩ (.slice V8 vl cV8)).setCell ⟨w.heap.size+1,1,none⟩ (.slice Ax n2 cx)).setCell ⟨w.heap.size+1,2,none⟩ (.slice none 0 0)).setCell ⟨w.heap.size+1,3,none⟩ (.slice A8 acc8.length c8))
     rw[←hwf]
     have hff0:Fr (fun i=>i=w.heap.size+1) w10 wf:=by rw[hwf];exact Fr.own (Fr.own (Fr.own (Fr.own (Fr.refl _ _) _ _) _ _) _ _) _ _
     have hff:Fr NoT w wf:=Fr.thenT (HFW8.out.trans HF10.out) hff0 fun i hi e=>by have e:i=w.heap.size+1:=e;omega
     have hkf:Bk wf (w.heap.size+1) 27 #[.slice V8 vl cV8,.slice Ax n2 cx,.slice none 0 0,.slice A8 acc8.length c8]:=by
      have:=(((HK10.out.set_ 0 (.slice V8 vl cV8)).set_ 1 (.slice Ax n2 cx)).set_ 2 (.slice none 0 0)).set_ 3 (.slice A8 acc8.length c8)
      rw[hwf];simpa using this
     have HFF0:=hdq hff0
     have HFF2:=hdq hff
     have HKF:=hdq hkf
     clear hwf hff hff0 hkf z0 z1 z2 z3 y0 y1 y2 y3 yl p2 pl q1 ql
     go_wp2_with fail
     refine bodyPost_ret (res_cell_tmp (p:=2) (q:=3) (ty:=27) rfl _ _ (w.heap.size+1) 27 _ (0,0) _ rfl HKF.out Tryz.underlying27 rfl sizeTr) rfl ?_
     rw[HR.out]
     obtain⟨hb8,hrow8,hrows8,hr8,hvb,hacc8⟩:=H8.out
     have hzz:=HZZ.out
     have hz10:=HF10.out.size
     have hzf:=HFF0.out.size
     have hrowf:wf.ownsRow w.heap.size 43 2 (.slice V8 s8.vars.length cV8) s8.vars.length csv8:=by
      rw[HKd.out]at hrow8
      exact rw_keep (rw_keep hrow8 HF10.out fun _ _=>id) HFF0.out (by rw[HS8.out.2]at hvb;exact hvb)
     have hrowaf:wf.ownsRow w.heap.size 66 3 (.slice Ax t.arrays.length cx) t.arrays.length csa:=by
      have h1:=HOA.out
      rw[HN.out.2.1]at h1
      refine row_lower (rw_keep h1 HFF0.out fun i hi e=>?_) (by have:w9.drew.heap.size=w9.heap.size:=rfl;omega)
      have h2:=(row_lt h1 hi).1
      have:w9.drew.heap.size=w9.heap.size:=rfl
      have e:i=w.heap.size+1:=e
      omega
     have h9:s8.vars.length≤32:=by
      have h8:=HFL.out
      unfold fullB at h8
      simp only[Bool.or_eq_false_iff,decide_eq_false_iff_not]at h8
      omega
     obtain⟨B1,d1,e1,hsl1⟩:=RowR.slice oneV_keep (sz:=24) hrowf (RowR.anyV hrows8) (by omega) (P:=fun b o=>VaR wf (New w.heap.size wf) True s8.vars b o) fun g hg hr hc=>rowV (o:=0) hg hr fun j u hj=>by rw[Nat.zero_add];exact hc j u hj
     obtain⟨B2,d2,e2,hsl2⟩:=RowR.slice oneA_keep (sz:=32) hrowaf (RowR.anyA HROWA.out) (by exact HX.out.2.2.1.arrays.2.1.2) (P:=fun b o=>ArR wf (New w.heap.size wf) True t.arrays b o) fun g hg hr hc=>rowA (o:=0) hg hr fun j u hj=>by rw[Nat.zero_add];exact hc j u hj
     injection e1 with e11 _ e12
     injection e2 with e21 _ e22
     subst e11 e12 e21 e22
     have hml:(stsOf acc8).len =acc8.length:=stsOf_len acc8
     refine⟨V8,Ax,none,A8,cV8,cx,0,c8,?_,⟨hsl1,hsl2,slr0,?_⟩,HFF2.out⟩
     ·simp only[trV,hml,List.length_nil,HS8.out.2,HN.out.2.1]
      rfl
     ·show SlR _ (stsOf acc8).len 128 A8 c8
      rw[hml]
      exact hb8.imp fun _ _ hx=>StR.more (fun i hi=>⟨by have:=hi.1;omega,by have:=hi.2.1;omega⟩) (StR.keep ((HF10.out.same fun i hi=>⟨hi.2.1,id⟩).trans (HFF0.out.same fun i hi=>⟨by have:=hi.2.1;omega,fun e=>by have e:i=w.heap.size+1:=e;have:=hi.1;omega⟩)) hx)
 ·have h0':¬F2=0:=h0
  have z0:=hk1.frozen 0
  have z1:=hk1.frozen 1
  have z2:=hk1.frozen 2
  have z3:=hk1.frozen 3
  have y0:=hk1.cell 0
  have y1:=hk1.cell 1
  have y2:=hk1.cell 2
  have y3:=hk1.cell 3
  have yl:=hk1.lt
  simp only[getsL]at y0 y1 y2 y3
  have HR:=hdq (show inlT t=(noTre,F2)from by unfold inlT;rw[←HFF.out,if_neg h0])
  clear hk0 hk1
  obtain⟨wf,hwf⟩:=nmq ((((w2.setCell ⟨w.heap.size+1,0,none⟩ (.slice none 0 0)).setCell ⟨w.heap.size+1,1,none⟩ (.slice none 0 0)).setCell ⟨w.heap.size+1,2,none⟩ (.slice none 0 0)).setCell ⟨w.heap.size+1,3,none⟩ (.slice none 0 0))
  have hff:Fr NoT w wf:=by rw[hwf];exact(((HF02.out.high (by omega) _ _).high (by omega) _ _).high (by omega) _ _).high (by omega) _ _
  have hkf:Bk wf (w.heap.size+1) 27 #[.slice none 0 0,.slice none 0 0,.slice none 0 0,.slice none 0 0]:=by
   have:=(((HK12.out.set_ 0 (.slice none 0 0)).set_ 1 (.slice none 0 0)).set_ 2 (.slice none 0 0)).set_ 3 (.slice none 0 0)
   rw[hwf];simpa using this
  have HWF:=hdq hwf
  have HFF2:=hdq hff
  have HKF:=hdq hkf
  clear hwf hff hkf
  go_wp2_with fail
  rw[←HWF.out]
  refine bodyPost_ret (res_cell_tmp (p:=2) (q:=3) (ty:=27) rfl _ _ (w.heap.size+1) 27 _ (0,0) _ rfl HKF.out Tryz.underlying27 rfl sizeTr) rfl ?_
  rw[HR.out]
  exact⟨none,none,none,none,0,0,0,0,rfl,noTre_at _ _,HFF2.out⟩
theorem inl_any (t:Tre) (w:World) (S:Nat→Prop) (Z:Prop) (Av Aa Ap Am:Option Addr) (cv ca cp cm:Nat) (he:SpEnv w) (htab:Lib.TabIs Tryz.prog w "internal/strconv.uint64pow10" .u64 Lib.pow10Tab) (hS:∀b,S b→b < w.heap.size) (hsz:SzT t) (hx:TrR w S Z t Av Aa Ap Am cv ca cp cm):
  Calls Tryz.prog 8 #[trV t Av Aa Ap Am cv ca cp cm] w (InlP (inlT t) w):=
 inl_of t w S Z Av Aa Ap Am cv ca cp cm htab hS hsz hx (fun w1 hf1=>ctree_any t w1 S Z Av Aa Ap Am cv ca cp cm (he.keep hf1.plain) (fun b hb=>ltq (hS b hb) hf1.size) hsz (hx.keep (hf1.same fun b hb=>⟨hS b hb,id⟩)))
  fun h=>have hok:=treeC_no (t:=t) h
   ⟨(fewT_iff.1 hok.few).1,fun y x e=>procs_few hok hsz (fun x hm=>by
    obtain⟨b,o,_,h⟩:=hx.procs.2.2 (List.length_pos_iff.2 fun e=>by rw[e]at hm;simp at hm)
    exact prR_in h x hm) e,fun K hk e=>stc_all hk t.procs.length t.main (by rw[e];exact main_low hok) hsz.main⟩
end Go.Proofs.YtmopichdofgndaaGreatDoor
