/-
  inline: what stands in place of a call. Printed by wip/gen_in/reg.py.
-/
import Derived.Test.YtmopichdofgndaaGreatDoorInOut
import Derived.Lib.ItoaLen
set_option linter.unusedVariables false
set_option linter.unusedSimpArgs false
namespace Go.Proofs.YtmopichdofgndaaGreatDoor
open Go.RowKit Go.Shelf Go.Maps

def InP (K:InK) (r:Sts×Ist) (s:Ist) (w:World) (v:Value) (e:Ending) (w':World):Prop:=
 ∃v' vo acc cs,e= .returned vo∧InAt K w' r.2 v'∧OutRow w.heap.size v' w' vo acc cs∧r.1=stsOf acc∧Fr (InT K v) w w'∧SpotP w v v'∧s.many+acc.length≤r.2.many∧r.2.calls≤r.2.many
structure InB (K:InK) (v:Value) (b:Nat):Prop where
 p:b≠K.P
 m:b≠K.bp
 v:v.ownBlock≠some b
def StC (K:InK) (stm:Sts→Nms→Ist→Sts×Ist) (xs:Sts):Prop:=
 ∀(w:World) (s:Ist) (v:Value) (n:Nms) (b q:Nat) (A:Option Addr) (c:Nat),InAt K w s v→s.calls≤s.many→NmM w b q n→InB K v b→SlR (fun b o=>StR K.W0 K.S False xs b o) xs.len 128 A c→
  Calls Tryz.prog 28 #[.pointer (some ⟨K.P,0,none⟩),.slice A xs.len c,.map (some b)] w (InP K (stm xs n s) s w v)
theorem stsOf_app:∀(a b:List St),stsOf (a++b)=Sts.app (stsOf a) (stsOf b)
 | [],_=>rfl
 |x::r,b=>by show x.cons (stsOf (r++b))=_;rw[stsOf_app r b];rfl
theorem app_assoc:∀(a b c:Sts),Sts.app (Sts.app a b) c=Sts.app a (Sts.app b c)
 | .nil,_,_=>rfl
 | .cons _ _ _ _ _ _ _ r,b,c=>by simp only[Sts.app,app_assoc r b c]
theorem app_nil:∀(a:Sts),Sts.app a .nil =a
 | .nil =>rfl
 | .cons _ _ _ _ _ _ _ r=>by simp only[Sts.app,app_nil r]
def newVa (p:ByteArray) (c:Nat) (v:Va):Va:=⟨parN p c v.nm,v.at_⟩
theorem zeroPrc (w:World):(zeroValue 68).run Tryz.prog w= .ok (.agg #[.string ⟨#[]⟩,.slice none 0 0,.slice none 0 0,.int .i64 0]) w:=by kernel_rfl
theorem Fr.thenT {T U:Nat→Prop} {a b c:World} (h:Fr T a b) (k:Fr U b c) (ht:∀i,i < a.heap.size→U i→T i):Fr T a c:=
 ⟨k.os.trans h.os,k.tape.trans h.tape,k.output.trans h.output,leq9 h.size k.size,fun i hi hn=>(k.block i (ltq hi h.size) fun hu=>hn (ht i hi hu)).trans (h.block i hi hn)⟩
theorem below_growI (w:World) (k:Nat) (os:Array Obj):Fr NoT w (Go.Sort.grow (w.drewN k) os):=by
 refine⟨rfl,rfl,rfl,by simp[Go.Sort.grow],fun i hi _=>?_⟩
 show(w.heap++os)[i]?=w.heap[i]?
 rw[Array.getElem?_append_left hi]
structure CaSt (K:InK) (x:Prc) (s:Ist) (n:Nms) (args:Exs) (at_:Int) (L:Nat) (X bo:Nat) (wr:World) (v vo:Value) (acc:List St) (cs:List Value) (vs:List Va) (o:Nms) (k:Nat) (v0:Value) (w:World) (bx bs:Array Value) (b q:Nat):Prop where
 st:InAt K wr ⟨s.calls+1,vs,s.many⟩ v
 out:OutRow L v wr vo acc cs
 own:NmM wr bo k o
 fr:Fr (InT K v0) w wr
 spot:SpotP w v0 v
 vars:vs++(x.params.drop k).map (newVa x.nm (s.calls+1))=s.vars++x.params.map (newVa x.nm (s.calls+1))
 len:vs.length=s.vars.length+k
 eq:Sts.app (stsOf acc) (setsN x.nm (s.calls+1) n at_ (x.params.drop k) (Exs.drop k args))= .cons 1 ⟨#[]⟩ .nil .nil .nil .nil at_ (setsN x.nm (s.calls+1) n at_ x.params args)
 names:ownN x.nm (s.calls+1) (x.params.drop k) o=ownN x.nm (s.calls+1) x.params fun _=>none
 many:acc.length=k+1
 low:∀b,vo.ownBlock=some b→L≤b
 xb:Bk wr X 68 bx
 box:Bk wr w.heap.size 39 bs
 nms:NmM wr b q n
 sz:L≤wr.heap.size
 vlen:vs.length≤36
 apart:∀i,(i=w.heap.size∨i=X∨i=b)→¬(i=bo∨i=K.P∨v.ownBlock=some i)
 vbo:∀i,v.ownBlock=some i→i≠bo
 bP:bo≠K.P
def setSt (nw:ByteArray) (n:Nms) (e0:Int) (e1:ByteArray) (e2:Int) (e3:Exs) (e4:Int) (at_:Int):St:=⟨2,nw,exprN n (.cons e0 e1 e2 e3 e4 .nil),.nil,.nil,.nil,at_⟩
theorem CaSt.next {K:InK} {x:Prc} {s:Ist} {n:Nms} {args:Exs} {at_:Int} {L X bo:Nat} {wr:World} {vk vo:Value} {acc:List St} {cs:List Value} {vs:List Va} {o:Nms} {kk:Nat} {v:Value} {w:World} {bx bs:Array Value} {b q:Nat}
  (h:CaSt K x s n args at_ L X bo wr vk vo acc cs vs o kk v w bx bs b q) (hL:K.P < L∧K.bp < L∧bo < L∧X < L∧w.heap.size < L∧b < L∧w.heap.size≤bo∧K.W0.heap.size≤L) {w6 w7:World} (hf6:Fr NoT wr w6) (hf7:Fr (fun i=>i=bo) w6 w7) {pv:Va} {pr:List Va} {nw:ByteArray}
  (ho7:MpV w7 bo (kk+1) (fun y=>if y=pv.nm.data.toList then some (.string nw)else(o y).map .string)) {w10:World} {vn:Value} (hP:InAt K w10 ⟨s.calls+1,vs++ [⟨nw,pv.at_⟩],s.many⟩ vn) (hf10:Fr (fun i=>i=K.P∨vk.ownBlock=some i) w7 w10) (hvn:SpotP w7 vk vn)
  {e0:Int} {e1:ByteArray} {e2:Int} {e3:Exs} {e4:Int} {er:Exs} {w11:World} {A':Option Addr} {c':Nat} (hf11:Fr NoT w10 w11) (hsl:SlR (fun b o=>ExR w11 (New w10.heap.size w11) True (exprN n (.cons e0 e1 e2 e3 e4 .nil)) b o) 1 64 A' c') {w12:World} (hf12:Fr NoT w11 w12) (hout:OutRow L vn w12 vo acc cs)
  {w13:World} {gg cap:Nat} (hown:w13.ownsRow L 39 7 (.slice (some ⟨gg,0,none⟩) (acc.length+1) cap) (acc.length+1) (cs++ [.int .u8 2,.string nw,.slice A' 1 c',.slice none 0 0,.slice none 0 0,.slice none 0 0,.int .i64 at_])) (hg:w12.grownBy w13 vo.ownBlock) (hsp:vo.ownBlock=some gg∨gg=w12.heap.size)
  (hd:x.params.drop kk=pv::pr) (hd1:x.params.drop (kk+1)=pr) (he:Exs.drop kk args= .cons e0 e1 e2 e3 e4 er) (hnw:nw=parN x.nm (s.calls+1) pv.nm) (hat:in64 at_) (h36:vs.length+1≤36):
  CaSt K x s n args at_ L X bo w13 vn (.slice (some ⟨gg,0,none⟩) (acc.length+1) cap) (acc++ [setSt nw n e0 e1 e2 e3 e4 at_]) (cs++ [.int .u8 2,.string nw,.slice A' 1 c',.slice none 0 0,.slice none 0 0,.slice none 0 0,.int .i64 at_]) (vs++ [⟨nw,pv.at_⟩]) (fun y=>if y=pv.nm.data.toList then some nw else o y) (kk+1) v w bx bs b q:=by
 obtain⟨hLP,hLb,hLo,hLX,hLw,hLn,hwb,hW0⟩:=hL
 have z0:=h.sz
 have z6:=hf6.size
 have z7:=hf7.size
 have z10:=hf10.size
 have z11:=hf11.size
 have z12:=hf12.size
 have hlen1:(exprN n (.cons e0 e1 e2 e3 e4 .nil)).len =1:=by rw[exprN_len];rfl
 have hvol:∀i,vo.ownBlock=some i→L≤i∧i < wr.heap.size:=fun i hi=>row_lt h.out.row hi
 have hvkl:∀i,vk.ownBlock=some i→i < wr.heap.size:=fun i hi=>by obtain⟨c9,h9,_⟩:=h.st.row;exact(row_lt h9 hi).2
 have hvnl:∀i,vn.ownBlock=some i→i < w10.heap.size:=fun i hi=>by obtain⟨c9,h9,_⟩:=hP.row;exact(row_lt h9 hi).2
 have hone:One1 [.int .u8 2,.string nw,.slice A' 1 c',.slice none 0 0,.slice none 0 0,.slice none 0 0,.int .i64 at_]:=by
  intro u hu
  simp only[List.mem_cons,List.not_mem_nil,or_false]at hu
  rcases hu with rfl|rfl|rfl|rfl|rfl|rfl|rfl<;>rfl
 have h1s:oneS w12 (OutS L vo vn w12) (setSt nw n e0 e1 e2 e3 e4 at_) [.int .u8 2,.string nw,.slice A' 1 c',.slice none 0 0,.slice none 0 0,.slice none 0 0,.int .i64 at_]:=
  ⟨A',c',none,0,none,0,none,0,by rw[show(setSt nw n e0 e1 e2 e3 e4 at_).args.len =1 from hlen1];rfl,by simp[setSt,in8],hat,by
   show SlR _ (exprN n (.cons e0 e1 e2 e3 e4 .nil)).len 64 A' c'
   rw[hlen1]
   exact hsl.imp fun _ _ hx=>ExR.more (fun i hi=>⟨by have:=hi.1;omega,by have:=hi.2;omega,fun e=>by have:=hvol i e;have:=hi.1;omega,fun e=>by have:=hvnl i e;have:=hi.1;omega⟩) (ExR.keep (hf12.same fun i hi=>⟨hi.2,id⟩) hx),slr0,slr0,slr0⟩
 have hsp':(Value.slice (some ⟨gg,0,none⟩) (acc.length+1) cap).ownBlock =vo.ownBlock∨(Value.slice (some ⟨gg,0,none⟩) (acc.length+1) cap).ownBlock =some w12.heap.size:=by
  rcases hsp with e|e
  ·exact .inl e.symm
  ·exact .inr (by rw[e];rfl)
 obtain⟨hout13,hf13⟩:=hout.step (ys:= [setSt nw n e0 e1 e2 e3 e4 at_]) ⟨_, [],by simp,h1s,rfl⟩ hone hown hg hsp' (fun i hi=>by have:=hvnl i hi;omega)
 have hT:∀i,vo.ownBlock=some i→L≤i:=fun i hi=>(hvol i hi).1
 have hf1013:Fr (fun i=>vo.ownBlock=some i) w10 w13:=(hf11.any.trans hf12.any).trans hf13
 have hf713:Fr (fun i=>i=K.P∨vk.ownBlock=some i∨vo.ownBlock=some i) w7 w13:=(hf10.mono fun _ _ e=>e.elim .inl fun e=> .inr (.inl e)).trans (hf1013.mono fun _ _ e=> .inr (.inr e))
 have hfr13:Fr (fun i=>i=bo∨i=K.P∨vk.ownBlock=some i∨vo.ownBlock=some i) wr w13:=(hf6.any.trans (hf7.mono fun _ _ e=> .inl e)).trans (hf713.mono fun _ _ e=> .inr e)
 have hap:∀i,(i=w.heap.size∨i=X∨i=b)→¬(i=bo∨i=K.P∨vk.ownBlock=some i∨vo.ownBlock=some i):=fun i hi e=>by
  have h1:=h.apart i hi
  rcases e with e|e|e|e
  ·exact h1 (.inl e)
  ·exact h1 (.inr (.inl e))
  ·exact h1 (.inr (.inr e))
  ·have:=hT i e
   rcases hi with rfl|rfl|rfl<;>omega
 have hl10:∀i,vn.ownBlock=some i→vk.ownBlock=some i∨w7.heap.size≤i:=fun i hi=>by
  rcases hvn with e|⟨g,e,hg9⟩
  ·exact .inl (e▸hi)
  ·rw[e]at hi;have:=Option.some.inj hi;exact .inr (by omega)
 have hwr:w.heap.size≤wr.heap.size:=h.fr.size
 refine⟨(hP.frT hf1013 (fun i hi=>by have:=hT i hi;omega) (fun e=>by have:=hT _ e;omega) (fun e=>by have:=hT _ e;omega) (fun i hi e=>hout.ne i e hi)),hout13,?_,?_,?_,?_,by simp[h.len];omega,?_,?_,by simp[h.many],fun i hi=>(row_lt hout13.row hi).1,
  h.xb.fr hfr13 (hap _ (.inr (.inl rfl))),h.box.fr hfr13 (hap _ (.inl rfl)),h.nms.fr hfr13 (hap _ (.inr (.inr rfl))),by have:=hf1013.size;omega,by simpa using h36,fun i hi e=>?_,fun i hi e=>?_,h.bP⟩
 ·have e9:(fun y=>if y=pv.nm.data.toList then some (Value.string nw)else(o y).map .string)=fun t=>((fun y=>if y=pv.nm.data.toList then some nw else o y) t).map .string :=by
   funext y
   by_cases e:y=pv.nm.data.toList
   ·simp[e]
   ·simp[e]
  rw[e9]at ho7
  refine MpV.fr ho7 hf713 fun e=>?_
  rcases e with e|e|e
  ·exact h.bP e
  ·exact h.vbo _ e rfl
  ·have:=hT _ e;omega
 ·refine Fr.thenT h.fr hfr13 fun i hi e=>?_
  rcases e with e|e|e|e
  ·omega
  ·exact .inl e
  ·rcases h.spot with k|⟨g,k,hg9⟩
   ·exact .inr (k▸e)
   ·rw[k]at e;have:=Option.some.inj e;omega
  ·have:=hT _ e;omega
 ·exact h.spot.trans hvn (by omega)
 ·have:=h.vars
  rw[hd]at this
  rw[hd1,←this,hnw]
  simp[newVa]
 ·rw[stsOf_app,app_assoc,←h.eq,hd,he,hd1,Exs.drop_succ kk args he,hnw]
  rfl
 ·have:=h.names
  rw[hd]at this
  rw[hd1,←this,hnw]
  rfl
 ·have h1:=h.apart i hi
  rcases e with e|e|e
  ·exact h1 (.inl e)
  ·exact h1 (.inr (.inl e))
  ·rcases hl10 i e with k|k
   ·exact h1 (.inr (.inr k))
   ·have hXl:=h.xb.lt
    have hnl:=h.nms.lt
    have hbl:=h.box.lt
    rcases hi with rfl|rfl|rfl<;>omega
 ·rcases hl10 i hi with k|k
  ·exact h.vbo i k e
  ·omega
set_option maxRecDepth 100000 in
set_option maxHeartbeats 3200000 in
theorem icall_any (K:InK) (hk:K.Ok) (stm:Sts→Nms→Ist→Sts×Ist) (x:Prc) (hbody:StC K stm x.body) (w:World) (s:Ist) (v:Value) (n:Nms) (b q:Nat) (kst:Int) (nm:ByteArray) (args:Exs) (A2:Option Addr) (c2:Nat) (V3 V4 V5:Value) (at_:Int)
  (h:InAt K w s v) (hcm:s.calls≤s.many) (hfull:fullB s=false) (hn:NmM w b q n) (hb:InB K v b) (hx:K.procs nm.data.toList=some x) (hpl:x.params.length=args.len) (hnm:nm.size≤9223372036854775807) (hsx:szX args) (ha:SlR (fun b o=>ExR K.W0 K.S False args b o) args.len 64 A2 c2) (hat:in64 at_):
  Calls Tryz.prog 83 #[.pointer (some ⟨K.P,0,none⟩),.agg #[.int .u8 kst,.string nm,.slice A2 args.len c2,V3,V4,V5,.int .i64 at_],.map (some b)] w (InP K (callN K.procs stm nm args n at_ s) s w v):=by
 obtain⟨pA,pc,pB,pe,hfx,hpar,hbod⟩:=hk.some_ _ _ hx
 obtain⟨hf4,hf16,hfp,hfs,hfat⟩:=hk.few _ _ hx
 have hla:args.len≤9223372036854775807:=leq9 ha.1 ha.2.1.1
 obtain⟨ml,hml⟩:=nmq args.len
 obtain⟨pl,hpl2⟩:=nmq x.params.length
 obtain⟨bl,hbl⟩:=nmq x.body.len
 obtain⟨w1,hw1⟩:=nmq (w.alloc (.cells #[.int .u8 kst,.string nm,.slice A2 args.len c2,V3,V4,V5,.int .i64 at_] 39))
 have hf1:Fr NoT w w1:=by rw[hw1];exact(Fr.refl _ _).alloc _
 have hk1:Bk w1 w.heap.size 39 #[.int .u8 kst,.string nm,.slice A2 args.len c2,V3,V4,V5,.int .i64 at_]:=by rw[hw1];exact Bk.new _ _ _
 have hz1:w1.heap.size=w.heap.size+1∧K.P < w.heap.size∧K.bp < w.heap.size∧b < w.heap.size:=⟨by rw[hw1];simp,h.bk.lt,h.map.lt,hn.lt⟩
 have h1:=h.fr0 hf1
 have HVW:Hid (∀i,v.ownBlock=some i→i < w.heap.size):=hdq (fun i hi=>by obtain⟨cs,h9,_⟩:=h.row;exact(row_lt h9 hi).2)
 have hlk:=fun(W:World) (hf:Fr NoT w1 W)=>MpV.get (h1.map.fr hf id) Tryz.underlying74 hnm (zeroPrc W)
 rw[hfx]at hlk
 simp only[Option.getD_some,prcV]at hlk
 rw[←hml]at hk1 hw1 ⊢
 rw[←hpl2,←hbl]at hlk
 have p0:=h1.bk.cell 0
 have pl0:=h1.bk.lt
 have x1:=hk1.cell 1
 have xl1:=hk1.lt
 simp only[getsL]at p0 x1
 have HH:=hdq (aiq h1 (aiq hcm (aiq hfull (aiq (hn.fr hf1 id) (aiq hb (aiq hx (aiq hpl (aiq hnm (aiq hsx ha)))))))))
 have HP:=hdq (aiq hpar (aiq hbod (aiq hf4 (aiq hf16 (aiq hfp hfs)))))
 have HL:=hdq (aiq hml (aiq hpl2 (aiq hbl hz1)))
 have HW1:=hdq hw1
 have HF1:=hdq hf1
 have HK1:=hdq hk1
 have HLK:=hdq hlk
 have HPb:=hdq (h1.bk)
 have HBD:=hdq hbody
 have HK:=hdq hk
 have HAT:=hdq hat
 have hl0:=hlk _ ((Fr.refl NoT w1).drew)
 have HS:Hid (∀W',Fr NoT w1 W'→K.P < W'.heap.size∧w.heap.size < W'.heap.size∧W'.cell? ⟨K.P,0,none⟩=some (.map (some K.bp))∧W'.cell? ⟨w.heap.size,1,none⟩=some (.string nm)∧(Instr.lookup 74 (.map (some K.bp)) (.string nm) false).run Tryz.prog W'= .ok (.agg #[.string x.nm,.slice pA pl pc,.slice pB bl pe,.int .i64 x.at_]) W'):=
  hdq (fun W' hf=>⟨ltq pl0 hf.size,ltq xl1 hf.size,(hf.cell (p:=⟨K.P,0,none⟩) pl0 id).trans p0,(hf.cell (p:=⟨w.heap.size,1,none⟩) xl1 id).trans x1,hlk W' hf⟩)
 have hmm:= @run_makeMap Tryz.prog
 clear h h1 hcm hfull hn hb hx hpl hnm hsx ha hat hf1 hk1 hw1 hpar hbod hf4 hf16 hfp hfs hfat hml hpl2 hbl hlk hbody hk hfx hz1 hl0
 go_enter Tryz.func83,Tryz.ntmps83
 go_wp2_with fail
 rw[←HW1.out]
 go_cut [7,8] (fun s7 s8 wx=>∃X bo,s7= .pointer (some ⟨X,0,none⟩)∧s8= .map (some bo)∧Hid (Bk wx X 68 #[.string x.nm,.slice pA pl pc,.slice pB bl pe,.int .i64 x.at_])∧Hid (NmM wx bo 0 fun _=>none)∧Hid (Fr NoT w1 wx)∧Hid (w1.heap.size≤X∧w1.heap.size≤bo∧X≠bo))
 case first=>
  refine wp_region_E (fun W'=>K.P < W'.heap.size∧w.heap.size < W'.heap.size∧W'.cell? ⟨K.P,0,none⟩=some (.map (some K.bp))∧W'.cell? ⟨w.heap.size,1,none⟩=some (.string nm)∧(Instr.lookup 74 (.map (some K.bp)) (.string nm) false).run Tryz.prog W'= .ok (.agg #[.string x.nm,.slice pA pl pc,.slice pB bl pe,.int .i64 x.at_]) W') (fun i=>decide (i < 9)) (by kernel_rfl) (HS.out _ ((Fr.refl NoT w1).drew)) (fun hHeld=>?_)
  refine wpE_pu 0 ?_
  try simp only[putsL]
  refine wpE_pu 1 ?_
  try simp only[putsL]
  refine wpE_pu 2 ?_
  try simp only[putsL]
  refine wpE_pu 4 ?_
  try simp only[putsL]
  refine wpE_tk 3 hHeld ?_
  try simp only[putsL]
  refine wpE_tk 5 hHeld ?_
  try simp only[putsL]
  refine wpE_tk 6 hHeld ?_
  try simp only[putsL]
  refine wpE_two 7 8 rfl rfl (by kernel_rfl) (fun K' hK=>?_) (fun K' hK=>?_)
  ·go_simp
   obtain⟨wA,hwA⟩:=nmq ((w1.alloc (.map #[] 0)).drew )
   rw[←hwA]
   have hfA:Fr NoT w1 wA:=by rw[hwA];exact((Fr.refl _ _).alloc _).drew
   have hsA:=HS.out wA hfA
   try dsimp only
   refine hK _ _ (fun _ _=>hsA) ?_
   clear hK K' hHeld
   try simp only[putsL]
   have HWA:=hdq hwA
   have HFA:=hdq hfA
   have HZA:=hdq (show wA.heap.size=w1.heap.size+1 from by rw[hwA];simp[World.drew])
   clear hwA hfA
   refine wpE_next 8 rfl (by kernel_rfl) (fun K' hK=>?_)
   go_simp
   obtain⟨wB,hwB⟩:=nmq (wA.alloc (.cells #[.string ⟨#[]⟩,.slice none 0 0,.slice none 0 0,.int .i64 0] 68))
   rw[←hwB]
   have hfB:Fr NoT w1 wB:=by rw[hwB];exact HFA.out.alloc _
   have hsB:=HS.out wB hfB
   try dsimp only
   refine hK _ _ (fun _ _=>hsB) ?_
   clear hK K' hsA hsB
   try simp only[putsL]
   have HWB:=hdq hwB
   have HFB:=hdq hfB
   have HBA:=hdq (show Fr NoT wA wB from by rw[hwB];exact(Fr.refl _ _).alloc _)
   have hzB:wA.heap.size < wB.heap.size:=by rw[hwB];simp
   clear hwB hfB
   have hX:Bk wB wA.heap.size 68 #[.string ⟨#[]⟩,.slice none 0 0,.slice none 0 0,.int .i64 0]:=by rw[HWB.out];exact Bk.new _ _ _
   have y0:=hX.frozen 0
   have y1:=hX.frozen 1
   have y2:=hX.frozen 2
   have y3:=hX.frozen 3
   have y4:=hX.cell 0
   have y5:=hX.cell 1
   have y6:=hX.cell 2
   have y7:=hX.cell 3
   simp only[getsL]at y4 y5 y6 y7
   have HX:=hdq hX
   clear hX
   refine wpE_next 9 rfl (by kernel_rfl) (fun KK hK=>?_)
   go_simp
   refine hK _ _ (fun h=>absurd h (by decide)) ?_
   clear hK KK
   try simp only[putsL]
   refine wpE_next 10 rfl (by kernel_rfl) (fun KK hK=>?_)
   go_simp
   refine hK _ _ (fun h=>absurd h (by decide)) ?_
   clear hK KK
   try simp only[putsL]
   refine wpE_done (by kernel_rfl) ?_
   go_wp2_with fail
   go_meet
   have hX2:=(((HX.out.set_ 0 (.string x.nm)).set_ 1 (.slice pA pl pc)).set_ 2 (.slice pB bl pe)).set_ 3 (.int .i64 x.at_)
   have hm:NmM wB w1.heap.size 0 fun _=>none:=by
    have h1:=(MpV.made w1).fr ((Fr.refl NoT _).drew) id
    rw[←HWA.out]at h1
    exact(h1.fr HBA.out id)
   have hzA:=HZA.out
   refine⟨_,_,rfl,rfl,hdq (by simpa using hX2),hdq (hm.fr (T:=fun i=>i=wA.heap.size) (Fr.own (Fr.own (Fr.own (Fr.own (Fr.refl _ _) _ _) _ _) _ _) _ _) (by omega)),hdq ((((HFB.out.high (by omega) _ _).high (by omega) _ _).high (by omega) _ _).high (by omega) _ _),hdq (by omega)⟩
  ·go_simp
   obtain⟨wA,hwA⟩:=nmq ((w1.alloc (.cells #[.string ⟨#[]⟩,.slice none 0 0,.slice none 0 0,.int .i64 0] 68)).drew )
   rw[←hwA]
   have hfA:Fr NoT w1 wA:=by rw[hwA];exact((Fr.refl _ _).alloc _).drew
   have hsA:=HS.out wA hfA
   try dsimp only
   refine hK _ _ (fun _ _=>hsA) ?_
   clear hK K' hHeld
   try simp only[putsL]
   have hX:Bk wA w1.heap.size 68 #[.string ⟨#[]⟩,.slice none 0 0,.slice none 0 0,.int .i64 0]:=by rw[hwA];exact(Bk.new _ _ _).fr0 ((Fr.refl _ _).drew)
   have HFA:=hdq hfA
   have HZA:=hdq (show wA.heap.size=w1.heap.size+1 from by rw[hwA];simp[World.drew])
   have HXA:=hdq hX
   clear hwA hfA hX
   refine wpE_two 7 9 rfl rfl (by kernel_rfl) (fun K' hK=>?_) (fun K' hK=>?_)
   ·go_simp
    obtain⟨wB,hwB⟩:=nmq (wA.alloc (.map #[] 0))
    rw[←hwB]
    have hfB:Fr NoT w1 wB:=by rw[hwB];exact HFA.out.alloc _
    have hsB:=HS.out wB hfB
    try dsimp only
    refine hK _ _ (fun _ _=>hsB) ?_
    clear hK K' hsA hsB
    try simp only[putsL]
    have HFB:=hdq hfB
    have hm:NmM wB wA.heap.size 0 fun _=>none:=by rw[hwB];exact MpV.made wA
    have hX:Bk wB w1.heap.size 68 #[.string ⟨#[]⟩,.slice none 0 0,.slice none 0 0,.int .i64 0]:=by rw[hwB];exact HXA.out.alloc _
    have HM:=hdq hm
    have hzB:=hX.lt
    clear hwB hfB hm
    have y0:=hX.frozen 0
    have y1:=hX.frozen 1
    have y2:=hX.frozen 2
    have y3:=hX.frozen 3
    have y4:=hX.cell 0
    have y5:=hX.cell 1
    have y6:=hX.cell 2
    have y7:=hX.cell 3
    simp only[getsL]at y4 y5 y6 y7
    have HX:=hdq hX
    clear hX
    refine wpE_next 9 rfl (by kernel_rfl) (fun KK hK=>?_)
    go_simp
    refine hK _ _ (fun h=>absurd h (by decide)) ?_
    clear hK KK
    try simp only[putsL]
    refine wpE_next 10 rfl (by kernel_rfl) (fun KK hK=>?_)
    go_simp
    refine hK _ _ (fun h=>absurd h (by decide)) ?_
    clear hK KK
    try simp only[putsL]
    refine wpE_done (by kernel_rfl) ?_
    go_wp2_with fail
    go_meet
    have hX2:=(((HX.out.set_ 0 (.string x.nm)).set_ 1 (.slice pA pl pc)).set_ 2 (.slice pB bl pe)).set_ 3 (.int .i64 x.at_)
    have hzA:=HZA.out
    refine⟨_,_,rfl,rfl,hdq (by simpa using hX2),hdq (HM.out.fr (T:=fun i=>i=w1.heap.size) (Fr.own (Fr.own (Fr.own (Fr.own (Fr.refl _ _) _ _) _ _) _ _) _ _) (by omega)),hdq ((((HFB.out.high (by omega) _ _).high (by omega) _ _).high (by omega) _ _).high (by omega) _ _),hdq (by omega)⟩
   ·have hzA:=HXA.out.lt
    have y0:=HXA.out.frozen 0
    have y1:=HXA.out.frozen 1
    have y2:=HXA.out.frozen 2
    have y3:=HXA.out.frozen 3
    have y4:=HXA.out.cell 0
    have y5:=HXA.out.cell 1
    have y6:=HXA.out.cell 2
    have y7:=HXA.out.cell 3
    simp only[getsL]at y4 y5 y6 y7
    go_simp
    obtain⟨wC,hwC⟩:=nmq ((((wA.setCell ⟨w1.heap.size,0,none⟩ (.string x.nm)).setCell ⟨w1.heap.size,1,none⟩ (.slice pA pl pc)).setCell ⟨w1.heap.size,2,none⟩ (.slice pB bl pe)).setCell ⟨w1.heap.size,3,none⟩ (.int .i64 x.at_))
    rw[←hwC]
    try dsimp only
    refine hK _ _ (fun h=>absurd h (by decide)) ?_
    clear hK K' hsA
    try simp only[putsL]
    have hfC:Fr NoT w1 wC:=by rw[hwC];exact(((HFA.out.high (lrq _) _ _).high (lrq _) _ _).high (lrq _) _ _).high (lrq _) _ _
    have hX2:Bk wC w1.heap.size 68 #[.string x.nm,.slice pA pl pc,.slice pB bl pe,.int .i64 x.at_]:=by
     have:=(((HXA.out.set_ 0 (.string x.nm)).set_ 1 (.slice pA pl pc)).set_ 2 (.slice pB bl pe)).set_ 3 (.int .i64 x.at_)
     rw[hwC];simpa using this
    have HFC:=hdq hfC
    have HXC:=hdq hX2
    have HZC:=hdq (show wC.heap.size=w1.heap.size+1 from by rw[hwC];simpa using HZA.out)
    clear hwC hfC hX2 y0 y1 y2 y3 y4 y5 y6 y7
    refine wpE_next 7 rfl (by kernel_rfl) (fun KK hK=>?_)
    go_simp
    obtain⟨wB,hwB⟩:=nmq (wC.alloc (.map #[] 0))
    rw[←hwB]
    try dsimp only
    refine hK _ _ (fun _ _=>HS.out wB (by rw[hwB];exact HFC.out.alloc _)) ?_
    clear hK KK
    try simp only[putsL]
    have HWB:=hdq hwB
    clear hwB
    refine wpE_next 10 rfl (by kernel_rfl) (fun KK hK=>?_)
    go_simp
    refine hK _ _ (fun h=>absurd h (by decide)) ?_
    clear hK KK
    try simp only[putsL]
    refine wpE_done (by kernel_rfl) ?_
    go_wp2_with fail
    go_meet
    have hzC:=HZC.out
    exact⟨_,_,rfl,rfl,hdq (by rw[HWB.out];exact HXC.out.alloc _),hdq (by rw[HWB.out];exact MpV.made wC),hdq (by rw[HWB.out];exact HFC.out.alloc _),hdq (by omega)⟩
 case rest=>
  obtain⟨X,bo,rfl,rfl,hX,hO,hF,hN⟩:=hcut
  have hA:=HH.out.1.fr0 hF.out
  have hfx:=HF1.out.trans hF.out
  have kB:=HK1.out.fr0 hF.out
  have g1:=hA.bk.cell 1
  have f1:=hA.bk.frozen 1
  have gl:=hA.bk.lt
  have b6:=kB.cell 6
  have bl6:=kB.lt
  have x1':=hX.out.cell 1
  have xl':=hX.out.lt
  simp only[getsL]at g1 b6 x1'
  obtain⟨cn,hcn⟩:=nmq s.calls
  rw[←hcn]at g1
  have hcb:cn≤262:=by have:=HH.out.2.1;have:=hA.most.1;omega
  have hne1:K.P≠X:=fun e=>by have:=hN.out.1;omega
  have hne2:K.P≠w.heap.size:=fun e=>by have:=HL.out.2.2.2.2.1;omega
  have HCN:=hdq hcn
  have HA:=hdq hA
  have HFX:=hdq hfx
  have HKB:=hdq kB
  clear hA hfx kB hcn p0 x1 pl0 xl1
  obtain⟨i0,hi0,hz0,hzs,hzb⟩:=info_parts infoSt
  obtain⟨w2,hw2⟩:=nmq (wc.setCell ⟨K.P,1,none⟩ (.int .i64 ((cn:Int)+1)))
  obtain⟨w3,hw3⟩:=nmq (w2.alloc (.cells #[.int .u8 1,.string ⟨#[]⟩,.slice none 0 0,.slice none 0 0,.slice none 0 0,.slice none 0 0,.int .i64 at_] 39))
  have hA2:InAt K w2 ⟨s.calls+1,s.vars,s.many⟩ v:=by
   rw[hw2,HCN.out]
   exact HA.out.set 1 _ (by simp) rfl ⟨HA.out.most.1,by have:=HH.out.2.1;simp only;omega⟩
  have hz2:w2.heap.size=wc.heap.size:=by rw[hw2];simp
  have hf2:Fr (fun b=>b=K.P) wc w2:=by rw[hw2];exact Fr.own (Fr.refl _ _) _ _
  have hf3:Fr NoT w2 w3:=by rw[hw3];exact(Fr.refl _ _).alloc _
  have hk3:Bk w3 wc.heap.size 39 ([.int .u8 1,.string ⟨#[]⟩,.slice none 0 0,.slice none 0 0,.slice none 0 0,.slice none 0 0,.int .i64 at_]:List Value).toArray :=by rw[hw3];exact Bk.new_at _ _ _ hz2
  have HI:=hdq (aiq hi0 (aiq hz0 (aiq hzs hzb)))
  have HW2:=hdq hw2
  have HW3:=hdq hw3
  have HA3:=hdq (hA2.fr0 hf3)
  have HF2:=hdq hf2
  have HF3:=hdq hf3
  have HK3:=hdq hk3
  have HZ2:=hdq hz2
  have hz3:wc.heap.size≤w3.heap.size:=by have:=hf3.size;omega
  clear hw2 hw3 hA2 hf2 hf3 hk3 hz2 hi0 hz0 hzs hzb
  go_wp2_with (at_builtin;rw[←HW2.out,←HW3.out];refine wpList_append_spotA _ rfl _ _ 25 rfl wc.heap.size 39 i0 (.agg zeroSt) 7 128 Tryz.underlying25 HI.out.1 HI.out.2.1 HI.out.2.2.1 HI.out.2.2.2 rfl (by decide) (.slice none 0 0) 0 [] rfl (World.ownsRow_nil _ _ _ _) ⟨wc.heap.size,0,none⟩ 1 1 _ rfl rfl HK3.out.newsL ?c2 (by decide) (by decide) hz3 ?_)
  case c2=>
   intro u hu
   simp only[List.mem_cons,List.not_mem_nil,or_false]at hu
   rcases hu with rfl|rfl|rfl|rfl|rfl|rfl|rfl<;>rfl
  intro vo1 w4 hown4 hg4 hsp4
  have hv3:∀i,v.ownBlock=some i→i < w3.heap.size:=fun i hi=>by
   obtain⟨cs,h1,_⟩:=HA3.out.row
   exact(row_lt h1 hi).2
  have hone:One1 [.int .u8 1,.string ⟨#[]⟩,.slice none 0 0,.slice none 0 0,.slice none 0 0,.slice none 0 0,.int .i64 at_]:=by
   intro u hu
   simp only[List.mem_cons,List.not_mem_nil,or_false]at hu
   rcases hu with rfl|rfl|rfl|rfl|rfl|rfl|rfl<;>rfl
  obtain⟨cs4,hout4⟩:∃cs4,OutRow wc.heap.size v w4 vo1 [skipSt at_] cs4:=⟨_,((OutRow.nil wc.heap.size v w3).step (ys:= [skipSt at_]) ⟨_, [],by simp,skip_one HAT.out,rfl⟩ hone hown4 hg4 hsp4 hv3).1⟩
  have hf34:Fr NoT w3 w4:=Fr.grown hg4 fun g e _=>by simp[Value.ownBlock]at e
  have hfc4:Fr (fun i=>i=K.P) wc w4:=(HF2.out.trans HF3.out.any).trans hf34.any
  have hL:=HL.out.2.2.2
  have hvw:∀i,v.ownBlock=some i→i < w.heap.size:=HVW.out
  have hv1:∀i,v.ownBlock=some i→i < w1.heap.size:=fun i hi=>by have:=hvw i hi;omega
  have hCA:CaSt K x s n args at_ wc.heap.size X bo w4 v vo1 [skipSt at_] cs4 s.vars (fun _=>none) 0 v w #[.string x.nm,.slice pA pl pc,.slice pB bl pe,.int .i64 x.at_] #[.int .u8 kst,.string nm,.slice A2 ml c2,V3,V4,V5,.int .i64 at_] b q:=by
   refine⟨HA3.out.fr0 hf34,hout4,hO.out.fr hfc4 (fun e=>by have e:bo=K.P:=e;have:=hN.out;omega),(HFX.out.any:Fr (InT K v) w wc).trans (hfc4.mono fun _ _ e=> .inl e),SpotP.refl _ _,by simp,rfl,rfl,rfl,rfl,fun i hi=>(row_lt hout4.row hi).1,
    hX.out.fr hfc4 (fun e=>hne1 e.symm),HKB.out.fr hfc4 (fun e=>hne2 e.symm),(HH.out.2.2.2.1.fr hF.out id).fr hfc4 HH.out.2.2.2.2.1.p,hfc4.size,HH.out.1.most.2.2,fun i hi e=>?_,fun i hi e=>by have h9:=hv1 i hi;have:=hN.out;omega,fun e=>by have:=hN.out;omega⟩
   have hv0:=hvw
   have:=hN.out
   have:=HH.out.2.2.2.2.1
   rcases hi with rfl|rfl|rfl
   ·rcases e with e|e|e
    ·omega
    ·omega
    ·have:=hv0 _ e;omega
   ·rcases e with e|e|e
    ·omega
    ·omega
    ·have:=hv0 _ e;omega
   ·rcases e with e|e|e
    ·omega
    ·exact this.p e
    ·exact this.v e
  have x14:=hCA.xb.cell 1
  have xl4:=hCA.xb.lt
  simp only[getsL]at x14
  have HCA:=hdq hCA
  have HN:=hdq hN.out
  have hpl4:pl≤4:=by rw[HL.out.2.1];exact HP.out.2.2.1
  clear hown4 hg4 hsp4 hv3 hone hout4 hf34 hfc4 hL hvw hv1 hCA g1 f1 gl b6 bl6 x1' xl' hz3
  go_wp2_with fail
  go_loopw [6,36] (fun vo i wr=>∃k:Nat,k≤pl∧i= .int .i64 k∧∃(v':Value) (acc:List St) (cs:List Value) (vs:List Va) (o:Nms),Hid (CaSt K x s n args at_ wc.heap.size X bo wr v' vo acc cs vs o k v w #[.string x.nm,.slice pA pl pc,.slice pB bl pe,.int .i64 x.at_] #[.int .u8 kst,.string nm,.slice A2 ml c2,V3,V4,V5,.int .i64 at_] b q)) (fun _ i _=>pl - (intOf i).toNat)
  case atStart=>exact⟨0,Nat.zero_le _,rfl,_,_,_,_,_,HCA⟩
  case round=>
   clear HCA
   obtain⟨kk,hkk,rfl,vk,acc,cs,vs,o,hb⟩:=hrel
   by_cases hlt:kk < pl
   ·
    obtain⟨pv,pr,hd,hd1⟩:=drop_head1 (show kk < x.params.length from by rw[←HL.out.2.1];exact hlt)
    obtain⟨e0,e1,e2,e3,e4,er,he⟩:=Exs.drop_cons (show kk < args.len from by rw[←HH.out.2.2.2.2.2.2.1,←HL.out.2.1];exact hlt)
    obtain⟨pb,po,rfl,hat⟩:=HP.out.1.2.2 (by rw[←HL.out.2.1];omega)
    have hat1:=(VaR.keep (hb.out.st.fr.same fun i hi=>⟨HK.out.low i hi,id⟩) hat).drop kk
    rw[hd]at hat1
    obtain⟨⟨hbS,_,r1,c0,c1⟩,_⟩:=hat1
    have hxr:pb < wr.heap.size:=ltq (HK.out.low _ hbS) hb.out.st.fr.size
    have hlt':(kk:Int) < (pl:Int):=by omega
    have hge:(0:Int)≤(kk:Int):=by omega
    obtain⟨w5,hw5⟩:=nmq (wr.alloc (.cells #[.string pv.nm,.int .i64 pv.at_] 43))
    have hf5:Fr NoT wr w5:=by rw[hw5];exact(Fr.refl _ _).alloc _
    have hk5:Bk w5 wr.heap.size 43 #[.string pv.nm,.int .i64 pv.at_]:=by rw[hw5];exact Bk.new _ _ _
    obtain⟨c1n,hc1n⟩:=nmq (s.calls+1)
    have h5:=hb.out.st.fr0 hf5
    have kx5:=hb.out.xb.fr0 hf5
    have q0:=kx5.cell 0
    have ql0:=kx5.lt
    have q1:=h5.bk.cell 1
    have ql1:=h5.bk.lt
    have q2:=hk5.cell 0
    have ql2:=hk5.lt
    simp only[getsL]at q0 q1 q2
    rw[←hc1n]at q1
    have hc9:c1n≤262:=by have h9:s.many≤261:=h5.most.1;have:=HH.out.2.1;omega
    have hit:∀W,Fr NoT w5 W→Calls Tryz.prog 39 #[.int .i64 c1n] W fun e w'=>e= .returned (.string ⟨(Lib.itoa (c1n:Int)).toArray⟩)∧Fr NoT W w':=fun W hf=>by
     refine(Tryz.strconv_Itoa (c1n:Int) (by omega) (by omega) W ((h5.fr0 hf).tab HK.out)).mono ?_
     rintro e w' ⟨rfl,j,os,rfl⟩
     exact⟨rfl,below_growI _ _ _⟩
    have hnx:x.nm.size≤16:=HP.out.2.2.2.1
    have hnv:pv.nm.size≤16:=(HP.out.2.2.2.2.1 pv (List.mem_of_mem_drop (i:=kk) (by rw[hd];simp))).1
    have hil:(Lib.itoa (c1n:Int)).length ≤21:=Lib.itoa_length_le _ (by omega) (by omega)
    obtain⟨ib,hib⟩:=nmq ((⟨(Lib.itoa (c1n:Int)).toArray⟩:ByteArray))
    have his:ib.size≤21:=by rw[hib];simpa[ByteArray.size]using hil
    rw[←hib]at hit
    have hs1:¬9223372036854775807 < x.nm.size+1:=by omega
    have hs2:¬9223372036854775807 < x.nm.size+1+ib.size:=by omega
    have hs3:¬9223372036854775807 < x.nm.size+1+ib.size+1:=by omega
    have hs4:¬9223372036854775807 < x.nm.size+1+ib.size+1+pv.nm.size:=by omega
    have HIT:=hdq hit
    have HIB:=hdq (aiq hib hc1n)
    have HD:=hdq (aiq hd (aiq hd1 (aiq he (aiq r1 (aiq hnx (aiq hnv his))))))
    have HW5:=hdq hw5
    have HF5:=hdq hf5
    have HK5:=hdq hk5
    clear hd hd1 he r1 hnx hnv his hil hib hit hat hbS hw5 hf5 hk5 h5 kx5 hc1n hc9
    go_wp2_with fail
    rw[←HW5.out]
    clear c0 c1 hxr
    refine wp_region_E (fun W'=>X < W'.heap.size∧K.P < W'.heap.size∧wr.heap.size < W'.heap.size∧W'.cell? ⟨X,0,none⟩=some (.string x.nm)∧W'.cell? ⟨K.P,1,none⟩=some (.int .i64 c1n)∧W'.cell? ⟨wr.heap.size,0,none⟩=some (.string pv.nm)) (fun i=>decide (i < 13)) (by kernel_rfl) ⟨ql0,ql1,ql2,q0,q1,q2⟩ (fun hHeld=>?_)
    refine wpE_pu 0 ?_
    try simp only[putsL]
    refine wpE_pu 3 ?_
    try simp only[putsL]
    refine wpE_pu 4 ?_
    try simp only[putsL]
    refine wpE_pu 5 ?_
    try simp only[putsL]
    refine wpE_pu 10 ?_
    try simp only[putsL]
    refine wpE_tk 1 hHeld ?_
    try simp only[putsL]
    refine wpE_tk 6 hHeld ?_
    try simp only[putsL]
    refine wpE_tk 11 hHeld ?_
    try simp only[putsL]
    refine wpE_pu 2 ?_
    try simp only[putsL]
    refine wpE_next 7 rfl (by kernel_rfl) (fun KK hK=>?_)
    go_simp
    go_at_call 39
    refine(HIT.out _ ((Fr.refl NoT w5).drew)).mono ?_
    rintro _ w6 ⟨rfl,hf6⟩
    have HF6:=hdq (((Fr.refl NoT w5).drew).trans hf6)
    clear hHeld hf6
    have hHeld:X < w6.heap.size∧K.P < w6.heap.size∧wr.heap.size < w6.heap.size∧w6.cell? ⟨X,0,none⟩=some (.string x.nm)∧w6.cell? ⟨K.P,1,none⟩=some (.int .i64 c1n)∧w6.cell? ⟨wr.heap.size,0,none⟩=some (.string pv.nm):=⟨ltq ql0 HF6.out.size,ltq ql1 HF6.out.size,ltq ql2 HF6.out.size,(HF6.out.cell (p:=⟨X,0,none⟩) ql0 id).trans q0,(HF6.out.cell (p:=⟨K.P,1,none⟩) ql1 id).trans q1,(HF6.out.cell (p:=⟨wr.heap.size,0,none⟩) ql2 id).trans q2⟩
    dsimp only
    refine hK _ _ (fun _ _=>hHeld) ?_
    clear hK
    try simp only[putsL]
    refine wpE_pu 8 ?_
    try simp only[putsL]
    refine wpE_pu 9 ?_
    try simp only[putsL]
    refine wpE_pu 12 ?_
    try simp only[putsL]
    refine wpE_next 13 rfl (by kernel_rfl) (fun KK hK=>?_)
    go_simp
    refine hK _ _ (fun h=>absurd h (by decide)) ?_
    clear hK KK
    try simp only[putsL]
    refine wpE_done (by kernel_rfl) ?_
    obtain⟨nw,hnw⟩:=nmq (x.nm++{data:= #[46]}++ib++{data:= #[46]}++pv.nm)
    rw[←hnw]
    have hnw2:nw=parN x.nm (s.calls+1) pv.nm:=by rw[hnw,HIB.out.1,HIB.out.2];rfl
    have hw6:Fr NoT wr w6:=HF5.out.trans HF6.out
    obtain⟨w7,hput,ho7,hg7⟩:=MpV.put (hb.out.own.fr hw6 id) Tryz.underlying79 (s:=pv.nm) (by have:=HD.out.2.2.2.2.2.1;omega) (.string nw) (by have:=HP.out.2.2.1;have:=HL.out.2.1;unfold maxLen;omega)
    have hbo:bo < wc.heap.size:=hO.out.lt
    have hwcr:wc.heap.size≤wr.heap.size:=hb.out.sz
    have hf7:Fr (fun i=>i=bo) w6 w7:=Fr.grown hg7 fun g e _=>(Option.some.inj e).symm
    have hboP:K.P≠bo:=fun e=>by have:=HN.out;have:=HL.out.2.2.2;omega
    have hbobp:K.bp≠bo:=fun e=>by have:=HN.out;have:=HL.out.2.2.2;omega
    have hvbo:∀i,vk.ownBlock=some i→i≠bo:=hb.out.vbo
    have h7:InAt K w7 ⟨s.calls+1,vs,s.many⟩ vk:=(hb.out.st.fr0 hw6).frT hf7 (fun i e=>by have e:i=bo:=e;have:=HN.out;have:=HL.out.2.2.2;have:=HH.out.1.fr.size;omega) hboP hbobp hvbo
    have hk7:=(HK5.out.fr0 HF6.out).fr hf7 (fun e=>by have e:wr.heap.size=bo:=e;omega)
    obtain⟨csv,hrowv,hrowsv⟩:=h7.row
    have u0:=hHeld.2.2.2.2.2
    have ul0:=hHeld.2.2.1
    have u1:=hk7.cell 1
    have ul1:=hk7.lt
    have u2:=h7.bk.cell 2
    have uf2:=h7.bk.frozen 2
    have ul2:=h7.bk.lt
    simp only[getsL]at u1 u2
    obtain⟨iV,hiV,hzV,hsV,hbV⟩:=info_parts infoVa
    have HIV:=hdq (aiq hiV (aiq hzV (aiq hsV hbV)))
    have HNW:=hdq hnw2
    have H7:=hdq h7
    have HF67:=hdq hf7
    have HO7:=hdq ho7
    have HROWV:=hdq (aiq hrowv hrowsv)
    have HW6:=hdq hw6
    have HBO:=hdq (aiq hbo (aiq hwcr (aiq hboP (aiq hbobp hvbo))))
    clear hHeld q0 q1 q2 ql0 ql1 ql2 hs1 hs2 hs3 hs4 hnw hnw2 h7 hf7 ho7 hrowv hrowsv hw6 hbo hwcr hboP hbobp hvbo hk7 hiV hzV hsV hbV hg7
    go_wp2_with fail
    clear hput u0 ul0
    refine wp_region_E (fun W'=>K.P < W'.heap.size∧wr.heap.size < W'.heap.size∧W'.cell? ⟨K.P,2,none⟩=some vk∧W'.cell? ⟨wr.heap.size,1,none⟩=some (.int .i64 pv.at_)) (fun i=>decide (i < 11)) (by kernel_rfl) ⟨ul2,ul1,u2,u1⟩ (fun hHeld=>?_)
    refine wpE_pu 0 ?_
    try simp only[putsL]
    refine wpE_pu 1 ?_
    try simp only[putsL]
    refine wpE_pu 2 ?_
    try simp only[putsL]
    refine wpE_pu 3 ?_
    try simp only[putsL]
    refine wpE_pu 5 ?_
    try simp only[putsL]
    refine wpE_pu 6 ?_
    try simp only[putsL]
    refine wpE_tk 4 hHeld ?_
    try simp only[putsL]
    refine wpE_tk 7 hHeld ?_
    try simp only[putsL]
    refine wpE_pu 8 ?_
    try simp only[putsL]
    refine wpE_next 9 rfl (by kernel_rfl) (fun KK hK=>?_)
    go_simp
    obtain⟨w8,hw8⟩:=nmq ((w7.alloc (.cells #[.string nw,.int .i64 pv.at_] 43)).drew )
    rw[←hw8]
    have hf8:Fr NoT w7 w8:=by rw[hw8];exact((Fr.refl _ _).alloc _).drew
    have hk8:Bk w8 w7.heap.size 43 ([.string nw,.int .i64 pv.at_]:List Value).toArray :=by rw[hw8];exact(Bk.new _ _ _).fr0 ((Fr.refl _ _).drew)
    have hs8:K.P < w8.heap.size∧wr.heap.size < w8.heap.size∧w8.cell? ⟨K.P,2,none⟩=some vk∧w8.cell? ⟨wr.heap.size,1,none⟩=some (.int .i64 pv.at_):=⟨ltq ul2 hf8.size,ltq ul1 hf8.size,(hf8.cell (p:=⟨K.P,2,none⟩) ul2 id).trans u2,(hf8.cell (p:=⟨wr.heap.size,1,none⟩) ul1 id).trans u1⟩
    have hrow8:=rw_keep HROWV.out.1 hf8 fun _ _=>id
    have HF8:=hdq hf8
    have HK8:=hdq hk8
    have HROW8:=hdq hrow8
    have hz8:w7.heap.size < w8.heap.size:=hk8.lt
    have HZ8:=hdq (show w8.heap.size=w7.heap.size+1 from by rw[hw8];simp[World.drew])
    clear hw8 hf8 hk8 hrow8 hHeld
    try dsimp only
    refine hK _ _ (fun _ _=>hs8) ?_
    clear hK KK
    try simp only[putsL]
    refine wpE_next 10 rfl (by kernel_rfl) (fun KK hK=>?_)
    refine step_append_lies _ (by rfl) _ _ _ (by rfl) K.W0.heap.size 43 iV (.agg #[.string ⟨#[]⟩,.int .i64 0]) 2 24 Tryz.underlying22 HIV.out.1 HIV.out.2.1 HIV.out.2.2.1 HIV.out.2.2.2 rfl (by decide) vk vs.length csv (by rfl) HROW8.out
     ⟨w7.heap.size,0,none⟩ 1 1 _ (by rfl) (by rfl) HK8.out.newsL (by simp[Value.oneCell']) (by omega) ?c63 ?cby ?cba _ rfl ?_
    case c63=>have:=hb.out.vlen;unfold maxLen;omega
    case cby=>have:=hb.out.vlen;omega
    case cba=>have:=(H7.out.fr0 HF8.out).fr.size;omega
    intro gg cap w9 hown hgrow hsp hlt9
    have hvn:(Value.slice (some ⟨gg,0,none⟩) (vs.length+1) cap).ownBlock =vk.ownBlock∨(Value.slice (some ⟨gg,0,none⟩) (vs.length+1) cap).ownBlock =some w8.heap.size:=by
     rcases hsp with e|e
     ·exact .inl e.symm
     ·exact .inr (by rw[e];rfl)
    have h8:=H7.out.fr0 HF8.out
    have hlen36:vs.length+1≤36:=by
     have h1:=hb.out.len
     have h2:=HH.out.2.2.1
     unfold fullB at h2
     simp only[Bool.or_eq_false_iff,decide_eq_false_iff_not]at h2
     have:=HP.out.2.2.1
     have:=HL.out.2.1
     omega
    obtain⟨hpush,hfpush⟩:=h8.push (x:=⟨nw,pv.at_⟩) HROWV.out.2.any HD.out.2.2.2.1 hlen36 hown hgrow hvn
    have hneP:some K.P≠vk.ownBlock:=fun e=>h8.ne.2.1 e.symm
    have f9:=(hgrow.frozen_far ⟨K.P,2,none⟩ h8.bk.lt hneP).trans (h8.bk.frozen 2)
    have q9:=(hgrow.cell_far ⟨K.P,2,none⟩ h8.bk.lt hneP).trans hs8.2.2.1
    have l9:K.P < w9.heap.size:=ltq h8.bk.lt hgrow.size
    have hnwr:some wr.heap.size≠vk.ownBlock:=fun e=>by
     obtain⟨cs',hr',_⟩:=hb.out.st.row
     have:=(row_lt hr' e.symm).2
     omega
    have hs9:K.P < w9.heap.size∧wr.heap.size < w9.heap.size∧w9.cell? ⟨K.P,2,none⟩=some vk∧w9.cell? ⟨wr.heap.size,1,none⟩=some (.int .i64 pv.at_):=⟨l9,ltq hs8.2.1 hgrow.size,q9,(hgrow.cell_far ⟨wr.heap.size,1,none⟩ hs8.2.1 hnwr).trans hs8.2.2.2⟩
    have HVN:=hdq (show SpotP w7 vk (.slice (some ⟨gg,0,none⟩) (vs.length+1) cap)from by
     rcases hvn with e|e
     ·exact .inl e
     ·exact .inr ⟨_,e,Nat.le_of_lt hz8⟩)
    have HPU:=hdq hpush
    have HFPU:=hdq (HF8.out.any.trans hfpush:Fr (fun i=>i=K.P∨vk.ownBlock=some i) w7 (w9.setCell ⟨K.P,2,none⟩ (.slice (some ⟨gg,0,none⟩) (vs.length+1) cap)))
    clear hvn hown hgrow hsp h8 hpush hfpush hneP hnwr hs8 hz8
    try dsimp only
    refine hK _ _ (fun _ _=>hs9) ?_
    clear hK KK
    try simp only[putsL]
    refine wpE_next 11 rfl (by kernel_rfl) (fun KK hK=>?_)
    go_simp
    refine hK _ _ (fun h=>absurd h (by decide)) ?_
    clear hK KK
    try simp only[putsL]
    refine wpE_next 12 rfl (by kernel_rfl) (fun KK hK=>?_)
    go_simp
    refine hK _ _ (fun h=>absurd h (by decide)) ?_
    clear hK KK
    try simp only[putsL]
    refine wpE_next 13 rfl (by kernel_rfl) (fun KK hK=>?_)
    go_simp
    refine hK _ _ (fun h=>absurd h (by decide)) ?_
    clear hK KK
    try simp only[putsL]
    refine wpE_done (by kernel_rfl) ?_
    clear hs9 f9 q9 l9 hlt9 u1 ul1 u2 uf2 ul2
    obtain⟨w10,hw10⟩:=nmq (w9.setCell ⟨K.P,2,none⟩ (.slice (some ⟨gg,0,none⟩) (vs.length+1) cap))
    rw[←hw10]
    rw[←hw10]at HPU HFPU
    clear hw10
    -- the arguments made anew
    have hfr7:Fr (fun i=>i=bo∨i=K.P∨vk.ownBlock=some i) wr w10:=(HW6.out.any.trans (HF67.out.mono fun _ _ e=> .inl e)).trans (HFPU.out.mono fun _ _ e=> .inr e)
    have hboxne:∀i,(i=w.heap.size∨i=X∨i=b)→¬(i=bo∨i=K.P∨vk.ownBlock=some i):=hb.out.apart
    have kb10:=hb.out.box.fr hfr7 (hboxne _ (.inl rfl))
    have kx10:=hb.out.xb.fr hfr7 (hboxne _ (.inr (.inl rfl)))
    have kn10:=hb.out.nms.fr hfr7 (hboxne _ (.inr (.inr rfl)))
    obtain⟨ab,ao,rfl,haat⟩:=HH.out.2.2.2.2.2.2.2.2.2.2.2 (by rw[←HH.out.2.2.2.2.2.2.1,←HL.out.2.1];omega)
    have hW0:=HPU.out.fr
    have haat1:=(ExR.keep (hW0.same fun i hi=>⟨HK.out.low i hi,id⟩) haat).drop kk
    rw[HD.out.2.2.1]at haat1
    have hsz1:=szX_at kk HH.out.2.2.2.2.2.2.2.2.1 HD.out.2.2.1
    have hout10:=((hb.out.out.fr0 HW6.out).frT HF67.out (fun i hi e=>by have e:i=bo:=e;have:=HBO.out.1;omega)).keep HFPU.out HVN.out (by have:=hF.out.size;have:=HL.out.2.2.2;omega)
    have hlk:kk≤ml:=by have h1:=HH.out.2.2.2.2.2.2.1;have h2:=HL.out.1;have h3:=HL.out.2.1;omega
    have hcap:ml≤c2:=by have h1:=HH.out.2.2.2.2.2.2.2.2.2.1;have h2:=HL.out.1;omega
    have hkm:kk < ml:=by have h1:=HH.out.2.2.2.2.2.2.1;have h2:=HL.out.1;have h3:=HL.out.2.1;omega
    have hk3:0+1≤c2 - kk:=by omega
    have hk4:c2 - kk≤9223372036854775807:=by have h1:=HH.out.2.2.2.2.2.2.2.2.2.2.1.1;omega
    have hx1:SlR (fun b o=>ExR w10 K.S False (.cons e0 e1 e2 e3 e4 .nil) b o) (Exs.cons e0 e1 e2 e3 e4 .nil).len 64 (some ⟨ab,ao+kk*5,none⟩) (c2 - kk):=
     ⟨hk3,⟨hk4,by simp[Exs.len]⟩,fun _=>⟨ab,ao+kk*5,rfl,haat1.1,haat1.2.1,trivial⟩⟩
    have hc10:∀W,Fr NoT w10 W→Calls Tryz.prog 85 #[.slice (some ⟨ab,ao+kk*5,none⟩) 1 (c2 - kk),.func (.func 86) #[.map (some b)] #[]] W fun e w'=>∃A' c',e= .returned (.slice A' 1 c')∧SlR (fun b o=>ExR w' (New W.heap.size w') True (exprN n (.cons e0 e1 e2 e3 e4 .nil)) b o) 1 64 A' c'∧Fr NoT W w':=fun W hf=>anew_any (.cons e0 e1 e2 e3 e4 .nil) W K.S (some ⟨ab,ao+kk*5,none⟩) (c2 - kk) n b q (kn10.fr hf id) (fun i hi=>ltq (ltq (HK.out.low i hi) hW0.size) hf.size) ⟨hsz1.1,hsz1.2,trivial⟩ (hx1.imp fun _ _ h=>ExR.keep (hf.same fun i hi=>⟨ltq (HK.out.low i hi) hW0.size,id⟩) h)
    have z2:=kb10.cell 2
    have z6:=kb10.cell 6
    have zl:=kb10.lt
    simp only[getsL]at z2 z6
    have HC10:=hdq hc10
    have HOUT10:=hdq hout10
    have HKB10:=hdq kb10
    have HKX10:=hdq kx10
    have HKN10:=hdq kn10
    have HFR7:=hdq hfr7
    have HCAP:=hdq (aiq hlk hcap)
    have hw1':IntKind.i64.wrap ((kk:Int)+1)=(kk:Int)+1:=IntWalk.i64_in _ (by omega)
    have hk5:(0:Int)≤(kk:Int)+1:=by omega
    have hk6:(kk:Int)+1≤(c2:Int):=by omega
    have hk7:((kk:Int)+1).toNat =kk+1:=by omega
    have hk8:¬c2=kk:=by omega
    clear hk3 hk4 hkm
    clear hc10 hout10 kb10 kx10 kn10 hfr7 hx1 hW0 haat1 hsz1 hboxne
    go_wp2_with fail
    refine wp_region_E (fun W'=>w.heap.size < W'.heap.size∧W'.cell? ⟨w.heap.size,2,none⟩=some (.slice (some ⟨ab,ao,none⟩) ml c2)∧W'.cell? ⟨w.heap.size,6,none⟩=some (.int .i64 at_)) (fun i=>decide (i < 16)) (by kernel_rfl) ⟨zl,z2,z6⟩ (fun hHeld=>?_)
    refine wpE_pu 0 ?_
    try simp only[putsL]
    refine wpE_pu 1 ?_
    try simp only[putsL]
    refine wpE_pu 2 ?_
    try simp only[putsL]
    refine wpE_pu 4 ?_
    try simp only[putsL]
    refine wpE_pu 5 ?_
    try simp only[putsL]
    refine wpE_pu 6 ?_
    try simp only[putsL]
    refine wpE_pu 8 ?_
    try simp only[putsL]
    refine wpE_pu 9 ?_
    try simp only[putsL]
    refine wpE_pu 11 ?_
    try simp only[putsL]
    refine wpE_tk 3 hHeld ?_
    try simp only[putsL]
    refine wpE_tk 12 hHeld ?_
    try simp only[putsL]
    refine wpE_pu 7 ?_
    try simp only[putsL]
    refine wpE_next 10 rfl (by kernel_rfl) (fun KK hK=>?_)
    go_simp
    go_at_call 85
    refine(HC10.out _ ((Fr.refl NoT w10).drew)).mono ?_
    rintro _ w11 ⟨A',c',rfl,hsl11,hf11'⟩
    have hf11:Fr NoT w10 w11:=((Fr.refl NoT w10).drew).trans hf11'
    have hs11:w.heap.size < w11.heap.size∧w11.cell? ⟨w.heap.size,2,none⟩=some (.slice (some ⟨ab,ao,none⟩) ml c2)∧w11.cell? ⟨w.heap.size,6,none⟩=some (.int .i64 at_):=⟨ltq zl hf11.size,(hf11.cell (p:=⟨w.heap.size,2,none⟩) zl id).trans z2,(hf11.cell (p:=⟨w.heap.size,6,none⟩) zl id).trans z6⟩
    have HF11:=hdq hf11
    have HSL11:=hdq hsl11
    clear hHeld hsl11 hf11 hf11'
    try dsimp only
    refine hK _ _ (fun _ _=>hs11) ?_
    clear hK KK
    have hHeld:=hs11
    clear hs11
    try simp only[putsL]
    refine wpE_pu 13 ?_
    try simp only[putsL]
    refine wpE_next 14 rfl (by kernel_rfl) (fun KK hK=>?_)
    go_simp
    obtain⟨w12,hw12⟩:=nmq (w11.alloc (.cells #[.int .u8 2,.string nw,.slice A' 1 c',.slice none 0 0,.slice none 0 0,.slice none 0 0,.int .i64 at_] 39))
    rw[←hw12]
    have hf12:Fr NoT w11 w12:=by rw[hw12];exact(Fr.refl _ _).alloc _
    have hk12:Bk w12 w11.heap.size 39 ([.int .u8 2,.string nw,.slice A' 1 c',.slice none 0 0,.slice none 0 0,.slice none 0 0,.int .i64 at_]:List Value).toArray :=by rw[hw12];exact Bk.new _ _ _
    have hs12:w.heap.size < w12.heap.size∧w12.cell? ⟨w.heap.size,2,none⟩=some (.slice (some ⟨ab,ao,none⟩) ml c2)∧w12.cell? ⟨w.heap.size,6,none⟩=some (.int .i64 at_):=⟨ltq hHeld.1 hf12.size,(hf12.cell (p:=⟨w.heap.size,2,none⟩) hHeld.1 id).trans hHeld.2.1,(hf12.cell (p:=⟨w.heap.size,6,none⟩) hHeld.1 id).trans hHeld.2.2⟩
    have HOUT12:=hdq ((HOUT10.out.fr0 HF11.out).fr0 hf12)
    have HF12:=hdq hf12
    have HK12:=hdq hk12
    clear hw12 hf12 hk12 hHeld
    try dsimp only
    refine hK _ _ (fun _ _=>hs12) ?_
    clear hK KK
    try simp only[putsL]
    refine wpE_next 15 rfl (by kernel_rfl) (fun KK hK=>?_)
    refine step_append_lies _ (by rfl) _ _ _ (by rfl) wc.heap.size 39 i0 (.agg zeroSt) 7 128 Tryz.underlying25 HI.out.1 HI.out.2.1 HI.out.2.2.1 HI.out.2.2.2 rfl (by decide) u6 acc.length cs (by rfl) HOUT12.out.row
     ⟨w11.heap.size,0,none⟩ 1 1 _ (by rfl) (by rfl) HK12.out.newsL (by simp[Value.oneCell']) (by omega) ?d63 ?dby ?dba _ rfl ?_
    case d63=>have:=hb.out.many;unfold maxLen;omega
    case dby=>have:=hb.out.many;omega
    case dba=>
     have h1:=hb.out.sz
     have h2:=HFR7.out.size
     have h3:=HF11.out.size
     have h4:=HF12.out.size
     omega
    intro gg2 cap2 w13 hown13 hgrow13 hsp13 hlt13
    have hs13:w.heap.size < w13.heap.size∧w13.cell? ⟨w.heap.size,2,none⟩=some (.slice (some ⟨ab,ao,none⟩) ml c2)∧w13.cell? ⟨w.heap.size,6,none⟩=some (.int .i64 at_):=by
     have hne:some w.heap.size≠u6.ownBlock:=fun e=>by
      have h1:=(row_lt HOUT12.out.row e.symm).1
      have h2:=hF.out.size
      have h3:=HL.out.2.2.2.1
      omega
     exact⟨ltq hs12.1 hgrow13.size,(hgrow13.cell_far ⟨w.heap.size,2,none⟩ hs12.1 hne).trans hs12.2.1,(hgrow13.cell_far ⟨w.heap.size,6,none⟩ hs12.1 hne).trans hs12.2.2⟩
    try dsimp only
    refine hK _ _ (fun _ _=>hs13) ?_
    clear hK KK hs12 hs13
    try simp only[putsL]
    refine wpE_next 16 rfl (by kernel_rfl) (fun KK hK=>?_)
    go_simp
    refine hK _ _ (fun h=>absurd h (by decide)) ?_
    clear hK KK
    try simp only[putsL]
    refine wpE_done (by kernel_rfl) ?_
    have HNX:=hdq (CaSt.next hb.out (by have h1:=hF.out.size;have h2:=HL.out.2.2.2;have h3:=hN.out;have h4:=hO.out.lt;have h5:=hX.out.lt;have h6:=HH.out.1.fr.size;have h7:=HBO.out.1;refine⟨?_,?_,?_,?_,?_,?_,?_,?_⟩<;>omega) HW6.out HF67.out HO7.out HPU.out HFPU.out HVN.out HF11.out HSL11.out HF12.out HOUT12.out hown13 hgrow13 hsp13 HD.out.1 HD.out.2.1 HD.out.2.2.1 HNW.out HAT.out hlen36)
    clear hown13 hgrow13 hsp13 hlt13 hb
    go_wp2_with fail
    go_roundw
    case rel=>exact⟨kk+1,by omega,by go_num,_,_,_,_,_,HNX⟩
    case measure=>simp[intOf];omega
   ·have hlt':¬(kk:Int) < (pl:Int):=by omega
    have hkp:kk=pl:=by omega
    obtain⟨Ao,co,rfl,_⟩:=row_slice hb.out.out.row
    have g3:=hb.out.st.bk.cell 3
    have f3:=hb.out.st.bk.frozen 3
    have l3:=hb.out.st.bk.lt
    have x2:=hb.out.xb.cell 2
    have xl2:=hb.out.xb.lt
    simp only[getsL]at g3 x2
    obtain⟨mn,hmn⟩:=nmq s.many
    obtain⟨al,hal⟩:=nmq acc.length
    rw[←hmn]at g3
    have hfl:mn≤256:=by
     have h2:=HH.out.2.2.1
     unfold fullB at h2
     simp only[Bool.or_eq_false_iff,decide_eq_false_iff_not]at h2
     omega
    have hal5:al=pl+1:=by have:=hb.out.many;omega
    have hal6:al≤5:=by omega
    have hne5:K.P≠X:=hne1
    obtain⟨w20,hw20⟩:=nmq (wr.setCell ⟨K.P,3,none⟩ (.int .i64 ((mn:Int)+(al:Int))))
    have h20:InAt K w20 ⟨s.calls+1,vs,s.many+al⟩ vk:=by
     rw[hw20,hmn]
     exact hb.out.st.set 3 _ (by simp) rfl ⟨by show s.many+al≤261;omega,by show s.calls+1≤s.many+al+1;have:=HH.out.2.1;omega⟩
    have hf20:Fr (fun i=>i=K.P) wr w20:=by rw[hw20];exact Fr.own (Fr.refl _ _) _ _
    have x20:=hb.out.xb.fr hf20 (fun e=>hne1 e.symm)
    have HCALL:=HBD.out w20 ⟨s.calls+1,vs,s.many+al⟩ vk o bo kk pB pe h20 (by show s.calls+1≤s.many+al;have:=HH.out.2.1;omega) (hb.out.own.fr hf20 (fun e=>hb.out.bP e)) ⟨hb.out.bP,fun e=>by have:=HN.out;have:=HL.out.2.2.2;omega,fun e=>hb.out.vbo bo e rfl⟩ HP.out.2.1
    rw[←HL.out.2.2.1]at HCALL
    have HCALL:=hdq HCALL
    have HW20:=hdq hw20
    have H20:=hdq h20
    have HF20:=hdq hf20
    have HMA:=hdq (aiq hmn (aiq hal hal5))
    rw[←hal]
    clear hw20 h20 hf20 hmn hal hal5 x20
    go_wp2_with fail
    rw[←HW20.out]
    refine HCALL.out.mono ?_
    rintro _ w21 ⟨v2,vo2,acc2,cs2,rfl,h21,hout2,hr1,hf21,hsp21,hm21,hc21⟩
    have hPL:K.P < wc.heap.size:=by have:=hF.out.size;have:=HL.out.2.2.2;omega
    have hf20':Fr (fun i=>i=K.P∨vk.ownBlock=some i) wr w20:=HF20.out.mono fun _ _ e=> .inl e
    have hout1:=(hb.out.out.keep hf20' (SpotP.refl _ _) hPL).keep hf21 hsp21 hPL
    rw[←HMA.out.2.1]at hout1
    have hz20:wc.heap.size≤w20.heap.size:=leq9 hb.out.sz HF20.out.size
    have hz21:wc.heap.size≤w21.heap.size:=leq9 hz20 hf21.size
    have hlow:∀i,(Value.slice Ao al co).ownBlock =some i→i < w20.heap.size:=fun i hi=>by
     have h9:=hb.out.out.row
     rw[←HMA.out.2.1]at h9
     exact ltq (row_lt h9 hi).2 HF20.out.size
    have hv21:∀i,v2.ownBlock=some i→i < w21.heap.size:=fun i hi=>by obtain⟨c9,h9,_⟩:=h21.row;exact(row_lt h9 hi).2
    have hsz21:acc.length+acc2.length≤1000000:=by have h8:=HMA.out.2.1;have h9:=h21.most.1;simp only at hm21;omega
    have HO1:=hdq (aiq hout1 (aiq hout2 (aiq hlow hv21)))
    have H21:=hdq (aiq h21 (aiq hr1 (aiq hf21 (aiq hsp21 (aiq hm21 hc21)))))
    clear hout1 hout2 hlow hv21 h21 hr1 hf21 hsp21 hm21 hc21 hf20'
    go_wp2_with (at_builtin;refine wpList_out rfl _ _ rfl rfl rfl HO1.out.1 HO1.out.2.1 hz20 HO1.out.2.2.1 hz21 hsz21 HO1.out.2.2.2 ?_)
    intro vo3 w22 hout3 hf22 hsp22
    have HFIN:=hdq (aiq hout3 hf22)
    clear hout3 hf22 hsp22
    go_wp2_with fail
    go_ret
    obtain⟨h21,hr1,hf21,hsp21,hm21,hc21⟩:=H21.out
    have hwz:w.heap.size≤wc.heap.size:=by have:=hF.out.size;have:=HL.out.2.2.2;omega
    have hdn:x.params.drop kk= []:=List.drop_eq_nil_iff.2 (by have:=HL.out.2.1;omega)
    have hnames:o=ownN x.nm (s.calls+1) x.params fun _=>none:=by have:=hb.out.names;rw[hdn]at this;exact this
    have hvars:vs=s.vars++x.params.map fun v=>(⟨parN x.nm (s.calls+1) v.nm,v.at_⟩:Va):=by have:=hb.out.vars;rw[hdn]at this;simp only[List.map_nil,List.append_nil]at this;exact this
    have hal:al=x.params.length+1:=by have h1:=HMA.out.2.2;have h2:=HL.out.2.1;omega
    have hcall:callN K.procs stm nm args n at_ s=(Sts.app (stsOf acc) (stm x.body o ⟨s.calls+1,vs,s.many+al⟩).1,(stm x.body o ⟨s.calls+1,vs,s.many+al⟩).2):=by
     unfold callN
     rw[HH.out.2.2.2.2.2.1]
     have he:=hb.out.eq
     rw[hdn]at he
     have hnil:∀y:Sts,Sts.app y .nil =y:=app_nil
     have he2:stsOf acc= .cons 1 ⟨#[]⟩ .nil .nil .nil .nil at_ (setsN x.nm (s.calls+1) n at_ x.params args):=by
      rw[←he];cases hE:Exs.drop kk args<;>simp only[setsN,hnil]
     simp only[he2,hnames,hvars,hal]
    rw[hcall]
    have hfw:Fr (InT K v) w w22:=by
     have h1:=Fr.thenT hb.out.fr (HF20.out) fun i _ (e:i=K.P)=>(Or.inl e:InT K v i)
     have h2:=Fr.thenT h1 hf21 fun i hi e=>by
      rcases e with e|e
      ·exact Or.inl e
      ·rcases hb.out.spot with k9|⟨g9,k9,hg9⟩
       ·exact Or.inr (k9▸e)
       ·rw[k9]at e;have:=Option.some.inj e;omega
     exact Fr.thenT h2 HFIN.out.2 fun i hi e=>by have:=(row_lt HO1.out.1.row e).1;omega
    refine⟨v2,vo3,acc++acc2,_,rfl,?_,HFIN.out.1.lower hwz,?_,hfw,hb.out.spot.trans (hsp21) (leq9 hb.out.fr.size HF20.out.size),?_,hc21⟩
    ·exact h21.frT HFIN.out.2 (fun i hi=>by have h8:=(row_lt HO1.out.1.row hi).1;have h9:=HH.out.1.fr.size;have:=hF.out.size;omega) (fun e=>by have:=(row_lt HO1.out.1.row e).1;omega) (fun e=>by have:=(row_lt HO1.out.1.row e).1;have:=HL.out.2.2.2;omega) (fun i hi e=>HO1.out.1.ne i e hi)
    ·rw[stsOf_app,←hr1]
    ·rw[List.length_append]
     have h8:=HMA.out.2.1
     simp only at hm21 ⊢
     omega
end Go.Proofs.YtmopichdofgndaaGreatDoor
