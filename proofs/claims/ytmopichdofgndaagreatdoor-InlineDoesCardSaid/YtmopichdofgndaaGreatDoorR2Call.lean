/-
  facetroomref12: what stands in place of a call. Printed by wip/gen_in/reg.py out of gen_r2/R2Call.src.
-/
import Derived.Test.YtmopichdofgndaaGreatDoorJgR2Ca
set_option linter.unusedVariables false
set_option linter.unusedSimpArgs false
namespace Go.Proofs.YtmopichdofgndaaGreatDoor
open Go.RowKit Go.Shelf Go.Maps

def CaN (K:RK) (x:Prc) (s:Ist) (n:Nms) (args:Exs) (at_:Int) (v0:Value) (w:World) (X L:Nat) (bx bs:Array Value) (fs ts:List ByteArray) (Af At:Option Addr) (cf ct:Nat) (T:Nat→Prop) (wr:World) (vo vf vt:Value) (k:Nat):Prop:=
 ∃v acc cs,CaQ K v0 w X L bx bs n fs ts Af At cf ct T wr ⟨s.calls+1,s.vars++(x.params.take k).map (newVa x.nm (s.calls+1)),s.many⟩ v vo vf vt acc cs ((x.params.take k).map Va.nm) ((x.params.take k).map fun p=>parN x.nm (s.calls+1) p.nm)∧
  Sts.app (stsOf acc) (setsN x.nm (s.calls+1) n at_ (x.params.drop k) (Exs.drop k args))= .cons 1 ⟨#[]⟩ .nil .nil .nil .nil at_ (setsN x.nm (s.calls+1) n at_ x.params args)∧acc.length=k+1
theorem take_more {α β:Type} (f:α→β) {l:List α} {k:Nat} {y:α} {r:List α} (h:l.drop k=y::r):(l.take (k+1)).map f=(l.take k).map f++ [f y]:=by
 have h1:l[k]?=some y:=by
  have:=congrArg (·[0]?) h
  simpa using this
 rw[List.take_add_one,h1]
 simp
theorem CaN.next {K:RK} {x:Prc} {s:Ist} {n:Nms} {args:Exs} {at_:Int} {v0:Value} {w:World} {X L:Nat} {bx bs:Array Value} {fs ts:List ByteArray} {Af At:Option Addr} {cf ct:Nat} {T:Nat→Prop} {wr:World} {v vo vf vt:Value} {acc:List St} {cs:List Value} {k:Nat}
  {pv:Va} {pr:List Va} {e0:Int} {e1:ByteArray} {e2:Int} {e3:Exs} {e4:Int} {er:Exs} (hd:x.params.drop k=pv::pr) (he:Exs.drop k args= .cons e0 e1 e2 e3 e4 er)
  (h:CaQ K v0 w X L bx bs n fs ts Af At cf ct T wr ⟨s.calls+1,s.vars++(x.params.take k).map (newVa x.nm (s.calls+1))++ [⟨parN x.nm (s.calls+1) pv.nm,pv.at_⟩],s.many⟩ v vo vf vt (acc++ [setSt (parN x.nm (s.calls+1) pv.nm) n e0 e1 e2 e3 e4 at_]) cs ((x.params.take k).map Va.nm++ [pv.nm]) (((x.params.take k).map fun p=>parN x.nm (s.calls+1) p.nm)++ [parN x.nm (s.calls+1) pv.nm]))
  (heq:Sts.app (stsOf acc) (setsN x.nm (s.calls+1) n at_ (x.params.drop k) (Exs.drop k args))= .cons 1 ⟨#[]⟩ .nil .nil .nil .nil at_ (setsN x.nm (s.calls+1) n at_ x.params args)) (hl:acc.length=k+1):
  CaN K x s n args at_ v0 w X L bx bs fs ts Af At cf ct T wr vo vf vt (k+1):=by
 have hd1:x.params.drop (k+1)=pr:=by
  rw[←List.drop_drop,hd];rfl
 refine⟨v,_,cs,by rw[take_more _ hd,take_more _ hd,take_more _ hd,←List.append_assoc];exact h,?_,by simp[hl]⟩
 rw[stsOf_app,app_assoc,←heq,hd,he,hd1,Exs.drop_succ k args he]
 rfl
theorem infoStz:(Tryz.prog.info? 9).map (fun i=>(i.zero,i.size,i.bytes))=some (some (.string ⟨#[]⟩),1,16):=by kernel_rfl
set_option maxRecDepth 100000 in
set_option maxHeartbeats 3200000 in
theorem rcall_any (K:RK) (hk:K.Ok) (stm:Sts→Nms→Ist→Sts×Ist) (x:Prc) (hbody:RC K stm x.body) (w:World) (s:Ist) (v:Value) (n:Nms) (kst:Int) (nm:ByteArray) (args:Exs) (A2:Option Addr) (c2:Nat) (V3 V4 V5:Value) (at_:Int) (fs ts:List ByteArray) (Af At:Option Addr) (cf ct:Nat) (T:Nat→Prop)
  (h:RkAt K w s v) (hcm:s.calls≤s.many) (hfull:fullB s=false) (hn:NmR w T n fs ts Af cf At ct) (hb:RB K v w T) (hx:K.procs nm.data.toList=some x) (hpl:x.params.length=args.len) (ha:SlR (fun b o=>ExR K.W0 K.S False args b o) args.len 64 A2 c2) (hat:in64 at_):
  Calls Tryz.prog 92 #[.pointer (some ⟨K.P,0,none⟩),.agg #[.int .u8 kst,.string nm,.slice A2 args.len c2,V3,V4,V5,.int .i64 at_],.slice Af fs.length cf,.slice At ts.length ct] w (RP K (callN K.procs stm nm args n at_ s) s w v):=by
 obtain⟨hf4,hf16,hfp,hfs,hfat⟩:=hk.few _ _ hx
 have hla:args.len≤9223372036854775807:=leq9 ha.1 ha.2.1.1
 obtain⟨ml,hml⟩:=nmq args.len
 obtain⟨pl,hpl2⟩:=nmq x.params.length
 obtain⟨bl,hbl⟩:=nmq x.body.len
 obtain⟨nf,hnf⟩:=nmq fs.length
 obtain⟨nt,hnt⟩:=nmq ts.length
 have h0:RAtF K w s v false:=by have:=h;unfold RkAt at this;rw[hfull]at this;exact this
 obtain⟨w1,hw1⟩:=nmq (w.alloc (.cells #[.int .u8 kst,.string nm,.slice A2 args.len c2,V3,V4,V5,.int .i64 at_] 39))
 have hf1:Fr NoT w w1:=by rw[hw1];exact(Fr.refl _ _).alloc _
 have hk1:Bk w1 w.heap.size 39 #[.int .u8 kst,.string nm,.slice A2 args.len c2,V3,V4,V5,.int .i64 at_]:=by rw[hw1];exact Bk.new _ _ _
 have hz1:w1.heap.size=w.heap.size+1∧K.P < w.heap.size:=⟨by rw[hw1];simp,h0.bk.lt⟩
 have h1:=h0.fr0 hf1
 rw[←hml]at hk1 hw1 ⊢
 rw[←hnf,←hnt]
 have HPC:=hdq (r2proc_any K hk w1 s v false h1 nm x hx)
 have HH:=hdq (aiq h0 (aiq hcm (aiq hfull (aiq hn (aiq hb (aiq hx (aiq hpl ha)))))))
 have HP:=hdq (aiq hf4 (aiq hf16 (aiq hfp (aiq hfs hfat))))
 have HL:=hdq (aiq hml (aiq hpl2 (aiq hbl (aiq hnf (aiq hnt hz1)))))
 have H1:=hdq h1
 have HW1:=hdq hw1
 have HF1:=hdq hf1
 have HK1:=hdq hk1
 have HBD:=hdq hbody
 have HK:=hdq hk
 have HAT:=hdq hat
 clear h h0 h1 hcm hfull hn hb hx hpl ha hat hf1 hk1 hw1 hf4 hf16 hfp hfs hfat hml hpl2 hbl hnf hnt hbody hk hz1
 go_enter Tryz.func92,Tryz.ntmps92
 go_wp2_with fail
 rw[←HW1.out]
 refine HPC.out.mono ?_
 rintro _ w2 ⟨pA,pc,pB,pe,rfl,hf2,hpar,hbod⟩
 rw[show prcV x pA pc pB pe= .agg #[.string x.nm,.slice pA pl pc,.slice pB bl pe,.int .i64 x.at_]from by rw[HL.out.2.1,HL.out.2.2.1];rfl]
 have h2:=H1.out.fr0 hf2
 obtain⟨cn,hcn⟩:=nmq s.calls
 have g1:=h2.bk.cell 1
 have f1:=h2.bk.frozen 1
 have gl:=h2.bk.lt
 simp only[getsL]at g1
 rw[←hcn]at g1
 have hcb:cn≤262:=by have:=HH.out.2.1;have:=h2.most.1;omega
 obtain⟨X,hX⟩:=nmq w2.heap.size
 obtain⟨c1n,hc1n⟩:=nmq (s.calls+1)
 have hcc:((cn:Int)+1)=(c1n:Int):=by omega
 obtain⟨w3,hw3⟩:=nmq (w2.setCell ⟨K.P,1,none⟩ (.int .i64 (c1n:Int)))
 obtain⟨w4,hw4⟩:=nmq (w3.alloc (.cells #[.string x.nm,.slice pA pl pc,.slice pB bl pe,.int .i64 x.at_] 68))
 have hf3:Fr (fun i=>i=K.P) w2 w3:=by rw[hw3];exact Fr.own (Fr.refl _ _) _ _
 have hf4:Fr NoT w3 w4:=by rw[hw4];exact(Fr.refl _ _).alloc _
 have hz3:w3.heap.size=X:=by rw[hw3,hX];simp
 have hk4:Bk w4 X 68 #[.string x.nm,.slice pA pl pc,.slice pB bl pe,.int .i64 x.at_]:=by rw[hw4];exact Bk.new_at _ _ _ hz3
 have h3:RAtF K w3 ⟨s.calls+1,s.vars,s.many⟩ v false:=by
  refine h2.set hf3 ?_ rfl ⟨h2.most.1,by have:=HH.out.2.1;show s.calls+1≤s.many+1;omega⟩
  have:=h2.bk.set_ 1 (.int .i64 (c1n:Int))
  rw[hw3]
  simpa[hc1n]using this
 have h4:=h3.fr0 hf4
 have kb4:=((HK1.out.fr0 hf2).fr hf3 (fun e=>by have e:w.heap.size=K.P:=e;have:=HL.out.2.2.2.2.2;omega)).fr0 hf4
 have q0:=hk4.cell 0
 have ql0:=hk4.lt
 have q1:=h4.bk.cell 1
 have ql1:=h4.bk.lt
 simp only[getsL]at q0 q1
 rw[←hc1n]at q1
 have hit:∀W,Fr NoT w4 W→Calls Tryz.prog 39 #[.int .i64 c1n] W fun e w'=>e= .returned (.string ⟨(Lib.itoa (c1n:Int)).toArray⟩)∧Fr NoT W w':=fun W hf=>by
  refine(Tryz.strconv_Itoa (c1n:Int) (by omega) (by omega) W ((h4.fr0 hf).tab HK.out)).mono ?_
  rintro e w' ⟨rfl,j,os,rfl⟩
  exact⟨rfl,below_growI _ _ _⟩
 have hnx:x.nm.size≤16:=HP.out.2.1
 have hil:(Lib.itoa (c1n:Int)).length ≤21:=Lib.itoa_length_le _ (by omega) (by omega)
 obtain⟨ib,hib⟩:=nmq ((⟨(Lib.itoa (c1n:Int)).toArray⟩:ByteArray))
 have his:ib.size≤21:=by rw[hib];simpa[ByteArray.size]using hil
 rw[←hib]at hit
 have hs1:¬9223372036854775807 < x.nm.size+1:=by omega
 have hs2:¬9223372036854775807 < x.nm.size+1+ib.size:=by omega
 have hs3:¬9223372036854775807 < x.nm.size+1+ib.size+1:=by omega
 have HIT:=hdq hit
 have HIB:=hdq (aiq hib (aiq hc1n (aiq hnx his)))
 have HW3:=hdq hw3
 have HW4:=hdq hw4
 have HF2:=hdq hf2
 have HF24:=hdq (show Fr (fun i=>i=K.P) w1 w4 from(hf2.any.trans hf3).trans hf4.any)
 have HK4:=hdq hk4
 have HKB4:=hdq kb4
 have H4:=hdq h4
 have HPB:=hdq (aiq hpar hbod)
 have HXX:=hdq hX
 have HZ:=hdq (show w1.heap.size≤X∧X < w4.heap.size from⟨by rw[hX];exact hf2.size,ql0⟩)
 clear h2 h3 h4 hcn hw3 hw4 hf2 hf3 hf4 hz3 hk4 kb4 hpar hbod hit hib hnx his hil hc1n hX
 go_wp2_with fail
 rw[←HXX.out,←HW3.out,←HW4.out]
 clear g1 f1 gl
 refine wp_region_E (fun W'=>X < W'.heap.size∧K.P < W'.heap.size∧W'.cell? ⟨X,0,none⟩=some (.string x.nm)∧W'.cell? ⟨K.P,1,none⟩=some (.int .i64 c1n)) (fun i=>decide (i < 10)) (by kernel_rfl) ⟨ql0,ql1,q0,q1⟩ (fun hHeld=>?_)
 refine wpE_pu 0 ?_
 try simp only[putsL]
 refine wpE_pu 3 ?_
 try simp only[putsL]
 refine wpE_pu 4 ?_
 try simp only[putsL]
 refine wpE_pu 5 ?_
 try simp only[putsL]
 refine wpE_tk 1 hHeld ?_
 try simp only[putsL]
 refine wpE_tk 6 hHeld ?_
 try simp only[putsL]
 refine wpE_pu 2 ?_
 try simp only[putsL]
 refine wpE_next 7 rfl (by kernel_rfl) (fun KK hK=>?_)
 go_simp
 go_at_call 39
 refine(HIT.out _ ((Fr.refl NoT w4).drew)).mono ?_
 rintro _ w5 ⟨rfl,hf5⟩
 have HF5:=hdq (((Fr.refl NoT w4).drew).trans hf5)
 clear hHeld hf5
 have hHeld:X < w5.heap.size∧K.P < w5.heap.size∧w5.cell? ⟨X,0,none⟩=some (.string x.nm)∧w5.cell? ⟨K.P,1,none⟩=some (.int .i64 c1n):=⟨ltq ql0 HF5.out.size,ltq ql1 HF5.out.size,(HF5.out.cell (p:=⟨X,0,none⟩) ql0 id).trans q0,(HF5.out.cell (p:=⟨K.P,1,none⟩) ql1 id).trans q1⟩
 dsimp only
 refine hK _ _ (fun _ _=>hHeld) ?_
 clear hK
 try simp only[putsL]
 refine wpE_pu 8 ?_
 try simp only[putsL]
 refine wpE_pu 9 ?_
 try simp only[putsL]
 refine wpE_next 10 rfl (by kernel_rfl) (fun KK hK=>?_)
 go_simp
 refine hK _ _ (fun h=>absurd h (by decide)) ?_
 clear hK KK
 try simp only[putsL]
 refine wpE_done (by kernel_rfl) ?_
 obtain⟨hd9,hhd⟩:=nmq (x.nm++{data:= #[46]}++ib++{data:= #[46]})
 rw[←hhd]
 have hpar9:∀y,hd9++y=parN x.nm (s.calls+1) y:=fun y=>by rw[hhd,HIB.out.1,HIB.out.2.1];rfl
 have hhs:hd9.size≤39:=by rw[hhd];simp only[ByteArray.size_append];have h1:=HIB.out.2.2.1;have h2:=HIB.out.2.2.2;show x.nm.size+1+ib.size+1≤39;omega
 have k5:=HKB4.out.fr0 HF5.out
 have b6:=k5.cell 6
 have bl6:=k5.lt
 simp only[getsL]at b6
 obtain⟨w6,hw6⟩:=nmq (w5.alloc (.cells #[.int .u8 1,.string ⟨#[]⟩,.slice none 0 0,.slice none 0 0,.slice none 0 0,.slice none 0 0,.int .i64 at_] 39))
 obtain⟨L,hL⟩:=nmq w5.heap.size
 have hf6:Fr NoT w5 w6:=by rw[hw6];exact(Fr.refl _ _).alloc _
 have hCL:CaL K v w X L T:=⟨HL.out.2.2.2.2.2.2,⟨by have:=HZ.out;have:=HL.out.2.2.2.2.2.1;omega,by have:=HZ.out;have:=HF5.out.size;omega⟩,HH.out.1.fr.size,HH.out.2.2.2.2.1,HH.out.1.vlt⟩
 have hf14:Fr (fun i=>i=K.P) w1 w6:=(HF24.out.trans HF5.out.any).trans hf6.any
 have hQ:CaQ K v w X L #[.string x.nm,.slice pA pl pc,.slice pB bl pe,.int .i64 x.at_] #[.int .u8 kst,.string nm,.slice A2 ml c2,V3,V4,V5,.int .i64 at_] n fs ts Af At cf ct T w6 ⟨s.calls+1,s.vars,s.many⟩ v (.slice (some ⟨L,0,none⟩) 1 1) (.slice none 0 0) (.slice none 0 0) [skipSt at_] [.int .u8 1,.string ⟨#[]⟩,.slice none 0 0,.slice none 0 0,.slice none 0 0,.slice none 0 0,.int .i64 at_] [] []:=by
  have hlx:=hCL.x
  refine⟨⟨(HF1.out.any:Fr (RT K v) w w1).trans (hf14.mono fun _ _ e=> .inl e),SpotP.refl _ _,fun i hi=> .inl (HH.out.1.vlt i hi),(HK4.out.fr0 HF5.out).fr0 hf6,k5.fr0 hf6,HH.out.2.2.2.1.keep (fun _ h=>h) (((HF1.out.any:Fr (fun i=>i=K.P) w w1).trans hf14).same fun b hb=>⟨(HH.out.2.2.2.2.1 b hb).1,(HH.out.2.2.2.2.1 b hb).2.1⟩),by rw[hL];exact hf6.size⟩,(H4.out.fr0 HF5.out).fr0 hf6,⟨?_,?_,?_,fun b hb e=>?_⟩,TxRow.nil _ _,TxRow.nil _ _,fun i hi=>by simp[Value.ownBlock]at hi,fun i hi=>by simp[Value.ownBlock]at hi⟩
  ·rw[hw6,hL]
   exact World.ownsRow_lit (base:=w5.heap.size) (size:=7) w5 _ 1 (lrq _) (by decide) rfl
  ·exact⟨_, [],by simp,skip_one HAT.out,rfl⟩
  ·intro u hu
   simp only[List.mem_cons,List.not_mem_nil,or_false]at hu
   rcases hu with rfl|rfl|rfl|rfl|rfl|rfl|rfl<;>rfl
  ·have hb:L=b:=by simpa[Value.ownBlock]using hb
   rcases e with e|e|e
   ·have:=HH.out.1.vlt b e;omega
   ·simp[Value.ownBlock]at e
   ·simp[Value.ownBlock]at e
 have HCA:=hdq (show CaN K x s n args at_ v w X L #[.string x.nm,.slice pA pl pc,.slice pB bl pe,.int .i64 x.at_] #[.int .u8 kst,.string nm,.slice A2 ml c2,V3,V4,V5,.int .i64 at_] fs ts Af At cf ct T w6 (.slice (some ⟨L,0,none⟩) 1 1) (.slice none 0 0) (.slice none 0 0) 0 from⟨v,_,_,by simpa using hQ,rfl,rfl⟩)
 have HCL:=hdq hCL
 have HW6:=hdq hw6
 have HLL:=hdq hL
 have HPAR:=hdq hpar9
 have hpl4:pl≤4:=by rw[HL.out.2.1];exact HP.out.1
 clear hHeld q0 q1 ql0 ql1 hs1 hs2 hs3 hhd hpar9 k5 hw6 hL hf6 hCL hf14 hQ hcc hcb
 go_wp2_with fail
 rw[←HLL.out,←HW6.out]
 clear b6 bl6
 go_loopw [11,12,13,14] (fun vo vf vt i wr=>∃k:Nat,k≤pl∧i= .int .i64 k∧Hid (CaN K x s n args at_ v w X L #[.string x.nm,.slice pA pl pc,.slice pB bl pe,.int .i64 x.at_] #[.int .u8 kst,.string nm,.slice A2 ml c2,V3,V4,V5,.int .i64 at_] fs ts Af At cf ct T wr vo vf vt k)) (fun _ _ _ i _=>pl - (intOf i).toNat)
 case atStart=>exact⟨0,Nat.zero_le _,rfl,HCA⟩
 case round=>
  clear HCA
  obtain⟨kk,hkk,rfl,hcan⟩:=hrel
  by_cases hlt:kk < pl
  ·
   obtain⟨vk,acc,cs,hq,heq,hal⟩:=hcan.out
   obtain⟨pv,pr,hd,hd1⟩:=drop_head1 (show kk < x.params.length from by rw[←HL.out.2.1];exact hlt)
   have hargs:x.params.length=args.len:=HH.out.2.2.2.2.2.2.1
   obtain⟨e0,e1,e2,e3,e4,er,he⟩:=Exs.drop_cons (show kk < args.len from by rw[←hargs,←HL.out.2.1];exact hlt)
   obtain⟨pb,po,rfl,hat⟩:=HPB.out.1.2.2 (by rw[←HL.out.2.1];omega)
   have hat1:=hat.drop kk
   rw[hd]at hat1
   obtain⟨⟨hbS,_,r1,c00,c01⟩,_⟩:=hat1
   have hg0:=HK.out.low _ hbS
   have c0:=(hq.st_.fr.cell (p:=⟨pb,po+kk*2,none⟩) hg0 id).trans c00
   have c1:=(hq.st_.fr.cell (p:=⟨pb,po+kk*2+1,none⟩) hg0 id).trans c01
   have HC0:=hdq (aiq hg0 c00)
   have HVL:=hdq (show(∀i,vk.ownBlock=some i→i < wr.heap.size)∧(∀i,u11.ownBlock=some i→i < wr.heap.size)∧(∀i,u12.ownBlock=some i→i < wr.heap.size)∧(∀i,u13.ownBlock=some i→i < wr.heap.size)∧w.heap.size≤wr.heap.size∧L≤wr.heap.size from⟨hq.st_.vlt,fun i hi=>(row_lt hq.out.row hi).2,fun i hi=>(row_lt hq.nf hi).2,fun i hi=>(row_lt hq.nt hi).2,hq.fs_.fr.size,hq.fs_.sz⟩)
   have hxr:pb < wr.heap.size:=ltq (HK.out.low _ hbS) hq.st_.fr.size
   have hlt':(kk:Int) < (pl:Int):=by omega
   have hge:(0:Int)≤(kk:Int):=by omega
   obtain⟨nfs,hnfs⟩:=nmq ((x.params.take kk).map Va.nm)
   obtain⟨nts,hnts⟩:=nmq ((x.params.take kk).map fun p=>parN x.nm (s.calls+1) p.nm)
   obtain⟨vs,hvs⟩:=nmq (s.vars++(x.params.take kk).map (newVa x.nm (s.calls+1)))
   rw[←hnfs,←hnts,←hvs]at hq
   have hnl:nfs.length≤4∧nts.length≤4∧vs.length+1≤36∧acc.length≤5:=by
    have h2:=HH.out.2.2.1
    unfold fullB at h2
    simp only[Bool.or_eq_false_iff,decide_eq_false_iff_not]at h2
    have h3:(x.params.take kk).length ≤kk:=by rw[List.length_take];omega
    rw[hnfs,hnts,hvs]
    simp only[List.length_map,List.length_append]
    refine⟨?_,?_,?_,?_⟩<;>omega
   have hfpv:=HP.out.2.2.1 pv (List.mem_of_mem_drop (i:=kk) (by rw[hd];simp))
   obtain⟨nw,hnw⟩:=nmq (hd9++pv.nm)
   have hnw2:nw=parN x.nm (s.calls+1) pv.nm:=by rw[hnw,HPAR.out]
   have hsz9:¬9223372036854775807 < hd9.size+pv.nm.size:=by have:=hfpv.1;omega
   obtain⟨w7,hw7⟩:=nmq ((wr.alloc (.cells #[.string nw,.int .i64 pv.at_] 43)).drew )
   have hf7:Fr NoT wr w7:=by rw[hw7];exact((Fr.refl _ _).alloc _).drew
   have hk7:Bk w7 wr.heap.size 43 #[.string nw,.int .i64 pv.at_]:=by rw[hw7];exact(Bk.new _ _ _).fr0 ((Fr.refl _ _).drew)
   have hq7:=hq.fr0 HCL.out hf7
   have kx:=hq.fs_.xb
   have x1:=kx.cell 1
   have xl1:=kx.lt
   simp only[getsL]at x1
   have HQ:=hdq hq7
   have HE:=hdq (aiq heq (aiq hal (aiq hd (aiq he (aiq hnfs (aiq hnts hvs))))))
   have HN:=hdq (aiq hnw2 (aiq hfpv r1))
   have HK7:=hdq hk7
   have HW7:=hdq (aiq hw7 hnw)
   have HF7:=hdq hf7
   clear hq heq hal hd hd1 hargs he hat hbS r1 c00 c01 hg0 hnfs hnts hvs hfpv hnw hnw2 hw7 hf7 hk7 hq7 kx hcan
   go_wp2_with fail
   go_region
   rw[←HW7.out.2,←HW7.out.1]
   clear x1 xl1 c0 c1 hxr hsz9
   obtain⟨csv,hrowv,hrowsv⟩:=HQ.out.st_.row
   have u0:=HK7.out.cell 0
   have u1:=HK7.out.cell 1
   have ul0:=HK7.out.lt
   have u2:=HQ.out.st_.bk.cell 2
   have uf2:=HQ.out.st_.bk.frozen 2
   have ul2:=HQ.out.st_.bk.lt
   simp only[getsL]at u0 u1 u2
   obtain⟨iV,hiV,hzV,hsV,hbV⟩:=info_parts infoVa
   have HIV:=hdq (aiq hiV (aiq hzV (aiq hsV hbV)))
   have HROWV:=hdq (aiq hrowv hrowsv)
   clear hrowv hrowsv hiV hzV hsV hbV
   go_wp2_with fail
   refine wp_region_E (fun W'=>K.P < W'.heap.size∧wr.heap.size < W'.heap.size∧W'.cell? ⟨K.P,2,none⟩=some vk∧W'.cell? ⟨wr.heap.size,0,none⟩=some (.string nw)∧W'.cell? ⟨wr.heap.size,1,none⟩=some (.int .i64 pv.at_)) (fun i=>decide (i < 8)) (by kernel_rfl) ⟨ul2,ul0,u2,u0,u1⟩ (fun hHeld=>?_)
   refine wpE_pu 0 ?_
   try simp only[putsL]
   refine wpE_pu 1 ?_
   try simp only[putsL]
   refine wpE_pu 2 ?_
   try simp only[putsL]
   refine wpE_pu 3 ?_
   try simp only[putsL]
   refine wpE_tk 4 hHeld ?_
   try simp only[putsL]
   refine wpE_tk 5 hHeld ?_
   try simp only[putsL]
   refine wpE_next 6 rfl (by kernel_rfl) (fun KK hK=>?_)
   go_simp
   obtain⟨w8,hw8⟩:=nmq ((w7.alloc (.cells #[.string nw,.int .i64 pv.at_] 43)).drew )
   rw[←hw8]
   have hf8:Fr NoT w7 w8:=by rw[hw8];exact((Fr.refl _ _).alloc _).drew
   have hk8:Bk w8 w7.heap.size 43 ([.string nw,.int .i64 pv.at_]:List Value).toArray :=by rw[hw8];exact(Bk.new _ _ _).fr0 ((Fr.refl _ _).drew)
   have hs8:K.P < w8.heap.size∧wr.heap.size < w8.heap.size∧w8.cell? ⟨K.P,2,none⟩=some vk∧w8.cell? ⟨wr.heap.size,0,none⟩=some (.string nw)∧w8.cell? ⟨wr.heap.size,1,none⟩=some (.int .i64 pv.at_):=⟨ltq ul2 hf8.size,ltq ul0 hf8.size,(hf8.cell (p:=⟨K.P,2,none⟩) ul2 id).trans u2,(hf8.cell (p:=⟨wr.heap.size,0,none⟩) ul0 id).trans u0,(hf8.cell (p:=⟨wr.heap.size,1,none⟩) ul0 id).trans u1⟩
   have hrow8:=rw_keep HROWV.out.1 hf8 fun _ _=>id
   have HQ8:=hdq (HQ.out.fr0 HCL.out hf8)
   have HF8:=hdq hf8
   have HK8:=hdq hk8
   have HROW8:=hdq hrow8
   clear hw8 hf8 hk8 hrow8 hHeld
   try dsimp only
   refine hK _ _ (fun _ _=>hs8) ?_
   clear hK KK
   try simp only[putsL]
   refine wpE_next 7 rfl (by kernel_rfl) (fun KK hK=>?_)
   refine step_append_lies _ (by rfl) _ _ _ (by rfl) K.W0.heap.size 43 iV (.agg #[.string ⟨#[]⟩,.int .i64 0]) 2 24 Tryz.underlying22 HIV.out.1 HIV.out.2.1 HIV.out.2.2.1 HIV.out.2.2.2 rfl (by decide) vk vs.length csv (by rfl) HROW8.out
    ⟨w7.heap.size,0,none⟩ 1 1 _ (by rfl) (by rfl) HK8.out.newsL (by simp[Value.oneCell']) (by omega) ?c63 ?cby ?cba _ rfl ?_
   case c63=>have:=hnl.2.2.1;unfold maxLen;omega
   case cby=>have:=hnl.2.2.1;omega
   case cba=>have:=HQ8.out.st_.fr.size;omega
   intro gg cap w9 hown hgrow hsp hlt9
   have hvn:(Value.slice (some ⟨gg,0,none⟩) (vs.length+1) cap).ownBlock =vk.ownBlock∨(Value.slice (some ⟨gg,0,none⟩) (vs.length+1) cap).ownBlock =some w8.heap.size:=by
    rcases hsp with e|e
    ·exact .inl e.symm
    ·exact .inr (by rw[e];rfl)
   have hQ9:=HQ8.out.push HCL.out (x:=⟨nw,pv.at_⟩) HROWV.out.2.any HN.out.2.2 hnl.2.2.1 hown hgrow hvn
   have hneP:some K.P≠vk.ownBlock:=fun e=>HQ8.out.st_.ne e.symm
   have f9:=(hgrow.frozen_far ⟨K.P,2,none⟩ HQ8.out.st_.bk.lt hneP).trans (HQ8.out.st_.bk.frozen 2)
   have q9:=(hgrow.cell_far ⟨K.P,2,none⟩ HQ8.out.st_.bk.lt hneP).trans hs8.2.2.1
   have l9:K.P < w9.heap.size:=ltq HQ8.out.st_.bk.lt hgrow.size
   have hnwr:some wr.heap.size≠vk.ownBlock:=fun e=>by
    have:=HVL.out.1 _ e.symm;omega
   have hs9:K.P < w9.heap.size∧wr.heap.size < w9.heap.size∧w9.cell? ⟨K.P,2,none⟩=some vk∧w9.cell? ⟨wr.heap.size,0,none⟩=some (.string nw)∧w9.cell? ⟨wr.heap.size,1,none⟩=some (.int .i64 pv.at_):=⟨l9,ltq hs8.2.1 hgrow.size,q9,(hgrow.cell_far ⟨wr.heap.size,0,none⟩ hs8.2.1 hnwr).trans hs8.2.2.2.1,(hgrow.cell_far ⟨wr.heap.size,1,none⟩ hs8.2.1 hnwr).trans hs8.2.2.2.2⟩
   have k9:=(HK7.out.fr0 HF8.out).fr (Fr.grown (T:=fun i=>vk.ownBlock=some i) hgrow fun g e _=>e) (fun e=>hnwr e.symm)
   have HQ9:=hdq hQ9
   have HK9:=hdq k9
   clear hvn hown hgrow hsp hneP hnwr hs8 hQ9 k9
   try dsimp only
   refine hK _ _ (fun _ _=>hs9) ?_
   clear hK KK
   try simp only[putsL]
   refine wpE_next 8 rfl (by kernel_rfl) (fun KK hK=>?_)
   go_simp
   refine hK _ _ (fun h=>absurd h (by decide)) ?_
   clear hK KK
   try simp only[putsL]
   refine wpE_next 9 rfl (by kernel_rfl) (fun KK hK=>?_)
   go_simp
   refine hK _ _ (fun h=>absurd h (by decide)) ?_
   clear hK KK
   try simp only[putsL]
   refine wpE_next 10 rfl (by kernel_rfl) (fun KK hK=>?_)
   go_simp
   refine hK _ _ (fun h=>absurd h (by decide)) ?_
   clear hK KK
   try simp only[putsL]
   refine wpE_done (by kernel_rfl) ?_
   clear hs9 f9 q9 l9 hlt9 u0 u1 u2 ul0 uf2 ul2
   obtain⟨vn,hvn⟩:=nmq (Value.slice (some ⟨gg,0,none⟩) (vs.length+1) cap)
   obtain⟨w10,hw10⟩:=nmq (w9.setCell ⟨K.P,2,none⟩ vn)
   rw[←hvn]at HQ9 ⊢
   rw[←hw10]at HQ9 ⊢
   have hPr:K.P≠wr.heap.size:=fun e=>by have:=HVL.out.2.2.2.2.1;have:=HCL.out.p;omega
   have k10:Bk w10 wr.heap.size 43 #[.string nw,.int .i64 pv.at_]:=by rw[hw10];exact HK9.out.fr (T:=fun i=>i=K.P) (Fr.own (Fr.refl _ _) _ _) (fun e=>hPr e.symm)
   clear hvn hw10 hPr
   have kx:=HQ9.out.fs_.xb
   have x1:=kx.cell 1
   have xl1:=kx.lt
   have c0:=(HQ9.out.st_.fr.cell (p:=⟨pb,po+kk*2,none⟩) HC0.out.1 id).trans HC0.out.2
   have hxr:pb < w10.heap.size:=ltq HC0.out.1 HQ9.out.st_.fr.size
   simp only[getsL]at x1
   obtain⟨w11,hw11⟩:=nmq (w10.alloc (.cells #[.string pv.nm] 9))
   have hf11:Fr NoT w10 w11:=by rw[hw11];exact(Fr.refl _ _).alloc _
   have hk11:Bk w11 w10.heap.size 9 ([.string pv.nm]:List Value).toArray :=by rw[hw11];exact Bk.new _ _ _
   have HQ11:=hdq (HQ9.out.fr0 HCL.out hf11)
   have HK11:=hdq (k10.fr0 hf11)
   have HKS:=hdq hk11
   have HW11:=hdq hw11
   obtain⟨iS,hiS,hzS,hsS,hbS⟩:=info_parts infoStz
   have HIS:=hdq (aiq hiS (aiq hzS (aiq hsS hbS)))
   have hz11:L≤w11.heap.size:=HQ11.out.fs_.sz
   clear kx hf11 hk11 hw11 hiS hzS hsS hbS k10
   go_wp2_with (at_builtin;rw[←HW11.out];refine wpList_append_spotA _ rfl _ _ 162 rfl L 9 iS (.string ⟨#[]⟩) 1 16 Tryz.underlying162 HIS.out.1 HIS.out.2.1 HIS.out.2.2.1 HIS.out.2.2.2 rfl (by decide) u12 nfs.length _ rfl HQ11.out.nf ⟨w10.heap.size,0,none⟩ 1 1 _ rfl rfl HKS.out.newsL ?c2 ?c63 ?cby hz11 ?_)
   case c2=>first|rfl|(intro u hu;simp only[List.mem_cons,List.not_mem_nil,or_false]at hu;rw[hu];rfl)
   case c63=>have:=hnl.1;unfold maxLen;omega
   case cby=>have:=hnl.1;omega
   intro vf2 w12 hown12 hg12 hsp12
   have HQ12:=hdq (HQ11.out.name HCL.out hown12 hg12 hsp12)
   have k12:Bk w12 wr.heap.size 43 #[.string nw,.int .i64 pv.at_]:=HK11.out.fr (T:=fun i=>u12.ownBlock=some i) (Fr.grown hg12 fun g e _=>e) (fun e=>by have:=HVL.out.2.2.1 _ e;omega)
   clear hown12 hg12 hsp12 x1 xl1 c0 hxr hz11
   have z0:=k12.cell 0
   have zl0:=k12.lt
   simp only[getsL]at z0
   obtain⟨w13,hw13⟩:=nmq (w12.alloc (.cells #[.string nw] 9))
   have hf13:Fr NoT w12 w13:=by rw[hw13];exact(Fr.refl _ _).alloc _
   have hk13:Bk w13 w12.heap.size 9 ([.string nw]:List Value).toArray :=by rw[hw13];exact Bk.new _ _ _
   have HQ13:=hdq (HQ12.out.fr0 HCL.out hf13)
   have HK13:=hdq (k12.fr0 hf13)
   have HKT:=hdq hk13
   have HW13:=hdq hw13
   have hz13:L≤w13.heap.size:=HQ13.out.fs_.sz
   clear hf13 hk13 hw13 k12
   go_wp2_with (at_builtin;rw[←HW13.out];refine wpList_append_spotA _ rfl _ _ 162 rfl L 9 iS (.string ⟨#[]⟩) 1 16 Tryz.underlying162 HIS.out.1 HIS.out.2.1 HIS.out.2.2.1 HIS.out.2.2.2 rfl (by decide) u13 nts.length _ rfl HQ13.out.nt ⟨w12.heap.size,0,none⟩ 1 1 _ rfl rfl HKT.out.newsL ?c2 ?c63 ?cby hz13 ?_)
   case c2=>first|rfl|(intro u hu;simp only[List.mem_cons,List.not_mem_nil,or_false]at hu;rw[hu];rfl)
   case c63=>have:=hnl.2.1;unfold maxLen;omega
   case cby=>have:=hnl.2.1;omega
   intro vt2 w14 hown14 hg14 hsp14
   have HQ14:=hdq (HQ13.out.new_ HCL.out hown14 hg14 hsp14)
   have k14:Bk w14 wr.heap.size 43 #[.string nw,.int .i64 pv.at_]:=HK13.out.fr (T:=fun i=>u13.ownBlock=some i) (Fr.grown hg14 fun g e _=>e) (fun e=>by have:=HVL.out.2.2.2.1 _ e;omega)
   clear hown14 hg14 hsp14 z0 zl0 hz13
   obtain⟨ab,ao,rfl,haat⟩:=HH.out.2.2.2.2.2.2.2.2.2 (by rw[←HH.out.2.2.2.2.2.2.1,←HL.out.2.1];omega)
   have haat1:=(ExR.keep (HQ14.out.st_.fr.same fun i hi=>⟨HK.out.low i hi,id⟩) haat).drop kk
   rw[HE.out.2.2.2.1]at haat1
   have hcap:ml≤c2:=by rw[HL.out.1];exact HH.out.2.2.2.2.2.2.2.1
   have hkm:kk < ml:=by have h1:=HH.out.2.2.2.2.2.2.1;have h2:=HL.out.1;have h3:=HL.out.2.1;omega
   have hk3:0+1≤c2 - kk:=by omega
   have hk4:c2 - kk≤9223372036854775807:=by have h1:=HH.out.2.2.2.2.2.2.2.2.1.1;omega
   have hx1:SlR (fun b o=>ExR w14 K.S False (.cons e0 e1 e2 e3 e4 .nil) b o) (Exs.cons e0 e1 e2 e3 e4 .nil).len 64 (some ⟨ab,ao+kk*5,none⟩) (c2 - kk):=
    ⟨hk3,⟨hk4,by simp[Exs.len]⟩,fun _=>⟨ab,ao+kk*5,rfl,haat1.1,haat1.2.1,trivial⟩⟩
   have hc14:∀W,Fr NoT w14 W→Calls Tryz.prog 95 #[.slice (some ⟨ab,ao+kk*5,none⟩) 1 (c2 - kk),.slice Af nf cf,.slice At nt ct] W fun e w'=>∃A' c',e= .returned (.slice A' 1 c')∧SlR (fun b o=>ExR w' (New W.heap.size w') True (exprN n (.cons e0 e1 e2 e3 e4 .nil)) b o) 1 64 A' c'∧Fr NoT W w':=fun W hf=>by
    have h:=r2exprs_any (.cons e0 e1 e2 e3 e4 .nil) n W K.S False (some ⟨ab,ao+kk*5,none⟩) (c2 - kk) fs ts Af At cf ct T (fun i hi=>ltq (ltq (HK.out.low i hi) HQ14.out.st_.fr.size) hf.size) (fun b hb=>by have h1:=(HCL.out.nb b hb).1;have h2:=HQ14.out.fs_.fr.size;have h3:=hf.size;omega) (HQ14.out.fs_.nms.keep (fun _ h=>h) (hf.same fun b hb=>⟨by have h1:=(HCL.out.nb b hb).1;have h2:=HQ14.out.fs_.fr.size;omega,id⟩)) (hx1.imp fun _ _ h=>ExR.keep (hf.same fun i hi=>⟨ltq (HK.out.low i hi) HQ14.out.st_.fr.size,id⟩) h)
    rw[←HL.out.2.2.2.1,←HL.out.2.2.2.2.1]at h
    refine h.mono ?_
    rintro _ w' ⟨A',c',rfl,h1,h2⟩
    rw[exprN_len]at h1 ⊢
    exact⟨A',c',rfl,h1,h2⟩
   have kb:=HQ14.out.fs_.box
   have y2:=kb.cell 2
   have y6:=kb.cell 6
   have yl:=kb.lt
   have z0:=k14.cell 0
   have zl0:=k14.lt
   simp only[getsL]at y2 y6 z0
   have HC14:=hdq hc14
   obtain⟨i0,hi0,hz0,hzs,hzb⟩:=info_parts infoSt
   have HI:=hdq (aiq hi0 (aiq hz0 (aiq hzs hzb)))
   have hk5:(0:Int)≤(kk:Int)+1:=by omega
   have hk6:(kk:Int)+1≤(c2:Int):=by omega
   have hk7:((kk:Int)+1).toNat =kk+1:=by omega
   have hk8:¬c2=kk:=by omega
   have hw1':IntKind.i64.wrap ((kk:Int)+1)=(kk:Int)+1:=IntWalk.i64_in _ (by omega)
   have hlk:kk≤ml:=by omega
   clear hk3 hk4 hkm hx1 haat haat1 hc14 kb k14 hi0 hz0 hzs hzb
   go_wp2_with fail
   refine wp_region_E (fun W'=>w.heap.size < W'.heap.size∧wr.heap.size < W'.heap.size∧W'.cell? ⟨w.heap.size,2,none⟩=some (.slice (some ⟨ab,ao,none⟩) ml c2)∧W'.cell? ⟨w.heap.size,6,none⟩=some (.int .i64 at_)∧W'.cell? ⟨wr.heap.size,0,none⟩=some (.string nw)) (fun i=>decide (i < 17)) (by kernel_rfl) ⟨yl,zl0,y2,y6,z0⟩ (fun hHeld=>?_)
   refine wpE_pu 0 ?_
   try simp only[putsL]
   refine wpE_pu 1 ?_
   try simp only[putsL]
   refine wpE_pu 3 ?_
   try simp only[putsL]
   refine wpE_pu 5 ?_
   try simp only[putsL]
   refine wpE_pu 6 ?_
   try simp only[putsL]
   refine wpE_pu 7 ?_
   try simp only[putsL]
   refine wpE_pu 9 ?_
   try simp only[putsL]
   refine wpE_pu 10 ?_
   try simp only[putsL]
   refine wpE_pu 12 ?_
   try simp only[putsL]
   refine wpE_tk 2 hHeld ?_
   try simp only[putsL]
   refine wpE_tk 4 hHeld ?_
   try simp only[putsL]
   refine wpE_tk 13 hHeld ?_
   try simp only[putsL]
   refine wpE_pu 8 ?_
   try simp only[putsL]
   refine wpE_next 11 rfl (by kernel_rfl) (fun KK hK=>?_)
   go_simp
   go_at_call 95
   refine(HC14.out _ ((Fr.refl NoT w14).drew)).mono ?_
   rintro _ w15 ⟨A',c',rfl,hsl15,hf15'⟩
   have hf15:Fr NoT w14 w15:=((Fr.refl NoT w14).drew).trans hf15'
   have hs15:w.heap.size < w15.heap.size∧wr.heap.size < w15.heap.size∧w15.cell? ⟨w.heap.size,2,none⟩=some (.slice (some ⟨ab,ao,none⟩) ml c2)∧w15.cell? ⟨w.heap.size,6,none⟩=some (.int .i64 at_)∧w15.cell? ⟨wr.heap.size,0,none⟩=some (.string nw):=⟨ltq yl hf15.size,ltq zl0 hf15.size,(hf15.cell (p:=⟨w.heap.size,2,none⟩) yl id).trans y2,(hf15.cell (p:=⟨w.heap.size,6,none⟩) yl id).trans y6,(hf15.cell (p:=⟨wr.heap.size,0,none⟩) zl0 id).trans z0⟩
   have HQ15:=hdq (HQ14.out.fr0 HCL.out hf15)
   have HF15:=hdq hf15
   have HSL15:=hdq hsl15
   clear hHeld hsl15 hf15 hf15'
   try dsimp only
   refine hK _ _ (fun _ _=>hs15) ?_
   clear hK KK
   have hHeld:=hs15
   clear hs15
   try simp only[putsL]
   refine wpE_pu 14 ?_
   try simp only[putsL]
   refine wpE_next 15 rfl (by kernel_rfl) (fun KK hK=>?_)
   go_simp
   obtain⟨w16,hw16⟩:=nmq (w15.alloc (.cells #[.int .u8 2,.string nw,.slice A' 1 c',.slice none 0 0,.slice none 0 0,.slice none 0 0,.int .i64 at_] 39))
   rw[←hw16]
   have hf16:Fr NoT w15 w16:=by rw[hw16];exact(Fr.refl _ _).alloc _
   have hk16:Bk w16 w15.heap.size 39 ([.int .u8 2,.string nw,.slice A' 1 c',.slice none 0 0,.slice none 0 0,.slice none 0 0,.int .i64 at_]:List Value).toArray :=by rw[hw16];exact Bk.new _ _ _
   have hs16:w.heap.size < w16.heap.size∧wr.heap.size < w16.heap.size∧w16.cell? ⟨w.heap.size,2,none⟩=some (.slice (some ⟨ab,ao,none⟩) ml c2)∧w16.cell? ⟨w.heap.size,6,none⟩=some (.int .i64 at_)∧w16.cell? ⟨wr.heap.size,0,none⟩=some (.string nw):=⟨ltq hHeld.1 hf16.size,ltq hHeld.2.1 hf16.size,(hf16.cell (p:=⟨w.heap.size,2,none⟩) hHeld.1 id).trans hHeld.2.2.1,(hf16.cell (p:=⟨w.heap.size,6,none⟩) hHeld.1 id).trans hHeld.2.2.2.1,(hf16.cell (p:=⟨wr.heap.size,0,none⟩) hHeld.2.1 id).trans hHeld.2.2.2.2⟩
   have HQ16:=hdq (HQ15.out.fr0 HCL.out hf16)
   have HF16:=hdq hf16
   have HK16:=hdq hk16
   clear hw16 hf16 hk16 hHeld
   try dsimp only
   refine hK _ _ (fun _ _=>hs16) ?_
   clear hK KK
   try simp only[putsL]
   refine wpE_next 16 rfl (by kernel_rfl) (fun KK hK=>?_)
   refine step_append_lies _ (by rfl) _ _ _ (by rfl) L 39 i0 (.agg zeroSt) 7 128 Tryz.underlying25 HI.out.1 HI.out.2.1 HI.out.2.2.1 HI.out.2.2.2 rfl (by decide) u11 acc.length cs (by rfl) HQ16.out.out.row
    ⟨w15.heap.size,0,none⟩ 1 1 _ (by rfl) (by rfl) HK16.out.newsL (by simp[Value.oneCell']) (by omega) ?d63 ?dby ?dba _ rfl ?_
   case d63=>have:=hnl.2.2.2;unfold maxLen;omega
   case dby=>have:=hnl.2.2.2;omega
   case dba=>exact HQ16.out.fs_.sz
   intro gg2 cap2 w17 hown17 hgrow17 hsp17 hlt17
   have hol:∀i,u11.ownBlock=some i→L≤i∧i < wr.heap.size:=fun i hi=>⟨(row_lt HQ16.out.out.row hi).1,HVL.out.2.1 i hi⟩
   have hs17:w.heap.size < w17.heap.size∧wr.heap.size < w17.heap.size∧w17.cell? ⟨w.heap.size,2,none⟩=some (.slice (some ⟨ab,ao,none⟩) ml c2)∧w17.cell? ⟨w.heap.size,6,none⟩=some (.int .i64 at_)∧w17.cell? ⟨wr.heap.size,0,none⟩=some (.string nw):=by
    have hn1:some w.heap.size≠u11.ownBlock:=fun e=>by have h1:=hol _ e.symm;have h2:=HCL.out.x;omega
    have hn2:some wr.heap.size≠u11.ownBlock:=fun e=>by have h1:=hol _ e.symm;omega
    exact⟨ltq hs16.1 hgrow17.size,ltq hs16.2.1 hgrow17.size,(hgrow17.cell_far ⟨w.heap.size,2,none⟩ hs16.1 hn1).trans hs16.2.2.1,(hgrow17.cell_far ⟨w.heap.size,6,none⟩ hs16.1 hn1).trans hs16.2.2.2.1,(hgrow17.cell_far ⟨wr.heap.size,0,none⟩ hs16.2.1 hn2).trans hs16.2.2.2.2⟩
   have hv17:(Value.slice (some ⟨gg2,0,none⟩) (acc.length+1) cap2).ownBlock =u11.ownBlock∨(Value.slice (some ⟨gg2,0,none⟩) (acc.length+1) cap2).ownBlock =some w16.heap.size:=by
    rcases hsp17 with e|e
    ·exact .inl e.symm
    ·exact .inr (by rw[e];rfl)
   have HNX:Hid (CaN K x s n args at_ v w X L #[.string x.nm,.slice (some ⟨pb,po,none⟩) pl pc,.slice pB bl pe,.int .i64 x.at_] #[.int .u8 kst,.string nm,.slice (some ⟨ab,ao,none⟩) ml c2,V3,V4,V5,.int .i64 at_] fs ts Af At cf ct T w17 (.slice (some ⟨gg2,0,none⟩) (acc.length+1) cap2) vf2 vt2 (kk+1)):=by
    refine hdq ?_
    have hlen1:(exprN n (.cons e0 e1 e2 e3 e4 .nil)).len =1:=by rw[exprN_len];rfl
    have hone:One1 [.int .u8 2,.string nw,.slice A' 1 c',.slice none 0 0,.slice none 0 0,.slice none 0 0,.int .i64 at_]:=by
     intro u hu
     simp only[List.mem_cons,List.not_mem_nil,or_false]at hu
     rcases hu with rfl|rfl|rfl|rfl|rfl|rfl|rfl<;>rfl
    have hz1:wr.heap.size < w14.heap.size:=zl0
    have hz2:=HF16.out.size
    have h1s:oneS w16 (fun b=>L≤b∧b < w16.heap.size∧u11.ownBlock≠some b∧¬CE vn vf2 vt2 b) (setSt nw n e0 e1 e2 e3 e4 at_) [.int .u8 2,.string nw,.slice A' 1 c',.slice none 0 0,.slice none 0 0,.slice none 0 0,.int .i64 at_]:=
     ⟨A',c',none,0,none,0,none,0,by rw[show(setSt nw n e0 e1 e2 e3 e4 at_).args.len =1 from hlen1];rfl,by simp[setSt,in8],HAT.out,by
      show SlR _ (exprN n (.cons e0 e1 e2 e3 e4 .nil)).len 64 A' c'
      rw[hlen1]
      refine HSL15.out.imp fun _ _ hx=>ExR.more (fun i hi=>?_) (ExR.keep (HF16.out.same fun i hi=>⟨hi.2,id⟩) hx)
      have hi1:w14.heap.size≤i:=hi.1
      have hi2:i < w15.heap.size:=hi.2
      refine⟨by have:=HVL.out.2.2.2.2.2;omega,by omega,fun e=>by have:=hol i e;omega,fun e=>?_⟩
      rcases e with e|e|e
      ·have:=HQ14.out.st_.vlt i e;omega
      ·have:=(row_lt HQ14.out.nf e).2;omega
      ·have:=(row_lt HQ14.out.nt e).2;omega,slr0,slr0,slr0⟩
    have hq17:=HQ16.out.put HCL.out h1s hone hown17 hgrow17 hv17
    obtain⟨heq,hal,hd,he,hnfs,hnts,hvs⟩:=HE.out
    have hnw:=HN.out.1
    rw[hnfs,hnts,hvs,hnw]at hq17
    exact CaN.next hd he hq17 heq hal
   clear hown17 hgrow17 hsp17 hlt17 hol hv17 hs16
   try dsimp only
   refine hK _ _ (fun _ _=>hs17) ?_
   clear hK KK hs17
   try simp only[putsL]
   refine wpE_next 17 rfl (by kernel_rfl) (fun KK hK=>?_)
   go_simp
   refine hK _ _ (fun h=>absurd h (by decide)) ?_
   clear hK KK
   try simp only[putsL]
   refine wpE_done (by kernel_rfl) ?_
   clear y2 y6 yl z0 zl0
   go_wp2_with fail
   go_roundw
   case rel=>exact⟨kk+1,by omega,by go_num,HNX⟩
   case measure=>simp[intOf];omega
  ·
   obtain⟨vk,acc,cs,hq,heq,hal⟩:=hcan.out
   have hlt':¬(kk:Int) < (pl:Int):=by omega
   have hkp:kk=pl:=by omega
   have htk:x.params.take kk=x.params:=List.take_of_length_le (by rw[←HL.out.2.1];omega)
   have hdn:x.params.drop kk= []:=List.drop_eq_nil_iff.2 (by rw[←HL.out.2.1];omega)
   rw[htk]at hq
   rw[hdn]at heq
   obtain⟨vs,hvs⟩:=nmq (s.vars++x.params.map (newVa x.nm (s.calls+1)))
   rw[←hvs]at hq
   obtain⟨Af2,cf2,At2,ct2,hu12,hu13,hnm2⟩:=NmR.built x.nm (s.calls+1) x.params hq.nf hq.nt
   rw[List.length_map,←HL.out.2.1]at hu12 hu13
   obtain⟨Ao,co,hu11,_⟩:=row_slice hq.out.row
   obtain⟨al,hal2⟩:=nmq acc.length
   rw[←hal2]at hu11
   have hfl:s.many≤256:=by
    have h2:=HH.out.2.2.1
    unfold fullB at h2
    simp only[Bool.or_eq_false_iff,decide_eq_false_iff_not]at h2
    omega
   have hal5:al=pl+1:=by omega
   have HCN:=hdq (count_any K wr ⟨s.calls+1,vs,s.many⟩ vk al hq.st_ ⟨by show s.many+al≤261;omega,by show s.calls+1≤s.many+al+1;have:=HH.out.2.1;omega⟩)
   have kx:=hq.fs_.xb
   have hXP:X≠K.P:=fun e=>by have:=HCL.out.x;have:=HCL.out.p;omega
   have hlf:∀i,(Value.slice Af2 pl cf2).ownBlock =some i→L≤i∧i < wr.heap.size:=fun i hi=>row_lt hq.nf (hu12▸hi)
   have hlt2:∀i,(Value.slice At2 pl ct2).ownBlock =some i→L≤i∧i < wr.heap.size:=fun i hi=>row_lt hq.nt (hu13▸hi)
   subst hu12 hu13 hu11
   have HQ:=hdq hq
   have HNM:=hdq hnm2
   have HE:=hdq (aiq heq (aiq hal (aiq hvs (aiq hal2 (aiq hfl (aiq hal5 (aiq hlf hlt2)))))))
   have HKX:=hdq kx
   have HXP:=hdq hXP
   have x1:=kx.cell 1
   have xl1:=kx.lt
   simp only[getsL]at x1
   clear hq heq hal hvs hnm2 hal2 hfl hal5 kx hXP hlf hlt2 hcan htk hdn
   go_wp2_with fail
   clear x1 xl1
   refine HCN.out.mono ?_
   rintro _ w20 ⟨rfl,h20,hf20⟩
   have kx20:=HKX.out.fr hf20 HXP.out
   have x2:=kx20.cell 2
   have xl2:=kx20.lt
   simp only[getsL]at x2
   have hPx:=HCL.out.p
   have hLx:=HCL.out.x
   have hnm20:=HNM.out.keep (fun _ h=>h) (hf20.same fun b hb=>⟨by
    rcases hb with hb|hb
    ·exact(HE.out.2.2.2.2.2.2.1 b hb).2
    ·exact(HE.out.2.2.2.2.2.2.2 b hb).2,fun e=>by
    have e:b=K.P:=e
    rcases hb with hb|hb
    ·have:=HE.out.2.2.2.2.2.2.1 b hb;omega
    ·have:=HE.out.2.2.2.2.2.2.2 b hb;omega⟩)
   have hrb20:RB K vk w20 (fun b=>(Value.slice Af2 pl cf2).ownBlock =some b∨(Value.slice At2 pl ct2).ownBlock =some b):=fun b hb=>by
    have hz:=hf20.size
    rcases hb with hb|hb
    ·have h1:=HE.out.2.2.2.2.2.2.1 b hb
     exact⟨by omega,by omega,(HQ.out.ne1 b hb).2⟩
    ·have h1:=HE.out.2.2.2.2.2.2.2 b hb
     exact⟨by omega,by omega,HQ.out.ne2 b hb⟩
   have HCALL:=HBD.out w20 ⟨s.calls+1,vs,s.many+al⟩ vk (ownN x.nm (s.calls+1) x.params fun _=>none) pB pe _ _ Af2 At2 cf2 ct2 _ h20 (by show s.calls+1≤s.many+al;have:=HH.out.2.1;have:=HE.out.2.2.2.2.2.1;omega) hnm20 hrb20 (ownN_nil _ _ _ _ (fun z hz=>(HP.out.2.2.1 z hz).2.2) rfl) HPB.out.2
   rw[List.length_map,List.length_map,←HL.out.2.2.1,←HL.out.2.1]at HCALL
   have HCALL:=hdq HCALL
   have HF20:=hdq hf20
   clear kx20 hnm20 hrb20 h20 hf20 hPx hLx
   go_wp2_with fail
   refine HCALL.out.mono ?_
   rintro _ w21 ⟨v2,vo2,acc2,cs2,rfl,h21,hout2,hr1,hf21,hsp21,hm21,hc21⟩
   have hPL:K.P < L:=by have:=HCL.out.p;have:=HCL.out.x;omega
   have hout1:=((HQ.out.out.toRow (v:=vk) fun b hb=> .inl hb).keep (HF20.out.mono fun _ _ e=> .inl e) (SpotP.refl _ _) hPL).keep hf21 hsp21 hPL
   have hz20:L≤w20.heap.size:=leq9 HQ.out.fs_.sz HF20.out.size
   have hz21:L≤w21.heap.size:=leq9 hz20 hf21.size
   have hlow:∀i,(Value.slice Ao al co).ownBlock =some i→i < w20.heap.size:=fun i hi=>ltq (row_lt HQ.out.out.row hi).2 HF20.out.size
   have hv21:∀i,v2.ownBlock=some i→i < w21.heap.size:=fun i hi=>by obtain⟨c9,h9,_⟩:=h21.row;exact(row_lt h9 hi).2
   have hsz21:acc.length+acc2.length≤1000000:=by have h8:=HE.out.2.2.2.1;have h7:=HE.out.2.2.2.2.2.1;have h9:=h21.most.1;simp only at hm21;omega
   have HO1:=hdq (aiq hout1 (aiq hout2 (aiq hlow hv21)))
   have H21:=hdq (aiq h21 (aiq hr1 (aiq hf21 (aiq hsp21 (aiq hm21 hc21)))))
   clear hout1 hout2 hlow hv21 h21 hr1 hf21 hsp21 hm21 hc21 x2 xl2
   go_wp2_with (at_builtin;refine wpList_out rfl _ _ rfl rfl rfl HO1.out.1 HO1.out.2.1 hz20 HO1.out.2.2.1 hz21 hsz21 HO1.out.2.2.2 ?_)
   intro vo3 w22 hout3 hf22 hsp22
   have HFIN:=hdq (aiq hout3 hf22)
   clear hout3 hf22 hsp22
   go_wp2_with fail
   go_ret
   obtain⟨h21,hr1,hf21,hsp21,hm21,hc21⟩:=H21.out
   obtain⟨heq,hal,hvs,hal2,hfl,hal5,hlf,hlt2⟩:=HE.out
   have hlx:=HCL.out.x
   have hw0:=HCL.out.w0
   have hal6:al=x.params.length+1:=by have h2:=HL.out.2.1;omega
   have hcall:callN K.procs stm nm args n at_ s=(Sts.app (stsOf acc) (stm x.body (ownN x.nm (s.calls+1) x.params fun _=>none) ⟨s.calls+1,vs,s.many+al⟩).1,(stm x.body (ownN x.nm (s.calls+1) x.params fun _=>none) ⟨s.calls+1,vs,s.many+al⟩).2):=by
    unfold callN
    rw[HH.out.2.2.2.2.2.1]
    have he2:stsOf acc= .cons 1 ⟨#[]⟩ .nil .nil .nil .nil at_ (setsN x.nm (s.calls+1) n at_ x.params args):=by
     rw[←heq];cases hE:Exs.drop kk args<;>simp only[setsN,app_nil]
    have hvs':vs=s.vars++x.params.map fun v=>(⟨parN x.nm (s.calls+1) v.nm,v.at_⟩:Va):=hvs
    simp only[he2,hvs',hal6]
   rw[hcall]
   have hfw:Fr (RT K v) w w22:=by
    have h1:=Fr.thenT HQ.out.fs_.fr (HF20.out) fun i _ (e:i=K.P)=>(Or.inl e:RT K v i)
    have h2:=Fr.thenT h1 hf21 fun i hi e=>by
     rcases e with e|e
     ·exact Or.inl e
     ·rcases HQ.out.fs_.spot with k9|⟨g9,k9,hg9⟩
      ·exact Or.inr (k9▸e)
      ·rw[k9]at e;have:=Option.some.inj e;omega
    exact Fr.thenT h2 HFIN.out.2 fun i hi e=>by have:=(row_lt HO1.out.1.row e).1;omega
   have hwz:w.heap.size≤L:=by omega
   refine⟨v2,vo3,acc++acc2,_,rfl,?_,HFIN.out.1.lower hwz,?_,hfw,HQ.out.fs_.spot.trans hsp21 (leq9 HQ.out.fs_.fr.size HF20.out.size),?_,hc21⟩
   ·exact h21.frT HFIN.out.2 (fun i hi=>by have h8:=(row_lt HO1.out.1.row hi).1;omega) (fun e=>by have:=(row_lt HO1.out.1.row e).1;omega) (fun i hi e=>HO1.out.1.ne i e hi)
   ·rw[stsOf_app,←hr1]
   ·rw[List.length_append]
    simp only at hm21 ⊢
    omega
end Go.Proofs.YtmopichdofgndaaGreatDoor
