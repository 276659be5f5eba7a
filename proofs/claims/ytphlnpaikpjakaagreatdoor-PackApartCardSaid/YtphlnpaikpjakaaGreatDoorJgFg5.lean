/-
  flow's maker: a statement: skip, set, store, read. Printed by wip/gen_fg/genstm.py.
-/
import Derived.Test.YtphlnpaikpjakaaGreatDoorJnFg3
set_option linter.unusedVariables false
set_option linter.unusedSimpArgs false
set_option maxHeartbeats 3200000
set_option maxRecDepth 100000
namespace Go.Proofs.YtphlnpaikpjakaaGreatDoor
open Go.RowKit Go.Shelf

def StmC (C:FgC) (k:Int) (nm:ByteArray) (args:Exs) (cond:Cds) (body els:Sts) (at_:Int):Prop:=
 ∀(W:World) (s:FgS) (u:Value) (S:Nat→Prop) (Z:Prop) (A A2 A3 A4:Option Addr) (c c2 c3 c4:Nat),C.At s u W→(∀x,S x→x < C.B)→in64 at_→SlR (fun b o=>ExR W S Z args b o) args.len 64 A c→SlR (fun b o=>CdR W S Z cond b o) cond.len 64 A2 c2→SlR (fun b o=>StR W S Z body b o) body.len 128 A3 c3→SlR (fun b o=>StR W S Z els b o) els.len 128 A4 c4→Room (szM cond (szT body) (szT els)) s→∀f t,in64 f→in64 t→
  Calls Tryz.prog 63 #[.pointer (some ⟨C.b,0,none⟩),.agg #[.int .u8 k,.string nm,.slice A args.len c,.slice A2 cond.len c2,.slice A3 body.len c3,.slice A4 els.len c4,.int .i64 at_],.int .i64 f,.int .i64 t] W (MkP C (stmF C.sc C.ar k nm args (waysC C.sc C.ar cond) (mksS C.sc C.ar body) (mksS C.sc C.ar els) at_ f t s) u W)
def FBlk (C:FgC) (xs:Sts):Prop:=
 ∀(W:World) (s:FgS) (u:Value) (S:Nat→Prop) (Z:Prop) (A:Option Addr) (c:Nat),C.At s u W→(∀x,S x→x < C.B)→SlR (fun b o=>StR W S Z xs b o) xs.len 128 A c→Room (1+szT xs) s→∀f t a,in64 f→in64 t→in64 a→
  Calls Tryz.prog 31 #[.pointer (some ⟨C.b,0,none⟩),.slice A xs.len c,.int .i64 f,.int .i64 t,.int .i64 a] W (MkP C (blkF C.sc C.ar (mksS C.sc C.ar xs) f t a s) u W)
structure StB (C:FgC) (u:Value) (W w1:World) (s0:FgS) (cs:Array Value):Prop where
 at0:C.At s0 u w1
 bk:Bk w1 W.heap.size 133 cs
 own:¬MOwn C.b u W.heap.size
 fr:Fr NoT W w1
section
variable {C:FgC} {u:Value} {W w1 w:World} {s s0:FgS} {cs:Array Value}
theorem StB.of (h:C.At s u W) (e:w1=W.alloc (.cells cs 133)):StB C u W w1 s cs:=by
 have hf:Fr NoT W w1:=by rw[e];exact(Fr.refl _ _).alloc _
 exact⟨h.fr0 hf,by rw[e];exact Bk.new _ _ _,MkS.new h (lrq _),hf⟩
theorem StB.box (h:StB C u W w1 s0 cs) (hc:Cur C u w1 s w):Bk w W.heap.size 133 cs:=hc.bk h.bk h.own
theorem StB.out {e:Ending} {w':World} (h:StB C u W w1 s0 cs) (hc:CurP C u w1 s e w'):MkP C s u W e w':=by
 obtain⟨he,u',h1,h2⟩:=hc
 exact⟨u',he,h1,(Made.of h.fr).trans h2⟩
theorem Cur.block {xs:Sts} (h:Cur C u W s w) (h0:C.At s0 u W) (hc:FBlk C xs) (S:Nat→Prop) (Z:Prop) (A:Option Addr) (c:Nat) (hS:∀x,S x→x < C.B) (hx:SlR (fun b o=>StR W S Z xs b o) xs.len 128 A c) (hr:Room (1+szT xs) s) (f t a:Int) (hf:in64 f) (ht:in64 t) (ha:in64 a):
  Calls Tryz.prog 31 #[.pointer (some ⟨C.b,0,none⟩),.slice A xs.len c,.int .i64 f,.int .i64 t,.int .i64 a] w (CurP C u W (blkF C.sc C.ar (mksS C.sc C.ar xs) f t a s)):=by
 have hs:=h.same h0 hS
 obtain⟨u',h1,h2⟩:=h
 exact(hc w s u' S Z A c h1 hS (hx.imp fun _ _ hx=>StR.keep hs hx) hr f t a hf ht ha).mono fun e w' h=>Cur.of h2 h
end
def Lk (b q i m:Nat) (nm:ByteArray) (nv:Int) (sl:Value) (at_:Int) (W:World):Prop:=W.cell? ⟨q,1,none⟩=some (.string nm)∧W.cell? ⟨q,2,none⟩=some sl∧W.cell? ⟨q,6,none⟩=some (.int .i64 at_)∧W.cell? ⟨b,i,none⟩=some (.map (some m))∧(Instr.lookup 83 (.map (some m)) (.string nm) false).run Tryz.prog W= .ok (.int .i64 nv) W
theorem mkS_maps {C:FgC} {s:FgS} {u:Value} {w:World} (h:C.At s u w):(∃v0 v1 v2 v3 v4 v5,Bk w C.b 85 #[v0,v1,v2,v3,v4,v5,.map (some C.mS),.map (some C.mA)])∧(∃n,NoM w C.mS n C.sc)∧∃n,NoM w C.mA n C.ar:=⟨⟨_,_,_,_,_,_,MkS.bk h⟩,MkS.maps h⟩
theorem stm_2 (C:FgC) (nm:ByteArray) (args:Exs) (cond:Cds) (body els:Sts) (at_:Int) (hn:nm.size≤9223372036854775807) (hz:szQ args):StmC C 2 nm args cond body els at_:=by
 intro W s u S Z A A2 A3 A4 c c2 c3 c4 h hS hin hx hx2 hx3 hx4 hr f t hf ht
 obtain⟨l,hl⟩:=nmq args.len
 obtain⟨l2,hl2⟩:=nmq cond.len
 obtain⟨l3,hl3⟩:=nmq body.len
 obtain⟨l4,hl4⟩:=nmq els.len
 obtain⟨b,hb⟩:=nmq C.b
 obtain⟨w1,hw1⟩:=nmq (W.alloc (.cells #[.int .u8 2,.string nm,.slice A l c,.slice A2 l2 c2,.slice A3 l3 c3,.slice A4 l4 c4,.int .i64 at_] 133))
 have hB:=StB.of h hw1
 have hs1:SameS S W w1:=hB.fr.same fun x hx=>⟨ltq (hS x hx) (MkS.base h),id⟩
 have hcu:=Cur.start hB.at0
 have kb:=hB.bk
 have e0:=kb.cell 0
 have e6:=kb.cell 6
 simp only[getsL]at e0 e6
 have zl:=kb.lt
 have HSB:=hdq hB
 have HW:=hdq hw1
 have HB:=hdq hb
 have HC:=hdq ((hcu.fr0 ((Fr.refl NoT w1).drew)).put f t at_ 3 (C.sc.get nm) 0 ⟨hf,ht,in0_8 3 (by decide) (by decide),C.r1 nm,in0_8 0 (by decide) (by decide),hin⟩ args S Z A c hS hz (hx.imp fun _ _ hx=>ExR.keep (hs1.trans ((Fr.refl NoT w1).drew.same fun x hx=>⟨ltq (ltq (hS x hx) (MkS.base h)) HSB.out.fr.size,id⟩)) hx) (hr.less (by unfold szM;omega)))
 obtain⟨⟨v0,v1,v2,v3,v4,v5,hmk⟩,⟨nS,hmS⟩,nA,hmA⟩:=mkS_maps HSB.out.at0
 have hs2:Lk C.b W.heap.size 6 C.mS nm (C.sc.get nm) (.slice A l c) at_ w1.drew:=⟨kb.cell 1,kb.cell 2,kb.cell 6,hmk.cell 6,(hmS.fr ((Fr.refl NoT w1).drew) id).look hn⟩
 obtain⟨nv,hnv⟩:=nmq (C.sc.get nm)
 obtain⟨m,hm⟩:=nmq C.mS
 rw[←hnv]at HC
 rw[←hm,←hnv,←hb]at hs2
 have HS2:=hdq hs2
 have HNV:=hdq hnv
 rw[←hl,←hl2,←hl3,←hl4,←hb]
 rw[←hb,←hl]at HC
 clear h hS hin hx hx2 hx3 hx4 hr hf ht hl hl2 hl3 hl4 hs1 hcu hB kb hw1 hb hs2 hnv hm hmk hmS hmA hn hz
 go_enter Tryz.func63,Tryz.ntmps63
 go_wp2_with fail
 rw[←HW.out]
 refine wp_region_E (Lk b W.heap.size 6 m nm nv (.slice A l c) at_) (fun i=>decide (i < 15)) (by kernel_rfl) HS2.out (fun hHeld=>?_)
 refine wpE_pu 0 ?_
 try simp only[putsL]
 refine wpE_pu 1 ?_
 try simp only[putsL]
 refine wpE_pu 2 ?_
 try simp only[putsL]
 refine wpE_pu 3 ?_
 try simp only[putsL]
 refine wpE_takeN 4 (v:=?_) rfl (by kernel_rfl) (fun _ _ _ h=>h) hHeld (by rfl) ?_ ?_;rotate_left
 ·intro wz hSz;(try dsimp only[Lk]at hSz);go_simp;try with_reducible rfl
 try simp only[putsL]
 refine wpE_pu 5 ?_
 try simp only[putsL]
 refine wpE_pu 6 ?_
 try simp only[putsL]
 refine wpE_pu 7 ?_
 try simp only[putsL]
 refine wpE_takeN 8 (v:=?_) rfl (by kernel_rfl) (fun _ _ _ h=>h) hHeld (by rfl) ?_ ?_;rotate_left
 ·intro wz hSz;(try dsimp only[Lk]at hSz);go_simp;try with_reducible rfl
 try simp only[putsL]
 refine wpE_pu 9 ?_
 try simp only[putsL]
 refine wpE_takeN 10 (v:=?_) rfl (by kernel_rfl) (fun _ _ _ h=>h) hHeld (by rfl) ?_ ?_;rotate_left
 ·intro wz hSz;(try dsimp only[Lk]at hSz);go_simp;try with_reducible rfl
 try simp only[putsL]
 refine wpE_takeN 11 (v:=?_) rfl (by kernel_rfl) (fun _ _ _ h=>h) hHeld (by rfl) ?_ ?_;rotate_left
 ·intro wz hSz;(try dsimp only[Lk]at hSz);go_simp;try with_reducible rfl
 try simp only[putsL]
 refine wpE_pu 12 ?_
 try simp only[putsL]
 refine wpE_pu 13 ?_
 try simp only[putsL]
 refine wpE_takeN 14 (v:=?_) rfl (by kernel_rfl) (fun _ _ _ h=>h) hHeld (by rfl) ?_ ?_;rotate_left
 ·intro wz hSz;(try dsimp only[Lk]at hSz);go_simp;try with_reducible rfl
 try simp only[putsL]
 refine wpE_next 15 rfl (by kernel_rfl) (fun KK hK=>?_)
 go_simp
 go_at_call 61
 refine HC.out.mono ?_
 rintro _ w2 ⟨rfl,hc2⟩
 have HC2:=hdq hc2
 clear hc2
 try dsimp only
 refine hK _ _ (fun h=>absurd h (by decide)) ?_
 clear hK KK
 try simp only[putsL]
 refine wpE_done (by kernel_rfl) ?_
 go_wp2_with fail
 go_end0
 have h2:=HC2.out
 rw[HNV.out]at h2
 exact HSB.out.out ⟨rfl,h2⟩
end Go.Proofs.YtphlnpaikpjakaaGreatDoor

namespace Go.Proofs.YtphlnpaikpjakaaGreatDoor
open Go.RowKit Go.Shelf

def Cel4 (b o:Nat) (v0 v1 v2 v3:Value) (W:World):Prop:=W.cell? ⟨b,o,none⟩=some v0∧W.cell? ⟨b,o+1,none⟩=some v1∧W.cell? ⟨b,o+2,none⟩=some v2∧W.cell? ⟨b,o+3,none⟩=some v3

theorem stm_8 (C:FgC) (nm:ByteArray) (args:Exs) (cond:Cds) (body els:Sts) (at_:Int) (k0:Int) (a0:Exs) (o0:Cds) (t0:Int) (r0:Cds) (hcond:cond= .cons k0 a0 o0 t0 r0) (hcc:CondC C k0 a0 o0 t0) (hbb:FBlk C body):StmC C 8 nm args cond body els at_:=by
 intro W s u S Z A A2 A3 A4 c c2 c3 c4 h hS hin hx hx2 hx3 hx4 hr f t hf ht
 obtain⟨l,hl⟩:=nmq args.len
 obtain⟨l2,hl2⟩:=nmq cond.len
 obtain⟨l3,hl3⟩:=nmq body.len
 obtain⟨l4,hl4⟩:=nmq els.len
 obtain⟨b,hb⟩:=nmq C.b
 obtain⟨w1,hw1⟩:=nmq (W.alloc (.cells #[.int .u8 8,.string nm,.slice A l c,.slice A2 l2 c2,.slice A3 l3 c3,.slice A4 l4 c4,.int .i64 at_] 133))
 have hB:=StB.of h hw1
 have hs1:SameS S W w1:=hB.fr.same fun x hx=>⟨ltq (hS x hx) (MkS.base h),id⟩
 have hcu:=Cur.start hB.at0
 have kb:=hB.bk
 have e0:=kb.cell 0
 have e6:=kb.cell 6
 simp only[getsL]at e0 e6
 have zl:=kb.lt
 have HSB:=hdq hB
 have HW:=hdq hw1
 have HB:=hdq hb
 obtain⟨b2,o2,rfl,hat⟩:=hx2.2.2 (by rw[hcond];simp[Cds.len])
 rw[hcond]at hat
 obtain⟨⟨hbS,_,r1,r2,d0,d3⟩,⟨A5,c5,d1,q1⟩,⟨A6,c6,d2,q2⟩,_⟩:=hat
 have hl20:0 < l2:=by rw[hl2,hcond];simp[Cds.len]
 have hl2m:l2≤9223372036854775807:=by rw[hl2];exact leq9 hx2.1 hx2.2.1.1
 have hl22:(0:Int) < (l2:Int):=by omega
 obtain⟨l5,hl5⟩:=nmq a0.len
 obtain⟨l6,hl6⟩:=nmq o0.len
 have hszc:szN cond=2+szN o0+szN r0:=by rw[hcond];simp only[szN]
 have hD:∀s' w,Cur C u w1 s' w→Cel4 b2 o2 (.int .u8 k0) (.slice A5 l5 c5) (.slice A6 l6 c6) (.int .i64 t0) w:=fun s' w hc=>by
  have hs:=hs1.trans (hc.same HSB.out.at0 hS)
  exact⟨((hs ⟨b2,o2,none⟩ hbS).1).trans d0,((hs ⟨b2,o2+1,none⟩ hbS).1).trans (by rw[hl5];exact d1),((hs ⟨b2,o2+2,none⟩ hbS).1).trans (by rw[hl6];exact d2),((hs ⟨b2,o2+3,none⟩ hbS).1).trans d3⟩
 have hCD:∀s' w,Cur C u w1 s' w→_:=fun s' w hc=>hc.cond HSB.out.at0 k0 a0 o0 t0 hcc S Z A5 A6 c5 c6 hS r2 (q1.imp fun _ _ hx=>ExR.keep hs1 hx) (q2.imp fun _ _ hx=>CdR.keep hs1 hx)
 rw[←hl5,←hl6,←hb]at hCD
 have HD:=hdq hD
 have HCD:=hdq hCD
 obtain⟨cw,hcw⟩:=nmq (wayC C.sc C.ar k0 a0 (waysC C.sc C.ar o0) t0)
 rw[←hcw]at HCD
 have hcw2:nthW (waysC C.sc C.ar cond) 0=cw:=by rw[hcond,hcw];rfl
 have hgc:∀f y n s,Grow (2+szN o0) s (cw f y n s):=fun f y n s=>by
  have:=grow_ways C.sc C.ar cond 0 f y n s
  rw[hcw2]at this
  rw[hcond]at this
  exact this
 have HCW:=hdq hcw2
 have hr1:Room (1+(1+(1+(1+(1+((2+szN o0)+(1+szT body))))))) s:=hr.less (by unfold szM;omega)
 have hr2:=hr1.after (grow_node s)
 have hr3:=hr2.after (grow_node s.node)
 have hr4:=hr3.after (grow_node s.node.node)
 have hr5:=fun(a b c d e f:Int)=>hr4.after (grow_put' C.sc C.ar s.node.node.node a b c d e f .nil)
 have hr6:=fun(a b c d e f a' b' c' d' e' f':Int)=>(hr5 a b c d e f).after (grow_put' C.sc C.ar _ a' b' c' d' e' f' .nil)
 have hr7:=fun(a b c d e f a' b' c' d' e' f' f'' y n:Int)=>(hr6 a b c d e f a' b' c' d' e' f').after (hgc f'' y n _)
 have HND:=hdq (hcu.node (hr.less (by unfold szM;omega)))
 have HND2:=hdq (fun w (hc:Cur C u w1 s.node w)=>hc.node (hr2.less (by omega)))
 have HND3:=hdq (fun w (hc:Cur C u w1 s.node.node w)=>hc.node (hr3.less (by omega)))
 have HIN:=hdq (aiq hr1.in_ (aiq hf (aiq ht hin)))
 have HI2:=hdq hr2.in_
 have HI3:=hdq hr3.in_
 have HRP:=hdq (aiq (hr4.less (show 1≤_ from by omega)) (fun(a b c d e f:Int)=>(hr5 a b c d e f).less (show 1≤_ from by omega)))
 have HRC:=hdq (fun(a b c d e f a' b' c' d' e' f':Int)=>(hr6 a b c d e f a' b' c' d' e' f').less (show 2+szN o0≤_ from by omega))
 have HR7:=hdq hr7
 have HBB:=hdq (fun s' w (hc:Cur C u w1 s' w)=>hc.block HSB.out.at0 hbb S Z A3 c3 hS (hx3.imp fun _ _ hx=>StR.keep hs1 hx))
 rw[←hb]at HND HND2 HND3
 rw[←hl3,←hb]at HBB
 rw[←hl,←hl2,←hl3,←hl4,←hb]
 obtain⟨nd,hnd⟩:=nmq s.nodes
 have hnd1:s.node.nodes=nd+1:=by rw[hnd];rfl
 have hnd2:s.node.node.nodes=nd+2:=by
  show s.nodes+1+1=nd+2
  rw[hnd];omega
 have HNO:=hdq hnd
 rw[←hnd]at HND HIN
 rw[hnd1]at HND2 HI2
 rw[hnd2]at HND3 HI3
 clear h hS hin hx hx2 hx3 hx4 hr hf ht hl hl2 hl3 hl4 hs1 hcu hB kb hw1 hb hbS r1 r2 d0 d1 d2 d3 q1 q2 hl5 hl6 hD hCD hcw hcw2 hgc hszc hcond hcc hr1 hr2 hr3 hr4 hr5 hr6 hr7 hnd hnd1 hnd2 hbb
 go_enter Tryz.func63,Tryz.ntmps63
 go_wp2_with fail
 rw[←HW.out]
 refine HND.out.mono ?_
 rintro _ w2 ⟨rfl,cu2⟩
 have HN2:=hdq (HND2.out _ cu2)
 clear cu2 HND HND2
 go_wp2_with fail
 refine HN2.out.mono ?_
 rintro _ w3 ⟨rfl,cu3⟩
 have HN3:=hdq (HND3.out _ cu3)
 clear cu3 HN2 HND3
 go_wp2_with fail
 refine HN3.out.mono ?_
 rintro _ w4 ⟨rfl,cu4⟩
 have kbf:=HSB.out.box cu4
 have f6:=kbf.cell 6
 have zf:=kbf.lt
 simp only[getsL]at f6
 clear kbf
 have HP:=hdq (cu4.put0 f nd at_ 1 0 0 ⟨HIN.out.2.1,HIN.out.1,in0_8 1 (by decide) (by decide),in0_64 0 (by decide) (by decide),in0_8 0 (by decide) (by decide),HIN.out.2.2.2⟩ HRP.out.1)
 rw[←HB.out]at HP
 clear cu4 HN3
 go_wp2_with fail
 refine HP.out.mono ?_
 rintro _ w5 ⟨rfl,cu5⟩
 have kbg:=HSB.out.box cu5
 have g6:=kbg.cell 6
 have zg:=kbg.lt
 simp only[getsL]at g6
 clear kbg
 have HP2:=hdq (cu5.put0 nd (nd+1) at_ 2 0 0 ⟨HIN.out.1,HI2.out,in0_8 2 (by decide) (by decide),in0_64 0 (by decide) (by decide),in0_8 0 (by decide) (by decide),HIN.out.2.2.2⟩ (HRP.out.2 _ _ _ _ _ _))
 rw[←HB.out]at HP2
 clear cu5 HP
 go_wp2_with fail
 refine HP2.out.mono ?_
 rintro _ w6 ⟨rfl,cu6⟩
 have kbh:=HSB.out.box cu6
 have h3:=kbh.cell 3
 have h4:=kbh.cell 4
 have h6:=kbh.cell 6
 have zh:=kbh.lt
 simp only[getsL]at h3 h4 h6
 clear kbh
 obtain⟨x0,x1,x2,x3⟩:=HD.out _ w6 cu6
 have CU6:=hdq cu6
 clear cu6 HP2
 go_wp2_with fail
 refine(HCD.out _ w6 CU6.out).mono ?_
 rintro _ w7a ⟨val,rfl,cu7a,gg,caps,rfl,hg,hway⟩
 have HWY:=hdq (hway (HRC.out _ _ _ _ _ _ _ _ _ _ _ _) (nd+1) (nd+2) t HI2.out HI3.out HIN.out.2.2.1)
 have HAw7:=hdq cu7a
 unfold Enters at hg
 clear hway cu7a x0 x1 x2 x3
 go_wp2_with fail
 refine HWY.out.mono ?_
 rintro _ w7 ⟨rfl,cu7⟩
 have CU7:=hdq cu7
 clear cu7 hg HWY
 have kbk:=HSB.out.box CU7.out
 have k4:=kbk.cell 4
 have k6:=kbk.cell 6
 have zk:=kbk.lt
 simp only[getsL]at k4 k6
 clear kbk
 have HC:=hdq (HBB.out _ _ CU7.out (HR7.out _ _ _ _ _ _ _ _ _ _ _ _ (nd+1) (nd+2) t) (nd+2) nd at_ HI3.out HIN.out.1 HIN.out.2.2.2)
 go_wp2_with fail
 refine HC.out.mono ?_
 rintro _ w8 ⟨rfl,cu8⟩
 have CU8:=hdq cu8
 clear cu8 HC
 go_wp2_with fail
 go_end0
 have h6:=CU8.out
 refine HSB.out.out ⟨rfl,?_⟩
 simp only[stmF,show((8:Int)=1)=False from by decide,show((8:Int)=2)=False from by decide,show((8:Int)=3)=False from by decide,show((8:Int)=4)=False from by decide,show((8:Int)=5)=False from by decide,show((8:Int)=6)=False from by decide,show((8:Int)=7)=False from by decide,show((8:Int)=8)=True from by decide,if_true,if_false]
 rw[HCW.out,←HNO.out]
 exact h6

theorem Cur.nodeB {C:FgC} {u:Value} {s:FgS} {W w w1:World} {t:TypeId} {cs:Array Value} (h:Cur C u W s w) (hr:Room 1 s) (e1:w1=w.alloc (.cells cs t)):
  Calls Tryz.prog 62 #[.pointer (some ⟨C.b,0,none⟩)] w1 fun e w'=>e= .returned (.int .i64 s.nodes)∧Cur C u W s.node w'∧Bk w' w.heap.size t cs:=by
 obtain⟨u',h1,h2⟩:=h
 have hf:Fr NoT w w1:=by rw[e1];exact(Fr.refl _ _).alloc _
 have hb:Bk w1 w.heap.size t cs:=by rw[e1];exact Bk.new _ _ _
 refine(fnode_c (h1.fr0 hf) hr).mono fun e w' h=>⟨h.1,⟨u',h.2.1,(h2.trans (Made.of hf)).trans h.2.2⟩,(h.2.2.bk hb (MkS.new h1 (lrq _))).1⟩
theorem Cur.stm {C:FgC} {u:Value} {s s0:FgS} {W w:World} {k:Int} {nm:ByteArray} {args:Exs} {cond:Cds} {body els:Sts} {at_:Int} (h:Cur C u W s w) (h0:C.At s0 u W) (hc:StmC C k nm args cond body els at_) (S:Nat→Prop) (Z:Prop) (A A2 A3 A4:Option Addr) (c c2 c3 c4:Nat) (hS:∀x,S x→x < C.B) (hin:in64 at_) (hx:SlR (fun b o=>ExR W S Z args b o) args.len 64 A c) (hx2:SlR (fun b o=>CdR W S Z cond b o) cond.len 64 A2 c2) (hx3:SlR (fun b o=>StR W S Z body b o) body.len 128 A3 c3) (hx4:SlR (fun b o=>StR W S Z els b o) els.len 128 A4 c4) (hr:Room (szM cond (szT body) (szT els)) s) (f t:Int) (hf:in64 f) (ht:in64 t):
  Calls Tryz.prog 63 #[.pointer (some ⟨C.b,0,none⟩),.agg #[.int .u8 k,.string nm,.slice A args.len c,.slice A2 cond.len c2,.slice A3 body.len c3,.slice A4 els.len c4,.int .i64 at_],.int .i64 f,.int .i64 t] w (CurP C u W (stmF C.sc C.ar k nm args (waysC C.sc C.ar cond) (mksS C.sc C.ar body) (mksS C.sc C.ar els) at_ f t s)):=by
 have hs:=h.same h0 hS
 obtain⟨u',h1,h2⟩:=h
 exact(hc w s u' S Z A A2 A3 A4 c c2 c3 c4 h1 hS hin (hx.imp fun _ _ hx=>ExR.keep hs hx) (hx2.imp fun _ _ hx=>CdR.keep hs hx) (hx3.imp fun _ _ hx=>StR.keep hs hx) (hx4.imp fun _ _ hx=>StR.keep hs hx) hr f t hf ht).mono fun e w' h=>Cur.of h2 h
structure BkI (C:FgC) (u:Value) (W:World) (xs:Sts) (t a:Int) (r:FgS) (k:Nat) (fr:Int) (s:FgS) (w:World):Prop where
 cur:Cur C u W s w
 in_:in64 fr
 room:Room (1+szT (Sts.drop k xs)) s
 eq:blkF C.sc C.ar (mksS C.sc C.ar (Sts.drop k xs)) fr t a s=r
def BlkI (C:FgC) (xs:Sts):Prop:=∀i k nm args cond body els at_ r,Sts.drop i xs= .cons k nm args cond body els at_ r→StmC C k nm args cond body els at_
def Cel7 (b o:Nat) (v0 v1 v2 v3 v4 v5 v6:Value) (W:World):Prop:=W.cell? ⟨b,o,none⟩=some v0∧W.cell? ⟨b,o+1,none⟩=some v1∧W.cell? ⟨b,o+2,none⟩=some v2∧W.cell? ⟨b,o+3,none⟩=some v3∧W.cell? ⟨b,o+4,none⟩=some v4∧W.cell? ⟨b,o+5,none⟩=some v5∧W.cell? ⟨b,o+6,none⟩=some v6
theorem cel7_of {W w:World} {S:Nat→Prop} {Z:Prop} {k:Int} {nm:ByteArray} {args:Exs} {cond:Cds} {body els r:Sts} {at_:Int} {b o:Nat} (h:StR W S Z (.cons k nm args cond body els at_ r) b o) (hs:SameS S W w):∃A c A2 c2 A3 c3 A4 c4,Cel7 b o (.int .u8 k) (.string nm) (.slice A args.len c) (.slice A2 cond.len c2) (.slice A3 body.len c3) (.slice A4 els.len c4) (.int .i64 at_) w∧
  SlR (fun b o=>ExR W S Z args b o) args.len 64 A c∧SlR (fun b o=>CdR W S Z cond b o) cond.len 64 A2 c2∧SlR (fun b o=>StR W S Z body b o) body.len 128 A3 c3∧SlR (fun b o=>StR W S Z els b o) els.len 128 A4 c4∧in64 at_∧S b:=by
 obtain⟨⟨hb,_,r0,r1,d0,d1,d6⟩,⟨A,c,d2,s2⟩,⟨A2,c2,d3,s3⟩,⟨A3,c3,d4,s4⟩,⟨A4,c4,d5,s5⟩,_⟩:=h
 have hh:=fun i=>(hs ⟨b,i,none⟩ hb).1
 exact⟨A,c,A2,c2,A3,c3,A4,c4,⟨(hh _).trans d0,(hh _).trans d1,(hh _).trans d2,(hh _).trans d3,(hh _).trans d4,(hh _).trans d5,(hh _).trans d6⟩,s2,s3,s4,s5,r1,hb⟩
theorem blk_nil (C:FgC):FBlk C .nil :=by
 intro W s u S Z A c h hS hx hr f t a hf ht ha
 have HC:=hdq ((Cur.start h).put0 f t a 1 0 0 ⟨hf,ht,in0_8 1 (by decide) (by decide),in0_64 0 (by decide) (by decide),in0_8 0 (by decide) (by decide),ha⟩ (hr.less (by omega)))
 have HH:=hdq h
 show Calls Tryz.prog 31 #[.pointer (some ⟨C.b,0,none⟩),.slice A 0 c,.int .i64 f,.int .i64 t,.int .i64 a] W _
 obtain⟨b,hb⟩:=nmq C.b
 rw[←hb]at HC ⊢
 have HB:=hdq hb
 clear h hS hx hr hf ht ha hb
 go_enter Tryz.func31,Tryz.ntmps31
 go_wp2_with fail
 refine HC.out.mono ?_
 rintro _ w2 ⟨rfl,hc2⟩
 have HC2:=hdq hc2
 clear hc2
 go_wp2_with fail
 go_end0
 obtain⟨u',h1,h2⟩:=HC2.out
 exact⟨u',rfl,h1,HB.out▸h2⟩
theorem blk_cons (C:FgC) (xs:Sts) (hne:0 < xs.len) (hall:BlkI C xs):FBlk C xs:=by
 intro W s u S Z A c h hS hx hr f t a hf ht ha
 obtain⟨b2,o2,rfl,hat⟩:=hx.2.2 hne
 obtain⟨m,hm⟩:∃m,xs.len=m+1:=⟨xs.len - 1,by omega⟩
 have hl:m+1≤9223372036854775807:=by rw[←hm];exact leq9 hx.1 hx.2.1.1
 have hlc:m+1≤c:=by rw[←hm];exact hx.1
 have hcm:c≤9223372036854775807:=hx.2.1.1
 obtain⟨b,hb⟩:=nmq C.b
 obtain⟨R,hR⟩:=nmq (blkF C.sc C.ar (mksS C.sc C.ar xs) f t a s)
 have HI0:=hdq (show BkI C u W xs t a R 0 f s W from⟨Cur.start h,hf,hr,hR.symm⟩)
 have HH:=hdq h
 have HX:=hdq (aiq hat (aiq hS (aiq ht ha)))
 have HA:=hdq hall
 have HM:=hdq hm
 have HB:=hdq hb
 rw[hm,←hR,←hb]
 have n1:IntKind.i64.wrap (((m+1:Nat):Int) - 1)=(m:Int):=by rw[IntWalk.i64_in _ (by omega)];omega
 have n2:(((m:Int)+1)==0)=false:=by simp;omega
 have n3:(0:Int)≤(m:Int):=by omega
 have n4:(m:Int) < ((m+1:Nat):Int):=by omega
 have n5:((m:Int)).toNat =m:=by omega
 have n6:m < m+1:=Nat.lt_succ_self m
 have n7:m≤c:=by omega
 clear h hS hx hr hf ht ha hat hall hm hb hR hne
 go_enter Tryz.func31,Tryz.ntmps31
 go_wp2_with fail
 go_loopw [2,28] (fun v i wr=>∃k:Nat,k≤m∧i= .int .i64 k∧∃(fr:Int) (s':FgS),v= .int .i64 fr∧Hid (BkI C u W xs t a R k fr s' wr)) (fun v i _=>m - (intOf i).toNat)
 case atStart=>exact⟨0,Nat.zero_le _,rfl,f,s,rfl,HI0⟩
 case round=>
  clear HI0
  obtain⟨k,hk,rfl,fr,s',rfl,hi⟩:=hrel
  have hkx:k < xs.len:=by rw[HM.out];omega
  obtain⟨k0,nm,args,cond,body,els,at_,r,hd⟩:=Sts.drop_cons hkx
  have hat1:=StR.drop k HX.out.1
  rw[hd]at hat1
  obtain⟨A1,d1,A2,d2,A3,d3,A4,d4,hc7,s1,s2,s3,s4,hina,hSb⟩:=cel7_of hat1 (hi.out.cur.same HH.out HX.out.2.1)
  obtain⟨l1,hl1⟩:=nmq args.len
  obtain⟨l2,hl2⟩:=nmq cond.len
  obtain⟨l3,hl3⟩:=nmq body.len
  obtain⟨l4,hl4⟩:=nmq els.len
  have hstm:=fun(s2':FgS) (w:World) (hcu:Cur C u W s2' w)=>hcu.stm HH.out (HA.out k k0 nm args cond body els at_ r hd) S Z A1 A2 A3 A4 d1 d2 d3 d4 HX.out.2.1 hina s1 s2 s3 s4
  rw[←hl1,←hl2,←hl3,←hl4,←HB.out]at hstm
  rw[←hl1,←hl2,←hl3,←hl4]at hc7
  obtain⟨y0,y1,y2,y3,y4,y5,y6⟩:=hc7
  have HSTM:=hdq hstm
  have HD:=hdq hd
  have g1:(0:Int)≤(k:Int):=by omega
  have g3:((k:Int)).toNat =k:=by omega
  have g4:k < m+1:=by omega
  have g5:(k:Int) < ((m+1:Nat):Int):=by omega
  clear hat1 s1 s2 s3 s4 hina hSb hl1 hl2 hl3 hl4 hstm hd
  by_cases hlt:k < m
  ·have hlt':(k:Int) < (m:Int):=by omega
   have hkw:IntKind.i64.wrap ((k:Int)+1)=((k+1:Nat):Int):=by rw[IntWalk.i64_in _ (by omega)];omega
   obtain⟨wX,hwX⟩:=nmq (wr.alloc (.cells #[.int .u8 k0,.string nm,.slice A1 l1 d1,.slice A2 l2 d2,.slice A3 l3 d3,.slice A4 l4 d4,.int .i64 at_] 133))
   obtain⟨k1,nm1,args1,cond1,body1,els1,at1,r1,hd1⟩:=Sts.drop_cons (show k+1 < xs.len from by rw[HM.out];omega)
   have hr':r= .cons k1 nm1 args1 cond1 body1 els1 at1 r1:=by
    rw[←hd1];exact(Sts.drop_succ k xs HD.out).symm
   have hroom:Room (1+(szM cond (szT body) (szT els)+(1+szT r))) s':=by
    have:=hi.out.room
    rw[HD.out]at this
    exact this.less (by simp only[szT];omega)
   have hroom2:=hroom.after (grow_node s')
   have HND:=hdq (hi.out.cur.nodeB (hroom.less (by omega)) hwX)
   rw[←HB.out]at HND
   have HIN:=hdq (aiq hroom.in_ (aiq hi.out.in_ (aiq (hroom2.less (show szM cond (szT body) (szT els)≤_ from by omega)) hroom2)))
   have HEQ:=hdq (show blkF C.sc C.ar (mksS C.sc C.ar (Sts.drop (k+1) xs)) s'.nodes t a (stmF C.sc C.ar k0 nm args (waysC C.sc C.ar cond) (mksS C.sc C.ar body) (mksS C.sc C.ar els) at_ fr s'.nodes s'.node)=R from by
    have h1:=hi.out.eq
    rw[HD.out,hr']at h1
    rw[hd1]
    exact h1)
   have HRX:=hdq (show Sts.drop (k+1) xs=r from Sts.drop_succ k xs HD.out)
   obtain⟨nd,hnd⟩:=nmq s'.nodes
   rw[←hnd]at HND HIN HEQ
   have HWX:=hdq hwX
   clear hd1 hr' hroom hroom2 hwX hnd
   go_wp2_with fail
   rw[←HWX.out]
   refine HND.out.mono ?_
   rintro _ w2 ⟨rfl,cu2,hk2⟩
   have x0:=hk2.cell 0
   have x1:=hk2.cell 1
   have x2:=hk2.cell 2
   have x3:=hk2.cell 3
   have x4:=hk2.cell 4
   have x5:=hk2.cell 5
   have x6:=hk2.cell 6
   have xl:=hk2.lt
   simp only[getsL]at x0 x1 x2 x3 x4 x5 x6
   have HC:=hdq (HSTM.out _ w2 cu2 HIN.out.2.2.1 fr nd HIN.out.2.1 HIN.out.1)
   clear cu2 hk2 y0 y1 y2 y3 y4 y5 y6 HND
   go_wp2_with fail
   refine HC.out.mono ?_
   rintro _ w3 ⟨rfl,cu3⟩
   have HNX:=hdq (show BkI C u W xs t a R (k+1) nd _ w3 from⟨cu3,HIN.out.1,by rw[HRX.out];exact HIN.out.2.2.2.after (grow_stm C.sc C.ar k0 nm args cond _ _ (szT body) (szT els) at_ fr nd s'.node (grow_blk C.sc C.ar body) (grow_blk C.sc C.ar els)),HEQ.out⟩)
   clear cu3 HC x0 x1 x2 x3 x4 x5 x6 xl
   go_wp2_with fail
   go_roundw
   case rel=>exact⟨k+1,by omega,by go_num,_,_,rfl,HNX⟩
   case measure=>simp[intOf];omega
  ·have hkm:k=m:=by omega
   subst hkm
   have hlt':¬(k:Int) < (k:Int):=by omega
   have hrn:r= .nil :=by
    have h1:=Sts.drop_succ k xs HD.out
    rw[←h1]
    exact Sts.drop_nil (by rw[HM.out];omega)
   have hroom:=hi.out.room
   rw[HD.out]at hroom
   have HC:=hdq (HSTM.out _ wr hi.out.cur (hroom.less (by simp only[szT];omega)) fr t hi.out.in_ HX.out.2.2.1)
   have HEQ:=hdq (show stmF C.sc C.ar k0 nm args (waysC C.sc C.ar cond) (mksS C.sc C.ar body) (mksS C.sc C.ar els) at_ fr t s'=R from by
    have h1:=hi.out.eq
    rw[HD.out,hrn]at h1
    exact h1)
   clear hroom hrn
   go_wp2_with fail
   refine HC.out.mono ?_
   rintro _ w3 ⟨rfl,cu3⟩
   have CU3:=hdq cu3
   clear cu3 HC
   go_wp2_with fail
   go_end0
   obtain⟨u',h1,h2⟩:=CU3.out
   rw[HEQ.out]at h1
   exact⟨u',rfl,h1,h2⟩

theorem fblk_any (C:FgC) (xs:Sts) (h:BlkI C xs):FBlk C xs:=by
 cases xs with
 |nil=>exact blk_nil C
 |cons k nm args cond body els at_ r=>exact blk_cons C _ (by simp[Sts.len]) h
end Go.Proofs.YtphlnpaikpjakaaGreatDoor
