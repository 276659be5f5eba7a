/-
  flow's maker: a statement: skip, set, store, read. Printed by wip/gen_fg/genstm.py.
-/
import Derived.Test.YtobegfbdedgmpaaGreatDoorJnFg3
set_option linter.unusedVariables false
set_option linter.unusedSimpArgs false
set_option maxHeartbeats 3200000
set_option maxRecDepth 100000
namespace Go.Proofs.YtobegfbdedgmpaaGreatDoor
open Go.RowKit Go.Shelf

def StmC (C:FgC) (k:Int) (nm:ByteArray) (args:Exs) (cond:Cds) (body els:Sts) (at_:Int):Prop:=
 ∀(W:World) (s:FgS) (u:Value) (S:Nat→Prop) (Z:Prop) (A A2 A3 A4:Option Addr) (c c2 c3 c4:Nat),C.At s u W→(∀x,S x→x < C.B)→in64 at_→SlR (fun b o=>ExR W S Z args b o) args.len 64 A c→SlR (fun b o=>CdR W S Z cond b o) cond.len 64 A2 c2→SlR (fun b o=>StR W S Z body b o) body.len 128 A3 c3→SlR (fun b o=>StR W S Z els b o) els.len 128 A4 c4→Room (szM cond (szT body) (szT els)) s→∀f t,in64 f→in64 t→
  Calls Tryz.prog 125 #[.pointer (some ⟨C.b,0,none⟩),.agg #[.int .u8 k,.string nm,.slice A args.len c,.slice A2 cond.len c2,.slice A3 body.len c3,.slice A4 els.len c4,.int .i64 at_],.int .i64 f,.int .i64 t] W (MkP C (stmF C.sc C.ar k nm args (waysC C.sc C.ar cond) (mksS C.sc C.ar body) (mksS C.sc C.ar els) at_ f t s) u W)
def FBlk (C:FgC) (xs:Sts):Prop:=
 ∀(W:World) (s:FgS) (u:Value) (S:Nat→Prop) (Z:Prop) (A:Option Addr) (c:Nat),C.At s u W→(∀x,S x→x < C.B)→SlR (fun b o=>StR W S Z xs b o) xs.len 128 A c→Room (1+szT xs) s→∀f t a,in64 f→in64 t→in64 a→
  Calls Tryz.prog 64 #[.pointer (some ⟨C.b,0,none⟩),.slice A xs.len c,.int .i64 f,.int .i64 t,.int .i64 a] W (MkP C (blkF C.sc C.ar (mksS C.sc C.ar xs) f t a s) u W)
structure StB (C:FgC) (u:Value) (W w1:World) (s0:FgS) (cs:Array Value):Prop where
 at0:C.At s0 u w1
 bk:Bk w1 W.heap.size 105 cs
 own:¬MOwn C.b u W.heap.size
 fr:Fr NoT W w1
section
variable {C:FgC} {u:Value} {W w1 w:World} {s s0:FgS} {cs:Array Value}
theorem StB.of (h:C.At s u W) (e:w1=W.alloc (.cells cs 105)):StB C u W w1 s cs:=by
 have hf:Fr NoT W w1:=by rw[e];exact(Fr.refl _ _).alloc _
 exact⟨h.fr0 hf,by rw[e];exact Bk.new _ _ _,MkS.new h (Nat.le_refl _),hf⟩
theorem StB.box (h:StB C u W w1 s0 cs) (hc:Cur C u w1 s w):Bk w W.heap.size 105 cs:=hc.bk h.bk h.own
theorem StB.out {e:Ending} {w':World} (h:StB C u W w1 s0 cs) (hc:CurP C u w1 s e w'):MkP C s u W e w':=by
 obtain⟨he,u',h1,h2⟩:=hc
 exact⟨u',he,h1,(Made.of h.fr).trans h2⟩
theorem Cur.block {xs:Sts} (h:Cur C u W s w) (h0:C.At s0 u W) (hc:FBlk C xs) (S:Nat→Prop) (Z:Prop) (A:Option Addr) (c:Nat) (hS:∀x,S x→x < C.B) (hx:SlR (fun b o=>StR W S Z xs b o) xs.len 128 A c) (hr:Room (1+szT xs) s) (f t a:Int) (hf:in64 f) (ht:in64 t) (ha:in64 a):
  Calls Tryz.prog 64 #[.pointer (some ⟨C.b,0,none⟩),.slice A xs.len c,.int .i64 f,.int .i64 t,.int .i64 a] w (CurP C u W (blkF C.sc C.ar (mksS C.sc C.ar xs) f t a s)):=by
 have hs:=h.same h0 hS
 obtain⟨u',h1,h2⟩:=h
 exact(hc w s u' S Z A c h1 hS (hx.imp fun _ _ hx=>StR.keep hs hx) hr f t a hf ht ha).mono fun e w' h=>Cur.of h2 h
end
theorem stm_1 (C:FgC) (nm:ByteArray) (args:Exs) (cond:Cds) (body els:Sts) (at_:Int):StmC C 1 nm args cond body els at_:=by
 intro W s u S Z A A2 A3 A4 c c2 c3 c4 h hS hin hx hx2 hx3 hx4 hr f t hf ht
 obtain⟨l,hl⟩:∃y,y=args.len:=⟨_,rfl⟩
 obtain⟨l2,hl2⟩:∃y,y=cond.len:=⟨_,rfl⟩
 obtain⟨l3,hl3⟩:∃y,y=body.len:=⟨_,rfl⟩
 obtain⟨l4,hl4⟩:∃y,y=els.len:=⟨_,rfl⟩
 obtain⟨b,hb⟩:∃b,b=C.b:=⟨_,rfl⟩
 obtain⟨w1,hw1⟩:∃y,y=W.alloc (.cells #[.int .u8 1,.string nm,.slice A l c,.slice A2 l2 c2,.slice A3 l3 c3,.slice A4 l4 c4,.int .i64 at_] 105):=⟨_,rfl⟩
 have hB:=StB.of h hw1
 have hs1:SameS S W w1:=hB.fr.same fun x hx=>⟨Nat.lt_of_lt_of_le (hS x hx) (MkS.base h),id⟩
 have hcu:=Cur.start hB.at0
 have kb:=hB.bk
 have e0:=kb.cell 0
 have e6:=kb.cell 6
 simp only[List.getElem?_toArray,List.getElem?_cons_succ,List.getElem?_cons_zero]at e0 e6
 have zl:=kb.lt
 have HSB:=Lib.hid hB
 have HW:=Lib.hid hw1
 have HB:=Lib.hid hb
 have HC:=Lib.hid (hcu.put0 f t at_ 2 0 0 ⟨hf,ht,in0_8 2 (by decide) (by decide),in0_64 0 (by decide) (by decide),in0_8 0 (by decide) (by decide),hin⟩ (hr.less (by unfold szM;omega)))
 rw[←hl,←hl2,←hl3,←hl4,←hb]
 rw[←hb]at HC
 clear h hS hin hx hx2 hx3 hx4 hr hf ht hl hl2 hl3 hl4 hs1 hcu hB kb hw1 hb
 go_enter Tryz.func125,Tryz.ntmps125
 go_wp2_with fail
 rw[←HW.out]
 refine HC.out.mono ?_
 rintro _ w2 ⟨rfl,hc2⟩
 have HC2:=Lib.hid hc2
 clear hc2
 go_wp2_with fail
 go_end0
 exact HSB.out.out ⟨rfl,HC2.out⟩
def Lk (b q i m:Nat) (nm:ByteArray) (nv:Int) (sl:Value) (at_:Int) (W:World):Prop:=W.cell? ⟨q,1,none⟩=some (.string nm)∧W.cell? ⟨q,2,none⟩=some sl∧W.cell? ⟨q,6,none⟩=some (.int .i64 at_)∧W.cell? ⟨b,i,none⟩=some (.map (some m))∧(Instr.lookup 131 (.map (some m)) (.string nm) false).run Tryz.prog W= .ok (.int .i64 nv) W
theorem mkS_maps {C:FgC} {s:FgS} {u:Value} {w:World} (h:C.At s u w):(∃v0 v1 v2 v3 v4 v5,Bk w C.b 133 #[v0,v1,v2,v3,v4,v5,.map (some C.mS),.map (some C.mA)])∧(∃n,NoM w C.mS n C.sc)∧∃n,NoM w C.mA n C.ar:=⟨⟨_,_,_,_,_,_,MkS.bk h⟩,MkS.maps h⟩
theorem stm_2 (C:FgC) (nm:ByteArray) (args:Exs) (cond:Cds) (body els:Sts) (at_:Int) (hn:nm.size≤9223372036854775807) (hz:szQ args):StmC C 2 nm args cond body els at_:=by
 intro W s u S Z A A2 A3 A4 c c2 c3 c4 h hS hin hx hx2 hx3 hx4 hr f t hf ht
 obtain⟨l,hl⟩:∃y,y=args.len:=⟨_,rfl⟩
 obtain⟨l2,hl2⟩:∃y,y=cond.len:=⟨_,rfl⟩
 obtain⟨l3,hl3⟩:∃y,y=body.len:=⟨_,rfl⟩
 obtain⟨l4,hl4⟩:∃y,y=els.len:=⟨_,rfl⟩
 obtain⟨b,hb⟩:∃b,b=C.b:=⟨_,rfl⟩
 obtain⟨w1,hw1⟩:∃y,y=W.alloc (.cells #[.int .u8 2,.string nm,.slice A l c,.slice A2 l2 c2,.slice A3 l3 c3,.slice A4 l4 c4,.int .i64 at_] 105):=⟨_,rfl⟩
 have hB:=StB.of h hw1
 have hs1:SameS S W w1:=hB.fr.same fun x hx=>⟨Nat.lt_of_lt_of_le (hS x hx) (MkS.base h),id⟩
 have hcu:=Cur.start hB.at0
 have kb:=hB.bk
 have e0:=kb.cell 0
 have e6:=kb.cell 6
 simp only[List.getElem?_toArray,List.getElem?_cons_succ,List.getElem?_cons_zero]at e0 e6
 have zl:=kb.lt
 have HSB:=Lib.hid hB
 have HW:=Lib.hid hw1
 have HB:=Lib.hid hb
 have HC:=Lib.hid ((hcu.fr0 ((Fr.refl NoT w1).drew)).put f t at_ 3 (C.sc.get nm) 0 ⟨hf,ht,in0_8 3 (by decide) (by decide),C.r1 nm,in0_8 0 (by decide) (by decide),hin⟩ args S Z A c hS hz (hx.imp fun _ _ hx=>ExR.keep (hs1.trans ((Fr.refl NoT w1).drew.same fun x hx=>⟨Nat.lt_of_lt_of_le (Nat.lt_of_lt_of_le (hS x hx) (MkS.base h)) HSB.out.fr.size,id⟩)) hx) (hr.less (by unfold szM;omega)))
 obtain⟨⟨v0,v1,v2,v3,v4,v5,hmk⟩,⟨nS,hmS⟩,nA,hmA⟩:=mkS_maps HSB.out.at0
 have hs2:Lk C.b W.heap.size 6 C.mS nm (C.sc.get nm) (.slice A l c) at_ w1.drew:=⟨kb.cell 1,kb.cell 2,kb.cell 6,hmk.cell 6,(hmS.fr ((Fr.refl NoT w1).drew) id).look hn⟩
 obtain⟨nv,hnv⟩:∃y,y=C.sc.get nm:=⟨_,rfl⟩
 obtain⟨m,hm⟩:∃y,y=C.mS:=⟨_,rfl⟩
 rw[←hnv]at HC
 rw[←hm,←hnv,←hb]at hs2
 have HS2:=Lib.hid hs2
 have HNV:=Lib.hid hnv
 rw[←hl,←hl2,←hl3,←hl4,←hb]
 rw[←hb,←hl]at HC
 clear h hS hin hx hx2 hx3 hx4 hr hf ht hl hl2 hl3 hl4 hs1 hcu hB kb hw1 hb hs2 hnv hm hmk hmS hmA hn hz
 go_enter Tryz.func125,Tryz.ntmps125
 go_wp2_with fail
 rw[←HW.out]
 refine wp_region_E (Lk b W.heap.size 6 m nm nv (.slice A l c) at_) (fun i=>decide (i < 15)) (by kernel_rfl) HS2.out (fun hHeld=>?_)
 refine wpE_pure 0 (v:=?_) rfl (by kernel_rfl) (fun _ _ _ h=>h) (by rfl) ?_ ?_;rotate_left
 ·intro wz;go_simp;try with_reducible rfl
 try simp only[Act.put,List.setIfInBounds_toArray,List.set_cons_zero,List.set_cons_succ]
 refine wpE_pure 1 (v:=?_) rfl (by kernel_rfl) (fun _ _ _ h=>h) (by rfl) ?_ ?_;rotate_left
 ·intro wz;go_simp;try with_reducible rfl
 try simp only[Act.put,List.setIfInBounds_toArray,List.set_cons_zero,List.set_cons_succ]
 refine wpE_pure 2 (v:=?_) rfl (by kernel_rfl) (fun _ _ _ h=>h) (by rfl) ?_ ?_;rotate_left
 ·intro wz;go_simp;try with_reducible rfl
 try simp only[Act.put,List.setIfInBounds_toArray,List.set_cons_zero,List.set_cons_succ]
 refine wpE_pure 3 (v:=?_) rfl (by kernel_rfl) (fun _ _ _ h=>h) (by rfl) ?_ ?_;rotate_left
 ·intro wz;go_simp;try with_reducible rfl
 try simp only[Act.put,List.setIfInBounds_toArray,List.set_cons_zero,List.set_cons_succ]
 refine wpE_takeN 4 (v:=?_) rfl (by kernel_rfl) (fun _ _ _ h=>h) hHeld (by rfl) ?_ ?_;rotate_left
 ·intro wz hSz;(try dsimp only[Lk]at hSz);go_simp;try with_reducible rfl
 try simp only[Act.put,List.setIfInBounds_toArray,List.set_cons_zero,List.set_cons_succ]
 refine wpE_pure 5 (v:=?_) rfl (by kernel_rfl) (fun _ _ _ h=>h) (by rfl) ?_ ?_;rotate_left
 ·intro wz;go_simp;try with_reducible rfl
 try simp only[Act.put,List.setIfInBounds_toArray,List.set_cons_zero,List.set_cons_succ]
 refine wpE_pure 6 (v:=?_) rfl (by kernel_rfl) (fun _ _ _ h=>h) (by rfl) ?_ ?_;rotate_left
 ·intro wz;go_simp;try with_reducible rfl
 try simp only[Act.put,List.setIfInBounds_toArray,List.set_cons_zero,List.set_cons_succ]
 refine wpE_pure 7 (v:=?_) rfl (by kernel_rfl) (fun _ _ _ h=>h) (by rfl) ?_ ?_;rotate_left
 ·intro wz;go_simp;try with_reducible rfl
 try simp only[Act.put,List.setIfInBounds_toArray,List.set_cons_zero,List.set_cons_succ]
 refine wpE_takeN 8 (v:=?_) rfl (by kernel_rfl) (fun _ _ _ h=>h) hHeld (by rfl) ?_ ?_;rotate_left
 ·intro wz hSz;(try dsimp only[Lk]at hSz);go_simp;try with_reducible rfl
 try simp only[Act.put,List.setIfInBounds_toArray,List.set_cons_zero,List.set_cons_succ]
 refine wpE_pure 9 (v:=?_) rfl (by kernel_rfl) (fun _ _ _ h=>h) (by rfl) ?_ ?_;rotate_left
 ·intro wz;go_simp;try with_reducible rfl
 try simp only[Act.put,List.setIfInBounds_toArray,List.set_cons_zero,List.set_cons_succ]
 refine wpE_takeN 10 (v:=?_) rfl (by kernel_rfl) (fun _ _ _ h=>h) hHeld (by rfl) ?_ ?_;rotate_left
 ·intro wz hSz;(try dsimp only[Lk]at hSz);go_simp;try with_reducible rfl
 try simp only[Act.put,List.setIfInBounds_toArray,List.set_cons_zero,List.set_cons_succ]
 refine wpE_takeN 11 (v:=?_) rfl (by kernel_rfl) (fun _ _ _ h=>h) hHeld (by rfl) ?_ ?_;rotate_left
 ·intro wz hSz;(try dsimp only[Lk]at hSz);go_simp;try with_reducible rfl
 try simp only[Act.put,List.setIfInBounds_toArray,List.set_cons_zero,List.set_cons_succ]
 refine wpE_pure 12 (v:=?_) rfl (by kernel_rfl) (fun _ _ _ h=>h) (by rfl) ?_ ?_;rotate_left
 ·intro wz;go_simp;try with_reducible rfl
 try simp only[Act.put,List.setIfInBounds_toArray,List.set_cons_zero,List.set_cons_succ]
 refine wpE_pure 13 (v:=?_) rfl (by kernel_rfl) (fun _ _ _ h=>h) (by rfl) ?_ ?_;rotate_left
 ·intro wz;go_simp;try with_reducible rfl
 try simp only[Act.put,List.setIfInBounds_toArray,List.set_cons_zero,List.set_cons_succ]
 refine wpE_takeN 14 (v:=?_) rfl (by kernel_rfl) (fun _ _ _ h=>h) hHeld (by rfl) ?_ ?_;rotate_left
 ·intro wz hSz;(try dsimp only[Lk]at hSz);go_simp;try with_reducible rfl
 try simp only[Act.put,List.setIfInBounds_toArray,List.set_cons_zero,List.set_cons_succ]
 refine wpE_next 15 rfl (by kernel_rfl) (fun KK hK=>?_)
 go_simp
 go_at_call 123
 refine HC.out.mono ?_
 rintro _ w2 ⟨rfl,hc2⟩
 have HC2:=Lib.hid hc2
 clear hc2
 try dsimp only
 refine hK _ _ (fun h=>absurd h (by decide)) ?_
 clear hK KK
 try simp only[Act.put,List.setIfInBounds_toArray,List.set_cons_zero,List.set_cons_succ]
 refine wpE_done (by kernel_rfl) ?_
 go_wp2_with fail
 go_end0
 have h2:=HC2.out
 rw[HNV.out]at h2
 exact HSB.out.out ⟨rfl,h2⟩
theorem stm_3 (C:FgC) (nm:ByteArray) (args:Exs) (cond:Cds) (body els:Sts) (at_:Int) (hn:nm.size≤9223372036854775807) (hz:szQ args):StmC C 3 nm args cond body els at_:=by
 intro W s u S Z A A2 A3 A4 c c2 c3 c4 h hS hin hx hx2 hx3 hx4 hr f t hf ht
 obtain⟨l,hl⟩:∃y,y=args.len:=⟨_,rfl⟩
 obtain⟨l2,hl2⟩:∃y,y=cond.len:=⟨_,rfl⟩
 obtain⟨l3,hl3⟩:∃y,y=body.len:=⟨_,rfl⟩
 obtain⟨l4,hl4⟩:∃y,y=els.len:=⟨_,rfl⟩
 obtain⟨b,hb⟩:∃b,b=C.b:=⟨_,rfl⟩
 obtain⟨w1,hw1⟩:∃y,y=W.alloc (.cells #[.int .u8 3,.string nm,.slice A l c,.slice A2 l2 c2,.slice A3 l3 c3,.slice A4 l4 c4,.int .i64 at_] 105):=⟨_,rfl⟩
 have hB:=StB.of h hw1
 have hs1:SameS S W w1:=hB.fr.same fun x hx=>⟨Nat.lt_of_lt_of_le (hS x hx) (MkS.base h),id⟩
 have hcu:=Cur.start hB.at0
 have kb:=hB.bk
 have e0:=kb.cell 0
 have e6:=kb.cell 6
 simp only[List.getElem?_toArray,List.getElem?_cons_succ,List.getElem?_cons_zero]at e0 e6
 have zl:=kb.lt
 have HSB:=Lib.hid hB
 have HW:=Lib.hid hw1
 have HB:=Lib.hid hb
 have HC:=Lib.hid ((hcu.fr0 ((Fr.refl NoT w1).drew)).put f t at_ 4 (C.ar.get nm) 0 ⟨hf,ht,in0_8 4 (by decide) (by decide),C.r2 nm,in0_8 0 (by decide) (by decide),hin⟩ args S Z A c hS hz (hx.imp fun _ _ hx=>ExR.keep (hs1.trans ((Fr.refl NoT w1).drew.same fun x hx=>⟨Nat.lt_of_lt_of_le (Nat.lt_of_lt_of_le (hS x hx) (MkS.base h)) HSB.out.fr.size,id⟩)) hx) (hr.less (by unfold szM;omega)))
 obtain⟨⟨v0,v1,v2,v3,v4,v5,hmk⟩,⟨nS,hmS⟩,nA,hmA⟩:=mkS_maps HSB.out.at0
 have hs2:Lk C.b W.heap.size 7 C.mA nm (C.ar.get nm) (.slice A l c) at_ w1.drew:=⟨kb.cell 1,kb.cell 2,kb.cell 6,hmk.cell 7,(hmA.fr ((Fr.refl NoT w1).drew) id).look hn⟩
 obtain⟨nv,hnv⟩:∃y,y=C.ar.get nm:=⟨_,rfl⟩
 obtain⟨m,hm⟩:∃y,y=C.mA:=⟨_,rfl⟩
 rw[←hnv]at HC
 rw[←hm,←hnv,←hb]at hs2
 have HS2:=Lib.hid hs2
 have HNV:=Lib.hid hnv
 rw[←hl,←hl2,←hl3,←hl4,←hb]
 rw[←hb,←hl]at HC
 clear h hS hin hx hx2 hx3 hx4 hr hf ht hl hl2 hl3 hl4 hs1 hcu hB kb hw1 hb hs2 hnv hm hmk hmS hmA hn hz
 go_enter Tryz.func125,Tryz.ntmps125
 go_wp2_with fail
 rw[←HW.out]
 refine wp_region_E (Lk b W.heap.size 7 m nm nv (.slice A l c) at_) (fun i=>decide (i < 15)) (by kernel_rfl) HS2.out (fun hHeld=>?_)
 refine wpE_pure 0 (v:=?_) rfl (by kernel_rfl) (fun _ _ _ h=>h) (by rfl) ?_ ?_;rotate_left
 ·intro wz;go_simp;try with_reducible rfl
 try simp only[Act.put,List.setIfInBounds_toArray,List.set_cons_zero,List.set_cons_succ]
 refine wpE_pure 1 (v:=?_) rfl (by kernel_rfl) (fun _ _ _ h=>h) (by rfl) ?_ ?_;rotate_left
 ·intro wz;go_simp;try with_reducible rfl
 try simp only[Act.put,List.setIfInBounds_toArray,List.set_cons_zero,List.set_cons_succ]
 refine wpE_pure 2 (v:=?_) rfl (by kernel_rfl) (fun _ _ _ h=>h) (by rfl) ?_ ?_;rotate_left
 ·intro wz;go_simp;try with_reducible rfl
 try simp only[Act.put,List.setIfInBounds_toArray,List.set_cons_zero,List.set_cons_succ]
 refine wpE_pure 3 (v:=?_) rfl (by kernel_rfl) (fun _ _ _ h=>h) (by rfl) ?_ ?_;rotate_left
 ·intro wz;go_simp;try with_reducible rfl
 try simp only[Act.put,List.setIfInBounds_toArray,List.set_cons_zero,List.set_cons_succ]
 refine wpE_takeN 4 (v:=?_) rfl (by kernel_rfl) (fun _ _ _ h=>h) hHeld (by rfl) ?_ ?_;rotate_left
 ·intro wz hSz;(try dsimp only[Lk]at hSz);go_simp;try with_reducible rfl
 try simp only[Act.put,List.setIfInBounds_toArray,List.set_cons_zero,List.set_cons_succ]
 refine wpE_pure 5 (v:=?_) rfl (by kernel_rfl) (fun _ _ _ h=>h) (by rfl) ?_ ?_;rotate_left
 ·intro wz;go_simp;try with_reducible rfl
 try simp only[Act.put,List.setIfInBounds_toArray,List.set_cons_zero,List.set_cons_succ]
 refine wpE_pure 6 (v:=?_) rfl (by kernel_rfl) (fun _ _ _ h=>h) (by rfl) ?_ ?_;rotate_left
 ·intro wz;go_simp;try with_reducible rfl
 try simp only[Act.put,List.setIfInBounds_toArray,List.set_cons_zero,List.set_cons_succ]
 refine wpE_pure 7 (v:=?_) rfl (by kernel_rfl) (fun _ _ _ h=>h) (by rfl) ?_ ?_;rotate_left
 ·intro wz;go_simp;try with_reducible rfl
 try simp only[Act.put,List.setIfInBounds_toArray,List.set_cons_zero,List.set_cons_succ]
 refine wpE_takeN 8 (v:=?_) rfl (by kernel_rfl) (fun _ _ _ h=>h) hHeld (by rfl) ?_ ?_;rotate_left
 ·intro wz hSz;(try dsimp only[Lk]at hSz);go_simp;try with_reducible rfl
 try simp only[Act.put,List.setIfInBounds_toArray,List.set_cons_zero,List.set_cons_succ]
 refine wpE_pure 9 (v:=?_) rfl (by kernel_rfl) (fun _ _ _ h=>h) (by rfl) ?_ ?_;rotate_left
 ·intro wz;go_simp;try with_reducible rfl
 try simp only[Act.put,List.setIfInBounds_toArray,List.set_cons_zero,List.set_cons_succ]
 refine wpE_takeN 10 (v:=?_) rfl (by kernel_rfl) (fun _ _ _ h=>h) hHeld (by rfl) ?_ ?_;rotate_left
 ·intro wz hSz;(try dsimp only[Lk]at hSz);go_simp;try with_reducible rfl
 try simp only[Act.put,List.setIfInBounds_toArray,List.set_cons_zero,List.set_cons_succ]
 refine wpE_takeN 11 (v:=?_) rfl (by kernel_rfl) (fun _ _ _ h=>h) hHeld (by rfl) ?_ ?_;rotate_left
 ·intro wz hSz;(try dsimp only[Lk]at hSz);go_simp;try with_reducible rfl
 try simp only[Act.put,List.setIfInBounds_toArray,List.set_cons_zero,List.set_cons_succ]
 refine wpE_pure 12 (v:=?_) rfl (by kernel_rfl) (fun _ _ _ h=>h) (by rfl) ?_ ?_;rotate_left
 ·intro wz;go_simp;try with_reducible rfl
 try simp only[Act.put,List.setIfInBounds_toArray,List.set_cons_zero,List.set_cons_succ]
 refine wpE_pure 13 (v:=?_) rfl (by kernel_rfl) (fun _ _ _ h=>h) (by rfl) ?_ ?_;rotate_left
 ·intro wz;go_simp;try with_reducible rfl
 try simp only[Act.put,List.setIfInBounds_toArray,List.set_cons_zero,List.set_cons_succ]
 refine wpE_takeN 14 (v:=?_) rfl (by kernel_rfl) (fun _ _ _ h=>h) hHeld (by rfl) ?_ ?_;rotate_left
 ·intro wz hSz;(try dsimp only[Lk]at hSz);go_simp;try with_reducible rfl
 try simp only[Act.put,List.setIfInBounds_toArray,List.set_cons_zero,List.set_cons_succ]
 refine wpE_next 15 rfl (by kernel_rfl) (fun KK hK=>?_)
 go_simp
 go_at_call 123
 refine HC.out.mono ?_
 rintro _ w2 ⟨rfl,hc2⟩
 have HC2:=Lib.hid hc2
 clear hc2
 try dsimp only
 refine hK _ _ (fun h=>absurd h (by decide)) ?_
 clear hK KK
 try simp only[Act.put,List.setIfInBounds_toArray,List.set_cons_zero,List.set_cons_succ]
 refine wpE_done (by kernel_rfl) ?_
 go_wp2_with fail
 go_end0
 have h2:=HC2.out
 rw[HNV.out]at h2
 exact HSB.out.out ⟨rfl,h2⟩
theorem stm_4 (C:FgC) (nm:ByteArray) (args:Exs) (cond:Cds) (body els:Sts) (at_:Int) (hn:nm.size≤9223372036854775807) (hz:szQ args):StmC C 4 nm args cond body els at_:=by
 intro W s u S Z A A2 A3 A4 c c2 c3 c4 h hS hin hx hx2 hx3 hx4 hr f t hf ht
 obtain⟨l,hl⟩:∃y,y=args.len:=⟨_,rfl⟩
 obtain⟨l2,hl2⟩:∃y,y=cond.len:=⟨_,rfl⟩
 obtain⟨l3,hl3⟩:∃y,y=body.len:=⟨_,rfl⟩
 obtain⟨l4,hl4⟩:∃y,y=els.len:=⟨_,rfl⟩
 obtain⟨b,hb⟩:∃b,b=C.b:=⟨_,rfl⟩
 obtain⟨w1,hw1⟩:∃y,y=W.alloc (.cells #[.int .u8 4,.string nm,.slice A l c,.slice A2 l2 c2,.slice A3 l3 c3,.slice A4 l4 c4,.int .i64 at_] 105):=⟨_,rfl⟩
 have hB:=StB.of h hw1
 have hs1:SameS S W w1:=hB.fr.same fun x hx=>⟨Nat.lt_of_lt_of_le (hS x hx) (MkS.base h),id⟩
 have hcu:=Cur.start hB.at0
 have kb:=hB.bk
 have e0:=kb.cell 0
 have e6:=kb.cell 6
 simp only[List.getElem?_toArray,List.getElem?_cons_succ,List.getElem?_cons_zero]at e0 e6
 have zl:=kb.lt
 have HSB:=Lib.hid hB
 have HW:=Lib.hid hw1
 have HB:=Lib.hid hb
 have HC:=Lib.hid ((hcu.fr0 ((Fr.refl NoT w1).drew)).put0 f t at_ 5 (C.sc.get nm) 0 ⟨hf,ht,in0_8 5 (by decide) (by decide),C.r1 nm,in0_8 0 (by decide) (by decide),hin⟩ (hr.less (by unfold szM;omega)))
 obtain⟨⟨v0,v1,v2,v3,v4,v5,hmk⟩,⟨nS,hmS⟩,nA,hmA⟩:=mkS_maps HSB.out.at0
 have hs2:Lk C.b W.heap.size 6 C.mS nm (C.sc.get nm) (.slice A l c) at_ w1.drew:=⟨kb.cell 1,kb.cell 2,kb.cell 6,hmk.cell 6,(hmS.fr ((Fr.refl NoT w1).drew) id).look hn⟩
 obtain⟨nv,hnv⟩:∃y,y=C.sc.get nm:=⟨_,rfl⟩
 obtain⟨m,hm⟩:∃y,y=C.mS:=⟨_,rfl⟩
 rw[←hnv]at HC
 rw[←hm,←hnv,←hb]at hs2
 have HS2:=Lib.hid hs2
 have HNV:=Lib.hid hnv
 rw[←hl,←hl2,←hl3,←hl4,←hb]
 rw[←hb]at HC
 clear h hS hin hx hx2 hx3 hx4 hr hf ht hl hl2 hl3 hl4 hs1 hcu hB kb hw1 hb hs2 hnv hm hmk hmS hmA hn hz
 go_enter Tryz.func125,Tryz.ntmps125
 go_wp2_with fail
 rw[←HW.out]
 refine wp_region_E (Lk b W.heap.size 6 m nm nv (.slice A l c) at_) (fun i=>decide (i < 13)) (by kernel_rfl) HS2.out (fun hHeld=>?_)
 refine wpE_pure 0 (v:=?_) rfl (by kernel_rfl) (fun _ _ _ h=>h) (by rfl) ?_ ?_;rotate_left
 ·intro wz;go_simp;try with_reducible rfl
 try simp only[Act.put,List.setIfInBounds_toArray,List.set_cons_zero,List.set_cons_succ]
 refine wpE_pure 1 (v:=?_) rfl (by kernel_rfl) (fun _ _ _ h=>h) (by rfl) ?_ ?_;rotate_left
 ·intro wz;go_simp;try with_reducible rfl
 try simp only[Act.put,List.setIfInBounds_toArray,List.set_cons_zero,List.set_cons_succ]
 refine wpE_pure 2 (v:=?_) rfl (by kernel_rfl) (fun _ _ _ h=>h) (by rfl) ?_ ?_;rotate_left
 ·intro wz;go_simp;try with_reducible rfl
 try simp only[Act.put,List.setIfInBounds_toArray,List.set_cons_zero,List.set_cons_succ]
 refine wpE_pure 3 (v:=?_) rfl (by kernel_rfl) (fun _ _ _ h=>h) (by rfl) ?_ ?_;rotate_left
 ·intro wz;go_simp;try with_reducible rfl
 try simp only[Act.put,List.setIfInBounds_toArray,List.set_cons_zero,List.set_cons_succ]
 refine wpE_takeN 4 (v:=?_) rfl (by kernel_rfl) (fun _ _ _ h=>h) hHeld (by rfl) ?_ ?_;rotate_left
 ·intro wz hSz;(try dsimp only[Lk]at hSz);go_simp;try with_reducible rfl
 try simp only[Act.put,List.setIfInBounds_toArray,List.set_cons_zero,List.set_cons_succ]
 refine wpE_pure 5 (v:=?_) rfl (by kernel_rfl) (fun _ _ _ h=>h) (by rfl) ?_ ?_;rotate_left
 ·intro wz;go_simp;try with_reducible rfl
 try simp only[Act.put,List.setIfInBounds_toArray,List.set_cons_zero,List.set_cons_succ]
 refine wpE_pure 6 (v:=?_) rfl (by kernel_rfl) (fun _ _ _ h=>h) (by rfl) ?_ ?_;rotate_left
 ·intro wz;go_simp;try with_reducible rfl
 try simp only[Act.put,List.setIfInBounds_toArray,List.set_cons_zero,List.set_cons_succ]
 refine wpE_pure 7 (v:=?_) rfl (by kernel_rfl) (fun _ _ _ h=>h) (by rfl) ?_ ?_;rotate_left
 ·intro wz;go_simp;try with_reducible rfl
 try simp only[Act.put,List.setIfInBounds_toArray,List.set_cons_zero,List.set_cons_succ]
 refine wpE_takeN 8 (v:=?_) rfl (by kernel_rfl) (fun _ _ _ h=>h) hHeld (by rfl) ?_ ?_;rotate_left
 ·intro wz hSz;(try dsimp only[Lk]at hSz);go_simp;try with_reducible rfl
 try simp only[Act.put,List.setIfInBounds_toArray,List.set_cons_zero,List.set_cons_succ]
 refine wpE_pure 9 (v:=?_) rfl (by kernel_rfl) (fun _ _ _ h=>h) (by rfl) ?_ ?_;rotate_left
 ·intro wz;go_simp;try with_reducible rfl
 try simp only[Act.put,List.setIfInBounds_toArray,List.set_cons_zero,List.set_cons_succ]
 refine wpE_takeN 10 (v:=?_) rfl (by kernel_rfl) (fun _ _ _ h=>h) hHeld (by rfl) ?_ ?_;rotate_left
 ·intro wz hSz;(try dsimp only[Lk]at hSz);go_simp;try with_reducible rfl
 try simp only[Act.put,List.setIfInBounds_toArray,List.set_cons_zero,List.set_cons_succ]
 refine wpE_takeN 11 (v:=?_) rfl (by kernel_rfl) (fun _ _ _ h=>h) hHeld (by rfl) ?_ ?_;rotate_left
 ·intro wz hSz;(try dsimp only[Lk]at hSz);go_simp;try with_reducible rfl
 try simp only[Act.put,List.setIfInBounds_toArray,List.set_cons_zero,List.set_cons_succ]
 refine wpE_pure 12 (v:=?_) rfl (by kernel_rfl) (fun _ _ _ h=>h) (by rfl) ?_ ?_;rotate_left
 ·intro wz;go_simp;try with_reducible rfl
 try simp only[Act.put,List.setIfInBounds_toArray,List.set_cons_zero,List.set_cons_succ]
 refine wpE_next 13 rfl (by kernel_rfl) (fun KK hK=>?_)
 go_simp
 go_at_call 123
 refine HC.out.mono ?_
 rintro _ w2 ⟨rfl,hc2⟩
 have HC2:=Lib.hid hc2
 clear hc2
 try dsimp only
 refine hK _ _ (fun h=>absurd h (by decide)) ?_
 clear hK KK
 try simp only[Act.put,List.setIfInBounds_toArray,List.set_cons_zero,List.set_cons_succ]
 refine wpE_done (by kernel_rfl) ?_
 go_wp2_with fail
 go_end0
 have h2:=HC2.out
 rw[HNV.out]at h2
 exact HSB.out.out ⟨rfl,h2⟩
end Go.Proofs.YtobegfbdedgmpaaGreatDoor

namespace Go.Proofs.YtobegfbdedgmpaaGreatDoor
open Go.RowKit Go.Shelf

def Cel4 (b o:Nat) (v0 v1 v2 v3:Value) (W:World):Prop:=W.cell? ⟨b,o,none⟩=some v0∧W.cell? ⟨b,o+1,none⟩=some v1∧W.cell? ⟨b,o+2,none⟩=some v2∧W.cell? ⟨b,o+3,none⟩=some v3
def Ex6 (b q:Nat) (at_:Int) (W:World):Prop:=W.cell? ⟨b,4,none⟩=some (.int .i64 1)∧W.cell? ⟨q,6,none⟩=some (.int .i64 at_)
theorem stm_5 (C:FgC) (nm:ByteArray) (args:Exs) (cond:Cds) (body els:Sts) (at_:Int) (k0:Int) (a0:Exs) (o0:Cds) (t0:Int) (r0:Cds) (hcond:cond= .cons k0 a0 o0 t0 r0) (hcc:CondC C k0 a0 o0 t0):StmC C 5 nm args cond body els at_:=by
 intro W s u S Z A A2 A3 A4 c c2 c3 c4 h hS hin hx hx2 hx3 hx4 hr f t hf ht
 obtain⟨l,hl⟩:∃y,y=args.len:=⟨_,rfl⟩
 obtain⟨l2,hl2⟩:∃y,y=cond.len:=⟨_,rfl⟩
 obtain⟨l3,hl3⟩:∃y,y=body.len:=⟨_,rfl⟩
 obtain⟨l4,hl4⟩:∃y,y=els.len:=⟨_,rfl⟩
 obtain⟨b,hb⟩:∃b,b=C.b:=⟨_,rfl⟩
 obtain⟨w1,hw1⟩:∃y,y=W.alloc (.cells #[.int .u8 5,.string nm,.slice A l c,.slice A2 l2 c2,.slice A3 l3 c3,.slice A4 l4 c4,.int .i64 at_] 105):=⟨_,rfl⟩
 have hB:=StB.of h hw1
 have hs1:SameS S W w1:=hB.fr.same fun x hx=>⟨Nat.lt_of_lt_of_le (hS x hx) (MkS.base h),id⟩
 have hcu:=Cur.start hB.at0
 have kb:=hB.bk
 have e0:=kb.cell 0
 have e6:=kb.cell 6
 simp only[List.getElem?_toArray,List.getElem?_cons_succ,List.getElem?_cons_zero]at e0 e6
 have zl:=kb.lt
 have HSB:=Lib.hid hB
 have HW:=Lib.hid hw1
 have HB:=Lib.hid hb
 obtain⟨b2,o2,rfl,hat⟩:=hx2.2.2 (by rw[hcond];simp[Cds.len])
 rw[hcond]at hat
 obtain⟨⟨hbS,_,r1,r2,d0,d3⟩,⟨A5,c5,d1,q1⟩,⟨A6,c6,d2,q2⟩,_⟩:=hat
 have hl20:0 < l2:=by rw[hl2,hcond];simp[Cds.len]
 have hl2m:l2≤9223372036854775807:=by rw[hl2];exact Nat.le_trans hx2.1 hx2.2.1.1
 have hl22:(0:Int) < (l2:Int):=by omega
 obtain⟨l5,hl5⟩:∃y,y=a0.len:=⟨_,rfl⟩
 obtain⟨l6,hl6⟩:∃y,y=o0.len:=⟨_,rfl⟩
 have hszc:szN cond=2+szN o0+szN r0:=by rw[hcond];simp only[szN]
 have hD:∀s' w,Cur C u w1 s' w→Cel4 b2 o2 (.int .u8 k0) (.slice A5 l5 c5) (.slice A6 l6 c6) (.int .i64 t0) w:=fun s' w hc=>by
  have hs:=hs1.trans (hc.same HSB.out.at0 hS)
  exact⟨((hs ⟨b2,o2,none⟩ hbS).1).trans d0,((hs ⟨b2,o2+1,none⟩ hbS).1).trans (by rw[hl5];exact d1),((hs ⟨b2,o2+2,none⟩ hbS).1).trans (by rw[hl6];exact d2),((hs ⟨b2,o2+3,none⟩ hbS).1).trans d3⟩
 have hCD:∀s' w,Cur C u w1 s' w→_:=fun s' w hc=>hc.cond HSB.out.at0 k0 a0 o0 t0 hcc S Z A5 A6 c5 c6 hS r2 (q1.imp fun _ _ hx=>ExR.keep hs1 hx) (q2.imp fun _ _ hx=>CdR.keep hs1 hx)
 rw[←hl5,←hl6,←hb]at hCD
 have HD:=Lib.hid hD
 have HCD:=Lib.hid hCD
 obtain⟨cw,hcw⟩:∃y,y=wayC C.sc C.ar k0 a0 (waysC C.sc C.ar o0) t0:=⟨_,rfl⟩
 rw[←hcw]at HCD
 have hcw2:nthW (waysC C.sc C.ar cond) 0=cw:=by rw[hcond,hcw];rfl
 have hgc:∀f y n s,Grow (2+szN o0) s (cw f y n s):=fun f y n s=>by
  have:=grow_ways C.sc C.ar cond 0 f y n s
  rw[hcw2]at this
  rw[hcond]at this
  exact this
 have HCW:=Lib.hid hcw2
 have hr1:Room (1+((2+szN o0)+1)) s:=hr.less (by unfold szM;omega)
 have hr2:=hr1.after (grow_node s)
 have HND:=Lib.hid (hcu.node (hr.less (by unfold szM;omega)))
 have HIN:=Lib.hid (And.intro hr1.in_ (And.intro hf (And.intro ht (And.intro (hr2.less (show 2+szN o0≤_ from by omega)) (And.intro (fun f y n=>hr2.after (hgc f y n s.node)) hin)))))
 rw[←hb]at HND
 rw[←hl,←hl2,←hl3,←hl4,←hb]
 obtain⟨nd,hnd⟩:∃y,y=s.nodes:=⟨_,rfl⟩
 have HNO:=Lib.hid hnd
 rw[←hnd]at HND HIN
 clear h hS hin hx hx2 hx3 hx4 hr hf ht hl hl2 hl3 hl4 hs1 hcu hB kb hw1 hb hbS r1 r2 d0 d1 d2 d3 q1 q2 hl5 hl6 hD hCD hcw hcw2 hgc hszc hcond hcc hr1 hr2 hnd
 go_enter Tryz.func125,Tryz.ntmps125
 go_wp2_with fail
 rw[←HW.out]
 refine HND.out.mono ?_
 rintro _ w2 ⟨rfl,cu2⟩
 have kbf:=HSB.out.box cu2
 have f0:=kbf.cell 0
 have f3:=kbf.cell 3
 have f6:=kbf.cell 6
 have zf:=kbf.lt
 simp only[List.getElem?_toArray,List.getElem?_cons_succ,List.getElem?_cons_zero]at f0 f3 f6
 clear kbf
 obtain⟨x0,x1,x2,x3⟩:=HD.out _ w2 cu2
 have CU2:=Lib.hid cu2
 clear cu2 HND
 go_wp2_with fail
 refine(HCD.out _ w2 CU2.out).mono ?_
 rintro _ w3a ⟨val,rfl,cu3a,gg,caps,rfl,hg,hway⟩
 have HWY:=Lib.hid (hway HIN.out.2.2.2.1 f t nd HIN.out.2.1 HIN.out.2.2.1 HIN.out.1)
 have HAw3:=Lib.hid cu3a
 unfold Enters at hg
 clear hway cu3a x0 x1 x2 x3
 go_wp2_with fail
 refine HWY.out.mono ?_
 rintro _ w3 ⟨rfl,cu3⟩
 have CU3:=Lib.hid cu3
 clear cu3 hg HWY
 have kbg:=HSB.out.box CU3.out
 have g6:=kbg.cell 6
 have zg:=kbg.lt
 simp only[List.getElem?_toArray,List.getElem?_cons_succ,List.getElem?_cons_zero]at g6
 clear kbg
 have hs3:Ex6 b W.heap.size at_ w3.drew:=⟨by
  obtain⟨u',h1,_⟩:=CU3.out
  have:=(MkS.bk h1).cell 4
  rw[←HB.out]at this
  exact this,g6⟩
 have HC:=Lib.hid ((CU3.out.fr0 ((Fr.refl NoT w3).drew)).put0 nd 1 at_ 8 0 0 ⟨HIN.out.1,in0_64 1 (by decide) (by decide),in0_8 8 (by decide) (by decide),in0_64 0 (by decide) (by decide),in0_8 0 (by decide) (by decide),HIN.out.2.2.2.2.2⟩ (HIN.out.2.2.2.2.1 f t nd))
 rw[←HB.out]at HC
 have HS3:=Lib.hid hs3
 clear hs3
 go_wp2_with fail
 refine wp_region_E (Ex6 b W.heap.size at_) (fun i=>decide (i < 11)) (by kernel_rfl) HS3.out (fun hHeld=>?_)
 refine wpE_pure 0 (v:=?_) rfl (by kernel_rfl) (fun _ _ _ h=>h) (by rfl) ?_ ?_;rotate_left
 ·intro wz;go_simp;try with_reducible rfl
 try simp only[Act.put,List.setIfInBounds_toArray,List.set_cons_zero,List.set_cons_succ]
 refine wpE_pure 1 (v:=?_) rfl (by kernel_rfl) (fun _ _ _ h=>h) (by rfl) ?_ ?_;rotate_left
 ·intro wz;go_simp;try with_reducible rfl
 try simp only[Act.put,List.setIfInBounds_toArray,List.set_cons_zero,List.set_cons_succ]
 refine wpE_pure 2 (v:=?_) rfl (by kernel_rfl) (fun _ _ _ h=>h) (by rfl) ?_ ?_;rotate_left
 ·intro wz;go_simp;try with_reducible rfl
 try simp only[Act.put,List.setIfInBounds_toArray,List.set_cons_zero,List.set_cons_succ]
 refine wpE_pure 3 (v:=?_) rfl (by kernel_rfl) (fun _ _ _ h=>h) (by rfl) ?_ ?_;rotate_left
 ·intro wz;go_simp;try with_reducible rfl
 try simp only[Act.put,List.setIfInBounds_toArray,List.set_cons_zero,List.set_cons_succ]
 refine wpE_pure 4 (v:=?_) rfl (by kernel_rfl) (fun _ _ _ h=>h) (by rfl) ?_ ?_;rotate_left
 ·intro wz;go_simp;try with_reducible rfl
 try simp only[Act.put,List.setIfInBounds_toArray,List.set_cons_zero,List.set_cons_succ]
 refine wpE_pure 5 (v:=?_) rfl (by kernel_rfl) (fun _ _ _ h=>h) (by rfl) ?_ ?_;rotate_left
 ·intro wz;go_simp;try with_reducible rfl
 try simp only[Act.put,List.setIfInBounds_toArray,List.set_cons_zero,List.set_cons_succ]
 refine wpE_takeN 6 (v:=?_) rfl (by kernel_rfl) (fun _ _ _ h=>h) hHeld (by rfl) ?_ ?_;rotate_left
 ·intro wz hSz;(try dsimp only[Ex6]at hSz);go_simp;try with_reducible rfl
 try simp only[Act.put,List.setIfInBounds_toArray,List.set_cons_zero,List.set_cons_succ]
 refine wpE_pure 7 (v:=?_) rfl (by kernel_rfl) (fun _ _ _ h=>h) (by rfl) ?_ ?_;rotate_left
 ·intro wz;go_simp;try with_reducible rfl
 try simp only[Act.put,List.setIfInBounds_toArray,List.set_cons_zero,List.set_cons_succ]
 refine wpE_takeN 8 (v:=?_) rfl (by kernel_rfl) (fun _ _ _ h=>h) hHeld (by rfl) ?_ ?_;rotate_left
 ·intro wz hSz;(try dsimp only[Ex6]at hSz);go_simp;try with_reducible rfl
 try simp only[Act.put,List.setIfInBounds_toArray,List.set_cons_zero,List.set_cons_succ]
 refine wpE_pure 9 (v:=?_) rfl (by kernel_rfl) (fun _ _ _ h=>h) (by rfl) ?_ ?_;rotate_left
 ·intro wz;go_simp;try with_reducible rfl
 try simp only[Act.put,List.setIfInBounds_toArray,List.set_cons_zero,List.set_cons_succ]
 refine wpE_pure 10 (v:=?_) rfl (by kernel_rfl) (fun _ _ _ h=>h) (by rfl) ?_ ?_;rotate_left
 ·intro wz;go_simp;try with_reducible rfl
 try simp only[Act.put,List.setIfInBounds_toArray,List.set_cons_zero,List.set_cons_succ]
 refine wpE_next 11 rfl (by kernel_rfl) (fun KK hK=>?_)
 go_simp
 go_at_call 123
 refine HC.out.mono ?_
 rintro _ w4 ⟨rfl,hc4⟩
 have HC4:=Lib.hid hc4
 clear hc4
 try dsimp only
 refine hK _ _ (fun h=>absurd h (by decide)) ?_
 clear hK KK
 try simp only[Act.put,List.setIfInBounds_toArray,List.set_cons_zero,List.set_cons_succ]
 refine wpE_done (by kernel_rfl) ?_
 go_wp2_with fail
 go_end0
 have h4:=HC4.out
 refine HSB.out.out ⟨rfl,?_⟩
 simp only[stmF,show((5:Int)=1)=False from by decide,show((5:Int)=2)=False from by decide,show((5:Int)=3)=False from by decide,show((5:Int)=4)=False from by decide,show((5:Int)=5)=True from by decide,show((5:Int)=6)=False from by decide,if_true,if_false]
 rw[HCW.out,←HNO.out]
 exact h4
theorem stm_6 (C:FgC) (nm:ByteArray) (args:Exs) (cond:Cds) (body els:Sts) (at_:Int) (k0:Int) (a0:Exs) (o0:Cds) (t0:Int) (r0:Cds) (hcond:cond= .cons k0 a0 o0 t0 r0) (hcc:CondC C k0 a0 o0 t0):StmC C 6 nm args cond body els at_:=by
 intro W s u S Z A A2 A3 A4 c c2 c3 c4 h hS hin hx hx2 hx3 hx4 hr f t hf ht
 obtain⟨l,hl⟩:∃y,y=args.len:=⟨_,rfl⟩
 obtain⟨l2,hl2⟩:∃y,y=cond.len:=⟨_,rfl⟩
 obtain⟨l3,hl3⟩:∃y,y=body.len:=⟨_,rfl⟩
 obtain⟨l4,hl4⟩:∃y,y=els.len:=⟨_,rfl⟩
 obtain⟨b,hb⟩:∃b,b=C.b:=⟨_,rfl⟩
 obtain⟨w1,hw1⟩:∃y,y=W.alloc (.cells #[.int .u8 6,.string nm,.slice A l c,.slice A2 l2 c2,.slice A3 l3 c3,.slice A4 l4 c4,.int .i64 at_] 105):=⟨_,rfl⟩
 have hB:=StB.of h hw1
 have hs1:SameS S W w1:=hB.fr.same fun x hx=>⟨Nat.lt_of_lt_of_le (hS x hx) (MkS.base h),id⟩
 have hcu:=Cur.start hB.at0
 have kb:=hB.bk
 have e0:=kb.cell 0
 have e6:=kb.cell 6
 simp only[List.getElem?_toArray,List.getElem?_cons_succ,List.getElem?_cons_zero]at e0 e6
 have zl:=kb.lt
 have HSB:=Lib.hid hB
 have HW:=Lib.hid hw1
 have HB:=Lib.hid hb
 obtain⟨b2,o2,rfl,hat⟩:=hx2.2.2 (by rw[hcond];simp[Cds.len])
 rw[hcond]at hat
 obtain⟨⟨hbS,_,r1,r2,d0,d3⟩,⟨A5,c5,d1,q1⟩,⟨A6,c6,d2,q2⟩,_⟩:=hat
 have hl20:0 < l2:=by rw[hl2,hcond];simp[Cds.len]
 have hl2m:l2≤9223372036854775807:=by rw[hl2];exact Nat.le_trans hx2.1 hx2.2.1.1
 have hl22:(0:Int) < (l2:Int):=by omega
 obtain⟨l5,hl5⟩:∃y,y=a0.len:=⟨_,rfl⟩
 obtain⟨l6,hl6⟩:∃y,y=o0.len:=⟨_,rfl⟩
 have hszc:szN cond=2+szN o0+szN r0:=by rw[hcond];simp only[szN]
 have hD:∀s' w,Cur C u w1 s' w→Cel4 b2 o2 (.int .u8 k0) (.slice A5 l5 c5) (.slice A6 l6 c6) (.int .i64 t0) w:=fun s' w hc=>by
  have hs:=hs1.trans (hc.same HSB.out.at0 hS)
  exact⟨((hs ⟨b2,o2,none⟩ hbS).1).trans d0,((hs ⟨b2,o2+1,none⟩ hbS).1).trans (by rw[hl5];exact d1),((hs ⟨b2,o2+2,none⟩ hbS).1).trans (by rw[hl6];exact d2),((hs ⟨b2,o2+3,none⟩ hbS).1).trans d3⟩
 have hCD:∀s' w,Cur C u w1 s' w→_:=fun s' w hc=>hc.cond HSB.out.at0 k0 a0 o0 t0 hcc S Z A5 A6 c5 c6 hS r2 (q1.imp fun _ _ hx=>ExR.keep hs1 hx) (q2.imp fun _ _ hx=>CdR.keep hs1 hx)
 rw[←hl5,←hl6,←hb]at hCD
 have HD:=Lib.hid hD
 have HCD:=Lib.hid hCD
 obtain⟨cw,hcw⟩:∃y,y=wayC C.sc C.ar k0 a0 (waysC C.sc C.ar o0) t0:=⟨_,rfl⟩
 rw[←hcw]at HCD
 have hcw2:nthW (waysC C.sc C.ar cond) 0=cw:=by rw[hcond,hcw];rfl
 have hgc:∀f y n s,Grow (2+szN o0) s (cw f y n s):=fun f y n s=>by
  have:=grow_ways C.sc C.ar cond 0 f y n s
  rw[hcw2]at this
  rw[hcond]at this
  exact this
 have HCW:=Lib.hid hcw2
 have hr1:Room (1+((2+szN o0)+1)) s:=hr.less (by unfold szM;omega)
 have hr2:=hr1.after (grow_node s)
 have HND:=Lib.hid (hcu.node (hr.less (by unfold szM;omega)))
 have HIN:=Lib.hid (And.intro hr1.in_ (And.intro hf (And.intro ht (And.intro (hr2.less (show 2+szN o0≤_ from by omega)) (And.intro (fun f y n=>hr2.after (hgc f y n s.node)) hin)))))
 rw[←hb]at HND
 rw[←hl,←hl2,←hl3,←hl4,←hb]
 obtain⟨nd,hnd⟩:∃y,y=s.nodes:=⟨_,rfl⟩
 have HNO:=Lib.hid hnd
 rw[←hnd]at HND HIN
 clear h hS hin hx hx2 hx3 hx4 hr hf ht hl hl2 hl3 hl4 hs1 hcu hB kb hw1 hb hbS r1 r2 d0 d1 d2 d3 q1 q2 hl5 hl6 hD hCD hcw hcw2 hgc hszc hcond hcc hr1 hr2 hnd
 go_enter Tryz.func125,Tryz.ntmps125
 go_wp2_with fail
 rw[←HW.out]
 refine HND.out.mono ?_
 rintro _ w2 ⟨rfl,cu2⟩
 have kbf:=HSB.out.box cu2
 have f0:=kbf.cell 0
 have f3:=kbf.cell 3
 have f6:=kbf.cell 6
 have zf:=kbf.lt
 simp only[List.getElem?_toArray,List.getElem?_cons_succ,List.getElem?_cons_zero]at f0 f3 f6
 clear kbf
 obtain⟨x0,x1,x2,x3⟩:=HD.out _ w2 cu2
 have CU2:=Lib.hid cu2
 clear cu2 HND
 go_wp2_with fail
 refine(HCD.out _ w2 CU2.out).mono ?_
 rintro _ w3a ⟨val,rfl,cu3a,gg,caps,rfl,hg,hway⟩
 have HWY:=Lib.hid (hway HIN.out.2.2.2.1 f t nd HIN.out.2.1 HIN.out.2.2.1 HIN.out.1)
 have HAw3:=Lib.hid cu3a
 unfold Enters at hg
 clear hway cu3a x0 x1 x2 x3
 go_wp2_with fail
 refine HWY.out.mono ?_
 rintro _ w3 ⟨rfl,cu3⟩
 have CU3:=Lib.hid cu3
 clear cu3 hg HWY
 have kbg:=HSB.out.box CU3.out
 have g6:=kbg.cell 6
 have zg:=kbg.lt
 simp only[List.getElem?_toArray,List.getElem?_cons_succ,List.getElem?_cons_zero]at g6
 clear kbg
 have hs3:Ex6 b W.heap.size at_ w3.drew:=⟨by
  obtain⟨u',h1,_⟩:=CU3.out
  have:=(MkS.bk h1).cell 4
  rw[←HB.out]at this
  exact this,g6⟩
 have HC:=Lib.hid ((CU3.out.fr0 ((Fr.refl NoT w3).drew)).put0 nd 1 at_ 7 0 0 ⟨HIN.out.1,in0_64 1 (by decide) (by decide),in0_8 7 (by decide) (by decide),in0_64 0 (by decide) (by decide),in0_8 0 (by decide) (by decide),HIN.out.2.2.2.2.2⟩ (HIN.out.2.2.2.2.1 f t nd))
 rw[←HB.out]at HC
 have HS3:=Lib.hid hs3
 clear hs3
 go_wp2_with fail
 refine wp_region_E (Ex6 b W.heap.size at_) (fun i=>decide (i < 11)) (by kernel_rfl) HS3.out (fun hHeld=>?_)
 refine wpE_pure 0 (v:=?_) rfl (by kernel_rfl) (fun _ _ _ h=>h) (by rfl) ?_ ?_;rotate_left
 ·intro wz;go_simp;try with_reducible rfl
 try simp only[Act.put,List.setIfInBounds_toArray,List.set_cons_zero,List.set_cons_succ]
 refine wpE_pure 1 (v:=?_) rfl (by kernel_rfl) (fun _ _ _ h=>h) (by rfl) ?_ ?_;rotate_left
 ·intro wz;go_simp;try with_reducible rfl
 try simp only[Act.put,List.setIfInBounds_toArray,List.set_cons_zero,List.set_cons_succ]
 refine wpE_pure 2 (v:=?_) rfl (by kernel_rfl) (fun _ _ _ h=>h) (by rfl) ?_ ?_;rotate_left
 ·intro wz;go_simp;try with_reducible rfl
 try simp only[Act.put,List.setIfInBounds_toArray,List.set_cons_zero,List.set_cons_succ]
 refine wpE_pure 3 (v:=?_) rfl (by kernel_rfl) (fun _ _ _ h=>h) (by rfl) ?_ ?_;rotate_left
 ·intro wz;go_simp;try with_reducible rfl
 try simp only[Act.put,List.setIfInBounds_toArray,List.set_cons_zero,List.set_cons_succ]
 refine wpE_pure 4 (v:=?_) rfl (by kernel_rfl) (fun _ _ _ h=>h) (by rfl) ?_ ?_;rotate_left
 ·intro wz;go_simp;try with_reducible rfl
 try simp only[Act.put,List.setIfInBounds_toArray,List.set_cons_zero,List.set_cons_succ]
 refine wpE_pure 5 (v:=?_) rfl (by kernel_rfl) (fun _ _ _ h=>h) (by rfl) ?_ ?_;rotate_left
 ·intro wz;go_simp;try with_reducible rfl
 try simp only[Act.put,List.setIfInBounds_toArray,List.set_cons_zero,List.set_cons_succ]
 refine wpE_takeN 6 (v:=?_) rfl (by kernel_rfl) (fun _ _ _ h=>h) hHeld (by rfl) ?_ ?_;rotate_left
 ·intro wz hSz;(try dsimp only[Ex6]at hSz);go_simp;try with_reducible rfl
 try simp only[Act.put,List.setIfInBounds_toArray,List.set_cons_zero,List.set_cons_succ]
 refine wpE_pure 7 (v:=?_) rfl (by kernel_rfl) (fun _ _ _ h=>h) (by rfl) ?_ ?_;rotate_left
 ·intro wz;go_simp;try with_reducible rfl
 try simp only[Act.put,List.setIfInBounds_toArray,List.set_cons_zero,List.set_cons_succ]
 refine wpE_takeN 8 (v:=?_) rfl (by kernel_rfl) (fun _ _ _ h=>h) hHeld (by rfl) ?_ ?_;rotate_left
 ·intro wz hSz;(try dsimp only[Ex6]at hSz);go_simp;try with_reducible rfl
 try simp only[Act.put,List.setIfInBounds_toArray,List.set_cons_zero,List.set_cons_succ]
 refine wpE_pure 9 (v:=?_) rfl (by kernel_rfl) (fun _ _ _ h=>h) (by rfl) ?_ ?_;rotate_left
 ·intro wz;go_simp;try with_reducible rfl
 try simp only[Act.put,List.setIfInBounds_toArray,List.set_cons_zero,List.set_cons_succ]
 refine wpE_pure 10 (v:=?_) rfl (by kernel_rfl) (fun _ _ _ h=>h) (by rfl) ?_ ?_;rotate_left
 ·intro wz;go_simp;try with_reducible rfl
 try simp only[Act.put,List.setIfInBounds_toArray,List.set_cons_zero,List.set_cons_succ]
 refine wpE_next 11 rfl (by kernel_rfl) (fun KK hK=>?_)
 go_simp
 go_at_call 123
 refine HC.out.mono ?_
 rintro _ w4 ⟨rfl,hc4⟩
 have HC4:=Lib.hid hc4
 clear hc4
 try dsimp only
 refine hK _ _ (fun h=>absurd h (by decide)) ?_
 clear hK KK
 try simp only[Act.put,List.setIfInBounds_toArray,List.set_cons_zero,List.set_cons_succ]
 refine wpE_done (by kernel_rfl) ?_
 go_wp2_with fail
 go_end0
 have h4:=HC4.out
 refine HSB.out.out ⟨rfl,?_⟩
 simp only[stmF,show((6:Int)=1)=False from by decide,show((6:Int)=2)=False from by decide,show((6:Int)=3)=False from by decide,show((6:Int)=4)=False from by decide,show((6:Int)=5)=False from by decide,show((6:Int)=6)=True from by decide,if_true,if_false]
 rw[HCW.out,←HNO.out]
 exact h4
end Go.Proofs.YtobegfbdedgmpaaGreatDoor
