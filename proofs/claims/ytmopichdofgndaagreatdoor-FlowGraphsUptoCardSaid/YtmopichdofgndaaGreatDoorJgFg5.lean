/- flow's maker: a statement: skip, set, store, read. -/
import Derived.Test.YtmopichdofgndaaGreatDoorJnFg3
set_option linter.all false
set_option maxHeartbeats 3200000
set_option maxRecDepth 100000
namespace Go.Proofs.YtmopichdofgndaaGreatDoor
open Go.RowKit Go.Shelf
def StmC (C:FgC)(k:Int)(nm:ByteArray)(args:Exs)(cond:Cds)(body els:Sts)(at_:Int):Prop:=
 ∀(W:World)(s:FgS)(u:Value)(S:Nat->Prop)(Z:Prop)(A A2 A3 A4:Option Addr)(c c2 c3 c4:Nat),C.At s u W->(∀x,S x->x < C.B)->in64 at_->SlR (λb o=>ExR W S Z args b o) args.len 64 A c->SlR (λb o=>CdR W S Z cond b o) cond.len 64 A2 c2->SlR (λb o=>StR W S Z body b o) body.len 128 A3 c3->SlR (λb o=>StR W S Z els b o) els.len 128 A4 c4->Room (szM cond (szT body) (szT els)) s->∀f t,in64 f->in64 t->
  Calls Tryz.prog 140 #[.pointer (some ⟨C.b,0,none⟩),.agg #[.int .u8 k,.string nm,.slice A args.len c,.slice A2 cond.len c2,.slice A3 body.len c3,.slice A4 els.len c4,.int .i64 at_],.int .i64 f,.int .i64 t] W (MkP C (stmF C.sc C.ar k nm args (zaw C.sc C.ar cond) (mksS C.sc C.ar body) (mksS C.sc C.ar els) at_ f t s) u W)
def FBlk (C:FgC)(xs:Sts):Prop:=
 ∀(W:World)(s:FgS)(u:Value)(S:Nat->Prop)(Z:Prop)(A:Option Addr)(c:Nat),C.At s u W->(∀x,S x->x < C.B)->SlR (λb o=>StR W S Z xs b o) xs.len 128 A c->Room (1+szT xs) s->∀f t a,in64 f->in64 t->in64 a->
  Calls Tryz.prog 69 #[.pointer (some ⟨C.b,0,none⟩),.slice A xs.len c,.int .i64 f,.int .i64 t,.int .i64 a] W (MkP C (blkF C.sc C.ar (mksS C.sc C.ar xs) f t a s) u W)
structure StB (C:FgC)(u:Value)(W w1:World)(s0:FgS)(cs:Array Value):Prop where
 at0:C.At s0 u w1
 bk:Bk w1 W.heap.size 39 cs
 own:¬MOwn C.b u W.heap.size
 fr:Fr NoT W w1
section
variable {C:FgC} {u:Value} {W w1 w:World} {s s0:FgS} {cs:Array Value}
theorem StB.of (h:C.At s u W)(e:w1=W.alloc (.cells cs 39)):StB C u W w1 s cs:=by
 have hf:Fr NoT W w1:=by rw[e];exact(Fr.refl _ _).alloc _
 exact⟨h.fr0 hf,by rw[e];exact Bk.new _ _ _,MkS.new h (lrq _),hf⟩
theorem StB.box (h:StB C u W w1 s0 cs)(hc:Cur C u w1 s w):Bk w W.heap.size 39 cs:=hc.bk h.bk h.own
theorem StB.out {e:Ending}{w':World}(h:StB C u W w1 s0 cs)(hc:CurP C u w1 s e w'):MkP C s u W e w':=by
 obtain⟨he,u',h1,h2⟩:=hc;exact⟨u',he,h1,(Made.of h.fr).trans h2⟩
theorem Cur.block {xs:Sts}(h:Cur C u W s w)(h0:C.At s0 u W)(hc:FBlk C xs)(S:Nat->Prop)(Z:Prop)(A:Option Addr)(c:Nat)(hS:∀x,S x->x < C.B)(hx:SlR (λb o=>StR W S Z xs b o) xs.len 128 A c)(hr:Room (1+szT xs) s)(f t a:Int)(hf:in64 f)(ht:in64 t)(ha:in64 a):
  Calls Tryz.prog 69 #[.pointer (some ⟨C.b,0,none⟩),.slice A xs.len c,.int .i64 f,.int .i64 t,.int .i64 a] w (CurP C u W (blkF C.sc C.ar (mksS C.sc C.ar xs) f t a s)):=by
 have hs:=h.same h0 hS;obtain⟨u',h1,h2⟩:=h;exact(hc w s u' S Z A c h1 hS (hx.imp λ_ _ hx=>StR.keep hs hx) hr f t a hf ht ha).mono λe w' h=>Cur.of h2 h
end
theorem stm_1 (C:FgC)(nm:ByteArray)(args:Exs)(cond:Cds)(body els:Sts)(at_:Int):StmC C 1 nm args cond body els at_:=by
 intro W s u S Z A A2 A3 A4 c c2 c3 c4 h hS Gb hx Fv Ls FQ hr f t hf ht;obtain⟨l,hl⟩:=nmq args.len;obtain⟨l2,Gl⟩:=nmq cond.len;obtain⟨l3,Gz⟩:=nmq body.len;obtain⟨l4,Gy⟩:=nmq els.len;obtain⟨b,hb⟩:=nmq C.b;obtain⟨w1,Hc⟩:=nmq (W.alloc (.cells #[.int .u8 1,.string nm,.slice A l c,.slice A2 l2 c2,.slice A3 l3 c3,.slice A4 l4 c4,.int .i64 at_] 39));have hB:=StB.of h Hc;have Fs:SameS S W w1:=hB.fr.same λx hx=>⟨ltq (hS x hx) (MkS.base h),id⟩;have LB:=Cur.start hB.at0;have kb:=hB.bk;have e0:=kb.cell 0;have e6:=kb.cell 6;simp only[getsL]at e0 e6;have zl:=kb.lt;have JB:=hdq hB;have HW:=hdq Hc;have HB:=hdq hb;have HC:=hdq (LB.put0 f t at_ 2 0 0 ⟨hf,ht,zbj 2 (by decide) (by decide),zbR 0 (by decide) (by decide),zbj 0 (by decide) (by decide),Gb⟩ (hr.less (by unfold szM;omega)));rw[<-hl,<-Gl,<-Gz,<-Gy,<-hb];rw[<-hb]at HC;clear h hS Gb hx Fv Ls FQ hr hf ht hl Gl Gz Gy Fs LB hB kb Hc hb;go_enter Tryz.func140,Tryz.ntmps140;go_wp2_with fail;rw[<-HW.out];refine HC.mono ?_;rintro _ w2 ⟨rfl,KG⟩;have FZ:=hdq KG;clear KG;go_wp2_with fail;go_end0;exact JB.out.out ⟨rfl,FZ.out⟩
def Lk (b q i m:Nat)(nm:ByteArray)(nv:Int)(sl:Value)(at_:Int)(W:World):Prop:=W.cell? ⟨q,1,none⟩=some (.string nm)/\W.cell? ⟨q,2,none⟩=some sl/\W.cell? ⟨q,6,none⟩=some (.int .i64 at_)/\W.cell? ⟨b,i,none⟩=some (.map (some m))/\(Instr.lookup 132 (.map (some m)) (.string nm) false).run Tryz.prog W= .ok (.int .i64 nv) W
theorem zfl {C:FgC}{s:FgS}{u:Value}{w:World}(h:C.At s u w):(∃v0 v1 v2 v3 v4 v5,Bk w C.b 134 #[v0,v1,v2,v3,v4,v5,.map (some C.mS),.map (some C.mA)])/\(∃n,NoM w C.mS n C.sc)/\∃n,NoM w C.mA n C.ar:=⟨⟨_,_,_,_,_,_,MkS.bk h⟩,MkS.maps h⟩
theorem stm_2 (C:FgC)(nm:ByteArray)(args:Exs)(cond:Cds)(body els:Sts)(at_:Int)(hn:nm.size<=9223372036854775807)(hz:szQ args):StmC C 2 nm args cond body els at_:=by
 intro W s u S Z A A2 A3 A4 c c2 c3 c4 h hS Gb hx Fv Ls FQ hr f t hf ht;obtain⟨l,hl⟩:=nmq args.len;obtain⟨l2,Gl⟩:=nmq cond.len;obtain⟨l3,Gz⟩:=nmq body.len;obtain⟨l4,Gy⟩:=nmq els.len;obtain⟨b,hb⟩:=nmq C.b;obtain⟨w1,Hc⟩:=nmq (W.alloc (.cells #[.int .u8 2,.string nm,.slice A l c,.slice A2 l2 c2,.slice A3 l3 c3,.slice A4 l4 c4,.int .i64 at_] 39));have hB:=StB.of h Hc;have Fs:SameS S W w1:=hB.fr.same λx hx=>⟨ltq (hS x hx) (MkS.base h),id⟩;have LB:=Cur.start hB.at0;have kb:=hB.bk;have e0:=kb.cell 0;have e6:=kb.cell 6;simp only[getsL]at e0 e6;have zl:=kb.lt;have JB:=hdq hB;have HW:=hdq Hc;have HB:=hdq hb;have HC:=hdq ((LB.fr0 ((Fr.refl NoT w1).drew)).put f t at_ 3 (C.sc.get nm) 0 ⟨hf,ht,zbj 3 (by decide) (by decide),C.r1 nm,zbj 0 (by decide) (by decide),Gb⟩ args S Z A c hS hz (hx.imp λ_ _ hx=>ExR.keep (Fs.trans ((Fr.refl NoT w1).drew.same λx hx=>⟨ltq (ltq (hS x hx) (MkS.base h)) JB.fr.size,id⟩)) hx) (hr.less (by unfold szM;omega)));obtain⟨⟨v0,v1,v2,v3,v4,v5,Q8⟩,⟨nS,Qz⟩,nA,Re⟩:=zfl JB.at0;have Ft:Lk C.b W.heap.size 6 C.mS nm (C.sc.get nm) (.slice A l c) at_ w1.drew:=⟨kb.cell 1,kb.cell 2,kb.cell 6,Q8.cell 6,(Qz.fr ((Fr.refl NoT w1).drew) id).look hn⟩;obtain⟨nv,Ku⟩:=nmq (C.sc.get nm);obtain⟨m,hm⟩:=nmq C.mS;rw[<-Ku]at HC;rw[<-hm,<-Ku,<-hb]at Ft;have Mx:=hdq Ft;have Rg:=hdq Ku;rw[<-hl,<-Gl,<-Gz,<-Gy,<-hb];rw[<-hb,<-hl]at HC;clear h hS Gb hx Fv Ls FQ hr hf ht hl Gl Gz Gy Fs LB hB kb Hc hb Ft Ku hm Q8 Qz Re hn hz;go_enter Tryz.func140,Tryz.ntmps140
 go_wp2_with fail;rw[<-HW.out];refine zad (Lk b W.heap.size 6 m nm nv (.slice A l c) at_) (λi=>decide (i < 15)) (by kernel_rfl) Mx.out (λhHeld=>?_);refine zaa 0 ?_;simp only[putsL];refine zaa 1 ?_;simp only[putsL];refine zaa 2 ?_;simp only[putsL];refine zaa 3 ?_;simp only[putsL];refine zas 4 (v:=?_) rfl (by kernel_rfl) (λ_ _ _ h=>h) hHeld (by rfl) ?_ ?_;rotate_left
 ·intro wz Gq;(try dsimp only[Lk]at Gq);go_simp;try with_reducible rfl
 try simp only[putsL]
 refine zaa 5 ?_;simp only[putsL];refine zaa 6 ?_;simp only[putsL];refine zaa 7 ?_;simp only[putsL];refine zas 8 (v:=?_) rfl (by kernel_rfl) (λ_ _ _ h=>h) hHeld (by rfl) ?_ ?_;rotate_left
 ·intro wz Gq;(try dsimp only[Lk]at Gq);go_simp;try with_reducible rfl
 try simp only[putsL]
 refine zaa 9 ?_;simp only[putsL];refine zas 10 (v:=?_) rfl (by kernel_rfl) (λ_ _ _ h=>h) hHeld (by rfl) ?_ ?_;rotate_left
 ·intro wz Gq;(try dsimp only[Lk]at Gq);go_simp;try with_reducible rfl
 try simp only[putsL]
 refine zas 11 (v:=?_) rfl (by kernel_rfl) (λ_ _ _ h=>h) hHeld (by rfl) ?_ ?_;rotate_left
 ·intro wz Gq;(try dsimp only[Lk]at Gq);go_simp;try with_reducible rfl
 try simp only[putsL]
 refine zaa 12 ?_;simp only[putsL];refine zaa 13 ?_;simp only[putsL];refine zas 14 (v:=?_) rfl (by kernel_rfl) (λ_ _ _ h=>h) hHeld (by rfl) ?_ ?_;rotate_left
 ·intro wz Gq;(try dsimp only[Lk]at Gq);go_simp;try with_reducible rfl
 try simp only[putsL]
 refine zab 15 rfl (by kernel_rfl) (λKK hK=>?_);go_simp;go_at_call 138;refine HC.mono ?_;rintro _ w2 ⟨rfl,KG⟩;have FZ:=hdq KG;clear KG;try dsimp only
 refine hK _ _ (λh=>absurd h (by decide)) ?_;clear hK KK;try simp only[putsL]
 refine zai (by kernel_rfl) ?_;go_wp2_with fail;go_end0;have h2:=FZ.out;rw[Rg.out]at h2;exact JB.out.out ⟨rfl,h2⟩
theorem stm_3 (C:FgC)(nm:ByteArray)(args:Exs)(cond:Cds)(body els:Sts)(at_:Int)(hn:nm.size<=9223372036854775807)(hz:szQ args):StmC C 3 nm args cond body els at_:=by
 intro W s u S Z A A2 A3 A4 c c2 c3 c4 h hS Gb hx Fv Ls FQ hr f t hf ht;obtain⟨l,hl⟩:=nmq args.len;obtain⟨l2,Gl⟩:=nmq cond.len;obtain⟨l3,Gz⟩:=nmq body.len;obtain⟨l4,Gy⟩:=nmq els.len;obtain⟨b,hb⟩:=nmq C.b;obtain⟨w1,Hc⟩:=nmq (W.alloc (.cells #[.int .u8 3,.string nm,.slice A l c,.slice A2 l2 c2,.slice A3 l3 c3,.slice A4 l4 c4,.int .i64 at_] 39));have hB:=StB.of h Hc;have Fs:SameS S W w1:=hB.fr.same λx hx=>⟨ltq (hS x hx) (MkS.base h),id⟩;have LB:=Cur.start hB.at0;have kb:=hB.bk;have e0:=kb.cell 0;have e6:=kb.cell 6;simp only[getsL]at e0 e6;have zl:=kb.lt;have JB:=hdq hB;have HW:=hdq Hc;have HB:=hdq hb;have HC:=hdq ((LB.fr0 ((Fr.refl NoT w1).drew)).put f t at_ 4 (C.ar.get nm) 0 ⟨hf,ht,zbj 4 (by decide) (by decide),C.r2 nm,zbj 0 (by decide) (by decide),Gb⟩ args S Z A c hS hz (hx.imp λ_ _ hx=>ExR.keep (Fs.trans ((Fr.refl NoT w1).drew.same λx hx=>⟨ltq (ltq (hS x hx) (MkS.base h)) JB.fr.size,id⟩)) hx) (hr.less (by unfold szM;omega)));obtain⟨⟨v0,v1,v2,v3,v4,v5,Q8⟩,⟨nS,Qz⟩,nA,Re⟩:=zfl JB.at0;have Ft:Lk C.b W.heap.size 7 C.mA nm (C.ar.get nm) (.slice A l c) at_ w1.drew:=⟨kb.cell 1,kb.cell 2,kb.cell 6,Q8.cell 7,(Re.fr ((Fr.refl NoT w1).drew) id).look hn⟩;obtain⟨nv,Ku⟩:=nmq (C.ar.get nm);obtain⟨m,hm⟩:=nmq C.mA;rw[<-Ku]at HC;rw[<-hm,<-Ku,<-hb]at Ft;have Mx:=hdq Ft;have Rg:=hdq Ku;rw[<-hl,<-Gl,<-Gz,<-Gy,<-hb];rw[<-hb,<-hl]at HC;clear h hS Gb hx Fv Ls FQ hr hf ht hl Gl Gz Gy Fs LB hB kb Hc hb Ft Ku hm Q8 Qz Re hn hz;go_enter Tryz.func140,Tryz.ntmps140
 go_wp2_with fail;rw[<-HW.out];refine zad (Lk b W.heap.size 7 m nm nv (.slice A l c) at_) (λi=>decide (i < 15)) (by kernel_rfl) Mx.out (λhHeld=>?_);refine zaa 0 ?_;simp only[putsL];refine zaa 1 ?_;simp only[putsL];refine zaa 2 ?_;simp only[putsL];refine zaa 3 ?_;simp only[putsL];refine zas 4 (v:=?_) rfl (by kernel_rfl) (λ_ _ _ h=>h) hHeld (by rfl) ?_ ?_;rotate_left
 ·intro wz Gq;(try dsimp only[Lk]at Gq);go_simp;try with_reducible rfl
 try simp only[putsL]
 refine zaa 5 ?_;simp only[putsL];refine zaa 6 ?_;simp only[putsL];refine zaa 7 ?_;simp only[putsL];refine zas 8 (v:=?_) rfl (by kernel_rfl) (λ_ _ _ h=>h) hHeld (by rfl) ?_ ?_;rotate_left
 ·intro wz Gq;(try dsimp only[Lk]at Gq);go_simp;try with_reducible rfl
 try simp only[putsL]
 refine zaa 9 ?_;simp only[putsL];refine zas 10 (v:=?_) rfl (by kernel_rfl) (λ_ _ _ h=>h) hHeld (by rfl) ?_ ?_;rotate_left
 ·intro wz Gq;(try dsimp only[Lk]at Gq);go_simp;try with_reducible rfl
 try simp only[putsL]
 refine zas 11 (v:=?_) rfl (by kernel_rfl) (λ_ _ _ h=>h) hHeld (by rfl) ?_ ?_;rotate_left
 ·intro wz Gq;(try dsimp only[Lk]at Gq);go_simp;try with_reducible rfl
 try simp only[putsL]
 refine zaa 12 ?_;simp only[putsL];refine zaa 13 ?_;simp only[putsL];refine zas 14 (v:=?_) rfl (by kernel_rfl) (λ_ _ _ h=>h) hHeld (by rfl) ?_ ?_;rotate_left
 ·intro wz Gq;(try dsimp only[Lk]at Gq);go_simp;try with_reducible rfl
 try simp only[putsL]
 refine zab 15 rfl (by kernel_rfl) (λKK hK=>?_);go_simp;go_at_call 138;refine HC.mono ?_;rintro _ w2 ⟨rfl,KG⟩;have FZ:=hdq KG;clear KG;try dsimp only
 refine hK _ _ (λh=>absurd h (by decide)) ?_;clear hK KK;try simp only[putsL]
 refine zai (by kernel_rfl) ?_;go_wp2_with fail;go_end0;have h2:=FZ.out;rw[Rg.out]at h2;exact JB.out.out ⟨rfl,h2⟩
theorem stm_4 (C:FgC)(nm:ByteArray)(args:Exs)(cond:Cds)(body els:Sts)(at_:Int)(hn:nm.size<=9223372036854775807)(hz:szQ args):StmC C 4 nm args cond body els at_:=by
 intro W s u S Z A A2 A3 A4 c c2 c3 c4 h hS Gb hx Fv Ls FQ hr f t hf ht;obtain⟨l,hl⟩:=nmq args.len;obtain⟨l2,Gl⟩:=nmq cond.len;obtain⟨l3,Gz⟩:=nmq body.len;obtain⟨l4,Gy⟩:=nmq els.len;obtain⟨b,hb⟩:=nmq C.b;obtain⟨w1,Hc⟩:=nmq (W.alloc (.cells #[.int .u8 4,.string nm,.slice A l c,.slice A2 l2 c2,.slice A3 l3 c3,.slice A4 l4 c4,.int .i64 at_] 39));have hB:=StB.of h Hc;have Fs:SameS S W w1:=hB.fr.same λx hx=>⟨ltq (hS x hx) (MkS.base h),id⟩;have LB:=Cur.start hB.at0;have kb:=hB.bk;have e0:=kb.cell 0;have e6:=kb.cell 6;simp only[getsL]at e0 e6;have zl:=kb.lt;have JB:=hdq hB;have HW:=hdq Hc;have HB:=hdq hb;have HC:=hdq ((LB.fr0 ((Fr.refl NoT w1).drew)).put0 f t at_ 5 (C.sc.get nm) 0 ⟨hf,ht,zbj 5 (by decide) (by decide),C.r1 nm,zbj 0 (by decide) (by decide),Gb⟩ (hr.less (by unfold szM;omega)));obtain⟨⟨v0,v1,v2,v3,v4,v5,Q8⟩,⟨nS,Qz⟩,nA,Re⟩:=zfl JB.at0;have Ft:Lk C.b W.heap.size 6 C.mS nm (C.sc.get nm) (.slice A l c) at_ w1.drew:=⟨kb.cell 1,kb.cell 2,kb.cell 6,Q8.cell 6,(Qz.fr ((Fr.refl NoT w1).drew) id).look hn⟩;obtain⟨nv,Ku⟩:=nmq (C.sc.get nm);obtain⟨m,hm⟩:=nmq C.mS;rw[<-Ku]at HC;rw[<-hm,<-Ku,<-hb]at Ft;have Mx:=hdq Ft;have Rg:=hdq Ku;rw[<-hl,<-Gl,<-Gz,<-Gy,<-hb];rw[<-hb]at HC;clear h hS Gb hx Fv Ls FQ hr hf ht hl Gl Gz Gy Fs LB hB kb Hc hb Ft Ku hm Q8 Qz Re hn hz;go_enter Tryz.func140,Tryz.ntmps140;go_wp2_with fail;rw[<-HW.out];refine zad (Lk b W.heap.size 6 m nm nv (.slice A l c) at_) (λi=>decide (i < 13)) (by kernel_rfl) Mx.out (λhHeld=>?_)
 refine zaa 0 ?_;simp only[putsL];refine zaa 1 ?_;simp only[putsL];refine zaa 2 ?_;simp only[putsL];refine zaa 3 ?_;simp only[putsL];refine zas 4 (v:=?_) rfl (by kernel_rfl) (λ_ _ _ h=>h) hHeld (by rfl) ?_ ?_;rotate_left
 ·intro wz Gq;(try dsimp only[Lk]at Gq);go_simp;try with_reducible rfl
 try simp only[putsL]
 refine zaa 5 ?_;simp only[putsL];refine zaa 6 ?_;simp only[putsL];refine zaa 7 ?_;simp only[putsL];refine zas 8 (v:=?_) rfl (by kernel_rfl) (λ_ _ _ h=>h) hHeld (by rfl) ?_ ?_;rotate_left
 ·intro wz Gq;(try dsimp only[Lk]at Gq);go_simp;try with_reducible rfl
 try simp only[putsL]
 refine zaa 9 ?_;simp only[putsL];refine zas 10 (v:=?_) rfl (by kernel_rfl) (λ_ _ _ h=>h) hHeld (by rfl) ?_ ?_;rotate_left
 ·intro wz Gq;(try dsimp only[Lk]at Gq);go_simp;try with_reducible rfl
 try simp only[putsL]
 refine zas 11 (v:=?_) rfl (by kernel_rfl) (λ_ _ _ h=>h) hHeld (by rfl) ?_ ?_;rotate_left
 ·intro wz Gq;(try dsimp only[Lk]at Gq);go_simp;try with_reducible rfl
 try simp only[putsL]
 refine zaa 12 ?_;simp only[putsL];refine zab 13 rfl (by kernel_rfl) (λKK hK=>?_);go_simp;go_at_call 138;refine HC.mono ?_;rintro _ w2 ⟨rfl,KG⟩;have FZ:=hdq KG;clear KG;try dsimp only
 refine hK _ _ (λh=>absurd h (by decide)) ?_;clear hK KK;try simp only[putsL]
 refine zai (by kernel_rfl) ?_;go_wp2_with fail;go_end0;have h2:=FZ.out;rw[Rg.out]at h2;exact JB.out.out ⟨rfl,h2⟩
def Cel4 (b o:Nat)(v0 v1 v2 v3:Value)(W:World):Prop:=W.cell? ⟨b,o,none⟩=some v0/\W.cell? ⟨b,o+1,none⟩=some v1/\W.cell? ⟨b,o+2,none⟩=some v2/\W.cell? ⟨b,o+3,none⟩=some v3
def Ex6 (b q:Nat)(at_:Int)(W:World):Prop:=W.cell? ⟨b,4,none⟩=some (.int .i64 1)/\W.cell? ⟨q,6,none⟩=some (.int .i64 at_)
theorem stm_5 (C:FgC)(nm:ByteArray)(args:Exs)(cond:Cds)(body els:Sts)(at_:Int)(k0:Int)(a0:Exs)(o0:Cds)(t0:Int)(r0:Cds)(GI:cond= .cons k0 a0 o0 t0 r0)(JH:zci C k0 a0 o0 t0):StmC C 5 nm args cond body els at_:=by
 intro W s u S Z A A2 A3 A4 c c2 c3 c4 h hS Gb hx Fv Ls FQ hr f t hf ht;obtain⟨l,hl⟩:=nmq args.len;obtain⟨l2,Gl⟩:=nmq cond.len;obtain⟨l3,Gz⟩:=nmq body.len;obtain⟨l4,Gy⟩:=nmq els.len;obtain⟨b,hb⟩:=nmq C.b;obtain⟨w1,Hc⟩:=nmq (W.alloc (.cells #[.int .u8 5,.string nm,.slice A l c,.slice A2 l2 c2,.slice A3 l3 c3,.slice A4 l4 c4,.int .i64 at_] 39));have hB:=StB.of h Hc;have Fs:SameS S W w1:=hB.fr.same λx hx=>⟨ltq (hS x hx) (MkS.base h),id⟩;have LB:=Cur.start hB.at0;have kb:=hB.bk;have e0:=kb.cell 0;have e6:=kb.cell 6;simp only[getsL]at e0 e6;have zl:=kb.lt;have JB:=hdq hB;have HW:=hdq Hc;have HB:=hdq hb;obtain⟨b2,o2,rfl,Hd⟩:=Fv.2.2 (by rw[GI];simp[Cds.len]);rw[GI]at Hd;obtain⟨⟨Hf,_,r1,r2,d0,d3⟩,⟨A5,c5,d1,q1⟩,⟨A6,c6,d2,q2⟩,_⟩:=Hd;have RN:0 < l2:=by rw[Gl,GI];simp[Cds.len]
 have RO:l2<=9223372036854775807:=by rw[Gl];exact leq9 Fv.1 Fv.2.1.1
 have TS:(0:Int) < (l2:Int):=by omega
 obtain⟨l5,GN⟩:=nmq a0.len;obtain⟨l6,Jc⟩:=nmq o0.len;have MJ:szN cond=2+szN o0+szN r0:=by rw[GI];simp only[szN]
 have hD:∀s' w,Cur C u w1 s' w->Cel4 b2 o2 (.int .u8 k0) (.slice A5 l5 c5) (.slice A6 l6 c6) (.int .i64 t0) w:=λs' w hc=>by
  have hs:=Fs.trans (hc.same JB.at0 hS);exact⟨((hs ⟨b2,o2,none⟩ Hf).1).trans d0,((hs ⟨b2,o2+1,none⟩ Hf).1).trans (by rw[GN];exact d1),((hs ⟨b2,o2+2,none⟩ Hf).1).trans (by rw[Jc];exact d2),((hs ⟨b2,o2+3,none⟩ Hf).1).trans d3⟩
 have PM:∀s' w,Cur C u w1 s' w->_:=λs' w hc=>hc.cond JB.at0 k0 a0 o0 t0 JH S Z A5 A6 c5 c6 hS r2 (q1.imp λ_ _ hx=>ExR.keep Fs hx) (q2.imp λ_ _ hx=>CdR.keep Fs hx);rw[<-GN,<-Jc,<-hb]at PM;have HD:=hdq hD;have RQ:=hdq PM;obtain⟨cw,PN⟩:=nmq (wayC C.sc C.ar k0 a0 (zaw C.sc C.ar o0) t0);rw[<-PN]at RQ;have KA:nthW (zaw C.sc C.ar cond) 0=cw:=by rw[GI,PN];rfl
 have RR:∀f y n s,Grow (2+szN o0) s (cw f y n s):=λf y n s=>by
  have:=zaX C.sc C.ar cond 0 f y n s;rw[KA]at this;rw[GI]at this;exact this
 have Rt:=hdq KA;have J4:Room (1+((2+szN o0)+1)) s:=hr.less (by unfold szM;omega);have JV:=J4.after (zah s);have LN:=hdq (LB.node (hr.less (by unfold szM;omega)));have Gs:=hdq (aiq J4.in_ (aiq hf (aiq ht (aiq (JV.less (show 2+szN o0<=_ from by omega)) (aiq (λf y n=>JV.after (RR f y n s.node)) Gb)))));rw[<-hb]at LN;rw[<-hl,<-Gl,<-Gz,<-Gy,<-hb];obtain⟨nd,Fa⟩:=nmq s.nodes;have WA:=hdq Fa;rw[<-Fa]at LN Gs;clear h hS Gb hx Fv Ls FQ hr hf ht hl Gl Gz Gy Fs LB hB kb Hc hb Hf r1 r2 d0 d1 d2 d3 q1 q2 GN Jc hD PM PN KA RR MJ GI JH J4 JV Fa;go_enter Tryz.func140,Tryz.ntmps140;go_wp2_with fail;rw[<-HW.out];refine LN.mono ?_;rintro _ w2 ⟨rfl,Eh⟩;have kbf:=JB.box Eh;have f0:=kbf.cell 0;have f3:=kbf.cell 3;have f6:=kbf.cell 6;have zf:=kbf.lt;simp only[getsL]at f0 f3 f6;clear kbf;obtain⟨x0,x1,x2,x3⟩:=HD _ w2 Eh;have CU2:=hdq Eh;clear Eh LN;go_wp2_with fail;refine(RQ _ w2 CU2.out).mono ?_;rintro _ w3a ⟨val,rfl,cu3a,gg,caps,rfl,hg,Mb⟩;have RS:=hdq (Mb Gs.2.2.2.1 f t nd Gs.2.1 Gs.2.2.1 Gs.1);have kG:=hdq cu3a;unfold Enters at hg;clear Mb cu3a x0 x1 x2 x3;go_wp2_with fail;refine RS.mono ?_;rintro _ w3 ⟨rfl,Ef⟩;have EK:=hdq Ef;clear Ef hg RS;have kbg:=JB.box EK.out;have g6:=kbg.cell 6;have zg:=kbg.lt;simp only[getsL]at g6;clear kbg;have Kj:Ex6 b W.heap.size at_ w3.drew:=⟨by
  obtain⟨u',h1,_⟩:=EK.out;have:=(MkS.bk h1).cell 4;rw[<-HB.out]at this;exact this,g6⟩
 have HC:=hdq ((EK.fr0 ((Fr.refl NoT w3).drew)).put0 nd 1 at_ 8 0 0 ⟨Gs.1,zbR 1 (by decide) (by decide),zbj 8 (by decide) (by decide),zbR 0 (by decide) (by decide),zbj 0 (by decide) (by decide),Gs.2.2.2.2.2⟩ (Gs.2.2.2.2.1 f t nd));rw[<-HB.out]at HC;have Tr:=hdq Kj;clear Kj;go_wp2_with fail;refine zad (Ex6 b W.heap.size at_) (λi=>decide (i < 11)) (by kernel_rfl) Tr.out (λhHeld=>?_);refine zaa 0 ?_;simp only[putsL];refine zaa 1 ?_;simp only[putsL];refine zaa 2 ?_;simp only[putsL];refine zaa 3 ?_;simp only[putsL];refine zaa 4 ?_;simp only[putsL];refine zaa 5 ?_;simp only[putsL];refine zas 6 (v:=?_) rfl (by kernel_rfl) (λ_ _ _ h=>h) hHeld (by rfl) ?_ ?_;rotate_left
 ·intro wz Gq;(try dsimp only[Ex6]at Gq);go_simp;try with_reducible rfl
 try simp only[putsL]
 refine zaa 7 ?_;simp only[putsL];refine zas 8 (v:=?_) rfl (by kernel_rfl) (λ_ _ _ h=>h) hHeld (by rfl) ?_ ?_;rotate_left
 ·intro wz Gq;(try dsimp only[Ex6]at Gq);go_simp;try with_reducible rfl
 try simp only[putsL]
 refine zaa 9 ?_;simp only[putsL];refine zaa 10 ?_;simp only[putsL];refine zab 11 rfl (by kernel_rfl) (λKK hK=>?_);go_simp;go_at_call 138;refine HC.mono ?_;rintro _ w4 ⟨rfl,UC⟩;have S4:=hdq UC;clear UC;try dsimp only
 refine hK _ _ (λh=>absurd h (by decide)) ?_;clear hK KK;try simp only[putsL]
 refine zai (by kernel_rfl) ?_;go_wp2_with fail;go_end0;have h4:=S4.out;refine JB.out.out ⟨rfl,?_⟩;simp only[stmF,show((5:Int)=1)=False from by decide,show((5:Int)=2)=False from by decide,show((5:Int)=3)=False from by decide,show((5:Int)=4)=False from by decide,show((5:Int)=5)=True from by decide,show((5:Int)=6)=False from by decide,if_true,if_false];rw[Rt.out,<-WA.out];exact h4
theorem stm_6 (C:FgC)(nm:ByteArray)(args:Exs)(cond:Cds)(body els:Sts)(at_:Int)(k0:Int)(a0:Exs)(o0:Cds)(t0:Int)(r0:Cds)(GI:cond= .cons k0 a0 o0 t0 r0)(JH:zci C k0 a0 o0 t0):StmC C 6 nm args cond body els at_:=by
 intro W s u S Z A A2 A3 A4 c c2 c3 c4 h hS Gb hx Fv Ls FQ hr f t hf ht;obtain⟨l,hl⟩:=nmq args.len;obtain⟨l2,Gl⟩:=nmq cond.len;obtain⟨l3,Gz⟩:=nmq body.len;obtain⟨l4,Gy⟩:=nmq els.len;obtain⟨b,hb⟩:=nmq C.b;obtain⟨w1,Hc⟩:=nmq (W.alloc (.cells #[.int .u8 6,.string nm,.slice A l c,.slice A2 l2 c2,.slice A3 l3 c3,.slice A4 l4 c4,.int .i64 at_] 39));have hB:=StB.of h Hc;have Fs:SameS S W w1:=hB.fr.same λx hx=>⟨ltq (hS x hx) (MkS.base h),id⟩;have LB:=Cur.start hB.at0;have kb:=hB.bk;have e0:=kb.cell 0;have e6:=kb.cell 6;simp only[getsL]at e0 e6;have zl:=kb.lt;have JB:=hdq hB;have HW:=hdq Hc;have HB:=hdq hb;obtain⟨b2,o2,rfl,Hd⟩:=Fv.2.2 (by rw[GI];simp[Cds.len]);rw[GI]at Hd;obtain⟨⟨Hf,_,r1,r2,d0,d3⟩,⟨A5,c5,d1,q1⟩,⟨A6,c6,d2,q2⟩,_⟩:=Hd;have RN:0 < l2:=by rw[Gl,GI];simp[Cds.len]
 have RO:l2<=9223372036854775807:=by rw[Gl];exact leq9 Fv.1 Fv.2.1.1
 have TS:(0:Int) < (l2:Int):=by omega
 obtain⟨l5,GN⟩:=nmq a0.len;obtain⟨l6,Jc⟩:=nmq o0.len;have MJ:szN cond=2+szN o0+szN r0:=by rw[GI];simp only[szN]
 have hD:∀s' w,Cur C u w1 s' w->Cel4 b2 o2 (.int .u8 k0) (.slice A5 l5 c5) (.slice A6 l6 c6) (.int .i64 t0) w:=λs' w hc=>by
  have hs:=Fs.trans (hc.same JB.at0 hS);exact⟨((hs ⟨b2,o2,none⟩ Hf).1).trans d0,((hs ⟨b2,o2+1,none⟩ Hf).1).trans (by rw[GN];exact d1),((hs ⟨b2,o2+2,none⟩ Hf).1).trans (by rw[Jc];exact d2),((hs ⟨b2,o2+3,none⟩ Hf).1).trans d3⟩
 have PM:∀s' w,Cur C u w1 s' w->_:=λs' w hc=>hc.cond JB.at0 k0 a0 o0 t0 JH S Z A5 A6 c5 c6 hS r2 (q1.imp λ_ _ hx=>ExR.keep Fs hx) (q2.imp λ_ _ hx=>CdR.keep Fs hx);rw[<-GN,<-Jc,<-hb]at PM;have HD:=hdq hD;have RQ:=hdq PM;obtain⟨cw,PN⟩:=nmq (wayC C.sc C.ar k0 a0 (zaw C.sc C.ar o0) t0);rw[<-PN]at RQ;have KA:nthW (zaw C.sc C.ar cond) 0=cw:=by rw[GI,PN];rfl
 have RR:∀f y n s,Grow (2+szN o0) s (cw f y n s):=λf y n s=>by
  have:=zaX C.sc C.ar cond 0 f y n s;rw[KA]at this;rw[GI]at this;exact this
 have Rt:=hdq KA;have J4:Room (1+((2+szN o0)+1)) s:=hr.less (by unfold szM;omega);have JV:=J4.after (zah s);have LN:=hdq (LB.node (hr.less (by unfold szM;omega)));have Gs:=hdq (aiq J4.in_ (aiq hf (aiq ht (aiq (JV.less (show 2+szN o0<=_ from by omega)) (aiq (λf y n=>JV.after (RR f y n s.node)) Gb)))));rw[<-hb]at LN;rw[<-hl,<-Gl,<-Gz,<-Gy,<-hb];obtain⟨nd,Fa⟩:=nmq s.nodes;have WA:=hdq Fa;rw[<-Fa]at LN Gs;clear h hS Gb hx Fv Ls FQ hr hf ht hl Gl Gz Gy Fs LB hB kb Hc hb Hf r1 r2 d0 d1 d2 d3 q1 q2 GN Jc hD PM PN KA RR MJ GI JH J4 JV Fa;go_enter Tryz.func140,Tryz.ntmps140;go_wp2_with fail;rw[<-HW.out];refine LN.mono ?_;rintro _ w2 ⟨rfl,Eh⟩;have kbf:=JB.box Eh;have f0:=kbf.cell 0;have f3:=kbf.cell 3;have f6:=kbf.cell 6;have zf:=kbf.lt;simp only[getsL]at f0 f3 f6;clear kbf;obtain⟨x0,x1,x2,x3⟩:=HD _ w2 Eh;have CU2:=hdq Eh;clear Eh LN;go_wp2_with fail;refine(RQ _ w2 CU2.out).mono ?_;rintro _ w3a ⟨val,rfl,cu3a,gg,caps,rfl,hg,Mb⟩;have RS:=hdq (Mb Gs.2.2.2.1 f t nd Gs.2.1 Gs.2.2.1 Gs.1);have kG:=hdq cu3a;unfold Enters at hg;clear Mb cu3a x0 x1 x2 x3;go_wp2_with fail;refine RS.mono ?_;rintro _ w3 ⟨rfl,Ef⟩;have EK:=hdq Ef;clear Ef hg RS;have kbg:=JB.box EK.out;have g6:=kbg.cell 6;have zg:=kbg.lt;simp only[getsL]at g6;clear kbg;have Kj:Ex6 b W.heap.size at_ w3.drew:=⟨by
  obtain⟨u',h1,_⟩:=EK.out;have:=(MkS.bk h1).cell 4;rw[<-HB.out]at this;exact this,g6⟩
 have HC:=hdq ((EK.fr0 ((Fr.refl NoT w3).drew)).put0 nd 1 at_ 7 0 0 ⟨Gs.1,zbR 1 (by decide) (by decide),zbj 7 (by decide) (by decide),zbR 0 (by decide) (by decide),zbj 0 (by decide) (by decide),Gs.2.2.2.2.2⟩ (Gs.2.2.2.2.1 f t nd));rw[<-HB.out]at HC;have Tr:=hdq Kj;clear Kj;go_wp2_with fail;refine zad (Ex6 b W.heap.size at_) (λi=>decide (i < 11)) (by kernel_rfl) Tr.out (λhHeld=>?_);refine zaa 0 ?_;simp only[putsL];refine zaa 1 ?_;simp only[putsL];refine zaa 2 ?_;simp only[putsL];refine zaa 3 ?_;simp only[putsL];refine zaa 4 ?_;simp only[putsL];refine zaa 5 ?_;simp only[putsL];refine zas 6 (v:=?_) rfl (by kernel_rfl) (λ_ _ _ h=>h) hHeld (by rfl) ?_ ?_;rotate_left
 ·intro wz Gq;(try dsimp only[Ex6]at Gq);go_simp;try with_reducible rfl
 try simp only[putsL]
 refine zaa 7 ?_;simp only[putsL];refine zas 8 (v:=?_) rfl (by kernel_rfl) (λ_ _ _ h=>h) hHeld (by rfl) ?_ ?_;rotate_left
 ·intro wz Gq;(try dsimp only[Ex6]at Gq);go_simp;try with_reducible rfl
 try simp only[putsL]
 refine zaa 9 ?_;simp only[putsL];refine zaa 10 ?_;simp only[putsL];refine zab 11 rfl (by kernel_rfl) (λKK hK=>?_);go_simp;go_at_call 138;refine HC.mono ?_;rintro _ w4 ⟨rfl,UC⟩;have S4:=hdq UC;clear UC;try dsimp only
 refine hK _ _ (λh=>absurd h (by decide)) ?_;clear hK KK;try simp only[putsL]
 refine zai (by kernel_rfl) ?_;go_wp2_with fail;go_end0;have h4:=S4.out;refine JB.out.out ⟨rfl,?_⟩;simp only[stmF,show((6:Int)=1)=False from by decide,show((6:Int)=2)=False from by decide,show((6:Int)=3)=False from by decide,show((6:Int)=4)=False from by decide,show((6:Int)=5)=False from by decide,show((6:Int)=6)=True from by decide,if_true,if_false];rw[Rt.out,<-WA.out];exact h4
theorem stm_7 (C:FgC)(nm:ByteArray)(args:Exs)(cond:Cds)(body els:Sts)(at_:Int)(k0:Int)(a0:Exs)(o0:Cds)(t0:Int)(r0:Cds)(GI:cond= .cons k0 a0 o0 t0 r0)(JH:zci C k0 a0 o0 t0)(LI:FBlk C body)(Y0:FBlk C els):StmC C 7 nm args cond body els at_:=by
 intro W s u S Z A A2 A3 A4 c c2 c3 c4 h hS Gb hx Fv Ls FQ hr f t hf ht;obtain⟨l,hl⟩:=nmq args.len;obtain⟨l2,Gl⟩:=nmq cond.len;obtain⟨l3,Gz⟩:=nmq body.len;obtain⟨l4,Gy⟩:=nmq els.len;obtain⟨b,hb⟩:=nmq C.b;obtain⟨w1,Hc⟩:=nmq (W.alloc (.cells #[.int .u8 7,.string nm,.slice A l c,.slice A2 l2 c2,.slice A3 l3 c3,.slice A4 l4 c4,.int .i64 at_] 39));have hB:=StB.of h Hc;have Fs:SameS S W w1:=hB.fr.same λx hx=>⟨ltq (hS x hx) (MkS.base h),id⟩;have LB:=Cur.start hB.at0;have kb:=hB.bk;have e0:=kb.cell 0;have e6:=kb.cell 6;simp only[getsL]at e0 e6;have zl:=kb.lt;have JB:=hdq hB;have HW:=hdq Hc;have HB:=hdq hb;obtain⟨b2,o2,rfl,Hd⟩:=Fv.2.2 (by rw[GI];simp[Cds.len]);rw[GI]at Hd;obtain⟨⟨Hf,_,r1,r2,d0,d3⟩,⟨A5,c5,d1,q1⟩,⟨A6,c6,d2,q2⟩,_⟩:=Hd;have RN:0 < l2:=by rw[Gl,GI];simp[Cds.len]
 have RO:l2<=9223372036854775807:=by rw[Gl];exact leq9 Fv.1 Fv.2.1.1
 have TS:(0:Int) < (l2:Int):=by omega
 obtain⟨l5,GN⟩:=nmq a0.len;obtain⟨l6,Jc⟩:=nmq o0.len;have MJ:szN cond=2+szN o0+szN r0:=by rw[GI];simp only[szN]
 have hD:∀s' w,Cur C u w1 s' w->Cel4 b2 o2 (.int .u8 k0) (.slice A5 l5 c5) (.slice A6 l6 c6) (.int .i64 t0) w:=λs' w hc=>by
  have hs:=Fs.trans (hc.same JB.at0 hS);exact⟨((hs ⟨b2,o2,none⟩ Hf).1).trans d0,((hs ⟨b2,o2+1,none⟩ Hf).1).trans (by rw[GN];exact d1),((hs ⟨b2,o2+2,none⟩ Hf).1).trans (by rw[Jc];exact d2),((hs ⟨b2,o2+3,none⟩ Hf).1).trans d3⟩
 have PM:∀s' w,Cur C u w1 s' w->_:=λs' w hc=>hc.cond JB.at0 k0 a0 o0 t0 JH S Z A5 A6 c5 c6 hS r2 (q1.imp λ_ _ hx=>ExR.keep Fs hx) (q2.imp λ_ _ hx=>CdR.keep Fs hx);rw[<-GN,<-Jc,<-hb]at PM;have HD:=hdq hD;have RQ:=hdq PM;obtain⟨cw,PN⟩:=nmq (wayC C.sc C.ar k0 a0 (zaw C.sc C.ar o0) t0);rw[<-PN]at RQ;have KA:nthW (zaw C.sc C.ar cond) 0=cw:=by rw[GI,PN];rfl
 have RR:∀f y n s,Grow (2+szN o0) s (cw f y n s):=λf y n s=>by
  have:=zaX C.sc C.ar cond 0 f y n s;rw[KA]at this;rw[GI]at this;exact this
 have Rt:=hdq KA;have J4:Room (1+(1+((2+szN o0)+((1+szT body)+(1+szT els))))) s:=hr.less (by unfold szM;omega);have JV:=J4.after (zah s);have Qr:=JV.after (zah s.node);have KZ:=λf y n=>Qr.after (RR f y n s.node.node);have Lr:=λf y n f' t' a'=>(KZ f y n).after (zaZ C.sc C.ar body f' t' a' _);have LN:=hdq (LB.node (hr.less (by unfold szM;omega)));have M7:=hdq (λw (hc:Cur C u w1 s.node w)=>hc.node (JV.less (by omega)));have Gs:=hdq (aiq J4.in_ (aiq hf (aiq ht (aiq (Qr.less (show 2+szN o0<=_ from by omega)) Gb))));have QB:=hdq JV.in_;have KP:=hdq (λs' w (hc:Cur C u w1 s' w)=>hc.block JB.at0 LI S Z A3 c3 hS (Ls.imp λ_ _ hx=>StR.keep Fs hx));have yj:=hdq (λs' w (hc:Cur C u w1 s' w)=>hc.block JB.at0 Y0 S Z A4 c4 hS (FQ.imp λ_ _ hx=>StR.keep Fs hx));have Q2:=hdq (λf y n=>(KZ f y n).less (show 1+szT body<=_ from by omega));have Pm:=hdq Lr;rw[<-hb]at LN M7;rw[<-Gz,<-hb]at KP;rw[<-Gy,<-hb]at yj;rw[<-hl,<-Gl,<-Gz,<-Gy,<-hb];obtain⟨nd,Fa⟩:=nmq s.nodes;have RU:s.node.nodes=nd+1:=by rw[Fa];rfl
 have WA:=hdq Fa;rw[<-Fa]at LN Gs;rw[RU]at M7 QB;clear h hS Gb hx Fv Ls FQ hr hf ht hl Gl Gz Gy Fs LB hB kb Hc hb Hf r1 r2 d0 d1 d2 d3 q1 q2 GN Jc hD PM PN KA RR MJ GI JH J4 JV Qr KZ Lr Fa RU LI Y0;go_enter Tryz.func140,Tryz.ntmps140;go_wp2_with fail;rw[<-HW.out];refine LN.mono ?_;rintro _ w2 ⟨rfl,Eh⟩;have JO:=hdq (M7 _ Eh);clear Eh LN M7;go_wp2_with fail;refine JO.mono ?_;rintro _ w3 ⟨rfl,Ef⟩;have kbf:=JB.box Ef;have f0:=kbf.cell 0;have f3:=kbf.cell 3;have f4:=kbf.cell 4;have f5:=kbf.cell 5;have f6:=kbf.cell 6;have zf:=kbf.lt;simp only[getsL]at f0 f3 f4 f5 f6;clear kbf;obtain⟨x0,x1,x2,x3⟩:=HD _ w3 Ef;have EK:=hdq Ef;clear Ef JO;go_wp2_with fail;refine(RQ _ w3 EK.out).mono ?_;rintro _ w4a ⟨val,rfl,cu4a,gg,caps,rfl,hg,Mb⟩;have RS:=hdq (Mb Gs.2.2.2.1 f nd (nd+1) Gs.2.1 Gs.1 QB.out);have xC:=hdq cu4a;unfold Enters at hg;clear Mb cu4a x0 x1 x2 x3;go_wp2_with fail;refine RS.mono ?_;rintro _ w4 ⟨rfl,cu4⟩;have CU4:=hdq cu4;clear cu4 hg RS;have kbg:=JB.box CU4.out;have g4:=kbg.cell 4;have g5:=kbg.cell 5;have g6:=kbg.cell 6;have zg:=kbg.lt;simp only[getsL]at g4 g5 g6;clear kbg;have HC:=hdq (KP _ _ CU4.out (Q2 f nd (nd+1)) nd t at_ Gs.1 Gs.2.2.1 Gs.2.2.2.2);go_wp2_with fail;refine HC.mono ?_;rintro _ w5 ⟨rfl,cu5⟩;have kbh:=JB.box cu5;have h5:=kbh.cell 5;have h6:=kbh.cell 6;have zh:=kbh.lt;simp only[getsL]at h5 h6;clear kbh;have FZ:=hdq (yj _ _ cu5 (Pm f nd (nd+1) nd t at_) (nd+1) t at_ QB.out Gs.2.2.1 Gs.2.2.2.2);clear cu5 HC;go_wp2_with fail
 refine FZ.mono ?_;rintro _ w6 ⟨rfl,cu6⟩;have CU6:=hdq cu6;clear cu6 FZ;go_wp2_with fail;go_end0;have h6:=CU6.out;refine JB.out.out ⟨rfl,?_⟩;simp only[stmF,show((7:Int)=1)=False from by decide,show((7:Int)=2)=False from by decide,show((7:Int)=3)=False from by decide,show((7:Int)=4)=False from by decide,show((7:Int)=5)=False from by decide,show((7:Int)=6)=False from by decide,show((7:Int)=7)=True from by decide,show((7:Int)=8)=False from by decide,if_true,if_false];rw[Rt.out,<-WA.out];exact h6
theorem stm_8 (C:FgC)(nm:ByteArray)(args:Exs)(cond:Cds)(body els:Sts)(at_:Int)(k0:Int)(a0:Exs)(o0:Cds)(t0:Int)(r0:Cds)(GI:cond= .cons k0 a0 o0 t0 r0)(JH:zci C k0 a0 o0 t0)(LI:FBlk C body):StmC C 8 nm args cond body els at_:=by
 intro W s u S Z A A2 A3 A4 c c2 c3 c4 h hS Gb hx Fv Ls FQ hr f t hf ht;obtain⟨l,hl⟩:=nmq args.len;obtain⟨l2,Gl⟩:=nmq cond.len;obtain⟨l3,Gz⟩:=nmq body.len;obtain⟨l4,Gy⟩:=nmq els.len;obtain⟨b,hb⟩:=nmq C.b;obtain⟨w1,Hc⟩:=nmq (W.alloc (.cells #[.int .u8 8,.string nm,.slice A l c,.slice A2 l2 c2,.slice A3 l3 c3,.slice A4 l4 c4,.int .i64 at_] 39));have hB:=StB.of h Hc;have Fs:SameS S W w1:=hB.fr.same λx hx=>⟨ltq (hS x hx) (MkS.base h),id⟩;have LB:=Cur.start hB.at0;have kb:=hB.bk;have e0:=kb.cell 0;have e6:=kb.cell 6;simp only[getsL]at e0 e6;have zl:=kb.lt;have JB:=hdq hB;have HW:=hdq Hc;have HB:=hdq hb;obtain⟨b2,o2,rfl,Hd⟩:=Fv.2.2 (by rw[GI];simp[Cds.len]);rw[GI]at Hd;obtain⟨⟨Hf,_,r1,r2,d0,d3⟩,⟨A5,c5,d1,q1⟩,⟨A6,c6,d2,q2⟩,_⟩:=Hd;have RN:0 < l2:=by rw[Gl,GI];simp[Cds.len]
 have RO:l2<=9223372036854775807:=by rw[Gl];exact leq9 Fv.1 Fv.2.1.1
 have TS:(0:Int) < (l2:Int):=by omega
 obtain⟨l5,GN⟩:=nmq a0.len;obtain⟨l6,Jc⟩:=nmq o0.len;have MJ:szN cond=2+szN o0+szN r0:=by rw[GI];simp only[szN]
 have hD:∀s' w,Cur C u w1 s' w->Cel4 b2 o2 (.int .u8 k0) (.slice A5 l5 c5) (.slice A6 l6 c6) (.int .i64 t0) w:=λs' w hc=>by
  have hs:=Fs.trans (hc.same JB.at0 hS);exact⟨((hs ⟨b2,o2,none⟩ Hf).1).trans d0,((hs ⟨b2,o2+1,none⟩ Hf).1).trans (by rw[GN];exact d1),((hs ⟨b2,o2+2,none⟩ Hf).1).trans (by rw[Jc];exact d2),((hs ⟨b2,o2+3,none⟩ Hf).1).trans d3⟩
 have PM:∀s' w,Cur C u w1 s' w->_:=λs' w hc=>hc.cond JB.at0 k0 a0 o0 t0 JH S Z A5 A6 c5 c6 hS r2 (q1.imp λ_ _ hx=>ExR.keep Fs hx) (q2.imp λ_ _ hx=>CdR.keep Fs hx);rw[<-GN,<-Jc,<-hb]at PM;have HD:=hdq hD;have RQ:=hdq PM;obtain⟨cw,PN⟩:=nmq (wayC C.sc C.ar k0 a0 (zaw C.sc C.ar o0) t0);rw[<-PN]at RQ;have KA:nthW (zaw C.sc C.ar cond) 0=cw:=by rw[GI,PN];rfl
 have RR:∀f y n s,Grow (2+szN o0) s (cw f y n s):=λf y n s=>by
  have:=zaX C.sc C.ar cond 0 f y n s;rw[KA]at this;rw[GI]at this;exact this
 have Rt:=hdq KA;have J4:Room (1+(1+(1+(1+(1+((2+szN o0)+(1+szT body))))))) s:=hr.less (by unfold szM;omega);have JV:=J4.after (zah s);have Qr:=JV.after (zah s.node);have KZ:=Qr.after (zah s.node.node);have Lr:=λ(a b c d e f:Int)=>KZ.after (za5 C.sc C.ar s.node.node.node a b c d e f .nil);have VV:=λ(a b c d e f a' b' c' d' e' f':Int)=>(Lr a b c d e f).after (za5 C.sc C.ar _ a' b' c' d' e' f' .nil);have Qi:=λ(a b c d e f a' b' c' d' e' f' f'' y n:Int)=>(VV a b c d e f a' b' c' d' e' f').after (RR f'' y n _);have LN:=hdq (LB.node (hr.less (by unfold szM;omega)));have M7:=hdq (λw (hc:Cur C u w1 s.node w)=>hc.node (JV.less (by omega)));have TT:=hdq (λw (hc:Cur C u w1 s.node.node w)=>hc.node (Qr.less (by omega)));have Gs:=hdq (aiq J4.in_ (aiq hf (aiq ht Gb)));have QB:=hdq JV.in_;have kH:=hdq Qr.in_;have yk:=hdq (aiq (KZ.less (show 1<=_ from by omega)) (λ(a b c d e f:Int)=>(Lr a b c d e f).less (show 1<=_ from by omega)));have TU:=hdq (λ(a b c d e f a' b' c' d' e' f':Int)=>(VV a b c d e f a' b' c' d' e' f').less (show 2+szN o0<=_ from by omega));have gS:=hdq Qi;have KP:=hdq (λs' w (hc:Cur C u w1 s' w)=>hc.block JB.at0 LI S Z A3 c3 hS (Ls.imp λ_ _ hx=>StR.keep Fs hx));rw[<-hb]at LN M7 TT;rw[<-Gz,<-hb]at KP;rw[<-hl,<-Gl,<-Gz,<-Gy,<-hb];obtain⟨nd,Fa⟩:=nmq s.nodes;have RU:s.node.nodes=nd+1:=by rw[Fa];rfl
 have Y1:s.node.node.nodes=nd+2:=by
  show s.nodes+1+1=nd+2
  rw[Fa];omega
 have WA:=hdq Fa;rw[<-Fa]at LN Gs;rw[RU]at M7 QB;rw[Y1]at TT kH;clear h hS Gb hx Fv Ls FQ hr hf ht hl Gl Gz Gy Fs LB hB kb Hc hb Hf r1 r2 d0 d1 d2 d3 q1 q2 GN Jc hD PM PN KA RR MJ GI JH J4 JV Qr KZ Lr VV Qi Fa RU Y1 LI;go_enter Tryz.func140,Tryz.ntmps140;go_wp2_with fail;rw[<-HW.out];refine LN.mono ?_;rintro _ w2 ⟨rfl,Eh⟩;have Le:=hdq (M7 _ Eh);clear Eh LN M7;go_wp2_with fail;refine Le.mono ?_;rintro _ w3 ⟨rfl,Ef⟩;have JO:=hdq (TT _ Ef);clear Ef Le TT;go_wp2_with fail;refine JO.mono ?_;rintro _ w4 ⟨rfl,cu4⟩;have kbf:=JB.box cu4;have f6:=kbf.cell 6;have zf:=kbf.lt;simp only[getsL]at f6;clear kbf;have HP:=hdq (cu4.put0 f nd at_ 1 0 0 ⟨Gs.2.1,Gs.1,zbj 1 (by decide) (by decide),zbR 0 (by decide) (by decide),zbj 0 (by decide) (by decide),Gs.2.2.2⟩ yk.1);rw[<-HB.out]at HP;clear cu4 JO;go_wp2_with fail;refine HP.mono ?_;rintro _ w5 ⟨rfl,cu5⟩;have kbg:=JB.box cu5;have g6:=kbg.cell 6;have zg:=kbg.lt;simp only[getsL]at g6;clear kbg;have XC:=hdq (cu5.put0 nd (nd+1) at_ 2 0 0 ⟨Gs.1,QB.out,zbj 2 (by decide) (by decide),zbR 0 (by decide) (by decide),zbj 0 (by decide) (by decide),Gs.2.2.2⟩ (yk.2 _ _ _ _ _ _));rw[<-HB.out]at XC;clear cu5 HP;go_wp2_with fail;refine XC.mono ?_;rintro _ w6 ⟨rfl,cu6⟩;have kbh:=JB.box cu6;have h3:=kbh.cell 3;have h4:=kbh.cell 4;have h6:=kbh.cell 6;have zh:=kbh.lt;simp only[getsL]at h3 h4 h6;clear kbh;obtain⟨x0,x1,x2,x3⟩:=HD _ w6 cu6;have CU6:=hdq cu6;clear cu6 XC;go_wp2_with fail;refine(RQ _ w6 CU6.out).mono ?_
 rintro _ w7a ⟨val,rfl,cu7a,gg,caps,rfl,hg,Mb⟩;have RS:=hdq (Mb (TU _ _ _ _ _ _ _ _ _ _ _ _) (nd+1) (nd+2) t QB.out kH.out Gs.2.2.1);have xD:=hdq cu7a;unfold Enters at hg;clear Mb cu7a x0 x1 x2 x3;go_wp2_with fail;refine RS.mono ?_;rintro _ w7 ⟨rfl,cu7⟩;have CU7:=hdq cu7;clear cu7 hg RS;have kbk:=JB.box CU7.out;have k4:=kbk.cell 4;have k6:=kbk.cell 6;have zk:=kbk.lt;simp only[getsL]at k4 k6;clear kbk;have HC:=hdq (KP _ _ CU7.out (gS _ _ _ _ _ _ _ _ _ _ _ _ (nd+1) (nd+2) t) (nd+2) nd at_ kH.out Gs.1 Gs.2.2.2);go_wp2_with fail;refine HC.mono ?_;rintro _ w8 ⟨rfl,cu8⟩;have CU8:=hdq cu8;clear cu8 HC;go_wp2_with fail;go_end0;have h6:=CU8.out;refine JB.out.out ⟨rfl,?_⟩;simp only[stmF,show((8:Int)=1)=False from by decide,show((8:Int)=2)=False from by decide,show((8:Int)=3)=False from by decide,show((8:Int)=4)=False from by decide,show((8:Int)=5)=False from by decide,show((8:Int)=6)=False from by decide,show((8:Int)=7)=False from by decide,show((8:Int)=8)=True from by decide,if_true,if_false];rw[Rt.out,<-WA.out];exact h6
theorem Cur.nodeB {C:FgC}{u:Value}{s:FgS}{W w w1:World}{t:TypeId}{cs:Array Value}(h:Cur C u W s w)(hr:Room 1 s)(e1:w1=w.alloc (.cells cs t)):
  Calls Tryz.prog 139 #[.pointer (some ⟨C.b,0,none⟩)] w1 λe w'=>e= .returned (.int .i64 s.nodes)/\Cur C u W s.node w'/\Bk w' w.heap.size t cs:=by
 obtain⟨u',h1,h2⟩:=h;have hf:Fr NoT w w1:=by rw[e1];exact(Fr.refl _ _).alloc _
 have hb:Bk w1 w.heap.size t cs:=by rw[e1];exact Bk.new _ _ _
 refine(zgR (h1.fr0 hf) hr).mono λe w' h=>⟨h.1,⟨u',h.2.1,(h2.trans (Made.of hf)).trans h.2.2⟩,(h.2.2.bk hb (MkS.new h1 (lrq _))).1⟩
theorem Cur.stm {C:FgC}{u:Value}{s s0:FgS}{W w:World}{k:Int}{nm:ByteArray}{args:Exs}{cond:Cds}{body els:Sts}{at_:Int}(h:Cur C u W s w)(h0:C.At s0 u W)(hc:StmC C k nm args cond body els at_)(S:Nat->Prop)(Z:Prop)(A A2 A3 A4:Option Addr)(c c2 c3 c4:Nat)(hS:∀x,S x->x < C.B)(Gb:in64 at_)(hx:SlR (λb o=>ExR W S Z args b o) args.len 64 A c)(Fv:SlR (λb o=>CdR W S Z cond b o) cond.len 64 A2 c2)(Ls:SlR (λb o=>StR W S Z body b o) body.len 128 A3 c3)(FQ:SlR (λb o=>StR W S Z els b o) els.len 128 A4 c4)(hr:Room (szM cond (szT body) (szT els)) s)(f t:Int)(hf:in64 f)(ht:in64 t):
  Calls Tryz.prog 140 #[.pointer (some ⟨C.b,0,none⟩),.agg #[.int .u8 k,.string nm,.slice A args.len c,.slice A2 cond.len c2,.slice A3 body.len c3,.slice A4 els.len c4,.int .i64 at_],.int .i64 f,.int .i64 t] w (CurP C u W (stmF C.sc C.ar k nm args (zaw C.sc C.ar cond) (mksS C.sc C.ar body) (mksS C.sc C.ar els) at_ f t s)):=by
 have hs:=h.same h0 hS;obtain⟨u',h1,h2⟩:=h;exact(hc w s u' S Z A A2 A3 A4 c c2 c3 c4 h1 hS Gb (hx.imp λ_ _ hx=>ExR.keep hs hx) (Fv.imp λ_ _ hx=>CdR.keep hs hx) (Ls.imp λ_ _ hx=>StR.keep hs hx) (FQ.imp λ_ _ hx=>StR.keep hs hx) hr f t hf ht).mono λe w' h=>Cur.of h2 h
structure BkI (C:FgC)(u:Value)(W:World)(xs:Sts)(t a:Int)(r:FgS)(k:Nat)(fr:Int)(s:FgS)(w:World):Prop where
 cur:Cur C u W s w
 in_:in64 fr
 room:Room (1+szT (Sts.drop k xs)) s
 eq:blkF C.sc C.ar (mksS C.sc C.ar (Sts.drop k xs)) fr t a s=r
def BlkI (C:FgC)(xs:Sts):Prop:=∀i k nm args cond body els at_ r,Sts.drop i xs= .cons k nm args cond body els at_ r->StmC C k nm args cond body els at_
def Cel7 (b o:Nat)(v0 v1 v2 v3 v4 v5 v6:Value)(W:World):Prop:=W.cell? ⟨b,o,none⟩=some v0/\W.cell? ⟨b,o+1,none⟩=some v1/\W.cell? ⟨b,o+2,none⟩=some v2/\W.cell? ⟨b,o+3,none⟩=some v3/\W.cell? ⟨b,o+4,none⟩=some v4/\W.cell? ⟨b,o+5,none⟩=some v5/\W.cell? ⟨b,o+6,none⟩=some v6
theorem zmO {W w:World}{S:Nat->Prop}{Z:Prop}{k:Int}{nm:ByteArray}{args:Exs}{cond:Cds}{body els r:Sts}{at_:Int}{b o:Nat}(h:StR W S Z (.cons k nm args cond body els at_ r) b o)(hs:SameS S W w):∃A c A2 c2 A3 c3 A4 c4,Cel7 b o (.int .u8 k) (.string nm) (.slice A args.len c) (.slice A2 cond.len c2) (.slice A3 body.len c3) (.slice A4 els.len c4) (.int .i64 at_) w/\
  SlR (λb o=>ExR W S Z args b o) args.len 64 A c/\SlR (λb o=>CdR W S Z cond b o) cond.len 64 A2 c2/\SlR (λb o=>StR W S Z body b o) body.len 128 A3 c3/\SlR (λb o=>StR W S Z els b o) els.len 128 A4 c4/\in64 at_/\S b:=by
 obtain⟨⟨hb,_,r0,r1,d0,d1,d6⟩,⟨A,c,d2,s2⟩,⟨A2,c2,d3,s3⟩,⟨A3,c3,d4,s4⟩,⟨A4,c4,d5,s5⟩,_⟩:=h;have hh:=λi=>(hs ⟨b,i,none⟩ hb).1;exact⟨A,c,A2,c2,A3,c3,A4,c4,⟨(hh _).trans d0,(hh _).trans d1,(hh _).trans d2,(hh _).trans d3,(hh _).trans d4,(hh _).trans d5,(hh _).trans d6⟩,s2,s3,s4,s5,r1,hb⟩
theorem zmP (C:FgC):FBlk C .nil :=by
 intro W s u S Z A c h hS hx hr f t a hf ht ha;have HC:=hdq ((Cur.start h).put0 f t a 1 0 0 ⟨hf,ht,zbj 1 (by decide) (by decide),zbR 0 (by decide) (by decide),zbj 0 (by decide) (by decide),ha⟩ (hr.less (by omega)));have HH:=hdq h;show Calls Tryz.prog 69 #[.pointer (some ⟨C.b,0,none⟩),.slice A 0 c,.int .i64 f,.int .i64 t,.int .i64 a] W _
 obtain⟨b,hb⟩:=nmq C.b;rw[<-hb]at HC ⊢;have HB:=hdq hb;clear h hS hx hr hf ht ha hb;go_enter Tryz.func69,Tryz.ntmps69;go_wp2_with fail;refine HC.mono ?_;rintro _ w2 ⟨rfl,KG⟩;have FZ:=hdq KG;clear KG;go_wp2_with fail;go_end0;obtain⟨u',h1,h2⟩:=FZ.out;exact⟨u',rfl,h1,HB.out▸h2⟩
theorem zlB (C:FgC)(xs:Sts)(GU:0 < xs.len)(Ha:BlkI C xs):FBlk C xs:=by
 intro W s u S Z A c h hS hx hr f t a hf ht ha;obtain⟨b2,o2,rfl,Hd⟩:=hx.2.2 GU;obtain⟨m,hm⟩:∃m,xs.len=m+1:=⟨xs.len - 1,by omega⟩;have hl:m+1<=9223372036854775807:=by rw[<-hm];exact leq9 hx.1 hx.2.1.1
 have Fw:m+1<=c:=by rw[<-hm];exact hx.1
 have Js:c<=9223372036854775807:=hx.2.1.1;obtain⟨b,hb⟩:=nmq C.b;obtain⟨R,hR⟩:=nmq (blkF C.sc C.ar (mksS C.sc C.ar xs) f t a s);have TV:=hdq (show BkI C u W xs t a R 0 f s W from⟨Cur.start h,hf,hr,hR.symm⟩);have HH:=hdq h;have HX:=hdq (aiq Hd (aiq hS (aiq ht ha)));have HA:=hdq Ha;have HM:=hdq hm;have HB:=hdq hb;rw[hm,<-hR,<-hb];have n1:IntKind.i64.wrap (((m+1:Nat):Int) - 1)=(m:Int):=by rw[IntWalk.i64_in _ (by omega)];omega
 have n2:(((m:Int)+1)==0)=false:=by simp;omega
 have n3:(0:Int)<=(m:Int):=by omega
 have n4:(m:Int) < ((m+1:Nat):Int):=by omega
 have n5:((m:Int)).toNat =m:=by omega
 have n6:m < m+1:=Nat.lt_succ_self m;have n7:m<=c:=by omega
 clear h hS hx hr hf ht ha Hd Ha hm hb hR GU;go_enter Tryz.func69,Tryz.ntmps69;go_wp2_with fail;go_loopw [2,28] (λv i wr=>∃k:Nat,k<=m/\i= .int .i64 k/\∃(fr:Int)(s':FgS),v= .int .i64 fr/\Hid (BkI C u W xs t a R k fr s' wr)) (λv i _=>m - (intOf i).toNat);case atStart=>exact⟨0,Nat.zero_le _,rfl,f,s,rfl,TV⟩
 case round=>
  clear TV;obtain⟨k,hk,rfl,fr,s',rfl,hi⟩:=hrel;have xE:k < xs.len:=by rw[HM.out];omega
  obtain⟨k0,nm,args,cond,body,els,at_,r,hd⟩:=Sts.drop_cons xE;have Hb:=StR.drop k HX.1;rw[hd]at Hb;obtain⟨A1,d1,A2,d2,A3,d3,A4,d4,Qj,s1,s2,s3,s4,Y2,xF⟩:=zmO Hb (hi.cur.same HH.out HX.2.1);obtain⟨l1,Hv⟩:=nmq args.len;obtain⟨l2,Gl⟩:=nmq cond.len;obtain⟨l3,Gz⟩:=nmq body.len;obtain⟨l4,Gy⟩:=nmq els.len;have LC:=λ(s2':FgS)(w:World)(LB:Cur C u W s2' w)=>LB.stm HH.out (HA k k0 nm args cond body els at_ r hd) S Z A1 A2 A3 A4 d1 d2 d3 d4 HX.2.1 Y2 s1 s2 s3 s4;rw[<-Hv,<-Gl,<-Gz,<-Gy,<-HB.out]at LC;rw[<-Hv,<-Gl,<-Gz,<-Gy]at Qj;obtain⟨y0,y1,y2,y3,y4,y5,y6⟩:=Qj;have QC:=hdq LC;have HD:=hdq hd;have g1:(0:Int)<=(k:Int):=by omega
  have g3:((k:Int)).toNat =k:=by omega
  have g4:k < m+1:=by omega
  have g5:(k:Int) < ((m+1:Nat):Int):=by omega
  clear Hb s1 s2 s3 s4 Y2 xF Hv Gl Gz Gy LC hd;by_cases Hr:k < m
  ·have Hl:(k:Int) < (m:Int):=by omega
   have Xu:IntKind.i64.wrap ((k:Int)+1)=((k+1:Nat):Int):=by rw[IntWalk.i64_in _ (by omega)];omega
   obtain⟨wX,UU⟩:=nmq (wr.alloc (.cells #[.int .u8 k0,.string nm,.slice A1 l1 d1,.slice A2 l2 d2,.slice A3 l3 d3,.slice A4 l4 d4,.int .i64 at_] 39));obtain⟨k1,nm1,args1,cond1,body1,els1,DK,r1,JT⟩:=Sts.drop_cons (show k+1 < xs.len from by rw[HM.out];omega);have Rh:r= .cons k1 nm1 args1 cond1 body1 els1 DK r1:=by
    rw[<-JT];exact(Sts.drop_succ k xs HD.out).symm
   have J2:Room (1+(szM cond (szT body) (szT els)+(1+szT r))) s':=by
    have:=hi.room;rw[HD.out]at this;exact this.less (by simp only[szT];omega)
   have PO:=J2.after (zah s');have LN:=hdq (hi.cur.nodeB (J2.less (by omega)) UU);rw[<-HB.out]at LN;have Gs:=hdq (aiq J2.in_ (aiq hi.in_ (aiq (PO.less (show szM cond (szT body) (szT els)<=_ from by omega)) PO)));have Xz:=hdq (show blkF C.sc C.ar (mksS C.sc C.ar (Sts.drop (k+1) xs)) s'.nodes t a (stmF C.sc C.ar k0 nm args (zaw C.sc C.ar cond) (mksS C.sc C.ar body) (mksS C.sc C.ar els) at_ fr s'.nodes s'.node)=R from by
    have h1:=hi.eq;rw[HD.out,Rh]at h1;rw[JT];exact h1)
   have xG:=hdq (show Sts.drop (k+1) xs=r from Sts.drop_succ k xs HD.out);obtain⟨nd,Fa⟩:=nmq s'.nodes;rw[<-Fa]at LN Gs Xz;have YQ:=hdq UU;clear JT Rh J2 PO UU Fa;go_wp2_with fail;rw[<-YQ.out];refine LN.mono ?_;rintro _ w2 ⟨rfl,Eh,He⟩;have x0:=He.cell 0;have x1:=He.cell 1;have x2:=He.cell 2;have x3:=He.cell 3;have x4:=He.cell 4;have x5:=He.cell 5;have x6:=He.cell 6;have xl:=He.lt;simp only[getsL]at x0 x1 x2 x3 x4 x5 x6;have HC:=hdq (QC _ w2 Eh Gs.2.2.1 fr nd Gs.2.1 Gs.1);clear Eh He y0 y1 y2 y3 y4 y5 y6 LN;go_wp2_with fail;refine HC.mono ?_;rintro _ w3 ⟨rfl,Ef⟩;have F8:=hdq (show BkI C u W xs t a R (k+1) nd _ w3 from⟨Ef,Gs.1,by rw[xG.out];exact Gs.2.2.2.after (zdg C.sc C.ar k0 nm args cond _ _ (szT body) (szT els) at_ fr nd s'.node (zaZ C.sc C.ar body) (zaZ C.sc C.ar els)),Xz.out⟩);clear Ef HC x0 x1 x2 x3 x4 x5 x6 xl;go_wp2_with fail;go_roundw;case rel=>exact⟨k+1,by omega,by go_num,_,_,rfl,F8⟩
   case measure=>simp[intOf];omega
  ·have JK:k=m:=by omega
   subst JK;have Hl:¬(k:Int) < (k:Int):=by omega
   have ym:r= .nil :=by
    have h1:=Sts.drop_succ k xs HD.out;rw[<-h1];exact Sts.drop_nil (by rw[HM.out];omega)
   have J2:=hi.room;rw[HD.out]at J2;have HC:=hdq (QC _ wr hi.cur (J2.less (by simp only[szT];omega)) fr t hi.in_ HX.2.2.1);have Xz:=hdq (show stmF C.sc C.ar k0 nm args (zaw C.sc C.ar cond) (mksS C.sc C.ar body) (mksS C.sc C.ar els) at_ fr t s'=R from by
    have h1:=hi.eq;rw[HD.out,ym]at h1;exact h1)
   clear J2 ym;go_wp2_with fail;refine HC.mono ?_;rintro _ w3 ⟨rfl,Ef⟩;have EK:=hdq Ef;clear Ef HC;go_wp2_with fail;go_end0;obtain⟨u',h1,h2⟩:=EK.out;rw[Xz.out]at h1;exact⟨u',rfl,h1,h2⟩
def wfS:Sts->Prop
 | .nil =>True
 | .cons k nm args cond body els _ r=>(1<=k/\k<=8)/\nm.size<=9223372036854775807/\szQ args/\wfC cond/\(5<=k->1<=cond.len)/\wfS body/\wfS els/\wfS r
theorem zfm (C:FgC)(xs:Sts)(h:BlkI C xs):FBlk C xs:=by
 cases xs with
 |nil=>exact zmP C
 |cons k nm args cond body els at_ r=>exact zlB C _ (by simp[Sts.len]) h
theorem zmQ (C:FgC)(k:Int)(nm:ByteArray)(args:Exs)(cond:Cds)(body els:Sts)(at_:Int)(h1:1<=k)(h8:k<=8)(hn:nm.size<=9223372036854775807)(hz:szQ args)(hw:wfC cond)(hc:5<=k->1<=cond.len)(hb:FBlk C body)(he:FBlk C els):StmC C k nm args cond body els at_:=by
 by_cases h5:5<=k
 ·cases cond with
  |nil=>exact absurd (hc h5) (by simp[Cds.len])
  |cons k0 a0 o0 t0 r0=>
   have JH:=zj8 C k0 a0 o0 t0 r0 hw;rcases(show k=5\/k=6\/k=7\/k=8 from by omega)with rfl|rfl|rfl|rfl
   ·exact stm_5 C nm args _ body els at_ k0 a0 o0 t0 r0 rfl JH
   ·exact stm_6 C nm args _ body els at_ k0 a0 o0 t0 r0 rfl JH
   ·exact stm_7 C nm args _ body els at_ k0 a0 o0 t0 r0 rfl JH hb he
   ·exact stm_8 C nm args _ body els at_ k0 a0 o0 t0 r0 rfl JH hb
 ·rcases(show k=1\/k=2\/k=3\/k=4 from by omega)with rfl|rfl|rfl|rfl
  ·exact stm_1 C nm args cond body els at_
  ·exact stm_2 C nm args cond body els at_ hn hz
  ·exact stm_3 C nm args cond body els at_ hn hz
  ·exact stm_4 C nm args cond body els at_ hn hz
theorem zdh (C:FgC):∀xs:Sts,wfS xs->BlkI C xs
 | .nil,_,i,_,_,_,_,_,_,_,_,h=>by cases i<;>simp[Sts.drop]at h
 | .cons k nm args cond body els at_ r,hw,0,k0,n0,a0,c0,b0,e0,t0,r0,h=>by
  simp only[Sts.drop,Sts.cons.injEq]at h;obtain⟨rfl,rfl,rfl,rfl,rfl,rfl,rfl,_⟩:=h;obtain⟨⟨h1,h2⟩,h3,h4,h5,h6,h7,h8,_⟩:=hw;exact zmQ C _ _ _ _ _ _ _ h1 h2 h3 h4 h5 h6 (zfm C _ (zdh C _ h7)) (zfm C _ (zdh C _ h8))
 | .cons k nm args cond body els at_ r,hw,i+1,k0,n0,a0,c0,b0,e0,t0,r0,h=>by
  simp only[Sts.drop]at h;exact zdh C r hw.2.2.2.2.2.2.2 i k0 n0 a0 c0 b0 e0 t0 r0 h
theorem zka (C:FgC)(xs:Sts)(h:wfS xs):FBlk C xs:=zfm C xs (zdh C xs h)
