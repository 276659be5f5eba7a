/- big. -/
import Derived.Test.YtfomomaomggpbaaGreatDoorJgBgMkA
set_option linter.all false
set_option maxHeartbeats 6400000
set_option maxRecDepth 100000
namespace Go.Proofs.YtfomomaomggpbaaGreatDoor
open Go.RowKit Go.Shelf
structure BxS (C:BgC)(W w:World)(cs:Array Value):Prop where
 fr:Fr NoT W w
 p:Bk w W.heap.size 69 #[.pointer (some ⟨C.P,0,none⟩)]
 q:Bk w (W.heap.size+1) 51 cs
section
variable {C:BgC} {W w w':World} {cs:Array Value}
theorem BxS.next (h:BxS C W w cs)(hf:Fr NoT w w'):BxS C W w' cs:=⟨h.fr.trans hf,h.p.fr0 hf,h.q.fr0 hf⟩
theorem BxS.bp (h:BxS C W w cs):Bx W.heap.size w.heap.size w W.heap.size 69 #[.pointer (some ⟨C.P,0,none⟩)]:=⟨h.p,aL _,h.p.lt⟩
theorem BxS.bq (h:BxS C W w cs):Bx W.heap.size w.heap.size w (W.heap.size+1) 51 cs:=⟨h.q,Nat.le_succ _,h.q.lt⟩
theorem BxS.new {k:Int}{nm:ByteArray}{A2 A3 A4 A5:Option Addr}{l2 c2 l3 c3 l4 c4 l5 c5:Nat}{at_:Int}:BxS C W (stW W C k nm A2 A3 A4 A5 l2 c2 l3 c3 l4 c4 l5 c5 at_) (bgStC k nm A2 A3 A4 A5 l2 c2 l3 c3 l4 c4 l5 c5 at_):=⟨(aH.alloc _).alloc _,(Bk.new _ _ _).alloc _,Bk.new_at _ _ _ (by simp)⟩
end
theorem MkD.from {C:BgC}{ps:List (List UInt8)}{D D':DoR}{W w2 w':World}{e:Ending}(h:MkD C ps D w2 e w')(hf:Fr NoT W w2)(hD:∀s h t,D' s h t->D s h t):MkD C ps D' W e w':=by
 obtain⟨val,e1,h1,h2⟩:=h;exact⟨val,e1,hf.trans h1,(h2.to hD).wide hf.size (aL _)⟩
theorem ziB (C:BgC)(ps:List (List UInt8))(ho:C.Ok)(k:Int)(nm:ByteArray)(cond:Cds)(at_:Int)(k0 a0 o0 t0 r0)(e:cond= .cons k0 a0 o0 t0 r0)(h0:CndC C ps k0 a0 o0 t0)(en:Ho)(W:World)(S:Nat->Prop)(Z:Prop)(A2 A3 A4 A5:Option Addr)(l2 c2 c3 l4 c4 l5 c5:Nat)(hT:C.T<=W.heap.size)(GE:PgAt C W)(hS:∀x,S x->x < C.B)(hx:SlR (λb o=>CdR W S Z cond b o) cond.len 64 A3 c3):
  Calls Tryz.prog 106 #[.pointer (some ⟨C.P,0,none⟩),.agg (bgStC k nm A2 A3 A4 A5 l2 c2 cond.len c3 l4 c4 l5 c5 at_),.agg #[.int .u8 en.kind,.int .u8 en.wrong,.int .i64 en.at_]] W (MkD C ps (λs h t=>(h,t)=askO (truS C.n ps k0 a0 o0 t0) en s) W):=by
 obtain⟨b0,Dp,rfl,Hg⟩:=hx.2.2 (by rw[e];simp[Cds.len]);rw[e]at Hg;obtain⟨⟨Gn,_,_,_,e0,e3⟩,⟨A6,c6,e1,s1⟩,⟨A7,c7,e2,s2⟩,_⟩:=Hg;obtain⟨l,hl⟩:=aF cond.len;have Nx:0 < l:=by rw[hl,e];simp[Cds.len]
 have Wu:l<=9223372036854775807:=by rw[hl];exact aK hx.1 hx.2.1.1
 obtain⟨l6,Jb⟩:=aF a0.len;obtain⟨l7,NB⟩:=aF o0.len;rw[<-Jb]at e1;rw[<-NB]at e2;have Fu:C.B<=W.heap.size:=by have h1:=ho.br;have h2:=ho.rT;omega
 have Fm:b0 < W.heap.size:=aM (hS _ Gn) Fu;obtain⟨ek,ew,ea⟩:=en;obtain⟨w2,Gc⟩:=aF ((W.alloc (.cells (bgStC k nm A2 (some ⟨b0,Dp,none⟩) A4 A5 l2 c2 l c3 l4 c4 l5 c5 at_) 51)).alloc (.cells #[.int .u8 ek,.int .u8 ew,.int .i64 ea] 85));have He:Fr NoT W w2:=by rw[Gc];exact(aH.alloc _).alloc _
 have gw:Bk w2 W.heap.size 51 (bgStC k nm A2 (some ⟨b0,Dp,none⟩) A4 A5 l2 c2 l c3 l4 c4 l5 c5 at_):=by rw[Gc];exact(Bk.new _ _ _).alloc _
 have L1:Bk w2 (W.heap.size+1) 85 #[.int .u8 ek,.int .u8 ew,.int .i64 ea]:=by rw[Gc];exact Bk.new_at _ _ _ (by simp)
 have Fx:SameS S W w2:=He.same λb hb=>⟨aM (hS b hb) Fu,id⟩;have Gt:PgAt C w2:=GE.later ho (Later.of0 (lo:=0) (hi:=0) He (Nat.zero_le _) hT);have H9:=h0 w2 S Z A6 A7 c6 c7 (aK hT He.size) Gt hS (s1.imp λ_ _ hx=>ExR.keep Fx hx) (s2.imp λ_ _ hx=>CdR.keep Fx hx);rw[<-Jb,<-NB]at H9;have q3:=gw.cell 3;have d0:=(He.cell Fm id).trans e0;have d1:=(He.cell Fm id).trans e1;have d2:=(He.cell Fm id).trans e2;have d3:=(He.cell Fm id).trans e3;have G2:b0 < w2.heap.size:=aM Fm He.size;have X4:=gw.lt;simp only[bgStC,List.getElem?_toArray,List.getElem?_cons_succ,List.getElem?_cons_zero]at q3;have HC:=aA H9;have Kz:=aA Gc;have FY:=aA (show ∀w5 val,Fr NoT w2 w5->TruP C ps val (truS C.n ps k0 a0 o0 t0) w2.heap.size w5.heap.size w5->MkD C ps (λs h t=>(h,t)=askO (truS C.n ps k0 a0 o0 t0) ⟨ek,ew,ea⟩ s) W (.returned (.func (.func 178) #[] #[.pointer (some ⟨w5.heap.size,0,none⟩),.pointer (some ⟨W.heap.size+1,0,none⟩)])) (w5.alloc (.cells #[val] 223))from λw5 val Hm hv=>by
  have GA:Fr NoT w5 (w5.alloc (.cells #[val] 223)):=aH.alloc _;have h2:=He.size;have h5:=Hm.size;refine⟨_,rfl,(He.trans Hm).trans GA,ask_1 ho hT ⟨Bk.new _ _ _,by omega,by simp⟩ ⟨(L1.fr0 Hm).fr0 GA,Nat.le_succ _,((L1.fr0 Hm).fr0 GA).lt⟩ ((hv.later (Later.of0 GA (aL _) (by omega))).wide h2 GA.size)⟩)
 rw[<-hl];clear hx s1 s2 Jb NB hl Fu He gw L1 Fx d0 d1 d2 d3 G2 X4 q3 Gt H9 Gc GE hS hT Gn h0 e;go_enter Tryz.func106,Tryz.ntmps106;go_wp2_with fail;rw[<-Kz.out];refine HC.mono ?_;rintro _ w5 ⟨val,rfl,Hm,hv⟩;have hr:=FY _ _ Hm hv;obtain⟨gg,cps,rfl⟩:=hv.func;have HR:=aA hr;clear Hm hv hr e0 e1 e2 e3;go_wp2_with fail;go_ret;exact HR.out
theorem zhQ {C:BgC}{ps:List (List UInt8)}{D D':DoR}{k:Int}{nm:ByteArray}{at_:Int}{W:World}{A2 A3 A4 A5:Option Addr}{l2 c2 l3 c3 l4 c4 l5 c5:Nat}(hk:k=2\/k=3\/k=4)
  (hc:Calls Tryz.prog 105 #[.pointer (some ⟨C.P,0,none⟩),.agg (bgStC k nm A2 A3 A4 A5 l2 c2 l3 c3 l4 c4 l5 c5 at_)] (stW W C k nm A2 A3 A4 A5 l2 c2 l3 c3 l4 c4 l5 c5 at_) (MkD C ps D (stW W C k nm A2 A3 A4 A5 l2 c2 l3 c3 l4 c4 l5 c5 at_))) (hD:∀s h t,D' s h t->D s h t):
  Calls Tryz.prog 54 #[.pointer (some ⟨C.P,0,none⟩),.agg (bgStC k nm A2 A3 A4 A5 l2 c2 l3 c3 l4 c4 l5 c5 at_)] W (MkD C ps D' W):=by
 have HB:=aA (BxS.new (C:=C) (W:=W) (k:=k) (nm:=nm) (A2:=A2) (A3:=A3) (A4:=A4) (A5:=A5) (l2:=l2) (c2:=c2) (l3:=l3) (c3:=c3) (l4:=l4) (c4:=c4) (l5:=l5) (c5:=c5) (at_:=at_));obtain⟨w2,Gc⟩:=aF (stW W C k nm A2 A3 A4 A5 l2 c2 l3 c3 l4 c4 l5 c5 at_);rw[<-Gc]at hc HB;unfold stW at Gc;have HC:=aA hc;have Kz:=aA Gc;have HD:=aA hD;clear hc Gc hD;rcases hk with rfl|rfl|rfl;all_goals
  go_enter Tryz.func54,Tryz.ntmps54;go_wp2_with fail;rw[<-Kz.out];refine HC.mono ?_;rintro e w5 hr;have GT:=hr.from HB.fr HD.out;obtain⟨val,rfl,_,Rg⟩:=hr;obtain⟨gg,cps,rfl⟩:=Rg.func;have HR:=aA GT;clear GT Rg;go_wp2_with fail;go_ret;exact HR.out
theorem znw {C:BgC}{ps:List (List UInt8)}{D D':DoR}{k:Int}{nm:ByteArray}{at_:Int}{W:World}{A2 A3 A4 A5:Option Addr}{l2 c2 l3 c3 l4 c4 l5 c5:Nat}(hk:k=5)
  (hc:Calls Tryz.prog 106 #[.pointer (some ⟨C.P,0,none⟩),.agg (bgStC k nm A2 A3 A4 A5 l2 c2 l3 c3 l4 c4 l5 c5 at_),.agg #[.int .u8 4,.int .u8 0,.int .i64 at_]] (stW W C k nm A2 A3 A4 A5 l2 c2 l3 c3 l4 c4 l5 c5 at_) (MkD C ps D (stW W C k nm A2 A3 A4 A5 l2 c2 l3 c3 l4 c4 l5 c5 at_))) (hD:∀s h t,D' s h t->D s h t):
  Calls Tryz.prog 54 #[.pointer (some ⟨C.P,0,none⟩),.agg (bgStC k nm A2 A3 A4 A5 l2 c2 l3 c3 l4 c4 l5 c5 at_)] W (MkD C ps D' W):=by
 have HB:=aA (BxS.new (C:=C) (W:=W) (k:=k) (nm:=nm) (A2:=A2) (A3:=A3) (A4:=A4) (A5:=A5) (l2:=l2) (c2:=c2) (l3:=l3) (c3:=c3) (l4:=l4) (c4:=c4) (l5:=l5) (c5:=c5) (at_:=at_));obtain⟨w2,Gc⟩:=aF (stW W C k nm A2 A3 A4 A5 l2 c2 l3 c3 l4 c4 l5 c5 at_);rw[<-Gc]at hc HB;unfold stW at Gc;have HC:=aA hc;have Kz:=aA Gc;have HD:=aA hD;clear hc Gc hD;subst hk;all_goals
  go_enter Tryz.func54,Tryz.ntmps54;go_wp2_with fail;rw[<-Kz.out];refine HC.mono ?_;rintro e w5 hr;have GT:=hr.from HB.fr HD.out;obtain⟨val,rfl,_,Rg⟩:=hr;obtain⟨gg,cps,rfl⟩:=Rg.func;have HR:=aA GT;clear GT Rg;go_wp2_with fail;go_ret;exact HR.out
theorem znx {C:BgC}{ps:List (List UInt8)}{D D':DoR}{k:Int}{nm:ByteArray}{at_:Int}{W:World}{A2 A3 A4 A5:Option Addr}{l2 c2 l3 c3 l4 c4 l5 c5:Nat}(hk:k=6)
  (hc:Calls Tryz.prog 106 #[.pointer (some ⟨C.P,0,none⟩),.agg (bgStC k nm A2 A3 A4 A5 l2 c2 l3 c3 l4 c4 l5 c5 at_),.agg #[.int .u8 5,.int .u8 1,.int .i64 at_]] (stW W C k nm A2 A3 A4 A5 l2 c2 l3 c3 l4 c4 l5 c5 at_) (MkD C ps D (stW W C k nm A2 A3 A4 A5 l2 c2 l3 c3 l4 c4 l5 c5 at_))) (hD:∀s h t,D' s h t->D s h t):
  Calls Tryz.prog 54 #[.pointer (some ⟨C.P,0,none⟩),.agg (bgStC k nm A2 A3 A4 A5 l2 c2 l3 c3 l4 c4 l5 c5 at_)] W (MkD C ps D' W):=by
 have HB:=aA (BxS.new (C:=C) (W:=W) (k:=k) (nm:=nm) (A2:=A2) (A3:=A3) (A4:=A4) (A5:=A5) (l2:=l2) (c2:=c2) (l3:=l3) (c3:=c3) (l4:=l4) (c4:=c4) (l5:=l5) (c5:=c5) (at_:=at_));obtain⟨w2,Gc⟩:=aF (stW W C k nm A2 A3 A4 A5 l2 c2 l3 c3 l4 c4 l5 c5 at_);rw[<-Gc]at hc HB;unfold stW at Gc;have HC:=aA hc;have Kz:=aA Gc;have HD:=aA hD;clear hc Gc hD;subst hk;all_goals
  go_enter Tryz.func54,Tryz.ntmps54;go_wp2_with fail;rw[<-Kz.out];refine HC.mono ?_;rintro e w5 hr;have GT:=hr.from HB.fr HD.out;obtain⟨val,rfl,_,Rg⟩:=hr;obtain⟨gg,cps,rfl⟩:=Rg.func;have HR:=aA GT;clear GT Rg;go_wp2_with fail;go_ret;exact HR.out
theorem zny {C:BgC}{ps:List (List UInt8)}{D D':DoR}{k:Int}{nm:ByteArray}{at_:Int}{W:World}{A2 A3 A4 A5:Option Addr}{l2 c2 l3 c3 l4 c4 l5 c5:Nat}(hk:k=9)
  (hc:Calls Tryz.prog 111 #[.pointer (some ⟨C.P,0,none⟩),.agg (bgStC k nm A2 A3 A4 A5 l2 c2 l3 c3 l4 c4 l5 c5 at_)] (stW W C k nm A2 A3 A4 A5 l2 c2 l3 c3 l4 c4 l5 c5 at_) (MkD C ps D (stW W C k nm A2 A3 A4 A5 l2 c2 l3 c3 l4 c4 l5 c5 at_))) (hD:∀s h t,D' s h t->D s h t):
  Calls Tryz.prog 54 #[.pointer (some ⟨C.P,0,none⟩),.agg (bgStC k nm A2 A3 A4 A5 l2 c2 l3 c3 l4 c4 l5 c5 at_)] W (MkD C ps D' W):=by
 have HB:=aA (BxS.new (C:=C) (W:=W) (k:=k) (nm:=nm) (A2:=A2) (A3:=A3) (A4:=A4) (A5:=A5) (l2:=l2) (c2:=c2) (l3:=l3) (c3:=c3) (l4:=l4) (c4:=c4) (l5:=l5) (c5:=c5) (at_:=at_));obtain⟨w2,Gc⟩:=aF (stW W C k nm A2 A3 A4 A5 l2 c2 l3 c3 l4 c4 l5 c5 at_);rw[<-Gc]at hc HB;unfold stW at Gc;have HC:=aA hc;have Kz:=aA Gc;have HD:=aA hD;clear hc Gc hD;subst hk;all_goals
  go_enter Tryz.func54,Tryz.ntmps54;go_wp2_with fail;rw[<-Kz.out];refine HC.mono ?_;rintro e w5 hr;have GT:=hr.from HB.fr HD.out;obtain⟨val,rfl,_,Rg⟩:=hr;obtain⟨gg,cps,rfl⟩:=Rg.func;have HR:=aA GT;clear GT Rg;go_wp2_with fail;go_ret;exact HR.out
theorem znz {C:BgC}{ps:List (List UInt8)}{D':DoR}{nm:ByteArray}{at_:Int}{W:World}{A2 A3 A4 A5:Option Addr}{l2 c2 l3 c3 l4 c4 l5 c5:Nat}(ho:C.Ok)(hT:C.T<=W.heap.size)(GE:PgAt C W)(hD:∀s h t,D' s h t->(h,t)=zjG at_ s):
  Calls Tryz.prog 54 #[.pointer (some ⟨C.P,0,none⟩),.agg (bgStC 1 nm A2 A3 A4 A5 l2 c2 l3 c3 l4 c4 l5 c5 at_)] W (MkD C ps D' W):=by
 have hb:=BxS.new (C:=C) (W:=W) (k:=1) (nm:=nm) (A2:=A2) (A3:=A3) (A4:=A4) (A5:=A5) (l2:=l2) (c2:=c2) (l3:=l3) (c3:=c3) (l4:=l4) (c4:=c4) (l5:=l5) (c5:=c5) (at_:=at_);obtain⟨w2,Gc⟩:=aF (stW W C 1 nm A2 A3 A4 A5 l2 c2 l3 c3 l4 c4 l5 c5 at_);rw[<-Gc]at hb;unfold stW at Gc;have HR:=aA (show MkD C ps D' W (.returned (.func (.func 112) #[] #[.pointer (some ⟨W.heap.size,0,none⟩),.pointer (some ⟨W.heap.size+1,0,none⟩)])) w2 from⟨_,rfl,hb.fr,(one_3 ho hT (GE.later ho (Later.of0 (lo:=0) (hi:=0) hb.fr (Nat.zero_le _) hT)) hb.bp hb.bq rfl).to hD⟩);have Kz:=aA Gc;clear hb Gc hD ho hT GE;go_enter Tryz.func54,Tryz.ntmps54;go_wp2_with fail;rw[<-Kz.out];go_ret;exact HR.out
def slD (C:BgC)(ps:List (List UInt8))(D:DoR):SlT:=λv lo hi w=>DoP C ps v D lo hi w
theorem zlO {C:BgC}{ps:List (List UInt8)}{D:DoR}:Stb C (slD C ps D):=λ_ _ _ _ _ hl h=>DoP.later h hl
def slo3 (g0 g1 g2:SlT):Nat->Option SlT
 |0=>some g0
 |1=>some g1
 |2=>some g2
 |_=>none
theorem zpq {C:BgC}{g0 g1 g2:SlT}(h0:Stb C g0)(h1:Stb C g1)(h2:Stb C g2):∀p g,slo3 g0 g1 g2 p=some g->Stb C g
 |0,g,e=>by cases e;exact h0
 |1,g,e=>by cases e;exact h1
 |2,g,e=>by cases e;exact h2
 |p+3,g,e=>by cases e
def tyI:Nat->TypeId
 |3=>223
 |_=>80
def tyW:Nat->TypeId
 |2=>223
 |_=>80
def zpr:List Bool->Bool:=λbs=>(!bs.getD 1 false || bs.getD 0 false)&&(!bs.getD 2 false || bs.getD 1 false)
def IfS (p q b o:Nat)(P A3 A4 A5:Option Addr)(l3 c3 l4 c4 l5 c5:Nat)(v0 v1 v2 v3:Value)(W:World):Prop:=W.cell? ⟨p,0,none⟩=some (.pointer P)/\W.cell? ⟨q,3,none⟩=some (.slice A3 l3 c3)/\W.cell? ⟨q,4,none⟩=some (.slice A4 l4 c4)/\W.cell? ⟨q,5,none⟩=some (.slice A5 l5 c5)/\W.cell? ⟨b,o,none⟩=some v0/\W.cell? ⟨b,o+1,none⟩=some v1/\W.cell? ⟨b,o+2,none⟩=some v2/\W.cell? ⟨b,o+3,none⟩=some v3
theorem zps (C:BgC)(kn:List UInt8->Prop)(ps:List (List UInt8))(ho:C.Ok)(nm:ByteArray)(args:Exs)(cond:Cds)(body els:Sts)(at_:Int)(k0 a0 o0 t0)(e:cond= .cons k0 a0 o0 t0 .nil)(h0:CndC C ps k0 a0 o0 t0)(h1:zg7 C kn ps body)(h2:zg7 C kn ps els):OneC C kn ps 7 nm args cond body els at_:=by
 intro W S Z A2 A3 A4 A5 c2 c3 c4 c5 hT GE Kw hS GK L3 LN UJ;obtain⟨bb,oo,rfl,Hg⟩:=L3.2.2 (by rw[e];simp[Cds.len]);rw[e]at Hg;obtain⟨⟨Gn,_,_,_,e0,e3⟩,⟨A6,c6,e1,s1⟩,⟨A7,c7,e2,s2⟩,_⟩:=Hg;obtain⟨l2,FM⟩:=aF args.len;obtain⟨l3,JP⟩:=aF cond.len;obtain⟨l4,KP⟩:=aF body.len;obtain⟨l5,Jr⟩:=aF els.len;have gx:0 < l3:=by rw[JP,e];simp[Cds.len]
 have gy:l3<=9223372036854775807:=by rw[JP];exact aK L3.1 L3.2.1.1
 obtain⟨l6,Jb⟩:=aF a0.len;obtain⟨l7,NB⟩:=aF o0.len;rw[<-Jb]at e1;rw[<-NB]at e2;obtain⟨w2,Gc⟩:=aF (stW W C 7 nm A2 (some ⟨bb,oo,none⟩) A4 A5 l2 c2 l3 c3 l4 c4 l5 c5 at_);have hB:BxS C W w2 (bgStC 7 nm A2 (some ⟨bb,oo,none⟩) A4 A5 l2 c2 l3 c3 l4 c4 l5 c5 at_):=by rw[Gc];exact BxS.new
 have Fu:C.B<=W.heap.size:=by have h1:=ho.br;have h2:=ho.rT;omega
 have Fm:bb < W.heap.size:=aM (hS _ Gn) Fu;have Jl:C.T<=w2.drew.heap.size:=aK hT hB.fr.size;have Fx:∀w',Fr NoT W w'->SameS S W w':=λw' hf=>hf.same λb hb=>⟨aM (hS b hb) Fu,id⟩;have Gt:∀w',Fr NoT W w'->PgAt C w':=λw' hf=>GE.later ho (Later.of0 (lo:=0) (hi:=0) hf (Nat.zero_le _) hT);have P0:∀w',Fr NoT W w'->PrAt C kn w':=λw' hf=>Kw.fr0 ho hT hf;have G8:∀w',Fr NoT W w'->_:=λw' hf=>h0 w' S Z A6 A7 c6 c7 (aK hT hf.size) (Gt w' hf) hS (s1.imp λ_ _ hx=>ExR.keep (Fx w' hf) hx) (s2.imp λ_ _ hx=>CdR.keep (Fx w' hf) hx);have Hn:∀w',Fr NoT W w'->_:=λw' hf=>h1 w' S Z A4 c4 (aK hT hf.size) (Gt w' hf) (P0 w' hf) hS (LN.imp λ_ _ hx=>StR.keep (Fx w' hf) hx);have Ht:∀w',Fr NoT W w'->_:=λw' hf=>h2 w' S Z A5 c5 (aK hT hf.size) (Gt w' hf) (P0 w' hf) hS (UJ.imp λ_ _ hx=>StR.keep (Fx w' hf) hx);have GH:∀w',Fr NoT w2 w'->IfS W.heap.size (W.heap.size+1) bb oo (some ⟨C.P,0,none⟩) (some ⟨bb,oo,none⟩) A4 A5 l3 c3 l4 c4 l5 c5 (.int .u8 k0) (.slice A6 l6 c6) (.slice A7 l7 c7) (.int .i64 t0) w':=λw' hf=>
  have He:=hB.fr.trans hf
  ⟨(hB.next hf).p.cell 0,(hB.next hf).q.cell 3,(hB.next hf).q.cell 4,(hB.next hf).q.cell 5,(He.cell Fm id).trans e0,(He.cell Fm id).trans e1,(He.cell Fm id).trans e2,(He.cell Fm id).trans e3⟩
 have Hb:∀w7 x1 x2 x3 v1 v2 v3 xn Fd xq Jq uP gz,Fr NoT w2 w7->Bk w7 x1 223 #[v1]->w2.heap.size<=x1->Bk w7 x2 80 #[v2]->w2.heap.size<=x2->Bk w7 x3 80 #[v3]->w2.heap.size<=x3->TruP C ps v1 (truS C.n ps k0 a0 o0 t0) xn Fd w7->w2.heap.size<=xn->Fd<=w7.heap.size->DoP C ps v2 (RunT C.n (.all ps body)) xq Jq w7->w2.heap.size<=xq->Jq<=w7.heap.size->DoP C ps v3 (RunT C.n (.all ps els)) uP gz w7->w2.heap.size<=uP->gz<=w7.heap.size->
   MkD C ps (RunT C.n (.one ps 7 nm args cond body els at_)) W (.returned (.func (.func 108) #[] #[.pointer (some ⟨x1,0,none⟩),.pointer (some ⟨x2,0,none⟩),.pointer (some ⟨x3,0,none⟩)])) w7:=by
  intro w7 x1 x2 x3 v1 v2 v3 xn Fd xq Jq uP gz Jo Ff Jk GK Lz L3 Tc F5 FB Js Kv FS J1 KL UK gA;have Hs:=hB.fr.trans Jo;have P2:=hB.next Jo;have h2:=hB.fr.size;have FB:=aK h2 FB;have Ff:Bx W.heap.size w7.heap.size w7 x1 223 #[v1]:=⟨Ff,aK h2 Jk,Ff.lt⟩;have FS:=aK h2 FS;have GK:Bx W.heap.size w7.heap.size w7 x2 80 #[v2]:=⟨GK,aK h2 Lz,GK.lt⟩;have UK:=aK h2 UK;have L3:Bx W.heap.size w7.heap.size w7 x3 80 #[v3]:=⟨L3,aK h2 Tc,L3.lt⟩;exact⟨_,rfl,Hs,(one_1 ho hT Ff GK L3 (F5.wide FB Js) (Kv.wide FS J1) (KL.wide UK gA) (zeL _ _ _ _ _ _)).to λs h t hr=>inv_7 e hr⟩
 have Ki:=aA GH;rw[<-Jb,<-NB]at G8;rw[<-KP]at Hn;rw[<-Jr]at Ht;have Q9:=aA G8;have Fz:=aA Hn;have LL:=aA Ht;have HB:=aA hB;have FY:=aA Hb;unfold stW at Gc;have HW:=aA Gc;have GU:=aA Jl;rw[<-FM,<-JP,<-KP,<-Jr];obtain⟨X0,M6⟩:=aF (truS C.n ps k0 a0 o0 t0);obtain⟨D1,Xf⟩:=aF (RunT C.n (.all ps body));obtain⟨D2,Xg⟩:=aF (RunT C.n (.all ps els));rw[<-M6]at Q9 FY;rw[<-Xf]at Fz FY;rw[<-Xg]at LL FY;have JX:=aA (zpq (g0:=slT C ps X0) (g1:=slD C ps D1) (g2:=slD C ps D2) zg6 zlO zlO);clear GH G8 Hn Ht hB Hb Gc Jl hS Gn Fu hT e FM JP KP Jr Fx Gt P0 GK L3 LN UJ GE Kw e0 e1 e2 e3 s1 s2 Jb NB Fm h0 h1 h2 M6 Xf Xg;go_enter Tryz.func54,Tryz.ntmps54;go_wp2_with fail;rw[<-HW.out];refine zad (IfS W.heap.size (W.heap.size+1) bb oo (some ⟨C.P,0,none⟩) (some ⟨bb,oo,none⟩) A4 A5 l3 c3 l4 c4 l5 c5 (.int .u8 k0) (.slice A6 l6 c6) (.slice A7 l7 c7) (.int .i64 t0)) (λi=>decide (i < 19)) (by kernel_rfl) (Ki _ aH.drew) (λaC=>?_);refine zaa 1 ?_;simp only[aB];refine zaa 7 ?_;simp only[aB];refine zaa 11 ?_;simp only[aB];refine zac 0 aC ?_;simp only[aB];refine zac 2 aC ?_;simp only[aB];refine zac 6 aC ?_;simp only[aB];refine zac 8 aC ?_;simp only[aB];refine zac 10 aC ?_;simp only[aB];refine zac 12 aC ?_;simp only[aB];refine zaa 3 ?_;simp only[aB];refine zac 4 aC ?_;simp only[aB]
 refine zbP 6 [5,9,13,14,15,16] [42,46,50,5,6,7] zpr (λo w=>ManyI w2.drew (PpG C (slo3 (slT C ps X0) (slD C ps D1) (slD C ps D2)) tyI) o w) rfl (by decide) (by kernel_rfl) rfl (λo w h=>Ki _ (aH.drew.trans h.fr)) (by kernel_rfl) rfl (λo w p i hI Kj FA FQ K9=>?_) (λo w hI Kj Hb=>?_) (ManyI.zero _ _)
 ·obtain⟨a,b,c,d,e,f,rfl⟩:=zoh Kj;rcases p with _|_|_|_|_|_|p
  ·simp at FA FQ;subst FA FQ;cases b<;>cases c<;>cases d<;>cases e<;>cases f<;>try exact absurd K9 (by decide)
   all_goals
    simp only[aE,Act.put,List.setIfInBounds_toArray,List.set_cons_zero,List.set_cons_succ];refine wpOp_step (zak rfl) (λKK hK=>?_);go_simp;go_at_call 107;refine(Q9 w ((HB.fr.trans (Fr.refl NoT w2).drew).trans hI.fr)).mono ?_;rintro _ w5 ⟨v0,rfl,Hm,Jf⟩;try dsimp only
    refine hK _ _ ?_;exact⟨v0,by kernel_rfl,hI.put (p:=0) GU.out Hm (PpG.on JX.out) ⟨Jf,aL _,aK GU.out (aK hI.fr.size Hm.size)⟩⟩
  ·simp at FA FQ;subst FA FQ;cases a<;>cases c<;>cases d<;>cases e<;>cases f<;>try exact absurd K9 (by decide)
   all_goals
    simp only[aE,Act.put,List.setIfInBounds_toArray,List.set_cons_zero,List.set_cons_succ];refine wpOp_step (zak rfl) (λKK hK=>?_);go_simp;go_at_call 23;refine(Fz w ((HB.fr.trans (Fr.refl NoT w2).drew).trans hI.fr)).mono ?_;rintro _ w5 ⟨v0,rfl,Hm,Jf⟩;try dsimp only
    refine hK _ _ ?_;exact⟨v0,by kernel_rfl,hI.put (p:=1) GU.out Hm (PpG.on JX.out) ⟨Jf,aL _,aK GU.out (aK hI.fr.size Hm.size)⟩⟩
  ·simp at FA FQ;subst FA FQ;cases a<;>cases b<;>cases d<;>cases e<;>cases f<;>try exact absurd K9 (by decide)
   all_goals
    simp only[aE,Act.put,List.setIfInBounds_toArray,List.set_cons_zero,List.set_cons_succ];refine wpOp_step (zak rfl) (λKK hK=>?_);go_simp;go_at_call 23;refine(LL w ((HB.fr.trans (Fr.refl NoT w2).drew).trans hI.fr)).mono ?_;rintro _ w5 ⟨v0,rfl,Hm,Jf⟩;try dsimp only
    refine hK _ _ ?_;exact⟨v0,by kernel_rfl,hI.put (p:=2) GU.out Hm (PpG.on JX.out) ⟨Jf,aL _,aK GU.out (aK hI.fr.size Hm.size)⟩⟩
  ·simp at FA FQ;subst FA FQ;cases a<;>cases b<;>cases c<;>cases e<;>cases f<;>try exact absurd K9 (by decide)
   all_goals
    simp only[aE,Act.put,List.setIfInBounds_toArray,List.set_cons_zero,List.set_cons_succ];refine wpOp_step (zak rfl) (λKK hK=>?_);go_simp;refine hK _ _ ?_;exact⟨_,by kernel_rfl,hI.lay (p:=3) GU.out (PpG.on JX.out) (λv lo hi w h=>h)⟩
  ·simp at FA FQ;subst FA FQ;cases a<;>cases b<;>cases c<;>cases d<;>cases f<;>try exact absurd K9 (by decide)
   all_goals
    simp only[aE,Act.put,List.setIfInBounds_toArray,List.set_cons_zero,List.set_cons_succ];refine wpOp_step (zak rfl) (λKK hK=>?_);go_simp;refine hK _ _ ?_;exact⟨_,by kernel_rfl,hI.lay (p:=4) GU.out (PpG.on JX.out) (λv lo hi w h=>h)⟩
  ·simp at FA FQ;subst FA FQ;cases a<;>cases b<;>cases c<;>cases d<;>cases e<;>try exact absurd K9 (by decide)
   all_goals
    simp only[aE,Act.put,List.setIfInBounds_toArray,List.set_cons_zero,List.set_cons_succ];refine wpOp_step (zak rfl) (λKK hK=>?_);go_simp;refine hK _ _ ?_;exact⟨_,by kernel_rfl,hI.lay (p:=5) GU.out (PpG.on JX.out) (λv lo hi w h=>h)⟩
  ·simp at FA
 ·obtain⟨u0,u1,u2,y0,y1,y2,rfl⟩:=zpf Kj Hb;obtain⟨DT,uQ,gC⟩:∃gg cps,u0= .func (.func gg) #[] cps:=by
   obtain⟨_,_,h9,_⟩:=hI.at_ (p:=0) rfl;exact TruP.func h9.1
  obtain⟨DU,uR,gD⟩:∃gg cps,u1= .func (.func gg) #[] cps:=by
   obtain⟨_,_,h9,_⟩:=hI.at_ (p:=1) rfl;exact DoP.func h9.1
  obtain⟨DQ,uM,yD⟩:∃gg cps,u2= .func (.func gg) #[] cps:=by
   obtain⟨_,_,h9,_⟩:=hI.at_ (p:=2) rfl;exact DoP.func h9.1
  obtain⟨g0,rfl,Sr,LG⟩:=hI.place (p:=3) (ty:=223) (z:= .nilFunc) rfl (λ_ _ _ _ h=>h);obtain⟨g1,rfl,Jk,LH⟩:=hI.place (p:=4) (ty:=80) (z:= .nilFunc) rfl (λ_ _ _ _ h=>h);obtain⟨g2,rfl,Lz,Rh⟩:=hI.place (p:=5) (ty:=80) (z:= .nilFunc) rfl (λ_ _ _ _ h=>h);have LI:=hI.two (p:=3) (q:=4) (ty:=223) (z:= .nilFunc) (ty':=80) (z':= .nilFunc) (by decide) rfl rfl (λ_ _ _ _ h=>h) (λ_ _ _ _ h=>h);have Ri:=hI.two (p:=3) (q:=5) (ty:=223) (z:= .nilFunc) (ty':=80) (z':= .nilFunc) (by decide) rfl rfl (λ_ _ _ _ h=>h) (λ_ _ _ _ h=>h);have Rj:=hI.two (p:=4) (q:=5) (ty:=80) (z:= .nilFunc) (ty':=80) (z':= .nilFunc) (by decide) rfl rfl (λ_ _ _ _ h=>h) (λ_ _ _ _ h=>h);have h7:=hI.set (p:=3) (ty:=223) (z:= .nilFunc) GU.out (PpG.on JX.out) rfl (λ_ _ _ _ h=>h) u0;have h8:=h7.set (p:=4) (ty:=80) (z:= .nilFunc) GU.out (zfz (PpG.on JX.out) _ _ _) rfl (λ_ _ _ _ h=>h) u1;have h9:=h8.set (p:=5) (ty:=80) (z:= .nilFunc) GU.out (zfz (zfz (PpG.on JX.out) _ _ _) _ _ _) rfl (λ_ _ _ _ h=>h) u2;obtain⟨ug,KE,FF,Rk,Rm⟩:=h9.at_ (p:=0) rfl;have FF:TruP C ps u0 X0 ug KE _:=FF.1;obtain⟨xn,Fd,Ks,FB,Js⟩:=h9.at_ (p:=1) rfl;have Ks:DoP C ps u1 D1 xn Fd _:=Ks.1;obtain⟨xq,Jq,J0,FS,J1⟩:=h9.at_ (p:=2) rfl;have J0:DoP C ps u2 D2 xq Jq _:=J0.1;have GI:Bk (w.setCell ⟨g0,0,none⟩ u0) g0 223 #[u0]:=(by simpa using LG.set_ 0 u0);have GI:=GI.far (p:=⟨g1,0,none⟩) LI u1;have GI:=GI.far (p:=⟨g2,0,none⟩) Ri u2
  have Fo:Bk ((w.setCell ⟨g0,0,none⟩ u0).setCell ⟨g1,0,none⟩ u1) g1 80 #[u1]:=(by simpa using (LH.far (p:=⟨g0,0,none⟩) (Ne.symm LI) u0).set_ 0 u1);have Fo:=Fo.far (p:=⟨g2,0,none⟩) Rj u2;have GS:Bk (((w.setCell ⟨g0,0,none⟩ u0).setCell ⟨g1,0,none⟩ u1).setCell ⟨g2,0,none⟩ u2) g2 80 #[u2]:=(by simpa using ((Rh.far (p:=⟨g0,0,none⟩) (Ne.symm Ri) u0).far (p:=⟨g1,0,none⟩) (Ne.symm Rj) u1).set_ 0 u2);have HE:=aA (FY _ g0 g1 g2 u0 u1 u2 ug KE xn Fd xq Jq ((Fr.refl NoT w2).drew.trans h9.fr) GI Sr Fo Jk GS Lz FF Rk Rm Ks FB Js J0 FS J1);have UL:=aA (Ki _ ((Fr.refl NoT w2).drew.trans h7.fr));have gE:=aA (Ki _ ((Fr.refl NoT w2).drew.trans h8.fr));have c20:=LG.cell 0;have f20:=LG.frozen 0;have l0_:=LG.lt;have c21:=LH.cell 0;have f21:=LH.frozen 0;have l1_:=LH.lt;have DV:=Rh.cell 0;have f22:=Rh.frozen 0;have l2_:=Rh.lt;have Xh:=Ne.symm LI;have kF:=Ne.symm Ri;have kG:=Ne.symm Rj;simp only[aD]at c20 c21 DV;simp only[aE,Act.put,List.setIfInBounds_toArray,List.set_cons_zero,List.set_cons_succ];subst gC gD yD;clear hI h7 h8 h9 FF Rk Rm LG GI Sr Ks FB Js LH Fo Jk J0 FS J1 Rh GS Lz aC Hb Kj;refine zab 17 rfl (by kernel_rfl) (λKK hK=>?_);go_simp;refine hK _ _ (λ_ _=>UL.out) ?_;clear hK KK;try simp only[aB]
  refine zab 18 rfl (by kernel_rfl) (λKK hK=>?_);go_simp;refine hK _ _ (λ_ _=>gE.out) ?_;clear hK KK;try simp only[aB]
  refine zab 19 rfl (by kernel_rfl) (λKK hK=>?_);go_simp;refine hK _ _ (λh=>absurd h (by decide)) ?_;clear hK KK;try simp only[aB]
  refine zae (by kernel_rfl) ?_;go_wp2_with fail;go_ret;exact HE.out
theorem zjH (C:BgC)(kn:List UInt8->Prop)(ps:List (List UInt8))(ho:C.Ok)(nm:ByteArray)(args:Exs)(cond:Cds)(body els:Sts)(at_:Int)(k0 a0 o0 t0)(e:cond= .cons k0 a0 o0 t0 .nil)(h0:CndC C ps k0 a0 o0 t0)(h1:zg7 C kn ps body)(h2:zg7 C kn ps els):OneC C kn ps 8 nm args cond body els at_:=by
 intro W S Z A2 A3 A4 A5 c2 c3 c4 c5 hT GE Kw hS GK L3 LN UJ;obtain⟨bb,oo,rfl,Hg⟩:=L3.2.2 (by rw[e];simp[Cds.len]);rw[e]at Hg;obtain⟨⟨Gn,_,_,_,e0,e3⟩,⟨A6,c6,e1,s1⟩,⟨A7,c7,e2,s2⟩,_⟩:=Hg;obtain⟨l2,FM⟩:=aF args.len;obtain⟨l3,JP⟩:=aF cond.len;obtain⟨l4,KP⟩:=aF body.len;obtain⟨l5,Jr⟩:=aF els.len;have gx:0 < l3:=by rw[JP,e];simp[Cds.len]
 have gy:l3<=9223372036854775807:=by rw[JP];exact aK L3.1 L3.2.1.1
 obtain⟨l6,Jb⟩:=aF a0.len;obtain⟨l7,NB⟩:=aF o0.len;rw[<-Jb]at e1;rw[<-NB]at e2;obtain⟨w2,Gc⟩:=aF (stW W C 8 nm A2 (some ⟨bb,oo,none⟩) A4 A5 l2 c2 l3 c3 l4 c4 l5 c5 at_);have hB:BxS C W w2 (bgStC 8 nm A2 (some ⟨bb,oo,none⟩) A4 A5 l2 c2 l3 c3 l4 c4 l5 c5 at_):=by rw[Gc];exact BxS.new
 have Fu:C.B<=W.heap.size:=by have h1:=ho.br;have h2:=ho.rT;omega
 have Fm:bb < W.heap.size:=aM (hS _ Gn) Fu;have Jl:C.T<=w2.drew.heap.size:=aK hT hB.fr.size;have Fx:∀w',Fr NoT W w'->SameS S W w':=λw' hf=>hf.same λb hb=>⟨aM (hS b hb) Fu,id⟩;have Gt:∀w',Fr NoT W w'->PgAt C w':=λw' hf=>GE.later ho (Later.of0 (lo:=0) (hi:=0) hf (Nat.zero_le _) hT);have P0:∀w',Fr NoT W w'->PrAt C kn w':=λw' hf=>Kw.fr0 ho hT hf;have G8:∀w',Fr NoT W w'->_:=λw' hf=>h0 w' S Z A6 A7 c6 c7 (aK hT hf.size) (Gt w' hf) hS (s1.imp λ_ _ hx=>ExR.keep (Fx w' hf) hx) (s2.imp λ_ _ hx=>CdR.keep (Fx w' hf) hx);have Hn:∀w',Fr NoT W w'->_:=λw' hf=>h1 w' S Z A4 c4 (aK hT hf.size) (Gt w' hf) (P0 w' hf) hS (LN.imp λ_ _ hx=>StR.keep (Fx w' hf) hx);have Ht:∀w',Fr NoT W w'->_:=λw' hf=>h2 w' S Z A5 c5 (aK hT hf.size) (Gt w' hf) (P0 w' hf) hS (UJ.imp λ_ _ hx=>StR.keep (Fx w' hf) hx);have GH:∀w',Fr NoT w2 w'->IfS W.heap.size (W.heap.size+1) bb oo (some ⟨C.P,0,none⟩) (some ⟨bb,oo,none⟩) A4 A5 l3 c3 l4 c4 l5 c5 (.int .u8 k0) (.slice A6 l6 c6) (.slice A7 l7 c7) (.int .i64 t0) w':=λw' hf=>
  have He:=hB.fr.trans hf
  ⟨(hB.next hf).p.cell 0,(hB.next hf).q.cell 3,(hB.next hf).q.cell 4,(hB.next hf).q.cell 5,(He.cell Fm id).trans e0,(He.cell Fm id).trans e1,(He.cell Fm id).trans e2,(He.cell Fm id).trans e3⟩
 have Hb:∀w7 x1 x2 v1 v2 xn Fd xq Jq,Fr NoT w2 w7->Bk w7 x1 223 #[v1]->w2.heap.size<=x1->Bk w7 x2 80 #[v2]->w2.heap.size<=x2->TruP C ps v1 (truS C.n ps k0 a0 o0 t0) xn Fd w7->w2.heap.size<=xn->Fd<=w7.heap.size->DoP C ps v2 (RunT C.n (.all ps body)) xq Jq w7->w2.heap.size<=xq->Jq<=w7.heap.size->
   MkD C ps (RunT C.n (.one ps 8 nm args cond body els at_)) W (.returned (.func (.func 109) #[] #[.pointer (some ⟨W.heap.size,0,none⟩),.pointer (some ⟨W.heap.size+1,0,none⟩),.pointer (some ⟨x1,0,none⟩),.pointer (some ⟨x2,0,none⟩)])) w7:=by
  intro w7 x1 x2 v1 v2 xn Fd xq Jq Jo Ff Jk GK Lz F5 FB Js Kv FS J1;have Hs:=hB.fr.trans Jo;have P2:=hB.next Jo;have h2:=hB.fr.size;have FB:=aK h2 FB;have Ff:Bx W.heap.size w7.heap.size w7 x1 223 #[v1]:=⟨Ff,aK h2 Jk,Ff.lt⟩;have FS:=aK h2 FS;have GK:Bx W.heap.size w7.heap.size w7 x2 80 #[v2]:=⟨GK,aK h2 Lz,GK.lt⟩;exact⟨_,rfl,Hs,(one_2 ho hT (Gt _ Hs) P2.bp P2.bq rfl Ff GK (F5.wide FB Js) (Kv.wide FS J1) (zeL _ _ _ _ _ _) (λs h t hr=>RunT.left_le hr)).to λs h t hr=>inv_8 e hr⟩
 have Ki:=aA GH;rw[<-Jb,<-NB]at G8;rw[<-KP]at Hn;rw[<-Jr]at Ht;have Q9:=aA G8;have Fz:=aA Hn;have LL:=aA Ht;have HB:=aA hB;have FY:=aA Hb;unfold stW at Gc;have HW:=aA Gc;have GU:=aA Jl;rw[<-FM,<-JP,<-KP,<-Jr];obtain⟨X0,M6⟩:=aF (truS C.n ps k0 a0 o0 t0);obtain⟨D1,Xf⟩:=aF (RunT C.n (.all ps body));obtain⟨D2,Xg⟩:=aF (RunT C.n (.all ps els));rw[<-M6]at Q9 FY;rw[<-Xf]at Fz FY;rw[<-Xg]at LL;have JX:=aA (zhM (g0:=slT C ps X0) (g1:=slD C ps D1) zg6 zlO);clear GH G8 Hn Ht hB Hb Gc Jl hS Gn Fu hT e FM JP KP Jr Fx Gt P0 GK L3 LN UJ GE Kw e0 e1 e2 e3 s1 s2 Jb NB Fm h0 h1 h2 M6 Xf Xg;go_enter Tryz.func54,Tryz.ntmps54;go_wp2_with fail;rw[<-HW.out];refine zad (IfS W.heap.size (W.heap.size+1) bb oo (some ⟨C.P,0,none⟩) (some ⟨bb,oo,none⟩) A4 A5 l3 c3 l4 c4 l5 c5 (.int .u8 k0) (.slice A6 l6 c6) (.slice A7 l7 c7) (.int .i64 t0)) (λi=>decide (i < 13)) (by kernel_rfl) (Ki _ aH.drew) (λaC=>?_);refine zaa 1 ?_;simp only[aB];refine zaa 7 ?_;simp only[aB];refine zac 0 aC ?_;simp only[aB];refine zac 2 aC ?_;simp only[aB];refine zac 6 aC ?_;simp only[aB];refine zac 8 aC ?_;simp only[aB];refine zaa 3 ?_;simp only[aB];refine zac 4 aC ?_;simp only[aB]
 refine zbP 4 [5,9,10,11] [59,63,8,9] zpk (λo w=>ManyI w2.drew (PpG C (slo2 (slT C ps X0) (slD C ps D1)) tyW) o w) rfl (by decide) (by kernel_rfl) rfl (λo w h=>Ki _ (aH.drew.trans h.fr)) (by kernel_rfl) rfl (λo w p i hI Kj FA FQ K9=>?_) (λo w hI Kj Hb=>?_) (ManyI.zero _ _)
 ·obtain⟨a,b,c,d,rfl⟩:=zhL Kj;rcases p with _|_|_|_|p
  ·simp at FA FQ;subst FA FQ;cases b<;>cases c<;>cases d<;>try exact absurd K9 (by decide)
   all_goals
    simp only[aE,Act.put,List.setIfInBounds_toArray,List.set_cons_zero,List.set_cons_succ];refine wpOp_step (zak rfl) (λKK hK=>?_);go_simp;go_at_call 107;refine(Q9 w ((HB.fr.trans (Fr.refl NoT w2).drew).trans hI.fr)).mono ?_;rintro _ w5 ⟨v0,rfl,Hm,Jf⟩;try dsimp only
    refine hK _ _ ?_;exact⟨v0,by kernel_rfl,hI.put (p:=0) GU.out Hm (PpG.on JX.out) ⟨Jf,aL _,aK GU.out (aK hI.fr.size Hm.size)⟩⟩
  ·simp at FA FQ;subst FA FQ;cases a<;>cases c<;>cases d<;>try exact absurd K9 (by decide)
   all_goals
    simp only[aE,Act.put,List.setIfInBounds_toArray,List.set_cons_zero,List.set_cons_succ];refine wpOp_step (zak rfl) (λKK hK=>?_);go_simp;go_at_call 23;refine(Fz w ((HB.fr.trans (Fr.refl NoT w2).drew).trans hI.fr)).mono ?_;rintro _ w5 ⟨v0,rfl,Hm,Jf⟩;try dsimp only
    refine hK _ _ ?_;exact⟨v0,by kernel_rfl,hI.put (p:=1) GU.out Hm (PpG.on JX.out) ⟨Jf,aL _,aK GU.out (aK hI.fr.size Hm.size)⟩⟩
  ·simp at FA FQ;subst FA FQ;cases a<;>cases b<;>cases d<;>try exact absurd K9 (by decide)
   all_goals
    simp only[aE,Act.put,List.setIfInBounds_toArray,List.set_cons_zero,List.set_cons_succ];refine wpOp_step (zak rfl) (λKK hK=>?_);go_simp;refine hK _ _ ?_;exact⟨_,by kernel_rfl,hI.lay (p:=2) GU.out (PpG.on JX.out) (λv lo hi w h=>h)⟩
  ·simp at FA FQ;subst FA FQ;cases a<;>cases b<;>cases c<;>try exact absurd K9 (by decide)
   all_goals
    simp only[aE,Act.put,List.setIfInBounds_toArray,List.set_cons_zero,List.set_cons_succ];refine wpOp_step (zak rfl) (λKK hK=>?_);go_simp;refine hK _ _ ?_;exact⟨_,by kernel_rfl,hI.lay (p:=3) GU.out (PpG.on JX.out) (λv lo hi w h=>h)⟩
  ·simp at FA
 ·obtain⟨u0,u1,y0,y1,rfl⟩:=zf6 Kj Hb;obtain⟨DT,uQ,gC⟩:∃gg cps,u0= .func (.func gg) #[] cps:=by
   obtain⟨_,_,h9,_⟩:=hI.at_ (p:=0) rfl;exact TruP.func h9.1
  obtain⟨DU,uR,gD⟩:∃gg cps,u1= .func (.func gg) #[] cps:=by
   obtain⟨_,_,h9,_⟩:=hI.at_ (p:=1) rfl;exact DoP.func h9.1
  obtain⟨g0,rfl,Sr,LG⟩:=hI.place (p:=2) (ty:=223) (z:= .nilFunc) rfl (λ_ _ _ _ h=>h);obtain⟨g1,rfl,Jk,LH⟩:=hI.place (p:=3) (ty:=80) (z:= .nilFunc) rfl (λ_ _ _ _ h=>h);have LI:=hI.two (p:=2) (q:=3) (ty:=223) (z:= .nilFunc) (ty':=80) (z':= .nilFunc) (by decide) rfl rfl (λ_ _ _ _ h=>h) (λ_ _ _ _ h=>h);have h7:=hI.set (p:=2) (ty:=223) (z:= .nilFunc) GU.out (PpG.on JX.out) rfl (λ_ _ _ _ h=>h) u0;have h8:=h7.set (p:=3) (ty:=80) (z:= .nilFunc) GU.out (zfz (PpG.on JX.out) _ _ _) rfl (λ_ _ _ _ h=>h) u1;obtain⟨ug,KE,FF,Rk,Rm⟩:=h8.at_ (p:=0) rfl;have FF:TruP C ps u0 X0 ug KE _:=FF.1;obtain⟨xn,Fd,Ks,FB,Js⟩:=h8.at_ (p:=1) rfl;have Ks:DoP C ps u1 D1 xn Fd _:=Ks.1;have GI:Bk (w.setCell ⟨g0,0,none⟩ u0) g0 223 #[u0]:=(by simpa using LG.set_ 0 u0);have GI:=GI.far (p:=⟨g1,0,none⟩) LI u1;have Fo:Bk ((w.setCell ⟨g0,0,none⟩ u0).setCell ⟨g1,0,none⟩ u1) g1 80 #[u1]:=(by simpa using (LH.far (p:=⟨g0,0,none⟩) (Ne.symm LI) u0).set_ 0 u1);have HE:=aA (FY _ g0 g1 u0 u1 ug KE xn Fd ((Fr.refl NoT w2).drew.trans h8.fr) GI Sr Fo Jk FF Rk Rm Ks FB Js);have UL:=aA (Ki _ ((Fr.refl NoT w2).drew.trans h7.fr));have c20:=LG.cell 0;have f20:=LG.frozen 0;have l0_:=LG.lt;have c21:=LH.cell 0;have f21:=LH.frozen 0;have l1_:=LH.lt;have Xh:=Ne.symm LI;simp only[aD]at c20 c21;simp only[aE,Act.put,List.setIfInBounds_toArray,List.set_cons_zero,List.set_cons_succ];subst gC gD;clear hI h7 h8 FF Rk Rm LG GI Sr Ks FB Js LH Fo Jk aC Hb Kj
  refine zab 12 rfl (by kernel_rfl) (λKK hK=>?_);go_simp;refine hK _ _ (λ_ _=>UL.out) ?_;clear hK KK;try simp only[aB]
  refine zab 13 rfl (by kernel_rfl) (λKK hK=>?_);go_simp;refine hK _ _ (λh=>absurd h (by decide)) ?_;clear hK KK;try simp only[aB]
  refine zae (by kernel_rfl) ?_;go_wp2_with fail;go_ret;exact HE.out
theorem RunAt.none {C:BgC}{lo hi:Nat}{w W:World}{ps:List (List UInt8)}{oc:List Nat}{nb:Nat}{s:Bs}(h:RunAt C lo hi w W ps oc nb s):RunAt C 0 0 w W ps oc nb s:=
 ⟨⟨⟨Nat.zero_le _,h.lat.size.2⟩,λi hi hn=>h.lat.block i (by omega) hn⟩,λ_ _=>Nat.zero_le _,h.st,h.sc⟩
theorem DoP.any0 {C:BgC}{ps:List (List UInt8)}{val:Value}{D:DoR}{lo hi:Nat}{w:World}(h:DoP C ps val D 0 0 w):DoP C ps val D lo hi w:=by
 obtain⟨g,caps,h1,h2,h3⟩:=h;exact⟨g,caps,h1,h2,λW oc nb s h t hr hd=>h3 W oc nb s h t hr.none hd⟩
theorem zlP (w:World):(zeroValue 83).run Tryz.prog w= .ok (.agg #[.slice none 0 0,.nilFunc]) w:=by kernel_rfl
theorem Bx.len {lo hi x n m c:Nat}{w:World}{ty:TypeId}{A:Option Addr}(h:Bx lo hi w x ty #[.slice A n c])(e:n=m):Bx lo hi w x ty #[.slice A m c]:=e▸h
theorem list1 {α:Type}{l:List α}(h:l.length=1):∃a,l= [a]:=by
 match l,h with
 | [a],_=>exact⟨a,rfl⟩
theorem list2 {α:Type}{l:List α}(h:l.length=2):∃a b,l= [a,b]:=by
 match l,h with
 | [a,b],_=>exact⟨a,b,rfl⟩
theorem exs1 {xs:Exs}(h:xs.len=1):∃k nm m a t,xs= .cons k nm m a t .nil :=by
 match xs,h with
 | .cons k nm m a t .nil,_=>exact⟨k,nm,m,a,t,rfl⟩
 | .nil,h=>simp[Exs.len]at h
 | .cons _ _ _ _ _ (.cons _ _ _ _ _ _),h=>simp[Exs.len]at h
theorem exs2 {xs:Exs}(h:xs.len=2):∃k nm m a t k' x7 m' a' t',xs= .cons k nm m a t (.cons k' x7 m' a' t' .nil):=by
 match xs,h with
 | .cons k nm m a t (.cons k' x7 m' a' t' .nil),_=>exact⟨k,nm,m,a,t,k',x7,m',a',t',rfl⟩
 | .nil,h=>simp[Exs.len]at h
 | .cons _ _ _ _ _ .nil,h=>simp[Exs.len]at h
 | .cons _ _ _ _ _ (.cons _ _ _ _ _ (.cons _ _ _ _ _ _)),h=>simp[Exs.len]at h
theorem cds1 {xs:Cds}(h:xs.len=1):∃k a o t,xs= .cons k a o t .nil :=by
 match xs,h with
 | .cons k a o t .nil,_=>exact⟨k,a,o,t,rfl⟩
 | .nil,h=>simp[Cds.len]at h
 | .cons _ _ _ _ (.cons _ _ _ _ _),h=>simp[Cds.len]at h
theorem zpt (C:BgC)(kn:List UInt8->Prop)(ps:List (List UInt8))(ho:C.Ok)(k:Int)(nm:ByteArray)(args:Exs)(cond:Cds)(body els:Sts)(at_:Int)(hd:hdS C.n kn ps k nm args cond)(yE:wfX C.n ps args)(Yv:wfCb C.n ps cond)(hb:zg7 C kn ps body)(he:zg7 C kn ps els):OneC C kn ps k nm args cond body els at_:=by
 obtain⟨⟨k1,k9⟩,hs,MG,Mr,So,gF,hc,h9⟩:=hd;have hX:=zdU C ps ho args yE;by_cases e1:k=1
 ·subst e1;intro W S Z A2 A3 A4 A5 c2 c3 c4 c5 hT GE Kw hS GK L3 LN UJ;exact znz ho hT GE λs h t hr=>inv_1 hr
 by_cases e7:k=7
 ·subst e7;obtain⟨k0,a0,o0,t0,ec⟩:=cds1 (hc (by decide) (by decide));exact zps C kn ps ho nm args cond body els at_ k0 a0 o0 t0 ec (zcr C ps ho cond Yv 0 _ _ _ _ _ (by rw[ec];rfl)) hb he
 by_cases e8:k=8
 ·subst e8;obtain⟨k0,a0,o0,t0,ec⟩:=cds1 (hc (by decide) (by decide));exact zjH C kn ps ho nm args cond body els at_ k0 a0 o0 t0 ec (zcr C ps ho cond Yv 0 _ _ _ _ _ (by rw[ec];rfl)) hb he
 intro W S Z A2 A3 A4 A5 c2 c3 c4 c5 hT GE Kw hS GK L3 LN UJ;have Fu:C.B<=W.heap.size:=by have h1:=ho.br;have h2:=ho.rT;omega
 have hbx:=BxS.new (C:=C) (W:=W) (k:=k) (nm:=nm) (A2:=A2) (A3:=A3) (A4:=A4) (A5:=A5) (l2:=args.len) (c2:=c2) (l3:=cond.len) (c3:=c3) (l4:=body.len) (c4:=c4) (l5:=els.len) (c5:=c5) (at_:=at_);have hf:=hbx.fr;have Fx:SameS S W (stW W C k nm A2 A3 A4 A5 args.len c2 cond.len c3 body.len c4 els.len c5 at_):=hf.same λb hb=>⟨aM (hS b hb) Fu,id⟩;have Jl:=aK hT hf.size;have NT:PgAt C (stW W C k nm A2 A3 A4 A5 args.len c2 cond.len c3 body.len c4 els.len c5 at_):=GE.later ho (Later.of0 (lo:=0) (hi:=0) hf (Nat.zero_le _) hT);have gG:=Kw.fr0 ho hT hf;have Sv:=GK.imp λ_ _ hx=>ExR.keep Fx hx;have Xi:=L3.imp λ_ _ hx=>CdR.keep Fx hx;have Gt:∀ {w'},Fr NoT (stW W C k nm A2 A3 A4 A5 args.len c2 cond.len c3 body.len c4 els.len c5 at_) w'->PgAt C w':=λJ8=>NT.later ho (Later.of0 (lo:=0) (hi:=0) J8 (Nat.zero_le _) Jl);by_cases e2:k=2
 ·subst e2;obtain⟨k0,n0,m0,a0,t0,ea⟩:=exs1 (So rfl);refine zhQ (.inl rfl) (zga C ps ho 2 nm args at_ hX (λs h t=>(h,t)=bgSetO C.n ps nm at_ (valH C.n ps k0 n0 m0 t0 a0) s) _ S Z A2 A3 A4 A5 c2 cond.len c3 body.len c4 els.len c5 Jl NT hS Sv λw' x A c vs J8 hp hq hx Hi Jx hv=>?_) λs h t hr=>inv_2 ea hr;obtain⟨v0,rfl⟩:=list1 (Jx.trans (So rfl));exact put_2 ho Jl (Gt J8) hp hq (hx.len (So rfl)) Hi hs (MG (.inl rfl)) (hv 0 v0 _ rfl (by rw[ea];rfl))
 by_cases e3:k=3
 ·subst e3;obtain⟨k0,n0,m0,a0,t0,k1,n1,m1,a1,t1,ea⟩:=exs2 (gF rfl);obtain⟨i,hi⟩:=Mr rfl;refine zhQ (.inr (.inl rfl)) (zga C ps ho 3 nm args at_ hX (λs h t=>(h,t)=stoO C.n nm at_ (valH C.n ps k0 n0 m0 t0 a0) (valH C.n ps k1 n1 m1 t1 a1) s) _ S Z A2 A3 A4 A5 c2 cond.len c3 body.len c4 els.len c5 Jl NT hS Sv λw' x A c vs J8 hp hq hx Hi Jx hv=>?_) λs h t hr=>inv_3 ea hr;obtain⟨v0,v1,rfl⟩:=list2 (Jx.trans (gF rfl));exact put_3 ho Jl (Gt J8) hp hq (hx.len (gF rfl)) Hi hs hi (hv 0 v0 _ rfl (by rw[ea];rfl)) (hv 1 v1 _ rfl (by rw[ea];rfl))
 by_cases e4:k=4
 ·subst e4;refine zhQ (.inr (.inr rfl)) (zga C ps ho 4 nm args at_ hX (λs h t=>(h,t)=inpO C.n ps nm at_ s) _ S Z A2 A3 A4 A5 c2 cond.len c3 body.len c4 els.len c5 Jl NT hS Sv λw' x A c vs J8 hp hq hx Hi Jx hv=>?_) λs h t hr=>inv_4 hr;exact put_4 (xs:= #[]) ho Jl (Gt J8) hp hq hs (MG (.inr rfl))
 by_cases e5:k=5
 ·subst e5;obtain⟨k0,a0,o0,t0,ec⟩:=cds1 (hc (by decide) (by decide));exact znw rfl (ziB C ps ho 5 nm cond at_ k0 a0 o0 t0 .nil ec (zcr C ps ho cond Yv 0 _ _ _ _ _ (by rw[ec];rfl)) ⟨4,0,at_⟩ _ S Z A2 A3 A4 A5 args.len c2 c3 body.len c4 els.len c5 Jl NT hS Xi) λs h t hr=>zqi (.inl rfl) ec hr
 by_cases e6:k=6
 ·subst e6;obtain⟨k0,a0,o0,t0,ec⟩:=cds1 (hc (by decide) (by decide));exact znx rfl (ziB C ps ho 6 nm cond at_ k0 a0 o0 t0 .nil ec (zcr C ps ho cond Yv 0 _ _ _ _ _ (by rw[ec];rfl)) ⟨5,1,at_⟩ _ S Z A2 A3 A4 A5 args.len c2 c3 body.len c4 els.len c5 Jl NT hS Xi) λs h t hr=>zqi (.inr rfl) ec hr
 ·obtain rfl:k=9:=by omega
  obtain⟨Ji,p,hp,Xj⟩:=h9 rfl;obtain⟨N,f,hm,Vy⟩:=gG;obtain⟨Ap,cp,vb,S',Z',g1,g2,g3,g4,g5,g6,g7⟩:=Vy _ _ Ji hp;refine zny rfl (zlK C ps ho 9 nm args at_ hX (calD at_ (xsV C.n ps args) (RunT C.n (.all (p.params.map (·.nm.data.toList)) p.body))) _ S Z A2 A3 A4 A5 c2 cond.len c3 body.len c4 els.len c5 Jl NT hS Sv (Ap:=Ap) (np:=p.params.length) (cp:=cp) (vb:=vb) (λw' J8=>?_) g2.func λw' x A c vs J8 LU hq h3 hx Hi Jx hv=>?_) λs h t hr=>inv_9 hp Xj hr
  ·have:=(hm.fr J8 id).get (mt:=71) Tryz.underlying71 hs (zlP w');rw[g1]at this;exact this
  ·have yF:∀b,S' b->b < (stW W C 9 nm A2 A3 A4 A5 args.len c2 cond.len c3 body.len c4 els.len c5 at_).heap.size :=λb hb=>aM (aM (g4 b hb) Fu) hf.size;exact zqh ho Jl (Gt J8) LU hq rfl h3 (hx.len Jx.symm) Hi (by rw[zhP];exact Jx) (by rw[zhP];exact Xj) (λi v X PY yG=>hv i v X PY yG) (g2.later (Later.of0 J8 (Nat.zero_le _) Jl)).any0 (g3.imp λ_ _ hx=>VaR.keep (J8.same λb hb=>⟨yF b hb,id⟩) hx) g4 g5 g6 g7
theorem znA {C:BgC}{kn:List UInt8->Prop}{ps:List (List UInt8)}{k:Int}{nm:ByteArray}{args:Exs}{cond:Cds}{body els:Sts}{at_:Int}{r:Sts}(h:OneC C kn ps k nm args cond body els at_)(hr:∀i k nm a cd b e t r',Sts.drop i r= .cons k nm a cd b e t r'->OneC C kn ps k nm a cd b e t):∀i k' x7 a cd b e t r',Sts.drop i (.cons k nm args cond body els at_ r)= .cons k' x7 a cd b e t r'->OneC C kn ps k' x7 a cd b e t
 |0,_,_,_,_,_,_,_,_,e=>by
  simp only[Sts.drop,Sts.cons.injEq]at e;obtain⟨rfl,rfl,rfl,rfl,rfl,rfl,rfl,_⟩:=e;exact h
 |i+1,_,_,_,_,_,_,_,_,e=>hr i _ _ _ _ _ _ _ _ e
theorem zdV (C:BgC)(kn:List UInt8->Prop)(ps:List (List UInt8))(ho:C.Ok):∀xs:Sts,wfSb C.n kn ps xs->∀i k nm a cd b e t r,Sts.drop i xs= .cons k nm a cd b e t r->OneC C kn ps k nm a cd b e t
 | .nil,_=>λi _ _ _ _ _ _ _ _ h=>by cases i<;>simp[Sts.drop]at h
 | .cons k nm args cond body els at_ r,hw=>
  znA (zpt C kn ps ho k nm args cond body els at_ hw.1 hw.2.1 hw.2.2.1 (zgb C kn ps ho body (zdV C kn ps ho body hw.2.2.2.1)) (zgb C kn ps ho els (zdV C kn ps ho els hw.2.2.2.2.1))) (zdV C kn ps ho r hw.2.2.2.2.2)
theorem zg9 (C:BgC)(kn:List UInt8->Prop)(ps:List (List UInt8))(ho:C.Ok)(xs:Sts)(hw:wfSb C.n kn ps xs):zg7 C kn ps xs:=zgb C kn ps ho xs (zdV C kn ps ho xs hw)
