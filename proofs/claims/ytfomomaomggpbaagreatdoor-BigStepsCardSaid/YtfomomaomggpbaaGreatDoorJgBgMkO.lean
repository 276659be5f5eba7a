/- big: plain runs, as the closures have them. -/
import Derived.Test.YtfomomaomggpbaaGreatDoorJgBgMkA
set_option linter.all false
set_option maxHeartbeats 6400000
set_option maxRecDepth 100000
namespace Go.Proofs.YtfomomaomggpbaaGreatDoor
open Go.RowKit Go.Shelf
section
variable {n:Bn} {ps:List (List UInt8)} {nm:ByteArray} {args:Exs} {cond:Cds} {body els:Sts} {at_:Int} {s t:Bs} {h:Option Ho}
theorem zcX {k:Int}(hk:k<=4)(r:RunT n (.one ps k nm args cond body els at_) s h t):(h,t)=za4 n ps s k nm args at_:=by
 cases r with
 |plain _=>rfl
 |fault a=>omega
 |holds a=>omega
 |fails a=>omega
 |yes=>omega
 |no=>omega
 |out a=>omega
 |ask=>omega
 |done=>omega
 |leave=>omega
 |again=>omega
 |give=>omega
 |call=>omega
theorem inv_1 (r:RunT n (.one ps 1 nm args cond body els at_) s h t):(h,t)=ziN at_ s:=by
 rw[zcX (by decide) r];unfold za4 ziN;cases s.left<;>rfl
theorem inv_2 {k0 n0 m0 a0 t0}(e:args= .cons k0 n0 m0 a0 t0 .nil)(r:RunT n (.one ps 2 nm args cond body els at_) s h t):(h,t)=bgSetO n ps nm at_ (valH n ps k0 n0 m0 t0 a0) s:=by
 rw[zcX (by decide) r,e];unfold za4 bgSetO;cases s.left with
 |zero=>rfl
 |succ m=>
  simp only[if_true];rw[zbP];rcases valH n ps k0 n0 m0 t0 a0 {s with left:=m}with z|x<;>rfl
theorem inv_3 {k0 n0 m0 a0 t0 k1 n1 m1 a1 t1}(e:args= .cons k0 n0 m0 a0 t0 (.cons k1 n1 m1 a1 t1 .nil))(r:RunT n (.one ps 3 nm args cond body els at_) s h t):(h,t)=stoO n nm at_ (valH n ps k0 n0 m0 t0 a0) (valH n ps k1 n1 m1 t1 a1) s:=by
 rw[zcX (by decide) r,e];unfold za4 stoO;cases s.left with
 |zero=>rfl
 |succ m=>
  simp only[if_true,show(3:Int)=2↔False from by decide,if_false];rw[zfC,zbP];rcases valH n ps k0 n0 m0 t0 a0 {s with left:=m}with z|x
  ·rfl
  ·rcases valH n ps k1 n1 m1 t1 a1 {s with left:=m}with z|y<;>rfl
theorem inv_4 (r:RunT n (.one ps 4 nm args cond body els at_) s h t):(h,t)=inpO n ps nm at_ s:=by
 rw[zcX (by decide) r];unfold za4 inpO;cases s.left with
 |zero=>rfl
 |succ m=>rfl
theorem zoQ {k:Int}(hk:k=5\/k=6){k0 a0 o0 t0 r0}(e:cond= .cons k0 a0 o0 t0 r0)(r:RunT n (.one ps k nm args cond body els at_) s h t):(h,t)=askO (truS n ps k0 a0 o0 t0) (if k=5 then⟨4,0,at_⟩else⟨5,1,at_⟩) s:=by
 have hx:∀l,truH n ps s cond l=truS n ps k0 a0 o0 t0 s l:=λl=>by rw[e];rfl
 unfold askO;cases r with
 |plain a=>omega
 |fault a b c=>rw[hx]at c;rw[c]
 |holds a c=>rw[hx]at c;rw[c]
 |fails a c=>rw[hx]at c;rw[c]
 |yes=>omega
 |no=>omega
 |out a=>omega
 |ask=>omega
 |done=>omega
 |leave=>omega
 |again=>omega
 |give=>omega
 |call=>omega
theorem inv_7 {k0 a0 o0 t0 r0}(e:cond= .cons k0 a0 o0 t0 r0)(r:RunT n (.one ps 7 nm args cond body els at_) s h t):ifD (truS n ps k0 a0 o0 t0) (RunT n (.all ps body)) (RunT n (.all ps els)) s h t:=by
 have hx:∀l,truH n ps s cond l=truS n ps k0 a0 o0 t0 s l:=λl=>by rw[e];rfl
 unfold ifD;cases r with
 |plain a=>omega
 |fault a b c=>rw[hx]at c;rw[c];exact⟨rfl,rfl⟩
 |holds a c=>omega
 |fails a c=>omega
 |yes c d=>rw[hx]at c;rw[c];exact d
 |no c d=>rw[hx]at c;rw[c];exact d
 |out a=>omega
theorem inv_8 {k0 a0 o0 t0 r0}(e:cond= .cons k0 a0 o0 t0 r0)(r:RunT n (.one ps 8 nm args cond body els at_) s h t):lpD (truS n ps k0 a0 o0 t0) (RunT n (.all ps body)) at_ s h t:=by
 have hx:∀s l,truH n ps s cond l=truS n ps k0 a0 o0 t0 s l:=λs l=>by rw[e];rfl
 generalize hT:Tsk.one ps 8 nm args cond body els at_=tsk at r
 induction r with
 |nil=>cases hT
 |next=>cases hT
 |stop=>cases hT
 |plain a=>cases hT;omega
 |fault a b c=>cases hT;omega
 |holds a c=>cases hT;omega
 |fails a c=>cases hT;omega
 |yes=>cases hT
 |no=>cases hT
 |out a b=>cases hT;exact .inl ⟨b,rfl,rfl⟩
 |ask a c=>cases hT;rw[hx]at c;exact .inr ⟨_,a,.ask c⟩
 |done a c=>cases hT;rw[hx]at c;exact .inr ⟨_,a,.done c⟩
 |leave a c d=>cases hT;rw[hx]at c;exact .inr ⟨_,a,.leave c d⟩
 |again a c d _ _ ih=>
  cases hT;rw[hx]at c;rcases ih rfl with⟨z,rfl,rfl⟩|⟨m,hm,hl⟩
  ·exact .inr ⟨_,a,.out c d z⟩
  ·exact .inr ⟨_,a,.again c d hm hl⟩
 |give=>cases hT
 |call=>cases hT
theorem zfH:∀(vs:List Va)(xs:Exs)(s:Bs),vs.length=xs.len->zaU n ps at_ vs xs s=gvO at_ (xsV n ps xs) s
 | [],.nil,s,_=>rfl
 | [],.cons _ _ _ _ _ _,s,h=>by simp[Exs.len]at h
 |_::_,.nil,s,h=>by simp[Exs.len]at h
 |v::vs,.cons k nm m a b q,s,h=>by
  unfold zaU;simp only[xsV,gvO];cases s.left with
  |zero=>rfl
  |succ l=>
   simp only;rw[zbP,zfH vs q {s with left:=l} (by simpa[Exs.len]using h)];rcases valH n ps k nm m b a {s with left:=l}with z|x
   ·rfl
   ·simp only;rcases gvO at_ (xsV n ps q) {s with left:=l}with⟨z|ys,t⟩<;>rfl
theorem inv_9 {p:Prc}(hp:n.procs nm.data.toList=some p)(hl:p.params.length=args.len)(r:RunT n (.one ps 9 nm args cond body els at_) s h t):calD at_ (xsV n ps args) (RunT n (.all (p.params.map (·.nm.data.toList)) p.body)) s h t:=by
 cases r with
 |plain a=>omega
 |fault a b c=>omega
 |holds a c=>omega
 |fails a c=>omega
 |out a b=>exact .inl ⟨b,rfl,rfl⟩
 |give a b c=>
  rw[hp]at b;obtain rfl:=Option.some.inj b;rw[zfH _ _ _ hl]at c;exact .inr ⟨_,a,.inl ⟨_,c,rfl⟩⟩
 |call a b c d=>
  rw[hp]at b;obtain rfl:=Option.some.inj b;rw[zfH _ _ _ hl]at c;exact .inr ⟨_,a,.inr ⟨_,_,_,c,d,rfl⟩⟩
end
def hdS (n:Bn)(kn:List UInt8->Prop)(ps:List (List UInt8))(k:Int)(nm:ByteArray)(args:Exs)(cond:Cds):Prop:=
 (1<=k/\k<=9)/\nm.size<=9223372036854775807/\(k=2\/k=4->InSc n ps nm)/\(k=3->∃i,posI n.arrs nm.data.toList=some i)/\(k=2->args.len=1)/\(k=3->args.len=2)/\(5<=k->k<=8->cond.len=1)/\(k=9->kn nm.data.toList/\∃p,n.procs nm.data.toList=some p/\p.params.length=args.len)
def wfSb (n:Bn)(kn:List UInt8->Prop)(ps:List (List UInt8)):Sts->Prop
 | .nil =>True
 | .cons k nm args cond body els _ r=>hdS n kn ps k nm args cond/\wfX n ps args/\wfCb n ps cond/\wfSb n kn ps body/\wfSb n kn ps els/\wfSb n kn ps r
structure BxS (C:BgC)(W w:World)(cs:Array Value):Prop where
 fr:Fr NoT W w
 p:Bk w W.heap.size 69 #[.pointer (some ⟨C.P,0,none⟩)]
 q:Bk w (W.heap.size+1) 51 cs
section
variable {C:BgC} {W w w':World} {cs:Array Value}
theorem BxS.next (h:BxS C W w cs)(hf:Fr NoT w w'):BxS C W w' cs:=⟨h.fr.trans hf,h.p.fr0 hf,h.q.fr0 hf⟩
theorem BxS.bp (h:BxS C W w cs):Bx W.heap.size w.heap.size w W.heap.size 69 #[.pointer (some ⟨C.P,0,none⟩)]:=⟨h.p,lrq _,h.p.lt⟩
theorem BxS.bq (h:BxS C W w cs):Bx W.heap.size w.heap.size w (W.heap.size+1) 51 cs:=⟨h.q,Nat.le_succ _,h.q.lt⟩
theorem BxS.new {k:Int}{nm:ByteArray}{A2 A3 A4 A5:Option Addr}{l2 c2 l3 c3 l4 c4 l5 c5:Nat}{at_:Int}:BxS C W (stW W C k nm A2 A3 A4 A5 l2 c2 l3 c3 l4 c4 l5 c5 at_) (bgStC k nm A2 A3 A4 A5 l2 c2 l3 c3 l4 c4 l5 c5 at_):=⟨((Fr.refl _ _).alloc _).alloc _,(Bk.new _ _ _).alloc _,Bk.new_at _ _ _ (by simp)⟩
end
theorem MkD.from {C:BgC}{ps:List (List UInt8)}{D D':DoR}{W w2 w':World}{e:Ending}(h:MkD C ps D w2 e w')(hf:Fr NoT W w2)(hD:∀s h t,D' s h t->D s h t):MkD C ps D' W e w':=by
 obtain⟨val,e1,h1,h2⟩:=h;exact⟨val,e1,hf.trans h1,(h2.to hD).wide hf.size (lrq _)⟩
theorem zhS (C:BgC)(ps:List (List UInt8))(ho:C.Ok)(k:Int)(nm:ByteArray)(cond:Cds)(at_:Int)(k0 a0 o0 t0 r0)(e:cond= .cons k0 a0 o0 t0 r0)(h0:CndC C ps k0 a0 o0 t0)(en:Ho)(W:World)(S:Nat->Prop)(Z:Prop)(A2 A3 A4 A5:Option Addr)(l2 c2 c3 l4 c4 l5 c5:Nat)(hT:C.T<=W.heap.size)(Gy:PgAt C W)(hS:∀x,S x->x < C.B)(hx:SlR (λb o=>CdR W S Z cond b o) cond.len 64 A3 c3):
  Calls Tryz.prog 106 #[.pointer (some ⟨C.P,0,none⟩),.agg (bgStC k nm A2 A3 A4 A5 l2 c2 cond.len c3 l4 c4 l5 c5 at_),.agg #[.int .u8 en.kind,.int .u8 en.wrong,.int .i64 en.at_]] W (MkD C ps (λs h t=>(h,t)=askO (truS C.n ps k0 a0 o0 t0) en s) W):=by
 obtain⟨b0,zM,rfl,Hh⟩:=hx.2.2 (by rw[e];simp[Cds.len]);rw[e]at Hh;obtain⟨⟨Gh,_,_,_,e0,e3⟩,⟨A6,c6,e1,s1⟩,⟨A7,c7,e2,s2⟩,_⟩:=Hh;obtain⟨l,hl⟩:=nmq cond.len;have Np:0 < l:=by rw[hl,e];simp[Cds.len]
 have VU:l<=9223372036854775807:=by rw[hl];exact leq9 hx.1 hx.2.1.1
 obtain⟨l6,FU⟩:=nmq a0.len;obtain⟨l7,Nr⟩:=nmq o0.len;rw[<-FU]at e1;rw[<-Nr]at e2;have Fa:C.B<=W.heap.size:=by have h1:=ho.br;have h2:=ho.rT;omega
 have G7:b0 < W.heap.size:=ltq (hS _ Gh) Fa;obtain⟨ek,ew,ea⟩:=en;obtain⟨w2,HJ⟩:=nmq ((W.alloc (.cells (bgStC k nm A2 (some ⟨b0,zM,none⟩) A4 A5 l2 c2 l c3 l4 c4 l5 c5 at_) 51)).alloc (.cells #[.int .u8 ek,.int .u8 ew,.int .i64 ea] 85));have He:Fr NoT W w2:=by rw[HJ];exact((Fr.refl _ _).alloc _).alloc _
 have Zt:Bk w2 W.heap.size 51 (bgStC k nm A2 (some ⟨b0,zM,none⟩) A4 A5 l2 c2 l c3 l4 c4 l5 c5 at_):=by rw[HJ];exact(Bk.new _ _ _).alloc _
 have LE:Bk w2 (W.heap.size+1) 85 #[.int .u8 ek,.int .u8 ew,.int .i64 ea]:=by rw[HJ];exact Bk.new_at _ _ _ (by simp)
 have Fe:SameS S W w2:=He.same λb hb=>⟨ltq (hS b hb) Fa,id⟩;have Gq:PgAt C w2:=Gy.later ho (Later.of0 (lo:=0) (hi:=0) He (Nat.zero_le _) hT);have Hw:=h0 w2 S Z A6 A7 c6 c7 (leq9 hT He.size) Gq hS (s1.imp λ_ _ hx=>ExR.keep Fe hx) (s2.imp λ_ _ hx=>CdR.keep Fe hx);rw[<-FU,<-Nr]at Hw;have q3:=Zt.cell 3;have d0:=(He.cell G7 id).trans e0;have d1:=(He.cell G7 id).trans e1;have d2:=(He.cell G7 id).trans e2;have d3:=(He.cell G7 id).trans e3;have GP:b0 < w2.heap.size:=ltq G7 He.size;have WX:=Zt.lt;simp only[bgStC,List.getElem?_toArray,List.getElem?_cons_succ,List.getElem?_cons_zero]at q3;have HC:=hdq Hw;have Ki:=hdq HJ;have FG:=hdq (show ∀w5 val,Fr NoT w2 w5->TruP C ps val (truS C.n ps k0 a0 o0 t0) w2.heap.size w5.heap.size w5->MkD C ps (λs h t=>(h,t)=askO (truS C.n ps k0 a0 o0 t0) ⟨ek,ew,ea⟩ s) W (.returned (.func (.func 178) #[] #[.pointer (some ⟨w5.heap.size,0,none⟩),.pointer (some ⟨W.heap.size+1,0,none⟩)])) (w5.alloc (.cells #[val] 223))from λw5 val Hj hv=>by
  have Gt:Fr NoT w5 (w5.alloc (.cells #[val] 223)):=(Fr.refl _ _).alloc _;have h2:=He.size;have h5:=Hj.size;refine⟨_,rfl,(He.trans Hj).trans Gt,ask_1 ho hT ⟨Bk.new _ _ _,by omega,by simp⟩ ⟨(LE.fr0 Hj).fr0 Gt,Nat.le_succ _,((LE.fr0 Hj).fr0 Gt).lt⟩ ((hv.later (Later.of0 Gt (lrq _) (by omega))).wide h2 Gt.size)⟩)
 rw[<-hl];clear hx s1 s2 FU Nr hl Fa He Zt LE Fe d0 d1 d2 d3 GP WX q3 Gq Hw HJ Gy hS hT Gh h0 e;go_enter Tryz.func106,Tryz.ntmps106;go_wp2_with fail;rw[<-Ki.out];refine HC.mono ?_;rintro _ w5 ⟨val,rfl,Hj,hv⟩;have hr:=FG _ _ Hj hv;obtain⟨gg,cps,rfl⟩:=hv.func;have HR:=hdq hr;clear Hj hv hr e0 e1 e2 e3;go_wp2_with fail;go_ret;exact HR.out
theorem zhc {C:BgC}{ps:List (List UInt8)}{D D':DoR}{k:Int}{nm:ByteArray}{at_:Int}{W:World}{A2 A3 A4 A5:Option Addr}{l2 c2 l3 c3 l4 c4 l5 c5:Nat}(hk:k=2\/k=3\/k=4)
  (hc:Calls Tryz.prog 105 #[.pointer (some ⟨C.P,0,none⟩),.agg (bgStC k nm A2 A3 A4 A5 l2 c2 l3 c3 l4 c4 l5 c5 at_)] (stW W C k nm A2 A3 A4 A5 l2 c2 l3 c3 l4 c4 l5 c5 at_) (MkD C ps D (stW W C k nm A2 A3 A4 A5 l2 c2 l3 c3 l4 c4 l5 c5 at_))) (hD:∀s h t,D' s h t->D s h t):
  Calls Tryz.prog 54 #[.pointer (some ⟨C.P,0,none⟩),.agg (bgStC k nm A2 A3 A4 A5 l2 c2 l3 c3 l4 c4 l5 c5 at_)] W (MkD C ps D' W):=by
 have HB:=hdq (BxS.new (C:=C) (W:=W) (k:=k) (nm:=nm) (A2:=A2) (A3:=A3) (A4:=A4) (A5:=A5) (l2:=l2) (c2:=c2) (l3:=l3) (c3:=c3) (l4:=l4) (c4:=c4) (l5:=l5) (c5:=c5) (at_:=at_));obtain⟨w2,HJ⟩:=nmq (stW W C k nm A2 A3 A4 A5 l2 c2 l3 c3 l4 c4 l5 c5 at_);rw[<-HJ]at hc HB;unfold stW at HJ;have HC:=hdq hc;have Ki:=hdq HJ;have HD:=hdq hD;clear hc HJ hD;rcases hk with rfl|rfl|rfl;all_goals
  go_enter Tryz.func54,Tryz.ntmps54;go_wp2_with fail;rw[<-Ki.out];refine HC.mono ?_;rintro e w5 hr;have Fj:=hr.from HB.fr HD.out;obtain⟨val,rfl,_,QJ⟩:=hr;obtain⟨gg,cps,rfl⟩:=QJ.func;have HR:=hdq Fj;clear Fj QJ;go_wp2_with fail;go_ret;exact HR.out
theorem zmq {C:BgC}{ps:List (List UInt8)}{D D':DoR}{k:Int}{nm:ByteArray}{at_:Int}{W:World}{A2 A3 A4 A5:Option Addr}{l2 c2 l3 c3 l4 c4 l5 c5:Nat}(hk:k=5)
  (hc:Calls Tryz.prog 106 #[.pointer (some ⟨C.P,0,none⟩),.agg (bgStC k nm A2 A3 A4 A5 l2 c2 l3 c3 l4 c4 l5 c5 at_),.agg #[.int .u8 4,.int .u8 0,.int .i64 at_]] (stW W C k nm A2 A3 A4 A5 l2 c2 l3 c3 l4 c4 l5 c5 at_) (MkD C ps D (stW W C k nm A2 A3 A4 A5 l2 c2 l3 c3 l4 c4 l5 c5 at_))) (hD:∀s h t,D' s h t->D s h t):
  Calls Tryz.prog 54 #[.pointer (some ⟨C.P,0,none⟩),.agg (bgStC k nm A2 A3 A4 A5 l2 c2 l3 c3 l4 c4 l5 c5 at_)] W (MkD C ps D' W):=by
 have HB:=hdq (BxS.new (C:=C) (W:=W) (k:=k) (nm:=nm) (A2:=A2) (A3:=A3) (A4:=A4) (A5:=A5) (l2:=l2) (c2:=c2) (l3:=l3) (c3:=c3) (l4:=l4) (c4:=c4) (l5:=l5) (c5:=c5) (at_:=at_));obtain⟨w2,HJ⟩:=nmq (stW W C k nm A2 A3 A4 A5 l2 c2 l3 c3 l4 c4 l5 c5 at_);rw[<-HJ]at hc HB;unfold stW at HJ;have HC:=hdq hc;have Ki:=hdq HJ;have HD:=hdq hD;clear hc HJ hD;subst hk;all_goals
  go_enter Tryz.func54,Tryz.ntmps54;go_wp2_with fail;rw[<-Ki.out];refine HC.mono ?_;rintro e w5 hr;have Fj:=hr.from HB.fr HD.out;obtain⟨val,rfl,_,QJ⟩:=hr;obtain⟨gg,cps,rfl⟩:=QJ.func;have HR:=hdq Fj;clear Fj QJ;go_wp2_with fail;go_ret;exact HR.out
theorem zmr {C:BgC}{ps:List (List UInt8)}{D D':DoR}{k:Int}{nm:ByteArray}{at_:Int}{W:World}{A2 A3 A4 A5:Option Addr}{l2 c2 l3 c3 l4 c4 l5 c5:Nat}(hk:k=6)
  (hc:Calls Tryz.prog 106 #[.pointer (some ⟨C.P,0,none⟩),.agg (bgStC k nm A2 A3 A4 A5 l2 c2 l3 c3 l4 c4 l5 c5 at_),.agg #[.int .u8 5,.int .u8 1,.int .i64 at_]] (stW W C k nm A2 A3 A4 A5 l2 c2 l3 c3 l4 c4 l5 c5 at_) (MkD C ps D (stW W C k nm A2 A3 A4 A5 l2 c2 l3 c3 l4 c4 l5 c5 at_))) (hD:∀s h t,D' s h t->D s h t):
  Calls Tryz.prog 54 #[.pointer (some ⟨C.P,0,none⟩),.agg (bgStC k nm A2 A3 A4 A5 l2 c2 l3 c3 l4 c4 l5 c5 at_)] W (MkD C ps D' W):=by
 have HB:=hdq (BxS.new (C:=C) (W:=W) (k:=k) (nm:=nm) (A2:=A2) (A3:=A3) (A4:=A4) (A5:=A5) (l2:=l2) (c2:=c2) (l3:=l3) (c3:=c3) (l4:=l4) (c4:=c4) (l5:=l5) (c5:=c5) (at_:=at_));obtain⟨w2,HJ⟩:=nmq (stW W C k nm A2 A3 A4 A5 l2 c2 l3 c3 l4 c4 l5 c5 at_);rw[<-HJ]at hc HB;unfold stW at HJ;have HC:=hdq hc;have Ki:=hdq HJ;have HD:=hdq hD;clear hc HJ hD;subst hk;all_goals
  go_enter Tryz.func54,Tryz.ntmps54;go_wp2_with fail;rw[<-Ki.out];refine HC.mono ?_;rintro e w5 hr;have Fj:=hr.from HB.fr HD.out;obtain⟨val,rfl,_,QJ⟩:=hr;obtain⟨gg,cps,rfl⟩:=QJ.func;have HR:=hdq Fj;clear Fj QJ;go_wp2_with fail;go_ret;exact HR.out
theorem zms {C:BgC}{ps:List (List UInt8)}{D D':DoR}{k:Int}{nm:ByteArray}{at_:Int}{W:World}{A2 A3 A4 A5:Option Addr}{l2 c2 l3 c3 l4 c4 l5 c5:Nat}(hk:k=9)
  (hc:Calls Tryz.prog 111 #[.pointer (some ⟨C.P,0,none⟩),.agg (bgStC k nm A2 A3 A4 A5 l2 c2 l3 c3 l4 c4 l5 c5 at_)] (stW W C k nm A2 A3 A4 A5 l2 c2 l3 c3 l4 c4 l5 c5 at_) (MkD C ps D (stW W C k nm A2 A3 A4 A5 l2 c2 l3 c3 l4 c4 l5 c5 at_))) (hD:∀s h t,D' s h t->D s h t):
  Calls Tryz.prog 54 #[.pointer (some ⟨C.P,0,none⟩),.agg (bgStC k nm A2 A3 A4 A5 l2 c2 l3 c3 l4 c4 l5 c5 at_)] W (MkD C ps D' W):=by
 have HB:=hdq (BxS.new (C:=C) (W:=W) (k:=k) (nm:=nm) (A2:=A2) (A3:=A3) (A4:=A4) (A5:=A5) (l2:=l2) (c2:=c2) (l3:=l3) (c3:=c3) (l4:=l4) (c4:=c4) (l5:=l5) (c5:=c5) (at_:=at_));obtain⟨w2,HJ⟩:=nmq (stW W C k nm A2 A3 A4 A5 l2 c2 l3 c3 l4 c4 l5 c5 at_);rw[<-HJ]at hc HB;unfold stW at HJ;have HC:=hdq hc;have Ki:=hdq HJ;have HD:=hdq hD;clear hc HJ hD;subst hk;all_goals
  go_enter Tryz.func54,Tryz.ntmps54;go_wp2_with fail;rw[<-Ki.out];refine HC.mono ?_;rintro e w5 hr;have Fj:=hr.from HB.fr HD.out;obtain⟨val,rfl,_,QJ⟩:=hr;obtain⟨gg,cps,rfl⟩:=QJ.func;have HR:=hdq Fj;clear Fj QJ;go_wp2_with fail;go_ret;exact HR.out
theorem zmt {C:BgC}{ps:List (List UInt8)}{D':DoR}{nm:ByteArray}{at_:Int}{W:World}{A2 A3 A4 A5:Option Addr}{l2 c2 l3 c3 l4 c4 l5 c5:Nat}(ho:C.Ok)(hT:C.T<=W.heap.size)(Gy:PgAt C W)(hD:∀s h t,D' s h t->(h,t)=ziN at_ s):
  Calls Tryz.prog 54 #[.pointer (some ⟨C.P,0,none⟩),.agg (bgStC 1 nm A2 A3 A4 A5 l2 c2 l3 c3 l4 c4 l5 c5 at_)] W (MkD C ps D' W):=by
 have hb:=BxS.new (C:=C) (W:=W) (k:=1) (nm:=nm) (A2:=A2) (A3:=A3) (A4:=A4) (A5:=A5) (l2:=l2) (c2:=c2) (l3:=l3) (c3:=c3) (l4:=l4) (c4:=c4) (l5:=l5) (c5:=c5) (at_:=at_);obtain⟨w2,HJ⟩:=nmq (stW W C 1 nm A2 A3 A4 A5 l2 c2 l3 c3 l4 c4 l5 c5 at_);rw[<-HJ]at hb;unfold stW at HJ;have HR:=hdq (show MkD C ps D' W (.returned (.func (.func 112) #[] #[.pointer (some ⟨W.heap.size,0,none⟩),.pointer (some ⟨W.heap.size+1,0,none⟩)])) w2 from⟨_,rfl,hb.fr,(one_3 ho hT (Gy.later ho (Later.of0 (lo:=0) (hi:=0) hb.fr (Nat.zero_le _) hT)) hb.bp hb.bq rfl).to hD⟩);have Ki:=hdq HJ;clear hb HJ hD ho hT Gy;go_enter Tryz.func54,Tryz.ntmps54;go_wp2_with fail;rw[<-Ki.out];go_ret;exact HR.out
def slD (C:BgC)(ps:List (List UInt8))(D:DoR):SlT:=λv lo hi w=>DoP C ps v D lo hi w
theorem zkK {C:BgC}{ps:List (List UInt8)}{D:DoR}:Stb C (slD C ps D):=λ_ _ _ _ _ hl h=>DoP.later h hl
def slo3 (g0 g1 g2:SlT):Nat->Option SlT
 |0=>some g0
 |1=>some g1
 |2=>some g2
 |_=>none
theorem zn1 {C:BgC}{g0 g1 g2:SlT}(h0:Stb C g0)(h1:Stb C g1)(h2:Stb C g2):∀p g,slo3 g0 g1 g2 p=some g->Stb C g
 |0,g,e=>by cases e;exact h0
 |1,g,e=>by cases e;exact h1
 |2,g,e=>by cases e;exact h2
 |p+3,g,e=>by cases e
def tyI:Nat->TypeId
 |3=>223
 |_=>80
def tyW:Nat->TypeId
 |2=>223
 |_=>80
def zn2:List Bool->Bool:=λbs=>(!bs.getD 1 false || bs.getD 0 false)&&(!bs.getD 2 false || bs.getD 1 false)
def IfS (p q b o:Nat)(P A3 A4 A5:Option Addr)(l3 c3 l4 c4 l5 c5:Nat)(v0 v1 v2 v3:Value)(W:World):Prop:=W.cell? ⟨p,0,none⟩=some (.pointer P)/\W.cell? ⟨q,3,none⟩=some (.slice A3 l3 c3)/\W.cell? ⟨q,4,none⟩=some (.slice A4 l4 c4)/\W.cell? ⟨q,5,none⟩=some (.slice A5 l5 c5)/\W.cell? ⟨b,o,none⟩=some v0/\W.cell? ⟨b,o+1,none⟩=some v1/\W.cell? ⟨b,o+2,none⟩=some v2/\W.cell? ⟨b,o+3,none⟩=some v3
theorem zn3 (C:BgC)(kn:List UInt8->Prop)(ps:List (List UInt8))(ho:C.Ok)(nm:ByteArray)(args:Exs)(cond:Cds)(body els:Sts)(at_:Int)(k0 a0 o0 t0)(e:cond= .cons k0 a0 o0 t0 .nil)(h0:CndC C ps k0 a0 o0 t0)(h1:zgA C kn ps body)(h2:zgA C kn ps els):OneC C kn ps 7 nm args cond body els at_:=by
 intro W S Z A2 A3 A4 A5 c2 c3 c4 c5 hT Gy Kf hS GC LH Lo T6;obtain⟨bb,oo,rfl,Hh⟩:=LH.2.2 (by rw[e];simp[Cds.len]);rw[e]at Hh;obtain⟨⟨Gh,_,_,_,e0,e3⟩,⟨A6,c6,e1,s1⟩,⟨A7,c7,e2,s2⟩,_⟩:=Hh;obtain⟨l2,Fp⟩:=nmq args.len;obtain⟨l3,Jx⟩:=nmq cond.len;obtain⟨l4,Ku⟩:=nmq body.len;obtain⟨l5,Jf⟩:=nmq els.len;have Zu:0 < l3:=by rw[Jx,e];simp[Cds.len]
 have Zv:l3<=9223372036854775807:=by rw[Jx];exact leq9 LH.1 LH.2.1.1
 obtain⟨l6,FU⟩:=nmq a0.len;obtain⟨l7,Nr⟩:=nmq o0.len;rw[<-FU]at e1;rw[<-Nr]at e2;obtain⟨w2,HJ⟩:=nmq (stW W C 7 nm A2 (some ⟨bb,oo,none⟩) A4 A5 l2 c2 l3 c3 l4 c4 l5 c5 at_);have hB:BxS C W w2 (bgStC 7 nm A2 (some ⟨bb,oo,none⟩) A4 A5 l2 c2 l3 c3 l4 c4 l5 c5 at_):=by rw[HJ];exact BxS.new
 have Fa:C.B<=W.heap.size:=by have h1:=ho.br;have h2:=ho.rT;omega
 have G7:bb < W.heap.size:=ltq (hS _ Gh) Fa;have F9:C.T<=w2.drew.heap.size:=leq9 hT hB.fr.size;have Fe:∀w',Fr NoT W w'->SameS S W w':=λw' hf=>hf.same λb hb=>⟨ltq (hS b hb) Fa,id⟩;have Gq:∀w',Fr NoT W w'->PgAt C w':=λw' hf=>Gy.later ho (Later.of0 (lo:=0) (hi:=0) hf (Nat.zero_le _) hT);have Pw:∀w',Fr NoT W w'->PrAt C kn w':=λw' hf=>Kf.fr0 ho hT hf;have GT:∀w',Fr NoT W w'->_:=λw' hf=>h0 w' S Z A6 A7 c6 c7 (leq9 hT hf.size) (Gq w' hf) hS (s1.imp λ_ _ hx=>ExR.keep (Fe w' hf) hx) (s2.imp λ_ _ hx=>CdR.keep (Fe w' hf) hx);have Hk:∀w',Fr NoT W w'->_:=λw' hf=>h1 w' S Z A4 c4 (leq9 hT hf.size) (Gq w' hf) (Pw w' hf) hS (Lo.imp λ_ _ hx=>StR.keep (Fe w' hf) hx);have Hq:∀w',Fr NoT W w'->_:=λw' hf=>h2 w' S Z A5 c5 (leq9 hT hf.size) (Gq w' hf) (Pw w' hf) hS (T6.imp λ_ _ hx=>StR.keep (Fe w' hf) hx);have GR:∀w',Fr NoT w2 w'->IfS W.heap.size (W.heap.size+1) bb oo (some ⟨C.P,0,none⟩) (some ⟨bb,oo,none⟩) A4 A5 l3 c3 l4 c4 l5 c5 (.int .u8 k0) (.slice A6 l6 c6) (.slice A7 l7 c7) (.int .i64 t0) w':=λw' hf=>
  have He:=hB.fr.trans hf
  ⟨(hB.next hf).p.cell 0,(hB.next hf).q.cell 3,(hB.next hf).q.cell 4,(hB.next hf).q.cell 5,(He.cell G7 id).trans e0,(He.cell G7 id).trans e1,(He.cell G7 id).trans e2,(He.cell G7 id).trans e3⟩
 have Ha:∀w7 x1 x2 x3 v1 v2 v3 yh G0 yk Je zu Zw,Fr NoT w2 w7->Bk w7 x1 223 #[v1]->w2.heap.size<=x1->Bk w7 x2 80 #[v2]->w2.heap.size<=x2->Bk w7 x3 80 #[v3]->w2.heap.size<=x3->TruP C ps v1 (truS C.n ps k0 a0 o0 t0) yh G0 w7->w2.heap.size<=yh->G0<=w7.heap.size->DoP C ps v2 (RunT C.n (.all ps body)) yk Je w7->w2.heap.size<=yk->Je<=w7.heap.size->DoP C ps v3 (RunT C.n (.all ps els)) zu Zw w7->w2.heap.size<=zu->Zw<=w7.heap.size->
   MkD C ps (RunT C.n (.one ps 7 nm args cond body els at_)) W (.returned (.func (.func 108) #[] #[.pointer (some ⟨x1,0,none⟩),.pointer (some ⟨x2,0,none⟩),.pointer (some ⟨x3,0,none⟩)])) w7:=by
  intro w7 x1 x2 x3 v1 v2 v3 yh G0 yk Je zu Zw Jc G2 F8 GC KZ LH Sw FN Fg Jg Ka FC JH Kt T7 Zx;have Hp:=hB.fr.trans Jc;have Px:=hB.next Jc;have h2:=hB.fr.size;have Fg:=leq9 h2 Fg;have G2:Bx W.heap.size w7.heap.size w7 x1 223 #[v1]:=⟨G2,leq9 h2 F8,G2.lt⟩;have FC:=leq9 h2 FC;have GC:Bx W.heap.size w7.heap.size w7 x2 80 #[v2]:=⟨GC,leq9 h2 KZ,GC.lt⟩;have T7:=leq9 h2 T7;have LH:Bx W.heap.size w7.heap.size w7 x3 80 #[v3]:=⟨LH,leq9 h2 Sw,LH.lt⟩;exact⟨_,rfl,Hp,(one_1 ho hT G2 GC LH (FN.wide Fg Jg) (Ka.wide FC JH) (Kt.wide T7 Zx) (zep _ _ _ _ _ _)).to λs h t hr=>inv_7 e hr⟩
 have JV:=hdq GR;rw[<-FU,<-Nr]at GT;rw[<-Ku]at Hk;rw[<-Jf]at Hq;have QC:=hdq GT;have FW:=hdq Hk;have Lk:=hdq Hq;have HB:=hdq hB;have FG:=hdq Ha;unfold stW at HJ;have HW:=hdq HJ;have GJ:=hdq F9;rw[<-Fp,<-Jx,<-Ku,<-Jf];obtain⟨X0,MS⟩:=nmq (truS C.n ps k0 a0 o0 t0);obtain⟨D1,Wq⟩:=nmq (RunT C.n (.all ps body));obtain⟨D2,Wr⟩:=nmq (RunT C.n (.all ps els));rw[<-MS]at QC FG;rw[<-Wq]at FW FG;rw[<-Wr]at Lk FG;have JE:=hdq (zn1 (g0:=slT C ps X0) (g1:=slD C ps D1) (g2:=slD C ps D2) zgy zkK zkK);clear GR GT Hk Hq hB Ha HJ F9 hS Gh Fa hT e Fp Jx Ku Jf Fe Gq Pw GC LH Lo T6 Gy Kf e0 e1 e2 e3 s1 s2 FU Nr G7 h0 h1 h2 MS Wq Wr;go_enter Tryz.func54,Tryz.ntmps54;go_wp2_with fail;rw[<-HW.out];refine zad (IfS W.heap.size (W.heap.size+1) bb oo (some ⟨C.P,0,none⟩) (some ⟨bb,oo,none⟩) A4 A5 l3 c3 l4 c4 l5 c5 (.int .u8 k0) (.slice A6 l6 c6) (.slice A7 l7 c7) (.int .i64 t0)) (λi=>decide (i < 19)) (by kernel_rfl) (JV _ (Fr.refl _ _).drew) (λhHeld=>?_);refine zaa 1 ?_;simp only[putsL];refine zaa 7 ?_;simp only[putsL];refine zaa 11 ?_;simp only[putsL];refine zai 0 hHeld ?_;simp only[putsL];refine zai 2 hHeld ?_;simp only[putsL];refine zai 6 hHeld ?_;simp only[putsL];refine zai 8 hHeld ?_;simp only[putsL];refine zai 10 hHeld ?_;simp only[putsL];refine zai 12 hHeld ?_;simp only[putsL];refine zaa 3 ?_;simp only[putsL];refine zai 4 hHeld ?_;simp only[putsL]
 refine zbI 6 [5,9,13,14,15,16] [42,46,50,5,6,7] zn2 (λo w=>ManyI w2.drew (PpG C (slo3 (slT C ps X0) (slD C ps D1) (slD C ps D2)) tyI) o w) rfl (by decide) (by kernel_rfl) rfl (λo w h=>JV _ ((Fr.refl _ _).drew.trans h.fr)) (by kernel_rfl) rfl (λo w p i hI JZ Ff Fy KM=>?_) (λo w hI JZ Ha=>?_) (ManyI.zero _ _)
 ·obtain⟨a,b,c,d,e,f,rfl⟩:=zm1 JZ;rcases p with _|_|_|_|_|_|p
  ·simp at Ff Fy;subst Ff Fy;cases b<;>cases c<;>cases d<;>cases e<;>cases f<;>try exact absurd KM (by decide)
   all_goals
    simp only[putM,Act.put,List.setIfInBounds_toArray,List.set_cons_zero,List.set_cons_succ];refine wpOp_step (zak rfl) (λKK hK=>?_);go_simp;go_at_call 107;refine(QC w ((HB.fr.trans (Fr.refl NoT w2).drew).trans hI.fr)).mono ?_;rintro _ w5 ⟨v0,rfl,Hj,F4⟩;try dsimp only
    refine hK _ _ ?_;exact⟨v0,by kernel_rfl,hI.put (p:=0) GJ.out Hj (PpG.on JE.out) ⟨F4,lrq _,leq9 GJ.out (leq9 hI.fr.size Hj.size)⟩⟩
  ·simp at Ff Fy;subst Ff Fy;cases a<;>cases c<;>cases d<;>cases e<;>cases f<;>try exact absurd KM (by decide)
   all_goals
    simp only[putM,Act.put,List.setIfInBounds_toArray,List.set_cons_zero,List.set_cons_succ];refine wpOp_step (zak rfl) (λKK hK=>?_);go_simp;go_at_call 23;refine(FW w ((HB.fr.trans (Fr.refl NoT w2).drew).trans hI.fr)).mono ?_;rintro _ w5 ⟨v0,rfl,Hj,F4⟩;try dsimp only
    refine hK _ _ ?_;exact⟨v0,by kernel_rfl,hI.put (p:=1) GJ.out Hj (PpG.on JE.out) ⟨F4,lrq _,leq9 GJ.out (leq9 hI.fr.size Hj.size)⟩⟩
  ·simp at Ff Fy;subst Ff Fy;cases a<;>cases b<;>cases d<;>cases e<;>cases f<;>try exact absurd KM (by decide)
   all_goals
    simp only[putM,Act.put,List.setIfInBounds_toArray,List.set_cons_zero,List.set_cons_succ];refine wpOp_step (zak rfl) (λKK hK=>?_);go_simp;go_at_call 23;refine(Lk w ((HB.fr.trans (Fr.refl NoT w2).drew).trans hI.fr)).mono ?_;rintro _ w5 ⟨v0,rfl,Hj,F4⟩;try dsimp only
    refine hK _ _ ?_;exact⟨v0,by kernel_rfl,hI.put (p:=2) GJ.out Hj (PpG.on JE.out) ⟨F4,lrq _,leq9 GJ.out (leq9 hI.fr.size Hj.size)⟩⟩
  ·simp at Ff Fy;subst Ff Fy;cases a<;>cases b<;>cases c<;>cases e<;>cases f<;>try exact absurd KM (by decide)
   all_goals
    simp only[putM,Act.put,List.setIfInBounds_toArray,List.set_cons_zero,List.set_cons_succ];refine wpOp_step (zak rfl) (λKK hK=>?_);go_simp;refine hK _ _ ?_;exact⟨_,by kernel_rfl,hI.lay (p:=3) GJ.out (PpG.on JE.out) (λv lo hi w h=>h)⟩
  ·simp at Ff Fy;subst Ff Fy;cases a<;>cases b<;>cases c<;>cases d<;>cases f<;>try exact absurd KM (by decide)
   all_goals
    simp only[putM,Act.put,List.setIfInBounds_toArray,List.set_cons_zero,List.set_cons_succ];refine wpOp_step (zak rfl) (λKK hK=>?_);go_simp;refine hK _ _ ?_;exact⟨_,by kernel_rfl,hI.lay (p:=4) GJ.out (PpG.on JE.out) (λv lo hi w h=>h)⟩
  ·simp at Ff Fy;subst Ff Fy;cases a<;>cases b<;>cases c<;>cases d<;>cases e<;>try exact absurd KM (by decide)
   all_goals
    simp only[putM,Act.put,List.setIfInBounds_toArray,List.set_cons_zero,List.set_cons_succ];refine wpOp_step (zak rfl) (λKK hK=>?_);go_simp;refine hK _ _ ?_;exact⟨_,by kernel_rfl,hI.lay (p:=5) GJ.out (PpG.on JE.out) (λv lo hi w h=>h)⟩
  ·simp at Ff
 ·obtain⟨u0,u1,u2,y0,y1,y2,rfl⟩:=znQ JZ Ha;obtain⟨xk,zv,Zy⟩:∃gg cps,u0= .func (.func gg) #[] cps:=by
   obtain⟨_,_,h9,_⟩:=hI.at_ (p:=0) rfl;exact TruP.func h9.1
  obtain⟨xm,zw,Zz⟩:∃gg cps,u1= .func (.func gg) #[] cps:=by
   obtain⟨_,_,h9,_⟩:=hI.at_ (p:=1) rfl;exact DoP.func h9.1
  obtain⟨xh,zq,qS⟩:∃gg cps,u2= .func (.func gg) #[] cps:=by
   obtain⟨_,_,h9,_⟩:=hI.at_ (p:=2) rfl;exact DoP.func h9.1
  obtain⟨g0,rfl,RI,Lg⟩:=hI.place (p:=3) (ty:=223) (z:= .nilFunc) rfl (λ_ _ _ _ h=>h);obtain⟨g1,rfl,F8,Lh⟩:=hI.place (p:=4) (ty:=80) (z:= .nilFunc) rfl (λ_ _ _ _ h=>h);obtain⟨g2,rfl,KZ,QK⟩:=hI.place (p:=5) (ty:=80) (z:= .nilFunc) rfl (λ_ _ _ _ h=>h);have Li:=hI.two (p:=3) (q:=4) (ty:=223) (z:= .nilFunc) (ty':=80) (z':= .nilFunc) (by decide) rfl rfl (λ_ _ _ _ h=>h) (λ_ _ _ _ h=>h);have QL:=hI.two (p:=3) (q:=5) (ty:=223) (z:= .nilFunc) (ty':=80) (z':= .nilFunc) (by decide) rfl rfl (λ_ _ _ _ h=>h) (λ_ _ _ _ h=>h);have QM:=hI.two (p:=4) (q:=5) (ty:=80) (z:= .nilFunc) (ty':=80) (z':= .nilFunc) (by decide) rfl rfl (λ_ _ _ _ h=>h) (λ_ _ _ _ h=>h);have h7:=hI.set (p:=3) (ty:=223) (z:= .nilFunc) GJ.out (PpG.on JE.out) rfl (λ_ _ _ _ h=>h) u0;have h8:=h7.set (p:=4) (ty:=80) (z:= .nilFunc) GJ.out (ze7 (PpG.on JE.out) _ _ _) rfl (λ_ _ _ _ h=>h) u1;have h9:=h8.set (p:=5) (ty:=80) (z:= .nilFunc) GJ.out (ze7 (ze7 (PpG.on JE.out) _ _ _) _ _ _) rfl (λ_ _ _ _ h=>h) u2;obtain⟨ze,Ko,Fk,QN,QO⟩:=h9.at_ (p:=0) rfl;have Fk:TruP C ps u0 X0 ze Ko _:=Fk.1;obtain⟨yh,G0,Kb,Fg,Jg⟩:=h9.at_ (p:=1) rfl;have Kb:DoP C ps u1 D1 yh G0 _:=Kb.1;obtain⟨yk,Je,JG,FC,JH⟩:=h9.at_ (p:=2) rfl;have JG:DoP C ps u2 D2 yk Je _:=JG.1;have Gz:Bk (w.setCell ⟨g0,0,none⟩ u0) g0 223 #[u0]:=(by simpa using Lg.set_ 0 u0);have Gz:=Gz.far (p:=⟨g1,0,none⟩) Li u1;have Gz:=Gz.far (p:=⟨g2,0,none⟩) QL u2
  have F0:Bk ((w.setCell ⟨g0,0,none⟩ u0).setCell ⟨g1,0,none⟩ u1) g1 80 #[u1]:=(by simpa using (Lh.far (p:=⟨g0,0,none⟩) (Ne.symm Li) u0).set_ 0 u1);have F0:=F0.far (p:=⟨g2,0,none⟩) QM u2;have FK:Bk (((w.setCell ⟨g0,0,none⟩ u0).setCell ⟨g1,0,none⟩ u1).setCell ⟨g2,0,none⟩ u2) g2 80 #[u2]:=(by simpa using ((QK.far (p:=⟨g0,0,none⟩) (Ne.symm QL) u0).far (p:=⟨g1,0,none⟩) (Ne.symm QM) u1).set_ 0 u2);have HE:=hdq (FG _ g0 g1 g2 u0 u1 u2 ze Ko yh G0 yk Je ((Fr.refl NoT w2).drew.trans h9.fr) Gz RI F0 F8 FK KZ Fk QN QO Kb Fg Jg JG FC JH);have T8:=hdq (JV _ ((Fr.refl NoT w2).drew.trans h7.fr));have ZA:=hdq (JV _ ((Fr.refl NoT w2).drew.trans h8.fr));have c20:=Lg.cell 0;have f20:=Lg.frozen 0;have l0_:=Lg.lt;have c21:=Lh.cell 0;have f21:=Lh.frozen 0;have l1_:=Lh.lt;have xn:=QK.cell 0;have f22:=QK.frozen 0;have l2_:=QK.lt;have Ws:=Ne.symm Li;have jg:=Ne.symm QL;have jh:=Ne.symm QM;simp only[getsL]at c20 c21 xn;simp only[putM,Act.put,List.setIfInBounds_toArray,List.set_cons_zero,List.set_cons_succ];subst Zy Zz qS;clear hI h7 h8 h9 Fk QN QO Lg Gz RI Kb Fg Jg Lh F0 F8 JG FC JH QK FK KZ hHeld Ha JZ;refine zab 17 rfl (by kernel_rfl) (λKK hK=>?_);go_simp;refine hK _ _ (λ_ _=>T8.out) ?_;clear hK KK;try simp only[putsL]
  refine zab 18 rfl (by kernel_rfl) (λKK hK=>?_);go_simp;refine hK _ _ (λ_ _=>ZA.out) ?_;clear hK KK;try simp only[putsL]
  refine zab 19 rfl (by kernel_rfl) (λKK hK=>?_);go_simp;refine hK _ _ (λh=>absurd h (by decide)) ?_;clear hK KK;try simp only[putsL]
  refine zaf (by kernel_rfl) ?_;go_wp2_with fail;go_ret;exact HE.out
theorem ziO (C:BgC)(kn:List UInt8->Prop)(ps:List (List UInt8))(ho:C.Ok)(nm:ByteArray)(args:Exs)(cond:Cds)(body els:Sts)(at_:Int)(k0 a0 o0 t0)(e:cond= .cons k0 a0 o0 t0 .nil)(h0:CndC C ps k0 a0 o0 t0)(h1:zgA C kn ps body)(h2:zgA C kn ps els):OneC C kn ps 8 nm args cond body els at_:=by
 intro W S Z A2 A3 A4 A5 c2 c3 c4 c5 hT Gy Kf hS GC LH Lo T6;obtain⟨bb,oo,rfl,Hh⟩:=LH.2.2 (by rw[e];simp[Cds.len]);rw[e]at Hh;obtain⟨⟨Gh,_,_,_,e0,e3⟩,⟨A6,c6,e1,s1⟩,⟨A7,c7,e2,s2⟩,_⟩:=Hh;obtain⟨l2,Fp⟩:=nmq args.len;obtain⟨l3,Jx⟩:=nmq cond.len;obtain⟨l4,Ku⟩:=nmq body.len;obtain⟨l5,Jf⟩:=nmq els.len;have Zu:0 < l3:=by rw[Jx,e];simp[Cds.len]
 have Zv:l3<=9223372036854775807:=by rw[Jx];exact leq9 LH.1 LH.2.1.1
 obtain⟨l6,FU⟩:=nmq a0.len;obtain⟨l7,Nr⟩:=nmq o0.len;rw[<-FU]at e1;rw[<-Nr]at e2;obtain⟨w2,HJ⟩:=nmq (stW W C 8 nm A2 (some ⟨bb,oo,none⟩) A4 A5 l2 c2 l3 c3 l4 c4 l5 c5 at_);have hB:BxS C W w2 (bgStC 8 nm A2 (some ⟨bb,oo,none⟩) A4 A5 l2 c2 l3 c3 l4 c4 l5 c5 at_):=by rw[HJ];exact BxS.new
 have Fa:C.B<=W.heap.size:=by have h1:=ho.br;have h2:=ho.rT;omega
 have G7:bb < W.heap.size:=ltq (hS _ Gh) Fa;have F9:C.T<=w2.drew.heap.size:=leq9 hT hB.fr.size;have Fe:∀w',Fr NoT W w'->SameS S W w':=λw' hf=>hf.same λb hb=>⟨ltq (hS b hb) Fa,id⟩;have Gq:∀w',Fr NoT W w'->PgAt C w':=λw' hf=>Gy.later ho (Later.of0 (lo:=0) (hi:=0) hf (Nat.zero_le _) hT);have Pw:∀w',Fr NoT W w'->PrAt C kn w':=λw' hf=>Kf.fr0 ho hT hf;have GT:∀w',Fr NoT W w'->_:=λw' hf=>h0 w' S Z A6 A7 c6 c7 (leq9 hT hf.size) (Gq w' hf) hS (s1.imp λ_ _ hx=>ExR.keep (Fe w' hf) hx) (s2.imp λ_ _ hx=>CdR.keep (Fe w' hf) hx);have Hk:∀w',Fr NoT W w'->_:=λw' hf=>h1 w' S Z A4 c4 (leq9 hT hf.size) (Gq w' hf) (Pw w' hf) hS (Lo.imp λ_ _ hx=>StR.keep (Fe w' hf) hx);have Hq:∀w',Fr NoT W w'->_:=λw' hf=>h2 w' S Z A5 c5 (leq9 hT hf.size) (Gq w' hf) (Pw w' hf) hS (T6.imp λ_ _ hx=>StR.keep (Fe w' hf) hx);have GR:∀w',Fr NoT w2 w'->IfS W.heap.size (W.heap.size+1) bb oo (some ⟨C.P,0,none⟩) (some ⟨bb,oo,none⟩) A4 A5 l3 c3 l4 c4 l5 c5 (.int .u8 k0) (.slice A6 l6 c6) (.slice A7 l7 c7) (.int .i64 t0) w':=λw' hf=>
  have He:=hB.fr.trans hf
  ⟨(hB.next hf).p.cell 0,(hB.next hf).q.cell 3,(hB.next hf).q.cell 4,(hB.next hf).q.cell 5,(He.cell G7 id).trans e0,(He.cell G7 id).trans e1,(He.cell G7 id).trans e2,(He.cell G7 id).trans e3⟩
 have Ha:∀w7 x1 x2 v1 v2 yh G0 yk Je,Fr NoT w2 w7->Bk w7 x1 223 #[v1]->w2.heap.size<=x1->Bk w7 x2 80 #[v2]->w2.heap.size<=x2->TruP C ps v1 (truS C.n ps k0 a0 o0 t0) yh G0 w7->w2.heap.size<=yh->G0<=w7.heap.size->DoP C ps v2 (RunT C.n (.all ps body)) yk Je w7->w2.heap.size<=yk->Je<=w7.heap.size->
   MkD C ps (RunT C.n (.one ps 8 nm args cond body els at_)) W (.returned (.func (.func 109) #[] #[.pointer (some ⟨W.heap.size,0,none⟩),.pointer (some ⟨W.heap.size+1,0,none⟩),.pointer (some ⟨x1,0,none⟩),.pointer (some ⟨x2,0,none⟩)])) w7:=by
  intro w7 x1 x2 v1 v2 yh G0 yk Je Jc G2 F8 GC KZ FN Fg Jg Ka FC JH;have Hp:=hB.fr.trans Jc;have Px:=hB.next Jc;have h2:=hB.fr.size;have Fg:=leq9 h2 Fg;have G2:Bx W.heap.size w7.heap.size w7 x1 223 #[v1]:=⟨G2,leq9 h2 F8,G2.lt⟩;have FC:=leq9 h2 FC;have GC:Bx W.heap.size w7.heap.size w7 x2 80 #[v2]:=⟨GC,leq9 h2 KZ,GC.lt⟩;exact⟨_,rfl,Hp,(one_2 ho hT (Gq _ Hp) Px.bp Px.bq rfl G2 GC (FN.wide Fg Jg) (Ka.wide FC JH) (zep _ _ _ _ _ _) (λs h t hr=>RunT.left_le hr)).to λs h t hr=>inv_8 e hr⟩
 have JV:=hdq GR;rw[<-FU,<-Nr]at GT;rw[<-Ku]at Hk;rw[<-Jf]at Hq;have QC:=hdq GT;have FW:=hdq Hk;have Lk:=hdq Hq;have HB:=hdq hB;have FG:=hdq Ha;unfold stW at HJ;have HW:=hdq HJ;have GJ:=hdq F9;rw[<-Fp,<-Jx,<-Ku,<-Jf];obtain⟨X0,MS⟩:=nmq (truS C.n ps k0 a0 o0 t0);obtain⟨D1,Wq⟩:=nmq (RunT C.n (.all ps body));obtain⟨D2,Wr⟩:=nmq (RunT C.n (.all ps els));rw[<-MS]at QC FG;rw[<-Wq]at FW FG;rw[<-Wr]at Lk;have JE:=hdq (zg8 (g0:=slT C ps X0) (g1:=slD C ps D1) zgy zkK);clear GR GT Hk Hq hB Ha HJ F9 hS Gh Fa hT e Fp Jx Ku Jf Fe Gq Pw GC LH Lo T6 Gy Kf e0 e1 e2 e3 s1 s2 FU Nr G7 h0 h1 h2 MS Wq Wr;go_enter Tryz.func54,Tryz.ntmps54;go_wp2_with fail;rw[<-HW.out];refine zad (IfS W.heap.size (W.heap.size+1) bb oo (some ⟨C.P,0,none⟩) (some ⟨bb,oo,none⟩) A4 A5 l3 c3 l4 c4 l5 c5 (.int .u8 k0) (.slice A6 l6 c6) (.slice A7 l7 c7) (.int .i64 t0)) (λi=>decide (i < 13)) (by kernel_rfl) (JV _ (Fr.refl _ _).drew) (λhHeld=>?_);refine zaa 1 ?_;simp only[putsL];refine zaa 7 ?_;simp only[putsL];refine zai 0 hHeld ?_;simp only[putsL];refine zai 2 hHeld ?_;simp only[putsL];refine zai 6 hHeld ?_;simp only[putsL];refine zai 8 hHeld ?_;simp only[putsL];refine zaa 3 ?_;simp only[putsL];refine zai 4 hHeld ?_;simp only[putsL]
 refine zbI 4 [5,9,10,11] [59,63,8,9] znV (λo w=>ManyI w2.drew (PpG C (slo2 (slT C ps X0) (slD C ps D1)) tyW) o w) rfl (by decide) (by kernel_rfl) rfl (λo w h=>JV _ ((Fr.refl _ _).drew.trans h.fr)) (by kernel_rfl) rfl (λo w p i hI JZ Ff Fy KM=>?_) (λo w hI JZ Ha=>?_) (ManyI.zero _ _)
 ·obtain⟨a,b,c,d,rfl⟩:=zg7 JZ;rcases p with _|_|_|_|p
  ·simp at Ff Fy;subst Ff Fy;cases b<;>cases c<;>cases d<;>try exact absurd KM (by decide)
   all_goals
    simp only[putM,Act.put,List.setIfInBounds_toArray,List.set_cons_zero,List.set_cons_succ];refine wpOp_step (zak rfl) (λKK hK=>?_);go_simp;go_at_call 107;refine(QC w ((HB.fr.trans (Fr.refl NoT w2).drew).trans hI.fr)).mono ?_;rintro _ w5 ⟨v0,rfl,Hj,F4⟩;try dsimp only
    refine hK _ _ ?_;exact⟨v0,by kernel_rfl,hI.put (p:=0) GJ.out Hj (PpG.on JE.out) ⟨F4,lrq _,leq9 GJ.out (leq9 hI.fr.size Hj.size)⟩⟩
  ·simp at Ff Fy;subst Ff Fy;cases a<;>cases c<;>cases d<;>try exact absurd KM (by decide)
   all_goals
    simp only[putM,Act.put,List.setIfInBounds_toArray,List.set_cons_zero,List.set_cons_succ];refine wpOp_step (zak rfl) (λKK hK=>?_);go_simp;go_at_call 23;refine(FW w ((HB.fr.trans (Fr.refl NoT w2).drew).trans hI.fr)).mono ?_;rintro _ w5 ⟨v0,rfl,Hj,F4⟩;try dsimp only
    refine hK _ _ ?_;exact⟨v0,by kernel_rfl,hI.put (p:=1) GJ.out Hj (PpG.on JE.out) ⟨F4,lrq _,leq9 GJ.out (leq9 hI.fr.size Hj.size)⟩⟩
  ·simp at Ff Fy;subst Ff Fy;cases a<;>cases b<;>cases d<;>try exact absurd KM (by decide)
   all_goals
    simp only[putM,Act.put,List.setIfInBounds_toArray,List.set_cons_zero,List.set_cons_succ];refine wpOp_step (zak rfl) (λKK hK=>?_);go_simp;refine hK _ _ ?_;exact⟨_,by kernel_rfl,hI.lay (p:=2) GJ.out (PpG.on JE.out) (λv lo hi w h=>h)⟩
  ·simp at Ff Fy;subst Ff Fy;cases a<;>cases b<;>cases c<;>try exact absurd KM (by decide)
   all_goals
    simp only[putM,Act.put,List.setIfInBounds_toArray,List.set_cons_zero,List.set_cons_succ];refine wpOp_step (zak rfl) (λKK hK=>?_);go_simp;refine hK _ _ ?_;exact⟨_,by kernel_rfl,hI.lay (p:=3) GJ.out (PpG.on JE.out) (λv lo hi w h=>h)⟩
  ·simp at Ff
 ·obtain⟨u0,u1,y0,y1,rfl⟩:=zfA JZ Ha;obtain⟨xk,zv,Zy⟩:∃gg cps,u0= .func (.func gg) #[] cps:=by
   obtain⟨_,_,h9,_⟩:=hI.at_ (p:=0) rfl;exact TruP.func h9.1
  obtain⟨xm,zw,Zz⟩:∃gg cps,u1= .func (.func gg) #[] cps:=by
   obtain⟨_,_,h9,_⟩:=hI.at_ (p:=1) rfl;exact DoP.func h9.1
  obtain⟨g0,rfl,RI,Lg⟩:=hI.place (p:=2) (ty:=223) (z:= .nilFunc) rfl (λ_ _ _ _ h=>h);obtain⟨g1,rfl,F8,Lh⟩:=hI.place (p:=3) (ty:=80) (z:= .nilFunc) rfl (λ_ _ _ _ h=>h);have Li:=hI.two (p:=2) (q:=3) (ty:=223) (z:= .nilFunc) (ty':=80) (z':= .nilFunc) (by decide) rfl rfl (λ_ _ _ _ h=>h) (λ_ _ _ _ h=>h);have h7:=hI.set (p:=2) (ty:=223) (z:= .nilFunc) GJ.out (PpG.on JE.out) rfl (λ_ _ _ _ h=>h) u0;have h8:=h7.set (p:=3) (ty:=80) (z:= .nilFunc) GJ.out (ze7 (PpG.on JE.out) _ _ _) rfl (λ_ _ _ _ h=>h) u1;obtain⟨ze,Ko,Fk,QN,QO⟩:=h8.at_ (p:=0) rfl;have Fk:TruP C ps u0 X0 ze Ko _:=Fk.1;obtain⟨yh,G0,Kb,Fg,Jg⟩:=h8.at_ (p:=1) rfl;have Kb:DoP C ps u1 D1 yh G0 _:=Kb.1;have Gz:Bk (w.setCell ⟨g0,0,none⟩ u0) g0 223 #[u0]:=(by simpa using Lg.set_ 0 u0);have Gz:=Gz.far (p:=⟨g1,0,none⟩) Li u1;have F0:Bk ((w.setCell ⟨g0,0,none⟩ u0).setCell ⟨g1,0,none⟩ u1) g1 80 #[u1]:=(by simpa using (Lh.far (p:=⟨g0,0,none⟩) (Ne.symm Li) u0).set_ 0 u1);have HE:=hdq (FG _ g0 g1 u0 u1 ze Ko yh G0 ((Fr.refl NoT w2).drew.trans h8.fr) Gz RI F0 F8 Fk QN QO Kb Fg Jg);have T8:=hdq (JV _ ((Fr.refl NoT w2).drew.trans h7.fr));have c20:=Lg.cell 0;have f20:=Lg.frozen 0;have l0_:=Lg.lt;have c21:=Lh.cell 0;have f21:=Lh.frozen 0;have l1_:=Lh.lt;have Ws:=Ne.symm Li;simp only[getsL]at c20 c21;simp only[putM,Act.put,List.setIfInBounds_toArray,List.set_cons_zero,List.set_cons_succ];subst Zy Zz;clear hI h7 h8 Fk QN QO Lg Gz RI Kb Fg Jg Lh F0 F8 hHeld Ha JZ
  refine zab 12 rfl (by kernel_rfl) (λKK hK=>?_);go_simp;refine hK _ _ (λ_ _=>T8.out) ?_;clear hK KK;try simp only[putsL]
  refine zab 13 rfl (by kernel_rfl) (λKK hK=>?_);go_simp;refine hK _ _ (λh=>absurd h (by decide)) ?_;clear hK KK;try simp only[putsL]
  refine zaf (by kernel_rfl) ?_;go_wp2_with fail;go_ret;exact HE.out
theorem RunAt.none {C:BgC}{lo hi:Nat}{w W:World}{ps:List (List UInt8)}{oc:List Nat}{nb:Nat}{s:Bs}(h:RunAt C lo hi w W ps oc nb s):RunAt C 0 0 w W ps oc nb s:=
 ⟨⟨⟨Nat.zero_le _,h.lat.size.2⟩,λi hi hn=>h.lat.block i (by omega) hn⟩,λ_ _=>Nat.zero_le _,h.st,h.sc⟩
theorem DoP.any0 {C:BgC}{ps:List (List UInt8)}{val:Value}{D:DoR}{lo hi:Nat}{w:World}(h:DoP C ps val D 0 0 w):DoP C ps val D lo hi w:=by
 obtain⟨g,caps,h1,h2,h3⟩:=h;exact⟨g,caps,h1,h2,λW oc nb s h t hr hd=>h3 W oc nb s h t hr.none hd⟩
theorem zkL (w:World):(zeroValue 83).run Tryz.prog w= .ok (.agg #[.slice none 0 0,.nilFunc]) w:=by kernel_rfl
theorem Bx.len {lo hi x n m c:Nat}{w:World}{ty:TypeId}{A:Option Addr}(h:Bx lo hi w x ty #[.slice A n c])(e:n=m):Bx lo hi w x ty #[.slice A m c]:=e▸h
theorem list1 {α:Type}{l:List α}(h:l.length=1):∃a,l= [a]:=by
 match l,h with
 | [a],_=>exact⟨a,rfl⟩
theorem list2 {α:Type}{l:List α}(h:l.length=2):∃a b,l= [a,b]:=by
 match l,h with
 | [a,b],_=>exact⟨a,b,rfl⟩
theorem exs1 {xs:Exs}(h:xs.len=1):∃k nm m a t,xs= .cons k nm m a t .nil :=by
 match xs,h with
 | .cons k nm m a t .nil,_=>exact⟨k,nm,m,a,t,rfl⟩
 | .nil,h=>simp[Exs.len]at h
 | .cons _ _ _ _ _ (.cons _ _ _ _ _ _),h=>simp[Exs.len]at h
theorem exs2 {xs:Exs}(h:xs.len=2):∃k nm m a t k' yU m' a' t',xs= .cons k nm m a t (.cons k' yU m' a' t' .nil):=by
 match xs,h with
 | .cons k nm m a t (.cons k' yU m' a' t' .nil),_=>exact⟨k,nm,m,a,t,k',yU,m',a',t',rfl⟩
 | .nil,h=>simp[Exs.len]at h
 | .cons _ _ _ _ _ .nil,h=>simp[Exs.len]at h
 | .cons _ _ _ _ _ (.cons _ _ _ _ _ (.cons _ _ _ _ _ _)),h=>simp[Exs.len]at h
theorem cds1 {xs:Cds}(h:xs.len=1):∃k a o t,xs= .cons k a o t .nil :=by
 match xs,h with
 | .cons k a o t .nil,_=>exact⟨k,a,o,t,rfl⟩
 | .nil,h=>simp[Cds.len]at h
 | .cons _ _ _ _ (.cons _ _ _ _ _),h=>simp[Cds.len]at h
theorem zn4 (C:BgC)(kn:List UInt8->Prop)(ps:List (List UInt8))(ho:C.Ok)(k:Int)(nm:ByteArray)(args:Exs)(cond:Cds)(body els:Sts)(at_:Int)(hd:hdS C.n kn ps k nm args cond)(qT:wfX C.n ps args)(Xw:wfCb C.n ps cond)(hb:zgA C kn ps body)(he:zgA C kn ps els):OneC C kn ps k nm args cond body els at_:=by
 obtain⟨⟨k1,k9⟩,hs,Mq,Ma,RF,ZB,hc,h9⟩:=hd;have hX:=zdE C ps ho args qT;by_cases e1:k=1
 ·subst e1;intro W S Z A2 A3 A4 A5 c2 c3 c4 c5 hT Gy Kf hS GC LH Lo T6;exact zmt ho hT Gy λs h t hr=>inv_1 hr
 by_cases e7:k=7
 ·subst e7;obtain⟨k0,a0,o0,t0,ec⟩:=cds1 (hc (by decide) (by decide));exact zn3 C kn ps ho nm args cond body els at_ k0 a0 o0 t0 ec (zcl C ps ho cond Xw 0 _ _ _ _ _ (by rw[ec];rfl)) hb he
 by_cases e8:k=8
 ·subst e8;obtain⟨k0,a0,o0,t0,ec⟩:=cds1 (hc (by decide) (by decide));exact ziO C kn ps ho nm args cond body els at_ k0 a0 o0 t0 ec (zcl C ps ho cond Xw 0 _ _ _ _ _ (by rw[ec];rfl)) hb he
 intro W S Z A2 A3 A4 A5 c2 c3 c4 c5 hT Gy Kf hS GC LH Lo T6;have Fa:C.B<=W.heap.size:=by have h1:=ho.br;have h2:=ho.rT;omega
 have hbx:=BxS.new (C:=C) (W:=W) (k:=k) (nm:=nm) (A2:=A2) (A3:=A3) (A4:=A4) (A5:=A5) (l2:=args.len) (c2:=c2) (l3:=cond.len) (c3:=c3) (l4:=body.len) (c4:=c4) (l5:=els.len) (c5:=c5) (at_:=at_);have hf:=hbx.fr;have Fe:SameS S W (stW W C k nm A2 A3 A4 A5 args.len c2 cond.len c3 body.len c4 els.len c5 at_):=hf.same λb hb=>⟨ltq (hS b hb) Fa,id⟩;have F9:=leq9 hT hf.size;have NA:PgAt C (stW W C k nm A2 A3 A4 A5 args.len c2 cond.len c3 body.len c4 els.len c5 at_):=Gy.later ho (Later.of0 (lo:=0) (hi:=0) hf (Nat.zero_le _) hT);have ZC:=Kf.fr0 ho hT hf;have RM:=GC.imp λ_ _ hx=>ExR.keep Fe hx;have Wt:=LH.imp λ_ _ hx=>CdR.keep Fe hx;have Gq:∀ {w'},Fr NoT (stW W C k nm A2 A3 A4 A5 args.len c2 cond.len c3 body.len c4 els.len c5 at_) w'->PgAt C w':=λKe=>NA.later ho (Later.of0 (lo:=0) (hi:=0) Ke (Nat.zero_le _) F9);by_cases e2:k=2
 ·subst e2;obtain⟨k0,n0,m0,a0,t0,ea⟩:=exs1 (RF rfl);refine zhc (.inl rfl) (zfF C ps ho 2 nm args at_ hX (λs h t=>(h,t)=bgSetO C.n ps nm at_ (valH C.n ps k0 n0 m0 t0 a0) s) _ S Z A2 A3 A4 A5 c2 cond.len c3 body.len c4 els.len c5 F9 NA hS RM λw' x A c vs Ke hp hq hx Hz Jl hv=>?_) λs h t hr=>inv_2 ea hr;obtain⟨v0,rfl⟩:=list1 (Jl.trans (RF rfl));exact put_2 ho F9 (Gq Ke) hp hq (hx.len (RF rfl)) Hz hs (Mq (.inl rfl)) (hv 0 v0 _ rfl (by rw[ea];rfl))
 by_cases e3:k=3
 ·subst e3;obtain⟨k0,n0,m0,a0,t0,k1,n1,m1,a1,t1,ea⟩:=exs2 (ZB rfl);obtain⟨i,hi⟩:=Ma rfl;refine zhc (.inr (.inl rfl)) (zfF C ps ho 3 nm args at_ hX (λs h t=>(h,t)=stoO C.n nm at_ (valH C.n ps k0 n0 m0 t0 a0) (valH C.n ps k1 n1 m1 t1 a1) s) _ S Z A2 A3 A4 A5 c2 cond.len c3 body.len c4 els.len c5 F9 NA hS RM λw' x A c vs Ke hp hq hx Hz Jl hv=>?_) λs h t hr=>inv_3 ea hr;obtain⟨v0,v1,rfl⟩:=list2 (Jl.trans (ZB rfl));exact put_3 ho F9 (Gq Ke) hp hq (hx.len (ZB rfl)) Hz hs hi (hv 0 v0 _ rfl (by rw[ea];rfl)) (hv 1 v1 _ rfl (by rw[ea];rfl))
 by_cases e4:k=4
 ·subst e4;refine zhc (.inr (.inr rfl)) (zfF C ps ho 4 nm args at_ hX (λs h t=>(h,t)=inpO C.n ps nm at_ s) _ S Z A2 A3 A4 A5 c2 cond.len c3 body.len c4 els.len c5 F9 NA hS RM λw' x A c vs Ke hp hq hx Hz Jl hv=>?_) λs h t hr=>inv_4 hr;exact put_4 (xs:= #[]) ho F9 (Gq Ke) hp hq hs (Mq (.inr rfl))
 by_cases e5:k=5
 ·subst e5;obtain⟨k0,a0,o0,t0,ec⟩:=cds1 (hc (by decide) (by decide));exact zmq rfl (zhS C ps ho 5 nm cond at_ k0 a0 o0 t0 .nil ec (zcl C ps ho cond Xw 0 _ _ _ _ _ (by rw[ec];rfl)) ⟨4,0,at_⟩ _ S Z A2 A3 A4 A5 args.len c2 c3 body.len c4 els.len c5 F9 NA hS Wt) λs h t hr=>zoQ (.inl rfl) ec hr
 by_cases e6:k=6
 ·subst e6;obtain⟨k0,a0,o0,t0,ec⟩:=cds1 (hc (by decide) (by decide));exact zmr rfl (zhS C ps ho 6 nm cond at_ k0 a0 o0 t0 .nil ec (zcl C ps ho cond Xw 0 _ _ _ _ _ (by rw[ec];rfl)) ⟨5,1,at_⟩ _ S Z A2 A3 A4 A5 args.len c2 c3 body.len c4 els.len c5 F9 NA hS Wt) λs h t hr=>zoQ (.inr rfl) ec hr
 ·obtain rfl:k=9:=by omega
  obtain⟨F7,p,hp,Wu⟩:=h9 rfl;obtain⟨N,f,hm,UP⟩:=ZC;obtain⟨Ap,cp,vb,S',Z',g1,g2,g3,g4,g5,g6,g7⟩:=UP _ _ F7 hp;refine zms rfl (zkG C ps ho 9 nm args at_ hX (calD at_ (xsV C.n ps args) (RunT C.n (.all (p.params.map (·.nm.data.toList)) p.body))) _ S Z A2 A3 A4 A5 c2 cond.len c3 body.len c4 els.len c5 F9 NA hS RM (Ap:=Ap) (np:=p.params.length) (cp:=cp) (vb:=vb) (λw' Ke=>?_) g2.func λw' x A c vs Ke Lx hq h3 hx Hz Jl hv=>?_) λs h t hr=>inv_9 hp Wu hr
  ·have:=(hm.fr Ke id).get (mt:=71) Tryz.underlying71 hs (zkL w');rw[g1]at this;exact this
  ·have qU:∀b,S' b->b < (stW W C 9 nm A2 A3 A4 A5 args.len c2 cond.len c3 body.len c4 els.len c5 at_).heap.size :=λb hb=>ltq (ltq (g4 b hb) Fa) hf.size;exact zoP ho F9 (Gq Ke) Lx hq rfl h3 (hx.len Jl.symm) Hz (by rw[zhb];exact Jl) (by rw[zhb];exact Wu) (λi v X Ps qV=>hv i v X Ps qV) (g2.later (Later.of0 Ke (Nat.zero_le _) F9)).any0 (g3.imp λ_ _ hx=>VaR.keep (Ke.same λb hb=>⟨qU b hb,id⟩) hx) g4 g5 g6 g7
theorem zmu {C:BgC}{kn:List UInt8->Prop}{ps:List (List UInt8)}{k:Int}{nm:ByteArray}{args:Exs}{cond:Cds}{body els:Sts}{at_:Int}{r:Sts}(h:OneC C kn ps k nm args cond body els at_)(hr:∀i k nm a cd b e t r',Sts.drop i r= .cons k nm a cd b e t r'->OneC C kn ps k nm a cd b e t):∀i k' yU a cd b e t r',Sts.drop i (.cons k nm args cond body els at_ r)= .cons k' yU a cd b e t r'->OneC C kn ps k' yU a cd b e t
 |0,_,_,_,_,_,_,_,_,e=>by
  simp only[Sts.drop,Sts.cons.injEq]at e;obtain⟨rfl,rfl,rfl,rfl,rfl,rfl,rfl,_⟩:=e;exact h
 |i+1,_,_,_,_,_,_,_,_,e=>hr i _ _ _ _ _ _ _ _ e
theorem zdF (C:BgC)(kn:List UInt8->Prop)(ps:List (List UInt8))(ho:C.Ok):∀xs:Sts,wfSb C.n kn ps xs->∀i k nm a cd b e t r,Sts.drop i xs= .cons k nm a cd b e t r->OneC C kn ps k nm a cd b e t
 | .nil,_=>λi _ _ _ _ _ _ _ _ h=>by cases i<;>simp[Sts.drop]at h
 | .cons k nm args cond body els at_ r,hw=>
  zmu (zn4 C kn ps ho k nm args cond body els at_ hw.1 hw.2.1 hw.2.2.1 (zfG C kn ps ho body (zdF C kn ps ho body hw.2.2.2.1)) (zfG C kn ps ho els (zdF C kn ps ho els hw.2.2.2.2.1))) (zdF C kn ps ho r hw.2.2.2.2.2)
theorem zgB (C:BgC)(kn:List UInt8->Prop)(ps:List (List UInt8))(ho:C.Ok)(xs:Sts)(hw:wfSb C.n kn ps xs):zgA C kn ps xs:=zfG C kn ps ho xs (zdF C kn ps ho xs hw)
