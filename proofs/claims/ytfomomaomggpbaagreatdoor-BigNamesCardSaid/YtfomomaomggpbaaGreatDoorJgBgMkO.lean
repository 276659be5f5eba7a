/-
  big: plain runs, as the closures have them. No walk.
-/
import Derived.Test.YtfomomaomggpbaaGreatDoorJgBgMkA
set_option linter.unusedVariables false
set_option linter.unusedSimpArgs false
set_option maxHeartbeats 6400000
set_option maxRecDepth 100000
namespace Go.Proofs.YtfomomaomggpbaaGreatDoor
open Go.RowKit Go.Shelf

section
variable {n:Bn} {ps:List (List UInt8)} {nm:ByteArray} {args:Exs} {cond:Cds} {body els:Sts} {at_:Int} {s t:Bs} {h:Option Ho}
theorem inv_plain {k:Int} (hk:k≤4) (r:RunT n (.one ps k nm args cond body els at_) s h t):(h,t)=plainO n ps s k nm args at_:=by
 cases r with
 |plain _=>rfl
 |fault a=>omega
 |holds a=>omega
 |fails a=>omega
 |yes=>omega
 |no=>omega
 |out a=>omega
 |ask=>omega
 |done=>omega
 |leave=>omega
 |again=>omega
 |give=>omega
 |call=>omega
theorem inv_1 (r:RunT n (.one ps 1 nm args cond body els at_) s h t):(h,t)=skipO at_ s:=by
 rw[inv_plain (by decide) r]
 unfold plainO skipO
 cases s.left<;>rfl
theorem inv_2 {k0 n0 m0 a0 t0} (e:args= .cons k0 n0 m0 a0 t0 .nil) (r:RunT n (.one ps 2 nm args cond body els at_) s h t):(h,t)=bgSetO n ps nm at_ (valH n ps k0 n0 m0 t0 a0) s:=by
 rw[inv_plain (by decide) r,e]
 unfold plainO bgSetO
 cases s.left with
 |zero=>rfl
 |succ m=>
  simp only[if_true]
  rw[valL_one]
  rcases valH n ps k0 n0 m0 t0 a0 {s with left:=m}with z|x<;>rfl
theorem inv_3 {k0 n0 m0 a0 t0 k1 n1 m1 a1 t1} (e:args= .cons k0 n0 m0 a0 t0 (.cons k1 n1 m1 a1 t1 .nil)) (r:RunT n (.one ps 3 nm args cond body els at_) s h t):(h,t)=stoO n nm at_ (valH n ps k0 n0 m0 t0 a0) (valH n ps k1 n1 m1 t1 a1) s:=by
 rw[inv_plain (by decide) r,e]
 unfold plainO stoO
 cases s.left with
 |zero=>rfl
 |succ m=>
  simp only[if_true,show(3:Int)=2↔False from by decide,if_false]
  rw[valL_two,valL_one]
  rcases valH n ps k0 n0 m0 t0 a0 {s with left:=m}with z|x
  ·rfl
  ·rcases valH n ps k1 n1 m1 t1 a1 {s with left:=m}with z|y<;>rfl
theorem inv_4 (r:RunT n (.one ps 4 nm args cond body els at_) s h t):(h,t)=inpO n ps nm at_ s:=by
 rw[inv_plain (by decide) r]
 unfold plainO inpO
 cases s.left with
 |zero=>rfl
 |succ m=>rfl
theorem inv_5 {k:Int} (hk:k=5∨k=6) {k0 a0 o0 t0 r0} (e:cond= .cons k0 a0 o0 t0 r0) (r:RunT n (.one ps k nm args cond body els at_) s h t):(h,t)=askO (truS n ps k0 a0 o0 t0) (if k=5 then⟨4,0,at_⟩else⟨5,1,at_⟩) s:=by
 have hx:∀l,truH n ps s cond l=truS n ps k0 a0 o0 t0 s l:=fun l=>by rw[e];rfl
 unfold askO
 cases r with
 |plain a=>omega
 |fault a b c=>rw[hx]at c;rw[c]
 |holds a c=>rw[hx]at c;rw[c]
 |fails a c=>rw[hx]at c;rw[c]
 |yes=>omega
 |no=>omega
 |out a=>omega
 |ask=>omega
 |done=>omega
 |leave=>omega
 |again=>omega
 |give=>omega
 |call=>omega
theorem inv_7 {k0 a0 o0 t0 r0} (e:cond= .cons k0 a0 o0 t0 r0) (r:RunT n (.one ps 7 nm args cond body els at_) s h t):ifD (truS n ps k0 a0 o0 t0) (RunT n (.all ps body)) (RunT n (.all ps els)) s h t:=by
 have hx:∀l,truH n ps s cond l=truS n ps k0 a0 o0 t0 s l:=fun l=>by rw[e];rfl
 unfold ifD
 cases r with
 |plain a=>omega
 |fault a b c=>rw[hx]at c;rw[c];exact⟨rfl,rfl⟩
 |holds a c=>omega
 |fails a c=>omega
 |yes c d=>rw[hx]at c;rw[c];exact d
 |no c d=>rw[hx]at c;rw[c];exact d
 |out a=>omega
theorem inv_8 {k0 a0 o0 t0 r0} (e:cond= .cons k0 a0 o0 t0 r0) (r:RunT n (.one ps 8 nm args cond body els at_) s h t):lpD (truS n ps k0 a0 o0 t0) (RunT n (.all ps body)) at_ s h t:=by
 have hx:∀s l,truH n ps s cond l=truS n ps k0 a0 o0 t0 s l:=fun s l=>by rw[e];rfl
 generalize hT:Tsk.one ps 8 nm args cond body els at_=tsk at r
 induction r with
 |nil=>cases hT
 |next=>cases hT
 |stop=>cases hT
 |plain a=>cases hT;omega
 |fault a b c=>cases hT;omega
 |holds a c=>cases hT;omega
 |fails a c=>cases hT;omega
 |yes=>cases hT
 |no=>cases hT
 |out a b=>cases hT;exact .inl ⟨b,rfl,rfl⟩
 |ask a c=>cases hT;rw[hx]at c;exact .inr ⟨_,a,.ask c⟩
 |done a c=>cases hT;rw[hx]at c;exact .inr ⟨_,a,.done c⟩
 |leave a c d=>cases hT;rw[hx]at c;exact .inr ⟨_,a,.leave c d⟩
 |again a c d _ _ ih=>
  cases hT
  rw[hx]at c
  rcases ih rfl with⟨z,rfl,rfl⟩|⟨m,hm,hl⟩
  ·exact .inr ⟨_,a,.out c d z⟩
  ·exact .inr ⟨_,a,.again c d hm hl⟩
 |give=>cases hT
 |call=>cases hT
theorem given_gv:∀(vs:List Va) (xs:Exs) (s:Bs),vs.length=xs.len→givenO n ps at_ vs xs s=gvO at_ (xsV n ps xs) s
 | [],.nil,s,_=>rfl
 | [],.cons _ _ _ _ _ _,s,h=>by simp[Exs.len]at h
 |_::_,.nil,s,h=>by simp[Exs.len]at h
 |v::vs,.cons k nm m a b q,s,h=>by
  unfold givenO
  simp only[xsV,gvO]
  cases s.left with
  |zero=>rfl
  |succ l=>
   simp only
   rw[valL_one,given_gv vs q {s with left:=l} (by simpa[Exs.len]using h)]
   rcases valH n ps k nm m b a {s with left:=l}with z|x
   ·rfl
   ·simp only
    rcases gvO at_ (xsV n ps q) {s with left:=l}with⟨z|ys,t⟩<;>rfl
theorem inv_9 {p:Prc} (hp:n.procs nm.data.toList=some p) (hl:p.params.length=args.len) (r:RunT n (.one ps 9 nm args cond body els at_) s h t):calD at_ (xsV n ps args) (RunT n (.all (p.params.map (·.nm.data.toList)) p.body)) s h t:=by
 cases r with
 |plain a=>omega
 |fault a b c=>omega
 |holds a c=>omega
 |fails a c=>omega
 |out a b=>exact .inl ⟨b,rfl,rfl⟩
 |give a b c=>
  rw[hp]at b
  obtain rfl:=Option.some.inj b
  rw[given_gv _ _ _ hl]at c
  exact .inr ⟨_,a,.inl ⟨_,c,rfl⟩⟩
 |call a b c d=>
  rw[hp]at b
  obtain rfl:=Option.some.inj b
  rw[given_gv _ _ _ hl]at c
  exact .inr ⟨_,a,.inr ⟨_,_,_,c,d,rfl⟩⟩
end
def hdS (n:Bn) (kn:List UInt8→Prop) (ps:List (List UInt8)) (k:Int) (nm:ByteArray) (args:Exs) (cond:Cds):Prop:=
 (1≤k∧k≤9)∧nm.size≤9223372036854775807∧(k=2∨k=4→InSc n ps nm)∧(k=3→∃i,posI n.arrs nm.data.toList=some i)∧(k=2→args.len=1)∧(k=3→args.len=2)∧(5≤k→k≤8→cond.len=1)∧(k=9→kn nm.data.toList∧∃p,n.procs nm.data.toList=some p∧p.params.length=args.len)
def wfSb (n:Bn) (kn:List UInt8→Prop) (ps:List (List UInt8)):Sts→Prop
 | .nil =>True
 | .cons k nm args cond body els _ r=>hdS n kn ps k nm args cond∧wfX n ps args∧wfCb n ps cond∧wfSb n kn ps body∧wfSb n kn ps els∧wfSb n kn ps r
end Go.Proofs.YtfomomaomggpbaaGreatDoor

namespace Go.Proofs.YtfomomaomggpbaaGreatDoor
open Go.RowKit Go.Shelf

structure BxS (C:BgC) (W w:World) (cs:Array Value):Prop where
 fr:Fr NoT W w
 p:Bk w W.heap.size 69 #[.pointer (some ⟨C.P,0,none⟩)]
 q:Bk w (W.heap.size+1) 51 cs
section
variable {C:BgC} {W w w':World} {cs:Array Value}
theorem BxS.next (h:BxS C W w cs) (hf:Fr NoT w w'):BxS C W w' cs:=⟨h.fr.trans hf,h.p.fr0 hf,h.q.fr0 hf⟩
theorem BxS.bp (h:BxS C W w cs):Bx W.heap.size w.heap.size w W.heap.size 69 #[.pointer (some ⟨C.P,0,none⟩)]:=⟨h.p,lrq _,h.p.lt⟩
theorem BxS.bq (h:BxS C W w cs):Bx W.heap.size w.heap.size w (W.heap.size+1) 51 cs:=⟨h.q,Nat.le_succ _,h.q.lt⟩
theorem BxS.new {k:Int} {nm:ByteArray} {A2 A3 A4 A5:Option Addr} {l2 c2 l3 c3 l4 c4 l5 c5:Nat} {at_:Int}:BxS C W (stW W C k nm A2 A3 A4 A5 l2 c2 l3 c3 l4 c4 l5 c5 at_) (bgStC k nm A2 A3 A4 A5 l2 c2 l3 c3 l4 c4 l5 c5 at_):=⟨((Fr.refl _ _).alloc _).alloc _,(Bk.new _ _ _).alloc _,Bk.new_at _ _ _ (by simp)⟩
end
theorem MkD.from {C:BgC} {ps:List (List UInt8)} {D D':DoR} {W w2 w':World} {e:Ending} (h:MkD C ps D w2 e w') (hf:Fr NoT W w2) (hD:∀s h t,D' s h t→D s h t):MkD C ps D' W e w':=by
 obtain⟨val,e1,h1,h2⟩:=h
 exact⟨val,e1,hf.trans h1,(h2.to hD).wide hf.size (lrq _)⟩
theorem ask_make (C:BgC) (ps:List (List UInt8)) (ho:C.Ok) (k:Int) (nm:ByteArray) (cond:Cds) (at_:Int) (k0 a0 o0 t0 r0) (e:cond= .cons k0 a0 o0 t0 r0) (h0:CndC C ps k0 a0 o0 t0) (en:Ho) (W:World) (S:Nat→Prop) (Z:Prop) (A2 A3 A4 A5:Option Addr) (l2 c2 c3 l4 c4 l5 c5:Nat) (hT:C.T≤W.heap.size) (hpg:PgAt C W) (hS:∀x,S x→x < C.B) (hx:SlR (fun b o=>CdR W S Z cond b o) cond.len 64 A3 c3):
  Calls Tryz.prog 106 #[.pointer (some ⟨C.P,0,none⟩),.agg (bgStC k nm A2 A3 A4 A5 l2 c2 cond.len c3 l4 c4 l5 c5 at_),.agg #[.int .u8 en.kind,.int .u8 en.wrong,.int .i64 en.at_]] W (MkD C ps (fun s h t=>(h,t)=askO (truS C.n ps k0 a0 o0 t0) en s) W):=by
 obtain⟨b0,o0',rfl,hat⟩:=hx.2.2 (by rw[e];simp[Cds.len])
 rw[e]at hat
 obtain⟨⟨hbS,_,_,_,e0,e3⟩,⟨A6,c6,e1,s1⟩,⟨A7,c7,e2,s2⟩,_⟩:=hat
 obtain⟨l,hl⟩:=nmq cond.len
 have hl0:0 < l:=by rw[hl,e];simp[Cds.len]
 have hlm:l≤9223372036854775807:=by rw[hl];exact leq9 hx.1 hx.2.1.1
 obtain⟨l6,hl6⟩:=nmq a0.len
 obtain⟨l7,hl7⟩:=nmq o0.len
 rw[←hl6]at e1
 rw[←hl7]at e2
 have hBW:C.B≤W.heap.size:=by have h1:=ho.br;have h2:=ho.rT;omega
 have hbW:b0 < W.heap.size:=ltq (hS _ hbS) hBW
 obtain⟨ek,ew,ea⟩:=en
 obtain⟨w2,hw2⟩:=nmq ((W.alloc (.cells (bgStC k nm A2 (some ⟨b0,o0',none⟩) A4 A5 l2 c2 l c3 l4 c4 l5 c5 at_) 51)).alloc (.cells #[.int .u8 ek,.int .u8 ew,.int .i64 ea] 85))
 have hf2:Fr NoT W w2:=by rw[hw2];exact((Fr.refl _ _).alloc _).alloc _
 have hq2:Bk w2 W.heap.size 51 (bgStC k nm A2 (some ⟨b0,o0',none⟩) A4 A5 l2 c2 l c3 l4 c4 l5 c5 at_):=by rw[hw2];exact(Bk.new _ _ _).alloc _
 have hy2:Bk w2 (W.heap.size+1) 85 #[.int .u8 ek,.int .u8 ew,.int .i64 ea]:=by rw[hw2];exact Bk.new_at _ _ _ (by simp)
 have hsm:SameS S W w2:=hf2.same fun b hb=>⟨ltq (hS b hb) hBW,id⟩
 have hpl:PgAt C w2:=hpg.later ho (Later.of0 (lo:=0) (hi:=0) hf2 (Nat.zero_le _) hT)
 have hcall:=h0 w2 S Z A6 A7 c6 c7 (leq9 hT hf2.size) hpl hS (s1.imp fun _ _ hx=>ExR.keep hsm hx) (s2.imp fun _ _ hx=>CdR.keep hsm hx)
 rw[←hl6,←hl7]at hcall
 have q3:=hq2.cell 3
 have d0:=(hf2.cell hbW id).trans e0
 have d1:=(hf2.cell hbW id).trans e1
 have d2:=(hf2.cell hbW id).trans e2
 have d3:=(hf2.cell hbW id).trans e3
 have hb2:b0 < w2.heap.size:=ltq hbW hf2.size
 have hq1:=hq2.lt
 simp only[bgStC,List.getElem?_toArray,List.getElem?_cons_succ,List.getElem?_cons_zero]at q3
 have HC:=hdq hcall
 have HW2:=hdq hw2
 have HALL:=hdq (show ∀w5 val,Fr NoT w2 w5→TruP C ps val (truS C.n ps k0 a0 o0 t0) w2.heap.size w5.heap.size w5→MkD C ps (fun s h t=>(h,t)=askO (truS C.n ps k0 a0 o0 t0) ⟨ek,ew,ea⟩ s) W (.returned (.func (.func 178) #[] #[.pointer (some ⟨w5.heap.size,0,none⟩),.pointer (some ⟨W.heap.size+1,0,none⟩)])) (w5.alloc (.cells #[val] 223))from fun w5 val hf5 hv=>by
  have hf6:Fr NoT w5 (w5.alloc (.cells #[val] 223)):=(Fr.refl _ _).alloc _
  have h2:=hf2.size
  have h5:=hf5.size
  refine⟨_,rfl,(hf2.trans hf5).trans hf6,ask_1 ho hT ⟨Bk.new _ _ _,by omega,by simp⟩ ⟨(hy2.fr0 hf5).fr0 hf6,Nat.le_succ _,((hy2.fr0 hf5).fr0 hf6).lt⟩ ((hv.later (Later.of0 hf6 (lrq _) (by omega))).wide h2 hf6.size)⟩)
 rw[←hl]
 clear hx s1 s2 hl6 hl7 hl hBW hf2 hq2 hy2 hsm d0 d1 d2 d3 hb2 hq1 q3 hpl hcall hw2 hpg hS hT hbS h0 e
 go_enter Tryz.func106,Tryz.ntmps106
 go_wp2_with fail
 rw[←HW2.out]
 refine HC.out.mono ?_
 rintro _ w5 ⟨val,rfl,hf5,hv⟩
 have hr:=HALL.out _ _ hf5 hv
 obtain⟨gg,cps,rfl⟩:=hv.func
 have HR:=hdq hr
 clear hf5 hv hr e0 e1 e2 e3
 go_wp2_with fail
 go_ret
 exact HR.out
theorem one_put {C:BgC} {ps:List (List UInt8)} {D D':DoR} {k:Int} {nm:ByteArray} {at_:Int} {W:World} {A2 A3 A4 A5:Option Addr} {l2 c2 l3 c3 l4 c4 l5 c5:Nat} (hk:k=2∨k=3∨k=4)
  (hc:Calls Tryz.prog 105 #[.pointer (some ⟨C.P,0,none⟩),.agg (bgStC k nm A2 A3 A4 A5 l2 c2 l3 c3 l4 c4 l5 c5 at_)] (stW W C k nm A2 A3 A4 A5 l2 c2 l3 c3 l4 c4 l5 c5 at_) (MkD C ps D (stW W C k nm A2 A3 A4 A5 l2 c2 l3 c3 l4 c4 l5 c5 at_))) (hD:∀s h t,D' s h t→D s h t):
  Calls Tryz.prog 54 #[.pointer (some ⟨C.P,0,none⟩),.agg (bgStC k nm A2 A3 A4 A5 l2 c2 l3 c3 l4 c4 l5 c5 at_)] W (MkD C ps D' W):=by
 have HB:=hdq (BxS.new (C:=C) (W:=W) (k:=k) (nm:=nm) (A2:=A2) (A3:=A3) (A4:=A4) (A5:=A5) (l2:=l2) (c2:=c2) (l3:=l3) (c3:=c3) (l4:=l4) (c4:=c4) (l5:=l5) (c5:=c5) (at_:=at_))
 obtain⟨w2,hw2⟩:=nmq (stW W C k nm A2 A3 A4 A5 l2 c2 l3 c3 l4 c4 l5 c5 at_)
 rw[←hw2]at hc HB
 unfold stW at hw2
 have HC:=hdq hc
 have HW2:=hdq hw2
 have HD:=hdq hD
 clear hc hw2 hD
 rcases hk with rfl|rfl|rfl
 all_goals
  go_enter Tryz.func54,Tryz.ntmps54
  go_wp2_with fail
  rw[←HW2.out]
  refine HC.out.mono ?_
  rintro e w5 hr
  have hr2:=hr.from HB.out.fr HD.out
  obtain⟨val,rfl,_,hdo⟩:=hr
  obtain⟨gg,cps,rfl⟩:=hdo.func
  have HR:=hdq hr2
  clear hr2 hdo
  go_wp2_with fail
  go_ret
  exact HR.out
theorem one_ask5 {C:BgC} {ps:List (List UInt8)} {D D':DoR} {k:Int} {nm:ByteArray} {at_:Int} {W:World} {A2 A3 A4 A5:Option Addr} {l2 c2 l3 c3 l4 c4 l5 c5:Nat} (hk:k=5)
  (hc:Calls Tryz.prog 106 #[.pointer (some ⟨C.P,0,none⟩),.agg (bgStC k nm A2 A3 A4 A5 l2 c2 l3 c3 l4 c4 l5 c5 at_),.agg #[.int .u8 4,.int .u8 0,.int .i64 at_]] (stW W C k nm A2 A3 A4 A5 l2 c2 l3 c3 l4 c4 l5 c5 at_) (MkD C ps D (stW W C k nm A2 A3 A4 A5 l2 c2 l3 c3 l4 c4 l5 c5 at_))) (hD:∀s h t,D' s h t→D s h t):
  Calls Tryz.prog 54 #[.pointer (some ⟨C.P,0,none⟩),.agg (bgStC k nm A2 A3 A4 A5 l2 c2 l3 c3 l4 c4 l5 c5 at_)] W (MkD C ps D' W):=by
 have HB:=hdq (BxS.new (C:=C) (W:=W) (k:=k) (nm:=nm) (A2:=A2) (A3:=A3) (A4:=A4) (A5:=A5) (l2:=l2) (c2:=c2) (l3:=l3) (c3:=c3) (l4:=l4) (c4:=c4) (l5:=l5) (c5:=c5) (at_:=at_))
 obtain⟨w2,hw2⟩:=nmq (stW W C k nm A2 A3 A4 A5 l2 c2 l3 c3 l4 c4 l5 c5 at_)
 rw[←hw2]at hc HB
 unfold stW at hw2
 have HC:=hdq hc
 have HW2:=hdq hw2
 have HD:=hdq hD
 clear hc hw2 hD
 subst hk
 all_goals
  go_enter Tryz.func54,Tryz.ntmps54
  go_wp2_with fail
  rw[←HW2.out]
  refine HC.out.mono ?_
  rintro e w5 hr
  have hr2:=hr.from HB.out.fr HD.out
  obtain⟨val,rfl,_,hdo⟩:=hr
  obtain⟨gg,cps,rfl⟩:=hdo.func
  have HR:=hdq hr2
  clear hr2 hdo
  go_wp2_with fail
  go_ret
  exact HR.out
theorem one_ask6 {C:BgC} {ps:List (List UInt8)} {D D':DoR} {k:Int} {nm:ByteArray} {at_:Int} {W:World} {A2 A3 A4 A5:Option Addr} {l2 c2 l3 c3 l4 c4 l5 c5:Nat} (hk:k=6)
  (hc:Calls Tryz.prog 106 #[.pointer (some ⟨C.P,0,none⟩),.agg (bgStC k nm A2 A3 A4 A5 l2 c2 l3 c3 l4 c4 l5 c5 at_),.agg #[.int .u8 5,.int .u8 1,.int .i64 at_]] (stW W C k nm A2 A3 A4 A5 l2 c2 l3 c3 l4 c4 l5 c5 at_) (MkD C ps D (stW W C k nm A2 A3 A4 A5 l2 c2 l3 c3 l4 c4 l5 c5 at_))) (hD:∀s h t,D' s h t→D s h t):
  Calls Tryz.prog 54 #[.pointer (some ⟨C.P,0,none⟩),.agg (bgStC k nm A2 A3 A4 A5 l2 c2 l3 c3 l4 c4 l5 c5 at_)] W (MkD C ps D' W):=by
 have HB:=hdq (BxS.new (C:=C) (W:=W) (k:=k) (nm:=nm) (A2:=A2) (A3:=A3) (A4:=A4) (A5:=A5) (l2:=l2) (c2:=c2) (l3:=l3) (c3:=c3) (l4:=l4) (c4:=c4) (l5:=l5) (c5:=c5) (at_:=at_))
 obtain⟨w2,hw2⟩:=nmq (stW W C k nm A2 A3 A4 A5 l2 c2 l3 c3 l4 c4 l5 c5 at_)
 rw[←hw2]at hc HB
 unfold stW at hw2
 have HC:=hdq hc
 have HW2:=hdq hw2
 have HD:=hdq hD
 clear hc hw2 hD
 subst hk
 all_goals
  go_enter Tryz.func54,Tryz.ntmps54
  go_wp2_with fail
  rw[←HW2.out]
  refine HC.out.mono ?_
  rintro e w5 hr
  have hr2:=hr.from HB.out.fr HD.out
  obtain⟨val,rfl,_,hdo⟩:=hr
  obtain⟨gg,cps,rfl⟩:=hdo.func
  have HR:=hdq hr2
  clear hr2 hdo
  go_wp2_with fail
  go_ret
  exact HR.out
theorem one_call {C:BgC} {ps:List (List UInt8)} {D D':DoR} {k:Int} {nm:ByteArray} {at_:Int} {W:World} {A2 A3 A4 A5:Option Addr} {l2 c2 l3 c3 l4 c4 l5 c5:Nat} (hk:k=9)
  (hc:Calls Tryz.prog 111 #[.pointer (some ⟨C.P,0,none⟩),.agg (bgStC k nm A2 A3 A4 A5 l2 c2 l3 c3 l4 c4 l5 c5 at_)] (stW W C k nm A2 A3 A4 A5 l2 c2 l3 c3 l4 c4 l5 c5 at_) (MkD C ps D (stW W C k nm A2 A3 A4 A5 l2 c2 l3 c3 l4 c4 l5 c5 at_))) (hD:∀s h t,D' s h t→D s h t):
  Calls Tryz.prog 54 #[.pointer (some ⟨C.P,0,none⟩),.agg (bgStC k nm A2 A3 A4 A5 l2 c2 l3 c3 l4 c4 l5 c5 at_)] W (MkD C ps D' W):=by
 have HB:=hdq (BxS.new (C:=C) (W:=W) (k:=k) (nm:=nm) (A2:=A2) (A3:=A3) (A4:=A4) (A5:=A5) (l2:=l2) (c2:=c2) (l3:=l3) (c3:=c3) (l4:=l4) (c4:=c4) (l5:=l5) (c5:=c5) (at_:=at_))
 obtain⟨w2,hw2⟩:=nmq (stW W C k nm A2 A3 A4 A5 l2 c2 l3 c3 l4 c4 l5 c5 at_)
 rw[←hw2]at hc HB
 unfold stW at hw2
 have HC:=hdq hc
 have HW2:=hdq hw2
 have HD:=hdq hD
 clear hc hw2 hD
 subst hk
 all_goals
  go_enter Tryz.func54,Tryz.ntmps54
  go_wp2_with fail
  rw[←HW2.out]
  refine HC.out.mono ?_
  rintro e w5 hr
  have hr2:=hr.from HB.out.fr HD.out
  obtain⟨val,rfl,_,hdo⟩:=hr
  obtain⟨gg,cps,rfl⟩:=hdo.func
  have HR:=hdq hr2
  clear hr2 hdo
  go_wp2_with fail
  go_ret
  exact HR.out
theorem one_skip {C:BgC} {ps:List (List UInt8)} {D':DoR} {nm:ByteArray} {at_:Int} {W:World} {A2 A3 A4 A5:Option Addr} {l2 c2 l3 c3 l4 c4 l5 c5:Nat} (ho:C.Ok) (hT:C.T≤W.heap.size) (hpg:PgAt C W) (hD:∀s h t,D' s h t→(h,t)=skipO at_ s):
  Calls Tryz.prog 54 #[.pointer (some ⟨C.P,0,none⟩),.agg (bgStC 1 nm A2 A3 A4 A5 l2 c2 l3 c3 l4 c4 l5 c5 at_)] W (MkD C ps D' W):=by
 have hb:=BxS.new (C:=C) (W:=W) (k:=1) (nm:=nm) (A2:=A2) (A3:=A3) (A4:=A4) (A5:=A5) (l2:=l2) (c2:=c2) (l3:=l3) (c3:=c3) (l4:=l4) (c4:=c4) (l5:=l5) (c5:=c5) (at_:=at_)
 obtain⟨w2,hw2⟩:=nmq (stW W C 1 nm A2 A3 A4 A5 l2 c2 l3 c3 l4 c4 l5 c5 at_)
 rw[←hw2]at hb
 unfold stW at hw2
 have HR:=hdq (show MkD C ps D' W (.returned (.func (.func 112) #[] #[.pointer (some ⟨W.heap.size,0,none⟩),.pointer (some ⟨W.heap.size+1,0,none⟩)])) w2 from⟨_,rfl,hb.fr,(one_3 ho hT (hpg.later ho (Later.of0 (lo:=0) (hi:=0) hb.fr (Nat.zero_le _) hT)) hb.bp hb.bq rfl).to hD⟩)
 have HW2:=hdq hw2
 clear hb hw2 hD ho hT hpg
 go_enter Tryz.func54,Tryz.ntmps54
 go_wp2_with fail
 rw[←HW2.out]
 go_ret
 exact HR.out
end Go.Proofs.YtfomomaomggpbaaGreatDoor

namespace Go.Proofs.YtfomomaomggpbaaGreatDoor
open Go.RowKit Go.Shelf

def slD (C:BgC) (ps:List (List UInt8)) (D:DoR):SlT:=fun v lo hi w=>DoP C ps v D lo hi w
theorem slD_on {C:BgC} {ps:List (List UInt8)} {D:DoR}:Stb C (slD C ps D):=fun _ _ _ _ _ hl h=>DoP.later h hl
def slo3 (g0 g1 g2:SlT):Nat→Option SlT
 |0=>some g0
 |1=>some g1
 |2=>some g2
 |_=>none
theorem slo3_on {C:BgC} {g0 g1 g2:SlT} (h0:Stb C g0) (h1:Stb C g1) (h2:Stb C g2):∀p g,slo3 g0 g1 g2 p=some g→Stb C g
 |0,g,e=>by cases e;exact h0
 |1,g,e=>by cases e;exact h1
 |2,g,e=>by cases e;exact h2
 |p+3,g,e=>by cases e
def tyI:Nat→TypeId
 |3=>223
 |_=>80
def tyW:Nat→TypeId
 |2=>223
 |_=>80
def vaThree:List Bool→Bool:=fun bs=>(!bs.getD 1 false || bs.getD 0 false)&&(!bs.getD 2 false || bs.getD 1 false)
def IfS (p q b o:Nat) (P A3 A4 A5:Option Addr) (l3 c3 l4 c4 l5 c5:Nat) (v0 v1 v2 v3:Value) (W:World):Prop:=W.cell? ⟨p,0,none⟩=some (.pointer P)∧W.cell? ⟨q,3,none⟩=some (.slice A3 l3 c3)∧W.cell? ⟨q,4,none⟩=some (.slice A4 l4 c4)∧W.cell? ⟨q,5,none⟩=some (.slice A5 l5 c5)∧W.cell? ⟨b,o,none⟩=some v0∧W.cell? ⟨b,o+1,none⟩=some v1∧W.cell? ⟨b,o+2,none⟩=some v2∧W.cell? ⟨b,o+3,none⟩=some v3
theorem if_make (C:BgC) (kn:List UInt8→Prop) (ps:List (List UInt8)) (ho:C.Ok) (nm:ByteArray) (args:Exs) (cond:Cds) (body els:Sts) (at_:Int) (k0 a0 o0 t0) (e:cond= .cons k0 a0 o0 t0 .nil) (h0:CndC C ps k0 a0 o0 t0) (h1:AllC9 C kn ps body) (h2:AllC9 C kn ps els):OneC C kn ps 7 nm args cond body els at_:=by
 intro W S Z A2 A3 A4 A5 c2 c3 c4 c5 hT hpg hpr hS hx2 hx3 hx4 hx5
 obtain⟨bb,oo,rfl,hat⟩:=hx3.2.2 (by rw[e];simp[Cds.len])
 rw[e]at hat
 obtain⟨⟨hbS,_,_,_,e0,e3⟩,⟨A6,c6,e1,s1⟩,⟨A7,c7,e2,s2⟩,_⟩:=hat
 obtain⟨l2,hl2⟩:=nmq args.len
 obtain⟨l3,hl3⟩:=nmq cond.len
 obtain⟨l4,hl4⟩:=nmq body.len
 obtain⟨l5,hl5⟩:=nmq els.len
 have hl30:0 < l3:=by rw[hl3,e];simp[Cds.len]
 have hl3m:l3≤9223372036854775807:=by rw[hl3];exact leq9 hx3.1 hx3.2.1.1
 obtain⟨l6,hl6⟩:=nmq a0.len
 obtain⟨l7,hl7⟩:=nmq o0.len
 rw[←hl6]at e1
 rw[←hl7]at e2
 obtain⟨w2,hw2⟩:=nmq (stW W C 7 nm A2 (some ⟨bb,oo,none⟩) A4 A5 l2 c2 l3 c3 l4 c4 l5 c5 at_)
 have hB:BxS C W w2 (bgStC 7 nm A2 (some ⟨bb,oo,none⟩) A4 A5 l2 c2 l3 c3 l4 c4 l5 c5 at_):=by rw[hw2];exact BxS.new
 have hBW:C.B≤W.heap.size:=by have h1:=ho.br;have h2:=ho.rT;omega
 have hbW:bb < W.heap.size:=ltq (hS _ hbS) hBW
 have hT2:C.T≤w2.drew.heap.size:=leq9 hT hB.fr.size
 have hsm:∀w',Fr NoT W w'→SameS S W w':=fun w' hf=>hf.same fun b hb=>⟨ltq (hS b hb) hBW,id⟩
 have hpl:∀w',Fr NoT W w'→PgAt C w':=fun w' hf=>hpg.later ho (Later.of0 (lo:=0) (hi:=0) hf (Nat.zero_le _) hT)
 have hpq:∀w',Fr NoT W w'→PrAt C kn w':=fun w' hf=>hpr.fr0 ho hT hf
 have hcall0:∀w',Fr NoT W w'→_:=fun w' hf=>h0 w' S Z A6 A7 c6 c7 (leq9 hT hf.size) (hpl w' hf) hS (s1.imp fun _ _ hx=>ExR.keep (hsm w' hf) hx) (s2.imp fun _ _ hx=>CdR.keep (hsm w' hf) hx)
 have hcall1:∀w',Fr NoT W w'→_:=fun w' hf=>h1 w' S Z A4 c4 (leq9 hT hf.size) (hpl w' hf) (hpq w' hf) hS (hx4.imp fun _ _ hx=>StR.keep (hsm w' hf) hx)
 have hcall2:∀w',Fr NoT W w'→_:=fun w' hf=>h2 w' S Z A5 c5 (leq9 hT hf.size) (hpl w' hf) (hpq w' hf) hS (hx5.imp fun _ _ hx=>StR.keep (hsm w' hf) hx)
 have hs2:∀w',Fr NoT w2 w'→IfS W.heap.size (W.heap.size+1) bb oo (some ⟨C.P,0,none⟩) (some ⟨bb,oo,none⟩) A4 A5 l3 c3 l4 c4 l5 c5 (.int .u8 k0) (.slice A6 l6 c6) (.slice A7 l7 c7) (.int .i64 t0) w':=fun w' hf=>
  have hf2:=hB.fr.trans hf
  ⟨(hB.next hf).p.cell 0,(hB.next hf).q.cell 3,(hB.next hf).q.cell 4,(hB.next hf).q.cell 5,(hf2.cell hbW id).trans e0,(hf2.cell hbW id).trans e1,(hf2.cell hbW id).trans e2,(hf2.cell hbW id).trans e3⟩
 have hall:∀w7 x1 x2 x3 v1 v2 v3 lo1 hi1 lo2 hi2 lo3 hi3,Fr NoT w2 w7→Bk w7 x1 223 #[v1]→w2.heap.size≤x1→Bk w7 x2 80 #[v2]→w2.heap.size≤x2→Bk w7 x3 80 #[v3]→w2.heap.size≤x3→TruP C ps v1 (truS C.n ps k0 a0 o0 t0) lo1 hi1 w7→w2.heap.size≤lo1→hi1≤w7.heap.size→DoP C ps v2 (RunT C.n (.all ps body)) lo2 hi2 w7→w2.heap.size≤lo2→hi2≤w7.heap.size→DoP C ps v3 (RunT C.n (.all ps els)) lo3 hi3 w7→w2.heap.size≤lo3→hi3≤w7.heap.size→
   MkD C ps (RunT C.n (.one ps 7 nm args cond body els at_)) W (.returned (.func (.func 108) #[] #[.pointer (some ⟨x1,0,none⟩),.pointer (some ⟨x2,0,none⟩),.pointer (some ⟨x3,0,none⟩)])) w7:=by
  intro w7 x1 x2 x3 v1 v2 v3 lo1 hi1 lo2 hi2 lo3 hi3 hf0 hx1 hg1 hx2 hg2 hx3 hg3 hv1 hlo1 hhi1 hv2 hlo2 hhi2 hv3 hlo3 hhi3
  have hf7:=hB.fr.trans hf0
  have hB7:=hB.next hf0
  have h2:=hB.fr.size
  have hlo1:=leq9 h2 hlo1
  have hx1:Bx W.heap.size w7.heap.size w7 x1 223 #[v1]:=⟨hx1,leq9 h2 hg1,hx1.lt⟩
  have hlo2:=leq9 h2 hlo2
  have hx2:Bx W.heap.size w7.heap.size w7 x2 80 #[v2]:=⟨hx2,leq9 h2 hg2,hx2.lt⟩
  have hlo3:=leq9 h2 hlo3
  have hx3:Bx W.heap.size w7.heap.size w7 x3 80 #[v3]:=⟨hx3,leq9 h2 hg3,hx3.lt⟩
  exact⟨_,rfl,hf7,(one_1 ho hT hx1 hx2 hx3 (hv1.wide hlo1 hhi1) (hv2.wide hlo2 hhi2) (hv3.wide hlo3 hhi3) (truS_left _ _ _ _ _ _)).to fun s h t hr=>inv_7 e hr⟩
 have HS2:=hdq hs2
 rw[←hl6,←hl7]at hcall0
 rw[←hl4]at hcall1
 rw[←hl5]at hcall2
 have HC0:=hdq hcall0
 have HC1:=hdq hcall1
 have HC2:=hdq hcall2
 have HB:=hdq hB
 have HALL:=hdq hall
 unfold stW at hw2
 have HW:=hdq hw2
 have HT2:=hdq hT2
 rw[←hl2,←hl3,←hl4,←hl5]
 obtain⟨X0,hX0⟩:=nmq (truS C.n ps k0 a0 o0 t0)
 obtain⟨D1,hD1⟩:=nmq (RunT C.n (.all ps body))
 obtain⟨D2,hD2⟩:=nmq (RunT C.n (.all ps els))
 rw[←hX0]at HC0 HALL
 rw[←hD1]at HC1 HALL
 rw[←hD2]at HC2 HALL
 have HON:=hdq (slo3_on (g0:=slT C ps X0) (g1:=slD C ps D1) (g2:=slD C ps D2) slT_on slD_on slD_on)
 clear hs2 hcall0 hcall1 hcall2 hB hall hw2 hT2 hS hbS hBW hT e hl2 hl3 hl4 hl5 hsm hpl hpq hx2 hx3 hx4 hx5 hpg hpr e0 e1 e2 e3 s1 s2 hl6 hl7 hbW h0 h1 h2 hX0 hD1 hD2
 go_enter Tryz.func54,Tryz.ntmps54
 go_wp2_with fail
 rw[←HW.out]
 refine wp_region_E (IfS W.heap.size (W.heap.size+1) bb oo (some ⟨C.P,0,none⟩) (some ⟨bb,oo,none⟩) A4 A5 l3 c3 l4 c4 l5 c5 (.int .u8 k0) (.slice A6 l6 c6) (.slice A7 l7 c7) (.int .i64 t0)) (fun i=>decide (i < 19)) (by kernel_rfl) (HS2.out _ (Fr.refl _ _).drew) (fun hHeld=>?_)
 refine wpE_pu 1 ?_
 try simp only[Act.put,List.setIfInBounds_toArray,List.set_cons_zero,List.set_cons_succ]
 refine wpE_pu 7 ?_
 try simp only[Act.put,List.setIfInBounds_toArray,List.set_cons_zero,List.set_cons_succ]
 refine wpE_pu 11 ?_
 try simp only[Act.put,List.setIfInBounds_toArray,List.set_cons_zero,List.set_cons_succ]
 refine wpE_tv 0 hHeld ?_
 try simp only[Act.put,List.setIfInBounds_toArray,List.set_cons_zero,List.set_cons_succ]
 refine wpE_tv 2 hHeld ?_
 try simp only[Act.put,List.setIfInBounds_toArray,List.set_cons_zero,List.set_cons_succ]
 refine wpE_tv 6 hHeld ?_
 try simp only[Act.put,List.setIfInBounds_toArray,List.set_cons_zero,List.set_cons_succ]
 refine wpE_tv 8 hHeld ?_
 try simp only[Act.put,List.setIfInBounds_toArray,List.set_cons_zero,List.set_cons_succ]
 refine wpE_tv 10 hHeld ?_
 try simp only[Act.put,List.setIfInBounds_toArray,List.set_cons_zero,List.set_cons_succ]
 refine wpE_tv 12 hHeld ?_
 try simp only[Act.put,List.setIfInBounds_toArray,List.set_cons_zero,List.set_cons_succ]
 refine wpE_pu 3 ?_
 try simp only[Act.put,List.setIfInBounds_toArray,List.set_cons_zero,List.set_cons_succ]
 refine wpE_tv 4 hHeld ?_
 try simp only[Act.put,List.setIfInBounds_toArray,List.set_cons_zero,List.set_cons_succ]
 refine wpE_manyA 6 [5,9,13,14,15,16] [42,46,50,5,6,7] vaThree (fun o w=>ManyI w2.drew (PpG C (slo3 (slT C ps X0) (slD C ps D1) (slD C ps D2)) tyI) o w) rfl (by decide) (by kernel_rfl) rfl (fun o w h=>HS2.out _ ((Fr.refl _ _).drew.trans h.fr)) (by kernel_rfl) rfl (fun o w p i hI hol hip hop hva=>?_) (fun o w hI hol hall=>?_) (ManyI.zero _ _)
 ·obtain⟨a,b,c,d,e,f,rfl⟩:=six_of hol
  rcases p with _|_|_|_|_|_|p
  ·simp at hip hop
   subst hip hop
   cases b<;>cases c<;>cases d<;>cases e<;>cases f<;>try exact absurd hva (by decide)
   all_goals
    simp only[putM,Act.put,List.setIfInBounds_toArray,List.set_cons_zero,List.set_cons_succ]
    refine wpOp_step (at_dropE rfl) (fun KK hK=>?_)
    go_simp
    go_at_call 107
    refine(HC0.out w ((HB.out.fr.trans (Fr.refl NoT w2).drew).trans hI.fr)).mono ?_
    rintro _ w5 ⟨v0,rfl,hf5,hv5⟩
    try dsimp only
    refine hK _ _ ?_
    exact⟨v0,by kernel_rfl,hI.put (p:=0) HT2.out hf5 (PpG.on HON.out) ⟨hv5,lrq _,leq9 HT2.out (leq9 hI.fr.size hf5.size)⟩⟩
  ·simp at hip hop
   subst hip hop
   cases a<;>cases c<;>cases d<;>cases e<;>cases f<;>try exact absurd hva (by decide)
   all_goals
    simp only[putM,Act.put,List.setIfInBounds_toArray,List.set_cons_zero,List.set_cons_succ]
    refine wpOp_step (at_dropE rfl) (fun KK hK=>?_)
    go_simp
    go_at_call 23
    refine(HC1.out w ((HB.out.fr.trans (Fr.refl NoT w2).drew).trans hI.fr)).mono ?_
    rintro _ w5 ⟨v0,rfl,hf5,hv5⟩
    try dsimp only
    refine hK _ _ ?_
    exact⟨v0,by kernel_rfl,hI.put (p:=1) HT2.out hf5 (PpG.on HON.out) ⟨hv5,lrq _,leq9 HT2.out (leq9 hI.fr.size hf5.size)⟩⟩
  ·simp at hip hop
   subst hip hop
   cases a<;>cases b<;>cases d<;>cases e<;>cases f<;>try exact absurd hva (by decide)
   all_goals
    simp only[putM,Act.put,List.setIfInBounds_toArray,List.set_cons_zero,List.set_cons_succ]
    refine wpOp_step (at_dropE rfl) (fun KK hK=>?_)
    go_simp
    go_at_call 23
    refine(HC2.out w ((HB.out.fr.trans (Fr.refl NoT w2).drew).trans hI.fr)).mono ?_
    rintro _ w5 ⟨v0,rfl,hf5,hv5⟩
    try dsimp only
    refine hK _ _ ?_
    exact⟨v0,by kernel_rfl,hI.put (p:=2) HT2.out hf5 (PpG.on HON.out) ⟨hv5,lrq _,leq9 HT2.out (leq9 hI.fr.size hf5.size)⟩⟩
  ·simp at hip hop
   subst hip hop
   cases a<;>cases b<;>cases c<;>cases e<;>cases f<;>try exact absurd hva (by decide)
   all_goals
    simp only[putM,Act.put,List.setIfInBounds_toArray,List.set_cons_zero,List.set_cons_succ]
    refine wpOp_step (at_dropE rfl) (fun KK hK=>?_)
    go_simp
    refine hK _ _ ?_
    exact⟨_,by kernel_rfl,hI.lay (p:=3) HT2.out (PpG.on HON.out) (fun v lo hi w h=>h)⟩
  ·simp at hip hop
   subst hip hop
   cases a<;>cases b<;>cases c<;>cases d<;>cases f<;>try exact absurd hva (by decide)
   all_goals
    simp only[putM,Act.put,List.setIfInBounds_toArray,List.set_cons_zero,List.set_cons_succ]
    refine wpOp_step (at_dropE rfl) (fun KK hK=>?_)
    go_simp
    refine hK _ _ ?_
    exact⟨_,by kernel_rfl,hI.lay (p:=4) HT2.out (PpG.on HON.out) (fun v lo hi w h=>h)⟩
  ·simp at hip hop
   subst hip hop
   cases a<;>cases b<;>cases c<;>cases d<;>cases e<;>try exact absurd hva (by decide)
   all_goals
    simp only[putM,Act.put,List.setIfInBounds_toArray,List.set_cons_zero,List.set_cons_succ]
    refine wpOp_step (at_dropE rfl) (fun KK hK=>?_)
    go_simp
    refine hK _ _ ?_
    exact⟨_,by kernel_rfl,hI.lay (p:=5) HT2.out (PpG.on HON.out) (fun v lo hi w h=>h)⟩
  ·simp at hip
 ·obtain⟨u0,u1,u2,y0,y1,y2,rfl⟩:=all_six hol hall
  obtain⟨gg0,cps0,hu0⟩:∃gg cps,u0= .func (.func gg) #[] cps:=by
   obtain⟨_,_,h9,_⟩:=hI.at_ (p:=0) rfl
   exact TruP.func h9.1
  obtain⟨gg1,cps1,hu1⟩:∃gg cps,u1= .func (.func gg) #[] cps:=by
   obtain⟨_,_,h9,_⟩:=hI.at_ (p:=1) rfl
   exact DoP.func h9.1
  obtain⟨gg2,cps2,hu2⟩:∃gg cps,u2= .func (.func gg) #[] cps:=by
   obtain⟨_,_,h9,_⟩:=hI.at_ (p:=2) rfl
   exact DoP.func h9.1
  obtain⟨g0,rfl,hg0,hgk0⟩:=hI.place (p:=3) (ty:=223) (z:= .nilFunc) rfl (fun _ _ _ _ h=>h)
  obtain⟨g1,rfl,hg1,hgk1⟩:=hI.place (p:=4) (ty:=80) (z:= .nilFunc) rfl (fun _ _ _ _ h=>h)
  obtain⟨g2,rfl,hg2,hgk2⟩:=hI.place (p:=5) (ty:=80) (z:= .nilFunc) rfl (fun _ _ _ _ h=>h)
  have hne01:=hI.two (p:=3) (q:=4) (ty:=223) (z:= .nilFunc) (ty':=80) (z':= .nilFunc) (by decide) rfl rfl (fun _ _ _ _ h=>h) (fun _ _ _ _ h=>h)
  have hne02:=hI.two (p:=3) (q:=5) (ty:=223) (z:= .nilFunc) (ty':=80) (z':= .nilFunc) (by decide) rfl rfl (fun _ _ _ _ h=>h) (fun _ _ _ _ h=>h)
  have hne12:=hI.two (p:=4) (q:=5) (ty:=80) (z:= .nilFunc) (ty':=80) (z':= .nilFunc) (by decide) rfl rfl (fun _ _ _ _ h=>h) (fun _ _ _ _ h=>h)
  have h7:=hI.set (p:=3) (ty:=223) (z:= .nilFunc) HT2.out (PpG.on HON.out) rfl (fun _ _ _ _ h=>h) u0
  have h8:=h7.set (p:=4) (ty:=80) (z:= .nilFunc) HT2.out (upP_on (PpG.on HON.out) _ _ _) rfl (fun _ _ _ _ h=>h) u1
  have h9:=h8.set (p:=5) (ty:=80) (z:= .nilFunc) HT2.out (upP_on (upP_on (PpG.on HON.out) _ _ _) _ _ _) rfl (fun _ _ _ _ h=>h) u2
  obtain⟨lo0,hi0,hp0,hlo0,hhi0⟩:=h9.at_ (p:=0) rfl
  have hp0:TruP C ps u0 X0 lo0 hi0 _:=hp0.1
  obtain⟨lo1,hi1,hp1,hlo1,hhi1⟩:=h9.at_ (p:=1) rfl
  have hp1:DoP C ps u1 D1 lo1 hi1 _:=hp1.1
  obtain⟨lo2,hi2,hp2,hlo2,hhi2⟩:=h9.at_ (p:=2) rfl
  have hp2:DoP C ps u2 D2 lo2 hi2 _:=hp2.1
  have hk0:Bk (w.setCell ⟨g0,0,none⟩ u0) g0 223 #[u0]:=(by simpa using hgk0.set_ 0 u0)
  have hk0:=hk0.far (p:=⟨g1,0,none⟩) hne01 u1
  have hk0:=hk0.far (p:=⟨g2,0,none⟩) hne02 u2
  have hk1:Bk ((w.setCell ⟨g0,0,none⟩ u0).setCell ⟨g1,0,none⟩ u1) g1 80 #[u1]:=(by simpa using (hgk1.far (p:=⟨g0,0,none⟩) (Ne.symm hne01) u0).set_ 0 u1)
  have hk1:=hk1.far (p:=⟨g2,0,none⟩) hne12 u2
  have hk2:Bk (((w.setCell ⟨g0,0,none⟩ u0).setCell ⟨g1,0,none⟩ u1).setCell ⟨g2,0,none⟩ u2) g2 80 #[u2]:=(by simpa using ((hgk2.far (p:=⟨g0,0,none⟩) (Ne.symm hne02) u0).far (p:=⟨g1,0,none⟩) (Ne.symm hne12) u1).set_ 0 u2)
  have HE:=hdq (HALL.out _ g0 g1 g2 u0 u1 u2 lo0 hi0 lo1 hi1 lo2 hi2 ((Fr.refl NoT w2).drew.trans h9.fr) hk0 hg0 hk1 hg1 hk2 hg2 hp0 hlo0 hhi0 hp1 hlo1 hhi1 hp2 hlo2 hhi2)
  have HSA0:=hdq (HS2.out _ ((Fr.refl NoT w2).drew.trans h7.fr))
  have HSA1:=hdq (HS2.out _ ((Fr.refl NoT w2).drew.trans h8.fr))
  have c20:=hgk0.cell 0
  have f20:=hgk0.frozen 0
  have l0_:=hgk0.lt
  have c21:=hgk1.cell 0
  have f21:=hgk1.frozen 0
  have l1_:=hgk1.lt
  have c22:=hgk2.cell 0
  have f22:=hgk2.frozen 0
  have l2_:=hgk2.lt
  have hen01:=Ne.symm hne01
  have hen02:=Ne.symm hne02
  have hen12:=Ne.symm hne12
  simp only[List.getElem?_toArray,List.getElem?_cons_succ,List.getElem?_cons_zero]at c20 c21 c22
  simp only[putM,Act.put,List.setIfInBounds_toArray,List.set_cons_zero,List.set_cons_succ]
  subst hu0 hu1 hu2
  clear hI h7 h8 h9 hp0 hlo0 hhi0 hgk0 hk0 hg0 hp1 hlo1 hhi1 hgk1 hk1 hg1 hp2 hlo2 hhi2 hgk2 hk2 hg2 hHeld hall hol
  refine wpE_next 17 rfl (by kernel_rfl) (fun KK hK=>?_)
  go_simp
  refine hK _ _ (fun _ _=>HSA0.out) ?_
  clear hK KK
  try simp only[Act.put,List.setIfInBounds_toArray,List.set_cons_zero,List.set_cons_succ]
  refine wpE_next 18 rfl (by kernel_rfl) (fun KK hK=>?_)
  go_simp
  refine hK _ _ (fun _ _=>HSA1.out) ?_
  clear hK KK
  try simp only[Act.put,List.setIfInBounds_toArray,List.set_cons_zero,List.set_cons_succ]
  refine wpE_next 19 rfl (by kernel_rfl) (fun KK hK=>?_)
  go_simp
  refine hK _ _ (fun h=>absurd h (by decide)) ?_
  clear hK KK
  try simp only[Act.put,List.setIfInBounds_toArray,List.set_cons_zero,List.set_cons_succ]
  refine wpE_done (by kernel_rfl) ?_
  go_wp2_with fail
  go_ret
  exact HE.out

theorem while_make (C:BgC) (kn:List UInt8→Prop) (ps:List (List UInt8)) (ho:C.Ok) (nm:ByteArray) (args:Exs) (cond:Cds) (body els:Sts) (at_:Int) (k0 a0 o0 t0) (e:cond= .cons k0 a0 o0 t0 .nil) (h0:CndC C ps k0 a0 o0 t0) (h1:AllC9 C kn ps body) (h2:AllC9 C kn ps els):OneC C kn ps 8 nm args cond body els at_:=by
 intro W S Z A2 A3 A4 A5 c2 c3 c4 c5 hT hpg hpr hS hx2 hx3 hx4 hx5
 obtain⟨bb,oo,rfl,hat⟩:=hx3.2.2 (by rw[e];simp[Cds.len])
 rw[e]at hat
 obtain⟨⟨hbS,_,_,_,e0,e3⟩,⟨A6,c6,e1,s1⟩,⟨A7,c7,e2,s2⟩,_⟩:=hat
 obtain⟨l2,hl2⟩:=nmq args.len
 obtain⟨l3,hl3⟩:=nmq cond.len
 obtain⟨l4,hl4⟩:=nmq body.len
 obtain⟨l5,hl5⟩:=nmq els.len
 have hl30:0 < l3:=by rw[hl3,e];simp[Cds.len]
 have hl3m:l3≤9223372036854775807:=by rw[hl3];exact leq9 hx3.1 hx3.2.1.1
 obtain⟨l6,hl6⟩:=nmq a0.len
 obtain⟨l7,hl7⟩:=nmq o0.len
 rw[←hl6]at e1
 rw[←hl7]at e2
 obtain⟨w2,hw2⟩:=nmq (stW W C 8 nm A2 (some ⟨bb,oo,none⟩) A4 A5 l2 c2 l3 c3 l4 c4 l5 c5 at_)
 have hB:BxS C W w2 (bgStC 8 nm A2 (some ⟨bb,oo,none⟩) A4 A5 l2 c2 l3 c3 l4 c4 l5 c5 at_):=by rw[hw2];exact BxS.new
 have hBW:C.B≤W.heap.size:=by have h1:=ho.br;have h2:=ho.rT;omega
 have hbW:bb < W.heap.size:=ltq (hS _ hbS) hBW
 have hT2:C.T≤w2.drew.heap.size:=leq9 hT hB.fr.size
 have hsm:∀w',Fr NoT W w'→SameS S W w':=fun w' hf=>hf.same fun b hb=>⟨ltq (hS b hb) hBW,id⟩
 have hpl:∀w',Fr NoT W w'→PgAt C w':=fun w' hf=>hpg.later ho (Later.of0 (lo:=0) (hi:=0) hf (Nat.zero_le _) hT)
 have hpq:∀w',Fr NoT W w'→PrAt C kn w':=fun w' hf=>hpr.fr0 ho hT hf
 have hcall0:∀w',Fr NoT W w'→_:=fun w' hf=>h0 w' S Z A6 A7 c6 c7 (leq9 hT hf.size) (hpl w' hf) hS (s1.imp fun _ _ hx=>ExR.keep (hsm w' hf) hx) (s2.imp fun _ _ hx=>CdR.keep (hsm w' hf) hx)
 have hcall1:∀w',Fr NoT W w'→_:=fun w' hf=>h1 w' S Z A4 c4 (leq9 hT hf.size) (hpl w' hf) (hpq w' hf) hS (hx4.imp fun _ _ hx=>StR.keep (hsm w' hf) hx)
 have hcall2:∀w',Fr NoT W w'→_:=fun w' hf=>h2 w' S Z A5 c5 (leq9 hT hf.size) (hpl w' hf) (hpq w' hf) hS (hx5.imp fun _ _ hx=>StR.keep (hsm w' hf) hx)
 have hs2:∀w',Fr NoT w2 w'→IfS W.heap.size (W.heap.size+1) bb oo (some ⟨C.P,0,none⟩) (some ⟨bb,oo,none⟩) A4 A5 l3 c3 l4 c4 l5 c5 (.int .u8 k0) (.slice A6 l6 c6) (.slice A7 l7 c7) (.int .i64 t0) w':=fun w' hf=>
  have hf2:=hB.fr.trans hf
  ⟨(hB.next hf).p.cell 0,(hB.next hf).q.cell 3,(hB.next hf).q.cell 4,(hB.next hf).q.cell 5,(hf2.cell hbW id).trans e0,(hf2.cell hbW id).trans e1,(hf2.cell hbW id).trans e2,(hf2.cell hbW id).trans e3⟩
 have hall:∀w7 x1 x2 v1 v2 lo1 hi1 lo2 hi2,Fr NoT w2 w7→Bk w7 x1 223 #[v1]→w2.heap.size≤x1→Bk w7 x2 80 #[v2]→w2.heap.size≤x2→TruP C ps v1 (truS C.n ps k0 a0 o0 t0) lo1 hi1 w7→w2.heap.size≤lo1→hi1≤w7.heap.size→DoP C ps v2 (RunT C.n (.all ps body)) lo2 hi2 w7→w2.heap.size≤lo2→hi2≤w7.heap.size→
   MkD C ps (RunT C.n (.one ps 8 nm args cond body els at_)) W (.returned (.func (.func 109) #[] #[.pointer (some ⟨W.heap.size,0,none⟩),.pointer (some ⟨W.heap.size+1,0,none⟩),.pointer (some ⟨x1,0,none⟩),.pointer (some ⟨x2,0,none⟩)])) w7:=by
  intro w7 x1 x2 v1 v2 lo1 hi1 lo2 hi2 hf0 hx1 hg1 hx2 hg2 hv1 hlo1 hhi1 hv2 hlo2 hhi2
  have hf7:=hB.fr.trans hf0
  have hB7:=hB.next hf0
  have h2:=hB.fr.size
  have hlo1:=leq9 h2 hlo1
  have hx1:Bx W.heap.size w7.heap.size w7 x1 223 #[v1]:=⟨hx1,leq9 h2 hg1,hx1.lt⟩
  have hlo2:=leq9 h2 hlo2
  have hx2:Bx W.heap.size w7.heap.size w7 x2 80 #[v2]:=⟨hx2,leq9 h2 hg2,hx2.lt⟩
  exact⟨_,rfl,hf7,(one_2 ho hT (hpl _ hf7) hB7.bp hB7.bq rfl hx1 hx2 (hv1.wide hlo1 hhi1) (hv2.wide hlo2 hhi2) (truS_left _ _ _ _ _ _) (fun s h t hr=>RunT.left_le hr)).to fun s h t hr=>inv_8 e hr⟩
 have HS2:=hdq hs2
 rw[←hl6,←hl7]at hcall0
 rw[←hl4]at hcall1
 rw[←hl5]at hcall2
 have HC0:=hdq hcall0
 have HC1:=hdq hcall1
 have HC2:=hdq hcall2
 have HB:=hdq hB
 have HALL:=hdq hall
 unfold stW at hw2
 have HW:=hdq hw2
 have HT2:=hdq hT2
 rw[←hl2,←hl3,←hl4,←hl5]
 obtain⟨X0,hX0⟩:=nmq (truS C.n ps k0 a0 o0 t0)
 obtain⟨D1,hD1⟩:=nmq (RunT C.n (.all ps body))
 obtain⟨D2,hD2⟩:=nmq (RunT C.n (.all ps els))
 rw[←hX0]at HC0 HALL
 rw[←hD1]at HC1 HALL
 rw[←hD2]at HC2
 have HON:=hdq (slo2_on (g0:=slT C ps X0) (g1:=slD C ps D1) slT_on slD_on)
 clear hs2 hcall0 hcall1 hcall2 hB hall hw2 hT2 hS hbS hBW hT e hl2 hl3 hl4 hl5 hsm hpl hpq hx2 hx3 hx4 hx5 hpg hpr e0 e1 e2 e3 s1 s2 hl6 hl7 hbW h0 h1 h2 hX0 hD1 hD2
 go_enter Tryz.func54,Tryz.ntmps54
 go_wp2_with fail
 rw[←HW.out]
 refine wp_region_E (IfS W.heap.size (W.heap.size+1) bb oo (some ⟨C.P,0,none⟩) (some ⟨bb,oo,none⟩) A4 A5 l3 c3 l4 c4 l5 c5 (.int .u8 k0) (.slice A6 l6 c6) (.slice A7 l7 c7) (.int .i64 t0)) (fun i=>decide (i < 13)) (by kernel_rfl) (HS2.out _ (Fr.refl _ _).drew) (fun hHeld=>?_)
 refine wpE_pu 1 ?_
 try simp only[Act.put,List.setIfInBounds_toArray,List.set_cons_zero,List.set_cons_succ]
 refine wpE_pu 7 ?_
 try simp only[Act.put,List.setIfInBounds_toArray,List.set_cons_zero,List.set_cons_succ]
 refine wpE_tv 0 hHeld ?_
 try simp only[Act.put,List.setIfInBounds_toArray,List.set_cons_zero,List.set_cons_succ]
 refine wpE_tv 2 hHeld ?_
 try simp only[Act.put,List.setIfInBounds_toArray,List.set_cons_zero,List.set_cons_succ]
 refine wpE_tv 6 hHeld ?_
 try simp only[Act.put,List.setIfInBounds_toArray,List.set_cons_zero,List.set_cons_succ]
 refine wpE_tv 8 hHeld ?_
 try simp only[Act.put,List.setIfInBounds_toArray,List.set_cons_zero,List.set_cons_succ]
 refine wpE_pu 3 ?_
 try simp only[Act.put,List.setIfInBounds_toArray,List.set_cons_zero,List.set_cons_succ]
 refine wpE_tv 4 hHeld ?_
 try simp only[Act.put,List.setIfInBounds_toArray,List.set_cons_zero,List.set_cons_succ]
 refine wpE_manyA 4 [5,9,10,11] [59,63,8,9] vaTwo (fun o w=>ManyI w2.drew (PpG C (slo2 (slT C ps X0) (slD C ps D1)) tyW) o w) rfl (by decide) (by kernel_rfl) rfl (fun o w h=>HS2.out _ ((Fr.refl _ _).drew.trans h.fr)) (by kernel_rfl) rfl (fun o w p i hI hol hip hop hva=>?_) (fun o w hI hol hall=>?_) (ManyI.zero _ _)
 ·obtain⟨a,b,c,d,rfl⟩:=four_of hol
  rcases p with _|_|_|_|p
  ·simp at hip hop
   subst hip hop
   cases b<;>cases c<;>cases d<;>try exact absurd hva (by decide)
   all_goals
    simp only[putM,Act.put,List.setIfInBounds_toArray,List.set_cons_zero,List.set_cons_succ]
    refine wpOp_step (at_dropE rfl) (fun KK hK=>?_)
    go_simp
    go_at_call 107
    refine(HC0.out w ((HB.out.fr.trans (Fr.refl NoT w2).drew).trans hI.fr)).mono ?_
    rintro _ w5 ⟨v0,rfl,hf5,hv5⟩
    try dsimp only
    refine hK _ _ ?_
    exact⟨v0,by kernel_rfl,hI.put (p:=0) HT2.out hf5 (PpG.on HON.out) ⟨hv5,lrq _,leq9 HT2.out (leq9 hI.fr.size hf5.size)⟩⟩
  ·simp at hip hop
   subst hip hop
   cases a<;>cases c<;>cases d<;>try exact absurd hva (by decide)
   all_goals
    simp only[putM,Act.put,List.setIfInBounds_toArray,List.set_cons_zero,List.set_cons_succ]
    refine wpOp_step (at_dropE rfl) (fun KK hK=>?_)
    go_simp
    go_at_call 23
    refine(HC1.out w ((HB.out.fr.trans (Fr.refl NoT w2).drew).trans hI.fr)).mono ?_
    rintro _ w5 ⟨v0,rfl,hf5,hv5⟩
    try dsimp only
    refine hK _ _ ?_
    exact⟨v0,by kernel_rfl,hI.put (p:=1) HT2.out hf5 (PpG.on HON.out) ⟨hv5,lrq _,leq9 HT2.out (leq9 hI.fr.size hf5.size)⟩⟩
  ·simp at hip hop
   subst hip hop
   cases a<;>cases b<;>cases d<;>try exact absurd hva (by decide)
   all_goals
    simp only[putM,Act.put,List.setIfInBounds_toArray,List.set_cons_zero,List.set_cons_succ]
    refine wpOp_step (at_dropE rfl) (fun KK hK=>?_)
    go_simp
    refine hK _ _ ?_
    exact⟨_,by kernel_rfl,hI.lay (p:=2) HT2.out (PpG.on HON.out) (fun v lo hi w h=>h)⟩
  ·simp at hip hop
   subst hip hop
   cases a<;>cases b<;>cases c<;>try exact absurd hva (by decide)
   all_goals
    simp only[putM,Act.put,List.setIfInBounds_toArray,List.set_cons_zero,List.set_cons_succ]
    refine wpOp_step (at_dropE rfl) (fun KK hK=>?_)
    go_simp
    refine hK _ _ ?_
    exact⟨_,by kernel_rfl,hI.lay (p:=3) HT2.out (PpG.on HON.out) (fun v lo hi w h=>h)⟩
  ·simp at hip
 ·obtain⟨u0,u1,y0,y1,rfl⟩:=all_four hol hall
  obtain⟨gg0,cps0,hu0⟩:∃gg cps,u0= .func (.func gg) #[] cps:=by
   obtain⟨_,_,h9,_⟩:=hI.at_ (p:=0) rfl
   exact TruP.func h9.1
  obtain⟨gg1,cps1,hu1⟩:∃gg cps,u1= .func (.func gg) #[] cps:=by
   obtain⟨_,_,h9,_⟩:=hI.at_ (p:=1) rfl
   exact DoP.func h9.1
  obtain⟨g0,rfl,hg0,hgk0⟩:=hI.place (p:=2) (ty:=223) (z:= .nilFunc) rfl (fun _ _ _ _ h=>h)
  obtain⟨g1,rfl,hg1,hgk1⟩:=hI.place (p:=3) (ty:=80) (z:= .nilFunc) rfl (fun _ _ _ _ h=>h)
  have hne01:=hI.two (p:=2) (q:=3) (ty:=223) (z:= .nilFunc) (ty':=80) (z':= .nilFunc) (by decide) rfl rfl (fun _ _ _ _ h=>h) (fun _ _ _ _ h=>h)
  have h7:=hI.set (p:=2) (ty:=223) (z:= .nilFunc) HT2.out (PpG.on HON.out) rfl (fun _ _ _ _ h=>h) u0
  have h8:=h7.set (p:=3) (ty:=80) (z:= .nilFunc) HT2.out (upP_on (PpG.on HON.out) _ _ _) rfl (fun _ _ _ _ h=>h) u1
  obtain⟨lo0,hi0,hp0,hlo0,hhi0⟩:=h8.at_ (p:=0) rfl
  have hp0:TruP C ps u0 X0 lo0 hi0 _:=hp0.1
  obtain⟨lo1,hi1,hp1,hlo1,hhi1⟩:=h8.at_ (p:=1) rfl
  have hp1:DoP C ps u1 D1 lo1 hi1 _:=hp1.1
  have hk0:Bk (w.setCell ⟨g0,0,none⟩ u0) g0 223 #[u0]:=(by simpa using hgk0.set_ 0 u0)
  have hk0:=hk0.far (p:=⟨g1,0,none⟩) hne01 u1
  have hk1:Bk ((w.setCell ⟨g0,0,none⟩ u0).setCell ⟨g1,0,none⟩ u1) g1 80 #[u1]:=(by simpa using (hgk1.far (p:=⟨g0,0,none⟩) (Ne.symm hne01) u0).set_ 0 u1)
  have HE:=hdq (HALL.out _ g0 g1 u0 u1 lo0 hi0 lo1 hi1 ((Fr.refl NoT w2).drew.trans h8.fr) hk0 hg0 hk1 hg1 hp0 hlo0 hhi0 hp1 hlo1 hhi1)
  have HSA0:=hdq (HS2.out _ ((Fr.refl NoT w2).drew.trans h7.fr))
  have c20:=hgk0.cell 0
  have f20:=hgk0.frozen 0
  have l0_:=hgk0.lt
  have c21:=hgk1.cell 0
  have f21:=hgk1.frozen 0
  have l1_:=hgk1.lt
  have hen01:=Ne.symm hne01
  simp only[List.getElem?_toArray,List.getElem?_cons_succ,List.getElem?_cons_zero]at c20 c21
  simp only[putM,Act.put,List.setIfInBounds_toArray,List.set_cons_zero,List.set_cons_succ]
  subst hu0 hu1
  clear hI h7 h8 hp0 hlo0 hhi0 hgk0 hk0 hg0 hp1 hlo1 hhi1 hgk1 hk1 hg1 hHeld hall hol
  refine wpE_next 12 rfl (by kernel_rfl) (fun KK hK=>?_)
  go_simp
  refine hK _ _ (fun _ _=>HSA0.out) ?_
  clear hK KK
  try simp only[Act.put,List.setIfInBounds_toArray,List.set_cons_zero,List.set_cons_succ]
  refine wpE_next 13 rfl (by kernel_rfl) (fun KK hK=>?_)
  go_simp
  refine hK _ _ (fun h=>absurd h (by decide)) ?_
  clear hK KK
  try simp only[Act.put,List.setIfInBounds_toArray,List.set_cons_zero,List.set_cons_succ]
  refine wpE_done (by kernel_rfl) ?_
  go_wp2_with fail
  go_ret
  exact HE.out

theorem RunAt.none {C:BgC} {lo hi:Nat} {w W:World} {ps:List (List UInt8)} {oc:List Nat} {nb:Nat} {s:Bs} (h:RunAt C lo hi w W ps oc nb s):RunAt C 0 0 w W ps oc nb s:=
 ⟨⟨⟨Nat.zero_le _,h.lat.size.2⟩,fun i hi hn=>h.lat.block i (by omega) hn⟩,fun _ _=>Nat.zero_le _,h.st,h.sc⟩
theorem DoP.any0 {C:BgC} {ps:List (List UInt8)} {val:Value} {D:DoR} {lo hi:Nat} {w:World} (h:DoP C ps val D 0 0 w):DoP C ps val D lo hi w:=by
 obtain⟨g,caps,h1,h2,h3⟩:=h
 exact⟨g,caps,h1,h2,fun W oc nb s h t hr hd=>h3 W oc nb s h t hr.none hd⟩
theorem zeroProc9 (w:World):(zeroValue 83).run Tryz.prog w= .ok (.agg #[.slice none 0 0,.nilFunc]) w:=by kernel_rfl
theorem Bx.len {lo hi x n m c:Nat} {w:World} {ty:TypeId} {A:Option Addr} (h:Bx lo hi w x ty #[.slice A n c]) (e:n=m):Bx lo hi w x ty #[.slice A m c]:=e▸h
theorem list1 {α:Type} {l:List α} (h:l.length=1):∃a,l= [a]:=by
 match l,h with
 | [a],_=>exact⟨a,rfl⟩
theorem list2 {α:Type} {l:List α} (h:l.length=2):∃a b,l= [a,b]:=by
 match l,h with
 | [a,b],_=>exact⟨a,b,rfl⟩
theorem exs1 {xs:Exs} (h:xs.len=1):∃k nm m a t,xs= .cons k nm m a t .nil :=by
 match xs,h with
 | .cons k nm m a t .nil,_=>exact⟨k,nm,m,a,t,rfl⟩
 | .nil,h=>simp[Exs.len]at h
 | .cons _ _ _ _ _ (.cons _ _ _ _ _ _),h=>simp[Exs.len]at h
theorem exs2 {xs:Exs} (h:xs.len=2):∃k nm m a t k' nm' m' a' t',xs= .cons k nm m a t (.cons k' nm' m' a' t' .nil):=by
 match xs,h with
 | .cons k nm m a t (.cons k' nm' m' a' t' .nil),_=>exact⟨k,nm,m,a,t,k',nm',m',a',t',rfl⟩
 | .nil,h=>simp[Exs.len]at h
 | .cons _ _ _ _ _ .nil,h=>simp[Exs.len]at h
 | .cons _ _ _ _ _ (.cons _ _ _ _ _ (.cons _ _ _ _ _ _)),h=>simp[Exs.len]at h
theorem cds1 {xs:Cds} (h:xs.len=1):∃k a o t,xs= .cons k a o t .nil :=by
 match xs,h with
 | .cons k a o t .nil,_=>exact⟨k,a,o,t,rfl⟩
 | .nil,h=>simp[Cds.len]at h
 | .cons _ _ _ _ (.cons _ _ _ _ _),h=>simp[Cds.len]at h
theorem one_any (C:BgC) (kn:List UInt8→Prop) (ps:List (List UInt8)) (ho:C.Ok) (k:Int) (nm:ByteArray) (args:Exs) (cond:Cds) (body els:Sts) (at_:Int) (hd:hdS C.n kn ps k nm args cond) (hwX:wfX C.n ps args) (hwC:wfCb C.n ps cond) (hb:AllC9 C kn ps body) (he:AllC9 C kn ps els):OneC C kn ps k nm args cond body els at_:=by
 obtain⟨⟨k1,k9⟩,hs,hin,hia,ha2,ha3,hc,h9⟩:=hd
 have hX:=exps_all C ps ho args hwX
 by_cases e1:k=1
 ·subst e1
  intro W S Z A2 A3 A4 A5 c2 c3 c4 c5 hT hpg hpr hS hx2 hx3 hx4 hx5
  exact one_skip ho hT hpg fun s h t hr=>inv_1 hr
 by_cases e7:k=7
 ·subst e7
  obtain⟨k0,a0,o0,t0,ec⟩:=cds1 (hc (by decide) (by decide))
  exact if_make C kn ps ho nm args cond body els at_ k0 a0 o0 t0 ec (cnds_all C ps ho cond hwC 0 _ _ _ _ _ (by rw[ec];rfl)) hb he
 by_cases e8:k=8
 ·subst e8
  obtain⟨k0,a0,o0,t0,ec⟩:=cds1 (hc (by decide) (by decide))
  exact while_make C kn ps ho nm args cond body els at_ k0 a0 o0 t0 ec (cnds_all C ps ho cond hwC 0 _ _ _ _ _ (by rw[ec];rfl)) hb he
 intro W S Z A2 A3 A4 A5 c2 c3 c4 c5 hT hpg hpr hS hx2 hx3 hx4 hx5
 have hBW:C.B≤W.heap.size:=by have h1:=ho.br;have h2:=ho.rT;omega
 have hbx:=BxS.new (C:=C) (W:=W) (k:=k) (nm:=nm) (A2:=A2) (A3:=A3) (A4:=A4) (A5:=A5) (l2:=args.len) (c2:=c2) (l3:=cond.len) (c3:=c3) (l4:=body.len) (c4:=c4) (l5:=els.len) (c5:=c5) (at_:=at_)
 have hf:=hbx.fr
 have hsm:SameS S W (stW W C k nm A2 A3 A4 A5 args.len c2 cond.len c3 body.len c4 els.len c5 at_):=hf.same fun b hb=>⟨ltq (hS b hb) hBW,id⟩
 have hT2:=leq9 hT hf.size
 have hpg2:PgAt C (stW W C k nm A2 A3 A4 A5 args.len c2 cond.len c3 body.len c4 els.len c5 at_):=hpg.later ho (Later.of0 (lo:=0) (hi:=0) hf (Nat.zero_le _) hT)
 have hpr2:=hpr.fr0 ho hT hf
 have hx2':=hx2.imp fun _ _ hx=>ExR.keep hsm hx
 have hx3':=hx3.imp fun _ _ hx=>CdR.keep hsm hx
 have hpl:∀ {w'},Fr NoT (stW W C k nm A2 A3 A4 A5 args.len c2 cond.len c3 body.len c4 els.len c5 at_) w'→PgAt C w':=fun hf'=>hpg2.later ho (Later.of0 (lo:=0) (hi:=0) hf' (Nat.zero_le _) hT2)
 by_cases e2:k=2
 ·subst e2
  obtain⟨k0,n0,m0,a0,t0,ea⟩:=exs1 (ha2 rfl)
  refine one_put (.inl rfl) (put_make C ps ho 2 nm args at_ hX (fun s h t=>(h,t)=bgSetO C.n ps nm at_ (valH C.n ps k0 n0 m0 t0 a0) s) _ S Z A2 A3 A4 A5 c2 cond.len c3 body.len c4 els.len c5 hT2 hpg2 hS hx2' fun w' x A c vs hf' hp hq hx hrow hvl hv=>?_) fun s h t hr=>inv_2 ea hr
  obtain⟨v0,rfl⟩:=list1 (hvl.trans (ha2 rfl))
  exact put_2 ho hT2 (hpl hf') hp hq (hx.len (ha2 rfl)) hrow hs (hin (.inl rfl)) (hv 0 v0 _ rfl (by rw[ea];rfl))
 by_cases e3:k=3
 ·subst e3
  obtain⟨k0,n0,m0,a0,t0,k1,n1,m1,a1,t1,ea⟩:=exs2 (ha3 rfl)
  obtain⟨i,hi⟩:=hia rfl
  refine one_put (.inr (.inl rfl)) (put_make C ps ho 3 nm args at_ hX (fun s h t=>(h,t)=stoO C.n nm at_ (valH C.n ps k0 n0 m0 t0 a0) (valH C.n ps k1 n1 m1 t1 a1) s) _ S Z A2 A3 A4 A5 c2 cond.len c3 body.len c4 els.len c5 hT2 hpg2 hS hx2' fun w' x A c vs hf' hp hq hx hrow hvl hv=>?_) fun s h t hr=>inv_3 ea hr
  obtain⟨v0,v1,rfl⟩:=list2 (hvl.trans (ha3 rfl))
  exact put_3 ho hT2 (hpl hf') hp hq (hx.len (ha3 rfl)) hrow hs hi (hv 0 v0 _ rfl (by rw[ea];rfl)) (hv 1 v1 _ rfl (by rw[ea];rfl))
 by_cases e4:k=4
 ·subst e4
  refine one_put (.inr (.inr rfl)) (put_make C ps ho 4 nm args at_ hX (fun s h t=>(h,t)=inpO C.n ps nm at_ s) _ S Z A2 A3 A4 A5 c2 cond.len c3 body.len c4 els.len c5 hT2 hpg2 hS hx2' fun w' x A c vs hf' hp hq hx hrow hvl hv=>?_) fun s h t hr=>inv_4 hr
  exact put_4 (xs:= #[]) ho hT2 (hpl hf') hp hq hs (hin (.inr rfl))
 by_cases e5:k=5
 ·subst e5
  obtain⟨k0,a0,o0,t0,ec⟩:=cds1 (hc (by decide) (by decide))
  exact one_ask5 rfl (ask_make C ps ho 5 nm cond at_ k0 a0 o0 t0 .nil ec (cnds_all C ps ho cond hwC 0 _ _ _ _ _ (by rw[ec];rfl)) ⟨4,0,at_⟩ _ S Z A2 A3 A4 A5 args.len c2 c3 body.len c4 els.len c5 hT2 hpg2 hS hx3') fun s h t hr=>inv_5 (.inl rfl) ec hr
 by_cases e6:k=6
 ·subst e6
  obtain⟨k0,a0,o0,t0,ec⟩:=cds1 (hc (by decide) (by decide))
  exact one_ask6 rfl (ask_make C ps ho 6 nm cond at_ k0 a0 o0 t0 .nil ec (cnds_all C ps ho cond hwC 0 _ _ _ _ _ (by rw[ec];rfl)) ⟨5,1,at_⟩ _ S Z A2 A3 A4 A5 args.len c2 c3 body.len c4 els.len c5 hT2 hpg2 hS hx3') fun s h t hr=>inv_5 (.inr rfl) ec hr
 ·obtain rfl:k=9:=by omega
  obtain⟨hkn,p,hp,hpl'⟩:=h9 rfl
  obtain⟨N,f,hm,hpp⟩:=hpr2
  obtain⟨Ap,cp,vb,S',Z',g1,g2,g3,g4,g5,g6,g7⟩:=hpp _ _ hkn hp
  refine one_call rfl (call_make C ps ho 9 nm args at_ hX (calD at_ (xsV C.n ps args) (RunT C.n (.all (p.params.map (·.nm.data.toList)) p.body))) _ S Z A2 A3 A4 A5 c2 cond.len c3 body.len c4 els.len c5 hT2 hpg2 hS hx2' (Ap:=Ap) (np:=p.params.length) (cp:=cp) (vb:=vb) (fun w' hf'=>?_) g2.func fun w' x A c vs hf' hp' hq h3 hx hrow hvl hv=>?_) fun s h t hr=>inv_9 hp hpl' hr
  ·have:=(hm.fr hf' id).get (mt:=71) Tryz.underlying71 hs (zeroProc9 w')
   rw[g1]at this
   exact this
  ·have hS4:∀b,S' b→b < (stW W C 9 nm A2 A3 A4 A5 args.len c2 cond.len c3 body.len c4 els.len c5 at_).heap.size :=fun b hb=>ltq (ltq (g4 b hb) hBW) hf.size
   exact call_1 ho hT2 (hpl hf') hp' hq rfl h3 (hx.len hvl.symm) hrow (by rw[xsV_len];exact hvl) (by rw[xsV_len];exact hpl') (fun i v X hv' hX'=>hv i v X hv' hX') (g2.later (Later.of0 hf' (Nat.zero_le _) hT2)).any0 (g3.imp fun _ _ hx=>VaR.keep (hf'.same fun b hb=>⟨hS4 b hb,id⟩) hx) g4 g5 g6 g7
theorem one_drop {C:BgC} {kn:List UInt8→Prop} {ps:List (List UInt8)} {k:Int} {nm:ByteArray} {args:Exs} {cond:Cds} {body els:Sts} {at_:Int} {r:Sts} (h:OneC C kn ps k nm args cond body els at_) (hr:∀i k nm a cd b e t r',Sts.drop i r= .cons k nm a cd b e t r'→OneC C kn ps k nm a cd b e t):∀i k' nm' a cd b e t r',Sts.drop i (.cons k nm args cond body els at_ r)= .cons k' nm' a cd b e t r'→OneC C kn ps k' nm' a cd b e t
 |0,_,_,_,_,_,_,_,_,e=>by
  simp only[Sts.drop,Sts.cons.injEq]at e
  obtain⟨rfl,rfl,rfl,rfl,rfl,rfl,rfl,_⟩:=e
  exact h
 |i+1,_,_,_,_,_,_,_,_,e=>hr i _ _ _ _ _ _ _ _ e
theorem ones_any (C:BgC) (kn:List UInt8→Prop) (ps:List (List UInt8)) (ho:C.Ok):∀xs:Sts,wfSb C.n kn ps xs→∀i k nm a cd b e t r,Sts.drop i xs= .cons k nm a cd b e t r→OneC C kn ps k nm a cd b e t
 | .nil,_=>fun i _ _ _ _ _ _ _ _ h=>by cases i<;>simp[Sts.drop]at h
 | .cons k nm args cond body els at_ r,hw=>
  one_drop (one_any C kn ps ho k nm args cond body els at_ hw.1 hw.2.1 hw.2.2.1 (all_make C kn ps ho body (ones_any C kn ps ho body hw.2.2.2.1)) (all_make C kn ps ho els (ones_any C kn ps ho els hw.2.2.2.2.1))) (ones_any C kn ps ho r hw.2.2.2.2.2)
theorem bgAll_any (C:BgC) (kn:List UInt8→Prop) (ps:List (List UInt8)) (ho:C.Ok) (xs:Sts) (hw:wfSb C.n kn ps xs):AllC9 C kn ps xs:=all_make C kn ps ho xs (ones_any C kn ps ho xs hw)
end Go.Proofs.YtfomomaomggpbaaGreatDoor
