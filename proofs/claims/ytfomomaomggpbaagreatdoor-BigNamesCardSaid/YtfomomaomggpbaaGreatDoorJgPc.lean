/-
  parse: conditions as values; what joins two.
-/
import Derived.Test.YtfomomaomggpbaaGreatDoorJgIdx
set_option linter.unusedVariables false
set_option linter.unusedSimpArgs false
set_option maxHeartbeats 3200000
set_option maxRecDepth 100000
namespace Go.Proofs.YtfomomaomggpbaaGreatDoor
open Go.RowKit Go.Shelf

def joinX (kind:Int) (k at_:Int) (a b:Cn):Cn:=⟨kind,.nil,a.cons (b.cons .nil),at_⟩
def cdV (k:Int) (A:Option Addr) (l c:Nat) (B:Option Addr) (m e:Nat) (at_:Int):Value:= .agg #[.int .u8 k,.slice A l c,.slice B m e,.int .i64 at_]
def CdVS (w:World) (S:Nat→Prop) (v:Value) (x:Cn):Prop:=
 in8 x.k∧in64 x.at_∧∃A c B e,v=cdV x.k A x.args.len c B x.of_.len e x.at_∧SlR (ExR w S False x.args) x.args.len 64 A c∧SlR (CdR w S False x.of_) x.of_.len 64 B e
def CdV (w:World) (L:Nat) (v:Value) (x:Cn):Prop:=CdVS w (New L w) v x
theorem CdVS.keep {w w':World} {S S':Nat→Prop} {v:Value} {x:Cn} (h:CdVS w S v x) (hf:SameS S w w') (hs:∀b,S b→S' b):CdVS w' S' v x:=by
 obtain⟨h1,h2,A,c,B,e,he,ha,ho⟩:=h
 exact⟨h1,h2,A,c,B,e,he,ha.imp fun _ _ hx=>ExR.more hs (ExR.keep hf hx),ho.imp fun _ _ hx=>CdR.more hs (CdR.keep hf hx)⟩
theorem CdVS.fr {w w':World} {S S' T:Nat→Prop} {v:Value} {x:Cn} (h:CdVS w S v x) (hf:Fr T w w') (ht:∀b,S b→b < w.heap.size∧¬T b) (hs:∀b,S b→S' b):CdVS w' S' v x:=h.keep (hf.same ht) hs
theorem CdV.fr {w w':World} {L:Nat} {T:Nat→Prop} {v:Value} {x:Cn} (h:CdV w L v x) (hf:Fr T w w') (ht:∀b,L≤b→b < w.heap.size→¬T b):CdV w' L v x:=
 CdVS.fr h hf (fun b hb=>⟨hb.2,ht b hb.1 hb.2⟩) fun b hb=>⟨hb.1,ltq hb.2 hf.size⟩
theorem CdV.low {w:World} {L L':Nat} {v:Value} {x:Cn} (h:CdV w L v x) (hl:L'≤L):CdV w L' v x:=
 CdVS.keep h (SameS.refl _ _) fun b hb=>⟨leq9 hl hb.1,hb.2⟩
theorem CdVS.parts {w:World} {S:Nat→Prop} {v:Value} {x:Cn} (h:CdVS w S v x):∃A c B e,v=cdV x.k A x.args.len c B x.of_.len e x.at_:=by
 obtain⟨_,_,A,c,B,e,he,_⟩:=h
 exact⟨A,c,B,e,he⟩
theorem cdR_two {w:World} {S:Nat→Prop} {g:Nat} {t:TypeId} {x y:Cn} {A B A' B':Option Addr} {c e c' e':Nat} (hb:Bk w g t #[.int .u8 x.k,.slice A x.args.len c,.slice B x.of_.len e,.int .i64 x.at_,.int .u8 y.k,.slice A' y.args.len c',.slice B' y.of_.len e',.int .i64 y.at_]) (hg:S g)
  (h1:in8 x.k∧in64 x.at_) (h2:in8 y.k∧in64 y.at_) (hx:SlR (ExR w S False x.args) x.args.len 64 A c) (hxo:SlR (CdR w S False x.of_) x.of_.len 64 B e) (hy:SlR (ExR w S False y.args) y.args.len 64 A' c') (hyo:SlR (CdR w S False y.of_) y.of_.len 64 B' e'):CdR w S False (x.cons (y.cons .nil)) g 0:=
 ⟨⟨hg,fun h=>absurd h id,h1.1,h1.2,hb.cell 0,hb.cell 3⟩,⟨A,c,hb.cell 1,hx⟩,⟨B,e,hb.cell 2,hxo⟩,
  ⟨hg,fun h=>absurd h id,h2.1,h2.2,hb.cell 4,hb.cell 7⟩,⟨A',c',hb.cell 5,hy⟩,⟨B',e',hb.cell 6,hyo⟩,trivial⟩
theorem cdR_one {w:World} {S:Nat→Prop} {g:Nat} {t:TypeId} {x:Cn} {A B:Option Addr} {c e:Nat} (hb:Bk w g t #[.int .u8 x.k,.slice A x.args.len c,.slice B x.of_.len e,.int .i64 x.at_]) (hg:S g)
  (h1:in8 x.k∧in64 x.at_) (hx:SlR (ExR w S False x.args) x.args.len 64 A c) (hxo:SlR (CdR w S False x.of_) x.of_.len 64 B e):CdR w S False (x.cons .nil) g 0:=
 ⟨⟨hg,fun h=>absurd h id,h1.1,h1.2,hb.cell 0,hb.cell 3⟩,⟨A,c,hb.cell 1,hx⟩,⟨B,e,hb.cell 2,hxo⟩,trivial⟩
def JoinP (k at_:Int) (xs:Array Value) (W:World) (e:Ending) (w':World):Prop:=
 ∃g,e= .returned (.agg #[.int .u8 k,.slice none 0 0,.slice (some ⟨g,0,none⟩) 2 2,.int .i64 at_])∧Bk w' g 179 xs∧W.heap.size≤g∧g < w'.heap.size∧Fr NoT W w'
theorem join_any (f:Int) (w:World):Calls Tryz.prog 311 #[.int .u8 f] w fun e w'=>e= .returned (.func (.func 312) #[] #[.pointer (some ⟨w.heap.size,0,none⟩)])∧w'=w.alloc (.cells #[.int .u8 f] 5):=by
 have hmf:= @makeF Tryz.prog
 go_enter Tryz.func311,Tryz.ntmps311
 go_wp2
 go_ret
 exact⟨rfl,rfl⟩
theorem join1_any (f k at_:Int) (bx:Nat) (k1 a1 k2 a2:Int) (A1 B1 A2 B2:Option Addr) (l1 l2 c1 c2 m1 m2 e1 e2:Nat) (w:World) (hbx:bx < w.heap.size) (hf:w.cell? ⟨bx,0,none⟩=some (.int .u8 f)):
  Calls Tryz.prog 312 #[.int .i64 k,.int .i64 at_,.agg #[.int .u8 k1,.slice A1 l1 c1,.slice B1 m1 e1,.int .i64 a1],.agg #[.int .u8 k2,.slice A2 l2 c2,.slice B2 m2 e2,.int .i64 a2],.pointer (some ⟨bx,0,none⟩)] w
   (JoinP f at_ #[.int .u8 k1,.slice A1 l1 c1,.slice B1 m1 e1,.int .i64 a1,.int .u8 k2,.slice A2 l2 c2,.slice B2 m2 e2,.int .i64 a2] w):=by
 have z1:bx < w.heap.size+1:=by omega
 have z2:bx < w.heap.size+1+1:=by omega
 go_enter Tryz.func312,Tryz.ntmps312
 go_wp2
 refine bodyPost_ret (v:= .agg #[.int .u8 f,.slice none 0 0,.slice (some ⟨w.heap.size+1+1+1,0,none⟩) 2 2,.int .i64 at_]) (by simp[results,Tryz.results312,go_sem]) rfl ?_
 exact⟨_,rfl,Bk.new_at _ _ _ (by simp),by omega,by simp,((((Fr.refl _ _).alloc _).alloc _).alloc _).alloc _⟩
def CdP (C:Pcx) (d:Nat) (r:PR Cn) (W:World) (e:Ending) (w':World):Prop:=
 match r with
 | .err c a=>e=wrongE c a∧Fr C.T W w'
 | .ok x l=>∃v,e= .returned v∧CdV w' W.heap.size v x∧PaAt C w' l d∧Fr C.T W w'
theorem CdP.ways {C:Pcx} {d:Nat} {r:PR Cn} {W w':World} {e:Ending} (h:CdP C d r W e w'):
  (∃(x:Cn) (l:List Tk) (A:Option Addr) (c:Nat) (B:Option Addr) (q:Nat),r= .ok x l∧e= .returned (.agg #[.int .u8 x.k,.slice A x.args.len c,.slice B x.of_.len q,.int .i64 x.at_])∧CdV w' W.heap.size (cdV x.k A x.args.len c B x.of_.len q x.at_) x∧PaAt C w' l d∧Fr C.T W w')∨
   ∃c a,r= .err c a∧e= .panicked [{v:= .iface 161 (.agg #[.int .i64 c,.int .i64 a]),recovered:=false}]∧Fr C.T W w':=by
 unfold CdP at h
 cases r with
 |err c a=>exact .inr ⟨c,a,rfl,h⟩
 |ok x l=>
  obtain⟨v,rfl,hv,hp,hf⟩:=h
  obtain⟨A,c,B,q,rfl⟩:=CdVS.parts hv
  exact .inl ⟨x,l,A,c,B,q,rfl,rfl,hv,hp,hf⟩

/-! plain conditions -/
def cmpS:List (List UInt8):= [[60], [60,61], [62], [62,61], [61,61], [33,61]]
def notS:List (List UInt8):= [[33], [91], [116,114,117,101], [102,97,108,115,101]]
def condOf (nt:List Tk→PR Cn) (l:List Tk):PR Cn:=chainP (chainP nt (joinX 10) [[38,38]]) (joinX 11) [[124,124]] l
def cmpP (n:Nat) (l:List Tk):PR Cn:=
 (exprP n l).then fun x r=>if isP cmpS r < 0 then .err 90 (hdT r).at_ else(exprP n r.tail).then fun y q=> .ok ⟨3+isP cmpS r,x.cons (y.cons .nil),.nil,(hdT r).at_⟩ q
def notP:Nat→List Tk→PR Cn
 |n,l=>
  if isP notS l=0 then(match n with
   |0=> .err 91 (hdT l).at_
   |n+1=>(notP n l.tail).then fun c r=> .ok ⟨9,.nil,c.cons .nil,(hdT l).at_⟩ r)
  else if isP notS l=1 then(match n with
   |0=> .err 91 (hdT l).at_
   |n+1=>(condOf (notP n) l.tail).then fun c r=>(takeP [93] r).then fun _ r=> .ok c r)
  else if isP notS l=2∨isP notS l=3 then .ok ⟨1+(isP notS l - 2),.nil,.nil,(hdT l).at_⟩ l.tail
  else cmpP n l
def condP (n:Nat) (l:List Tk):PR Cn:=condOf (notP n) l
theorem condOf_shr {nt:List Tk→PR Cn} (h:Shr nt):Shr (condOf nt):=chainP_shr (chainP_shr h)
theorem cmpP_shr (n:Nat):Shr (cmpP n):=fun l y r e=>by
 obtain⟨a,q,h1,h2⟩:=PR.then_ok e
 have:=exprP_shr n _ _ _ h1
 split at h2
 ·simp at h2
 ·obtain⟨b,q2,h3,h4⟩:=PR.then_ok h2
  simp only[PR.ok.injEq]at h4
  have h5:=exprP_shr n _ _ _ h3
  rw[List.length_tail]at h5
  rw[←h4.2];omega
theorem notP_shr:∀n,Shr (notP n)
 |0=>fun l y r e=>by
  simp only[notP]at e
  split at e
  ·simp at e
  ·split at e
   ·simp at e
   ·split at e
    ·simp only[PR.ok.injEq]at e;rw[←e.2,List.length_tail];omega
    ·exact cmpP_shr 0 _ _ _ e
 |n+1=>fun l y r e=>by
  have ih:=notP_shr n
  simp only[notP]at e
  split at e
  ·obtain⟨a,q,h1,h2⟩:=PR.then_ok e
   simp only[PR.ok.injEq]at h2
   have:=ih _ _ _ h1
   rw[List.length_tail]at this
   rw[←h2.2];omega
  ·split at e
   ·obtain⟨a,q,h1,h2⟩:=PR.then_ok e
    obtain⟨u,q2,h3,h4⟩:=PR.then_ok h2
    simp only[PR.ok.injEq]at h4
    have:=condOf_shr ih _ _ _ h1
    rw[List.length_tail]at this
    rw[←h4.2,takeP_shr h3,List.length_tail];omega
   ·split at e
    ·simp only[PR.ok.injEq]at e;rw[←e.2,List.length_tail];omega
    ·exact cmpP_shr (n+1) _ _ _ e

structure ChC (C:Pcx) (w:World) (bx d:Nat) (R:PR Cn) (one:List Tk→PR Cn) (first:Int) (signs:List (List UInt8)) (wr:World) (x:Cn) (A:Option Addr) (c:Nat) (B:Option Addr) (pc:Nat) (l:List Tk):Prop where
 eq:∃f,R=chainF one (joinX first) signs f x l∧l.length≤f
 box0:Bk wr w.heap.size 179 #[.int .u8 0,.slice none 0 0,.slice none 0 0,.int .i64 0]
 box:Bk wr bx 179 #[.int .u8 x.k,.slice A x.args.len c,.slice B x.of_.len pc,.int .i64 x.at_]
 hbx:w.heap.size+1≤bx
 val:CdVS wr (NewX (w.heap.size+1) bx wr) (cdV x.k A x.args.len c B x.of_.len pc x.at_) x
 pa:PaAt C wr l d
 fr:Fr C.T w wr
theorem chC_step {C:Pcx} {w wr w5 w7 w8:World} {bx d:Nat} {R:PR Cn} {one:List Tk→PR Cn} {first:Int} {signs:List (List UInt8)} {x y:Cn} {A A2 B B2:Option Addr} {c1 c2 pc1 pc2:Nat} {r l2:List Tk} {k:Int} {g2:Nat}
  (hk:C.Ok) (hL:C.P < w.heap.size∧C.TB < w.heap.size∧C.W0.heap.size≤w.heap.size) (hch:ChC C w bx d R one first signs wr x A c1 B pc1 r) (hbxP:bx≠C.P) (hf5:Fr C.T wr w5) (hv7:CdV w7 w5.drew.heap.size (cdV y.k A2 y.args.len c2 B2 y.of_.len pc2 y.at_) y) (hp7:PaAt C w7 l2 d) (hf7:Fr C.T w5.drew w7)
  (hb8:Bk w8 g2 179 #[.int .u8 x.k,.slice A x.args.len c1,.slice B x.of_.len pc1,.int .i64 x.at_,.int .u8 y.k,.slice A2 y.args.len c2,.slice B2 y.of_.len pc2,.int .i64 y.at_])
  (hg8:w7.heap.size≤g2∧g2 < w8.heap.size) (hf8:Fr NoT w7 w8) (hbb:Bk w8 bx 179 #[.int .u8 x.k,.slice A x.args.len c1,.slice B x.of_.len pc1,.int .i64 x.at_])
  (hRR:∃f,R=chainF one (joinX first) signs f (joinX first k (hdT r).at_ x y) l2∧l2.length≤f) (hge:0≤k) (hkb:k≤5) (hf0:0≤first) (hf1:first≤20) (w9:World)
  (hw9:w9=((((w8.setCell ⟨bx,0,none⟩ (.int .u8 first)).setCell ⟨bx,1,none⟩ (.slice none 0 0)).setCell ⟨bx,2,none⟩ (.slice (some ⟨g2,0,none⟩) 2 2)).setCell ⟨bx,3,none⟩ (.int .i64 ((hdT r).at_ :Int)))):
  ChC C w bx d R one first signs w9 (joinX first k (hdT r).at_ x y) none 0 (some ⟨g2,0,none⟩) 2 l2:=by
 have hf9:Fr (fun b=>b=bx) w8 w9:=by rw[hw9];exact Fr.own (Fr.own (Fr.own (Fr.own (Fr.refl _ _) _ _) _ _) _ _) _ _
 have hbl:bx < wr.heap.size:=hch.box.lt
 have hs0:=hch.fr.size
 have hs5:=hf5.size
 have hs7:w5.heap.size≤w7.heap.size:=hf7.size
 have hs8:=hf8.size
 have hs9:=hf9.size
 have hb1:=hch.hbx
 have hT:∀b,C.T b→b=C.P:=fun _ h=>h
 have hfa:Fr (fun b=>b=C.P∨b=bx) wr w9:=
  (((hf5.drew.mono fun i _ h=>Or.inl (hT i h)).trans (hf7.mono fun i _ h=>Or.inl (hT i h))).trans hf8.any).trans (hf9.mono fun i _ h=>Or.inr h)
 have hfb:Fr (fun b=>b=bx) w7 w9:=hf8.any.trans hf9
 have hat:in64 ((hdT r).at_ :Int):=by
  obtain⟨j,cap,e,_⟩:=hch.pa.at_
  have:=hk.pos _ (List.mem_of_getElem? (drop_head e hch.pa.ne).1)
  unfold in64;omega
 obtain⟨x1,x3,Ax,cx,Bx,qx,ex,hsx,hox⟩:=hch.val
 obtain⟨y1,y3,Ay,cy,By,qy,ey,hsy,hoy⟩:=hv7
 simp only[cdV,Value.agg.injEq,Array.mk.injEq,List.cons.injEq,Value.slice.injEq,true_and,and_true]at ex ey
 obtain⟨⟨rfl,rfl⟩,rfl,rfl⟩:=ex
 obtain⟨⟨rfl,rfl⟩,rfl,rfl⟩:=ey
 refine⟨hRR,?_,?_,hch.hbx,?_,?_,?_⟩
 ·exact(hch.box0.fr hfa (fun e=>by
   rcases e with e|e<;>omega))
 ·rw[hw9]
  have:=(((hbb.set_ 0 (.int .u8 first)).set_ 1 (.slice none 0 0)).set_ 2 (.slice (some ⟨g2,0,none⟩) 2 2)).set_ 3 (.int .i64 ((hdT r).at_ :Int))
  have e:Bk ((((w8.setCell ⟨bx,0,none⟩ (.int .u8 first)).setCell ⟨bx,1,none⟩ (.slice none 0 0)).setCell ⟨bx,2,none⟩ (.slice (some ⟨g2,0,none⟩) 2 2)).setCell ⟨bx,3,none⟩ (.int .i64 ((hdT r).at_ :Int))) bx 179 #[.int .u8 first,.slice none 0 0,.slice (some ⟨g2,0,none⟩) 2 2,.int .i64 ((hdT r).at_ :Int)]:=by simpa using this
  exact e
 ·have hX:∀b,NewX (w.heap.size+1) bx wr b→(b < wr.heap.size∧¬(b=C.P∨b=bx))∧NewX (w.heap.size+1) bx w9 b:=fun b hb=>
   ⟨⟨hb.2.1,fun e=>by
    rcases e with e|e
    ·have:=hb.1
     omega
    ·exact hb.2.2 e⟩,hb.1,by have:=hb.2.1;omega,hb.2.2⟩
  have hY:∀b,New w5.drew.heap.size w7 b→(b < w7.heap.size∧¬b=bx)∧NewX (w.heap.size+1) bx w9 b:=fun b hb=>by
   have h1:w5.heap.size≤b:=hb.1
   have h2:b < w7.heap.size:=hb.2
   exact⟨⟨h2,by omega⟩,by omega,by omega,by omega⟩
  refine⟨by show in8 first;unfold in8;omega,hat,none,0,some ⟨g2,0,none⟩,2,rfl,⟨lrq 0,sl0,fun h=>absurd h (by exact Nat.lt_irrefl 0)⟩,lrq 2,sl2,fun _=>⟨g2,0,rfl,?_⟩⟩
  refine cdR_two (hb8.fr hf9 (fun e=>by omega)) ⟨by omega,by omega,by omega⟩ ⟨x1,x3⟩ ⟨y1,y3⟩ (hsx.imp fun _ _ h=>?_) (hox.imp fun _ _ h=>?_) (hsy.imp fun _ _ h=>?_) (hoy.imp fun _ _ h=>?_)
  ·exact ExR.more (fun b hb=>(hX b hb).2) (ExR.keep (hfa.same fun b hb=>(hX b hb).1) h)
  ·exact CdR.more (fun b hb=>(hX b hb).2) (CdR.keep (hfa.same fun b hb=>(hX b hb).1) h)
  ·exact ExR.more (fun b hb=>(hY b hb).2) (ExR.keep (hfb.same fun b hb=>(hY b hb).1) h)
  ·exact CdR.more (fun b hb=>(hY b hb).2) (CdR.keep (hfb.same fun b hb=>(hY b hb).1) h)
 ·refine hp7.fr hfb (fun e=>hbxP e.symm) (fun e=>?_) (fun i hi e=>?_)
  ·omega
  ·omega
 ·rw[hw9]
  have:=((hch.fr.trans hf5).drew.trans hf7).trans hf8.any
  exact Fr.high (Fr.high (Fr.high (Fr.high this (by omega) _ _) (by omega) _ _) (by omega) _ _) (by omega) _ _
theorem chainC_any (C:Pcx) (one:List Tk→PR Cn) (first:Int) (signs:List (List UInt8)) (g:Nat) (fst cap:Array Value) (bt b c:Nat) (l:List Tk) (d:Nat) (w:World) (hk:C.Ok) (h:PaAt C w l d) (hshr:Shr one)
  (hsg:∀s∈signs,s≠ []) (hsl:signs.length≤3) (hc:∀j,j < signs.length→w.cell? ⟨b,j,none⟩=some (.string ⟨(signs.getD j []).toArray⟩)) (hbl:b < w.heap.size) (hbP:b≠C.P)
  (hbt:Bk w bt 5 #[.int .u8 first]) (hbtP:bt≠C.P) (hf0:0≤first) (hf1:first≤20)
  (hent:Enters Tryz.prog g) (hone:∀W,Fr C.T w W→∀l',PaAt C W l' d→Calls Tryz.prog g (fst++cap) W (CdP C d (one l') W)):
  Calls Tryz.prog 314 #[pP C,.func (.func g) fst cap,.func (.func 312) #[] #[.pointer (some ⟨bt,0,none⟩)],.slice (some ⟨b,0,none⟩) signs.length c] w (CdP C d (chainP one (joinX first) signs l) w):=by
 obtain⟨R,hR⟩:=nmq (chainP one (joinX first) signs l)
 rw[←hR]
 have HR:=hdq hR
 have H0:=hdq h
 have HL:=hdq h.lts
 have HONE:=hdq hone
 obtain⟨n,hn⟩:=nmq signs.length
 have HC:=hdq hc
 have HSG:=hdq hsg
 have HN:=hdq hn
 rw[←hn]at hsl ⊢
 unfold Enters at hent
 have h2:=h.alloc (.cells #[.int .u8 0,.slice none 0 0,.slice none 0 0,.int .i64 0] 179)
 have H2:=hdq h2
 clear hR h hone hc hsg hn h2
 cases ho:one l with
 |err e a=>
  have hq:=HONE.out _ ((Fr.refl C.T w).alloc (.cells #[.int .u8 0,.slice none 0 0,.slice none 0 0,.int .i64 0] 179)) l H2.out
  rw[ho]at hq
  have hRe:R= .err e a:=by rw[HR.out];unfold chainP;rw[ho];rfl
  rw[hRe]
  unfold CdP at hq ⊢
  simp only at hq ⊢
  unfold wrongE pP at*
  have HQ:=hdq hq
  clear hq ho hRe
  go_enter Tryz.func314,Tryz.ntmps314
  go_wp2_with fail
  try simp only[Array.append_empty]
  refine HQ.out.mono ?_
  rintro _ w2 ⟨rfl,hf⟩
  go_wp2_with fail
  exact⟨rfl,rfl,((Fr.refl _ _).alloc _).trans hf⟩
 |ok x l1=>
  have hq:=HONE.out _ ((Fr.refl C.T w).alloc (.cells #[.int .u8 0,.slice none 0 0,.slice none 0 0,.int .i64 0] 179)) l H2.out
  rw[ho]at hq
  have hRe:R=chainF one (joinX first) signs l1.length x l1:=by rw[HR.out];unfold chainP;rw[ho];rfl
  have HRE:=hdq hRe
  unfold CdP at hq
  simp only at hq
  unfold pP at*
  have HQ:=hdq hq
  clear hq ho hRe
  go_enter Tryz.func314,Tryz.ntmps314
  go_wp2_with fail
  try simp only[Array.append_empty]
  refine HQ.out.mono ?_
  rintro _ w2 ⟨v,rfl,hv,hpa,hf⟩
  obtain⟨A,c1,B,pc1,rfl⟩:=CdVS.parts hv
  have hch:ChC C w w2.heap.size d R one first signs (w2.alloc (.cells #[.int .u8 x.k,.slice A x.args.len c1,.slice B x.of_.len pc1,.int .i64 x.at_] 179)) x A c1 B pc1 l1:=by
   have hs:=hf.size
   rw[World.size_alloc]at hs
   refine⟨⟨_,HRE.out,lrq _⟩,?_,Bk.new _ _ _,hs,?_,hpa.alloc _,(((Fr.refl _ _).alloc _).trans hf).alloc _⟩
   ·exact((Bk.new w _ _).fr hf (fun e=>by have e:w.heap.size=C.P:=e;have:=HL.out.1;omega)).alloc _
   ·refine CdVS.fr (T:=NoT) hv ((Fr.refl _ _).alloc _) (fun b hb=>⟨hb.2,id⟩) fun b hb=>?_
    have h1:=hb.1
    have h2:=hb.2
    rw[World.size_alloc]at h1
    exact⟨h1,by rw[World.size_alloc];omega,by omega⟩
  obtain⟨bx,hbx⟩:=nmq w2.heap.size
  obtain⟨w3,hw3⟩:=nmq (w2.alloc (.cells #[.int .u8 x.k,.slice A x.args.len c1,.slice B x.of_.len pc1,.int .i64 x.at_] 179))
  rw[←hbx,←hw3]at hch
  unfold cdV
  have HCH:=hdq hch
  have HBX:=hdq hbx
  have HW3:=hdq hw3
  have hIs:∀W l',Fr C.T w W→PaAt C W l' d→Calls Tryz.prog 200 #[.pointer (some ⟨C.P,0,none⟩),.slice (some ⟨b,0,none⟩) n c] W fun e w'=>e= .returned (.int .i64 (isP signs l'))∧W=w':=fun W l' hF hP=>by
   have:=is_any C signs l' d b 0 c W hP (by rw[←HN.out];omega) (fun j hj=>by
    rw[Nat.zero_add]
    exact(hF.cell (p:=⟨b,j,none⟩) hbl hbP).trans (HC.out j hj))
   rw[←HN.out]at this
   exact this
  have HIS:=hdq hIs
  clear hv hpa hf hch hbx hw3 hIs
  go_wp2_with fail
  rw[←HW3.out]
  refine(HIS.out _ _ HCH.out.fr HCH.out.pa).mono ?_
  rintro _ w4 ⟨rfl,rfl⟩
  rw[←HBX.out]
  go_wp2_with fail
  go_loopw [10] (fun v wr=>∃(x:Cn) (A:Option Addr) (c1:Nat) (B:Option Addr) (pc1:Nat) (r:List Tk),v= .int .i64 (isP signs r)∧Hid (ChC C w bx d R one first signs wr x A c1 B pc1 r)) (fun _ wr=>lenP C wr)
  case atStart=>exact⟨x,A,c1,B,pc1,l1,rfl,HCH⟩
  case round=>
   obtain⟨x,A,c1,B,pc1,r,rfl,hch⟩:=hrel
   obtain⟨k,hk0⟩:=nmq (isP signs r)
   rw[←hk0]
   have b1:=hch.out.box.cell 0
   have b2:=hch.out.box.cell 1
   have b3:=hch.out.box.cell 2
   have b4:=hch.out.box.cell 3
   have b0:=hch.out.box0.cell 0
   simp only[getsL]at b1 b2 b3 b4
   have HK0:=hdq hk0
   clear hk0
   by_cases hneg:k < 0
   ·clear b0
    have g0:=hch.out.box0.frozen 0
    have g1:=hch.out.box0.frozen 1
    have g2:=hch.out.box0.frozen 2
    have g3:=hch.out.box0.frozen 3
    have q0:=hch.out.box0.cell 0
    have q1:=hch.out.box0.cell 1
    have q2:=hch.out.box0.cell 2
    have q3:=hch.out.box0.cell 3
    have hlt0:=hch.out.box0.lt
    simp only[getsL]at q0 q1 q2 q3
    have hne:¬0≤k:=by omega
    have hRR:R= .ok x r:=by
     obtain⟨f,hf,_⟩:=hch.out.eq
     rw[hf]
     cases f with
     |zero=>rfl
     |succ f=>simp only[chainF];rw[if_pos (by rw[←HK0.out];exact hneg)]
    have HRR:=hdq hRR
    clear hRR
    go_wp2_with fail
    refine bodyPost_ret (v:=cdV x.k A x.args.len c1 B x.of_.len pc1 x.at_) (by simp[results,Tryz.results314,go_sem,cdV,q0,q1,q2,q3,hlt0]) rfl ?_
    rw[HRR.out]
    unfold CdP
    simp only
    have hfr:Fr (fun b=>b=w.heap.size) wr ((((wr.setCell ⟨w.heap.size,0,none⟩ (.int .u8 x.k)).setCell ⟨w.heap.size,1,none⟩ (.slice A x.args.len c1)).setCell ⟨w.heap.size,2,none⟩ (.slice B x.of_.len pc1)).setCell ⟨w.heap.size,3,none⟩ (.int .i64 x.at_)):=by
     exact Fr.own (Fr.own (Fr.own (Fr.own (Fr.refl _ _) _ _) _ _) _ _) _ _
    refine⟨_,rfl,CdVS.fr hch.out.val hfr (fun b hb=>⟨hb.2.1,fun e=>by have:=hb.1;omega⟩) (fun b hb=>⟨by have:=hb.1;omega,by have:=hb.2.1;have:=hfr.size;omega⟩),?_,?_⟩
    ·refine hch.out.pa.fr hfr (fun e=>?_) (fun e=>?_) (fun i hi e=>?_)<;>have:=HL.out<;>omega
    ·exact Fr.high (Fr.high (Fr.high (Fr.high hch.out.fr (lrq _) _ _) (lrq _) _ _) (lrq _) _ _) (lrq _) _ _
   ·have hge:0≤k:=by omega
    have htx:=isP_text (signs:=signs) (l:=r) (by rw[←HK0.out];exact hge)
    have hnz:=HSG.out _ htx.1
    have hps:=pass_any C r d wr hk hch.out.pa (fun ht=>hnz ht.1)
    unfold PassP tkV pP at hps
    have HPS:=hdq hps
    have hkb:k≤5:=by
     have:=isP_le signs r
     rw[←HK0.out,←HN.out]at this
     omega
    clear hneg hps htx hnz
    go_wp2_with fail
    refine HPS.out.mono ?_
    rintro _ w5 ⟨rfl,hpa,hf⟩
    have hbxP:bx≠C.P:=by have:=hch.out.hbx;have:=HL.out.1;omega
    have hbk5:=hch.out.box.fr hf hbxP
    have HP5:=hdq hpa
    have HF5:=hdq (hch.out.fr.trans hf)
    have HFx:=hdq hf
    have y1:=hbk5.cell 0
    have y2:=hbk5.cell 1
    have y3:=hbk5.cell 2
    have y4:=hbk5.cell 3
    simp only[getsL]at y1 y2 y3 y4
    have HBK5:=hdq hbk5
    have hone:=fun W hW=>HONE.out W hW r.tail
    clear hpa hf hbk5 b0 b1 b2 b3 b4
    go_wp2_with fail
    cases ho:one r.tail with
    |err e a=>
     have hq:=hone _ HF5.out.drew (HP5.out.fr (T:=NoT) (Fr.drew (Fr.refl _ _)) id id (fun _ _=>id))
     rw[ho]at hq
     unfold CdP at hq
     simp only at hq
     unfold wrongE at hq
     have HQQ:=hdq hq
     have hRR:R= .err e a:=by
      obtain⟨f,hf,hfl⟩:=hch.out.eq
      have hrl:0 < r.length:=List.length_pos_iff.2 hch.out.pa.ne
      obtain⟨f,rfl⟩:∃f',f=f'+1:=⟨f - 1,by omega⟩
      rw[hf]
      simp only[chainF]
      rw[if_neg (by rw[←HK0.out];omega),ho]
      rfl
     have HRR:=hdq hRR
     clear hq hRR ho hone
     go_region_dies
     all_goals
      refine HQQ.out.mono ?_
      rintro _ w7 ⟨rfl,hf7⟩
      go_wp2_with fail
      exact⟨rfl,by rw[HRR.out];exact⟨rfl,HF5.out.drew.trans hf7⟩⟩
    |ok y l2=>
     have hq:=hone _ HF5.out.drew (HP5.out.fr (T:=NoT) (Fr.drew (Fr.refl _ _)) id id (fun _ _=>id))
     rw[ho]at hq
     unfold CdP at hq
     simp only at hq
     have HQQ:=hdq hq
     have hRR:∃f,R=chainF one (joinX first) signs f (joinX first k (hdT r).at_ x y) l2∧l2.length≤f:=by
      obtain⟨f,hf,hfl⟩:=hch.out.eq
      have hrl:0 < r.length:=List.length_pos_iff.2 hch.out.pa.ne
      obtain⟨f,rfl⟩:∃f',f=f'+1:=⟨f - 1,by omega⟩
      refine⟨f,?_,?_⟩
      ·rw[hf]
       simp only[chainF]
       rw[if_neg (by rw[←HK0.out];omega),ho,←HK0.out]
       rfl
      ·have:=hshr _ _ _ ho
       rw[List.length_tail]at this
       omega
     have HRR:=hdq hRR
     have HS:=hdq (hshr _ _ _ ho)
     clear hq hRR ho hone
     go_region_with
      (first
       |(go_at_call 312
         with_reducible refine(join1_any first k (hdT r).at_ bt x.k x.at_ y.k y.at_ A B A2 B2 x.args.len y.args.len c1 c2 x.of_.len y.of_.len pc1 pc2 w7 HBT7.out.1 HBT7.out.2).mono ?_
         rintro _ w8 ⟨g2,rfl,hb8,hg8,hg8',hf8⟩
         have hbb:=HB7.out.fr0 hf8
         have q1:=hbb.cell 0
         have q2:=hbb.cell 1
         have q3:=hbb.cell 2
         have q4:=hbb.cell 3
         have f1:=hbb.frozen 0
         have f2:=hbb.frozen 1
         have f3:=hbb.frozen 2
         have f4:=hbb.frozen 3
         simp only[getsL]at q1 q2 q3 q4
         have HB8:=hdq hb8
         have HG8:=hdq (show w7.heap.size≤g2∧g2 < w8.heap.size from⟨hg8,hg8'⟩)
         have HF8:=hdq hf8
         have HBB:=hdq hbb
         clear hb8 hg8 hg8' hf8 hbb z1 z2 z3 z4
         skip)
       |(with_reducible refine HQQ.out.mono ?_
         rintro _ w7 ⟨v7,rfl,hv7,hpa7,hf7⟩
         obtain⟨A2,c2,B2,pc2,rfl⟩:=CdVS.parts hv7
         have hb7:=(HBK5.out.fr (Fr.drew (Fr.refl NoT _)) id).fr hf7 hbxP
         have z1:=hb7.cell 0
         have z2:=hb7.cell 1
         have z3:=hb7.cell 2
         have z4:=hb7.cell 3
         simp only[getsL]at z1 z2 z3 z4
         have HB7:=hdq hb7
         have HV7:=hdq hv7
         have HP7:=hdq hpa7
         have HF7:=hdq hf7
         have hbt7:=((hbt.fr HF5.out hbtP).fr (Fr.drew (Fr.refl NoT _)) id).fr hf7 hbtP
         have HBT7:=hdq (show bt < w7.heap.size∧w7.cell? ⟨bt,0,none⟩=some (.int .u8 first)from⟨hbt7.lt,hbt7.cell 0⟩)
         clear hb7 hv7 hpa7 hf7 hbt7
         unfold cdV))
     all_goals(go_wp2_with fail)
     all_goals
      obtain⟨w9,hw9⟩:=nmq (((((w8.setCell ⟨bx,0,none⟩ (.int .u8 first)).setCell ⟨bx,1,none⟩ (.slice none 0 0)).setCell ⟨bx,2,none⟩ (.slice (some ⟨g2,0,none⟩) 2 2)).setCell ⟨bx,3,none⟩ (.int .i64 ((hdT r).at_ :Int))))
      have hch9:=chC_step hk HL.out hch.out hbxP HFx.out HV7.out HP7.out HF7.out HB8.out HG8.out HF8.out HBB.out HRR.out hge hkb hf0 hf1 w9 hw9
      rw[←hw9]
      have HCH9:=hdq hch9
      have HL9:=hdq (show lenP C w9 < lenP C wr from by
       rw[hch9.pa.lenP,hch.out.pa.lenP]
       have h1:=HS.out
       have h2:=List.length_pos_iff.2 hch.out.pa.ne
       rw[List.length_tail]at h1
       omega)
      clear hw9 hch9 q1 q2 q3 q4 f1 f2 f3 f4
      refine(HIS.out _ l2 HCH9.out.fr HCH9.out.pa).mono ?_
      rintro _ w10 ⟨rfl,rfl⟩
      go_wp2_with fail
      go_roundw
      case rel=>exact⟨_,_,_,_,_,l2,rfl,HCH9⟩
      case measure=>exact HL9.out

theorem cdP_box {C:Pcx} {w WA w7 w9:World} {d rb:Nat} {x:Cn} {l:List Tk} {A:Option Addr} {c:Nat} {B:Option Addr} {pc:Nat} (hL:C.P < w.heap.size∧C.TB < w.heap.size∧C.W0.heap.size≤w.heap.size) (hA:Fr NoT w WA) (hr:w.heap.size≤rb) (hr2:rb < WA.heap.size)
  (hv:CdV w7 WA.heap.size (cdV x.k A x.args.len c B x.of_.len pc x.at_) x) (hp:PaAt C w7 l d) (hf:Fr C.T WA w7)
  (h9:w9=(((w7.setCell ⟨rb,0,none⟩ (.int .u8 x.k)).setCell ⟨rb,1,none⟩ (.slice A x.args.len c)).setCell ⟨rb,2,none⟩ (.slice B x.of_.len pc)).setCell ⟨rb,3,none⟩ (.int .i64 x.at_)):
  CdP C d (.ok x l) w (.returned (cdV x.k A x.args.len c B x.of_.len pc x.at_)) w9:=by
 have hf9:Fr (fun b=>b=rb) w7 w9:=by rw[h9];exact Fr.own (Fr.own (Fr.own (Fr.own (Fr.refl _ _) _ _) _ _) _ _) _ _
 have h1:=hA.size
 unfold CdP
 refine⟨_,rfl,(CdV.fr hv hf9 fun b h2 h3 e=>?_).low (by omega),hp.fr hf9 (fun e=>?_) (fun e=>?_) (fun i hi e=>?_),?_⟩
 ·have e:b=rb:=e
  omega
 ·have e:C.P=rb:=e
  omega
 ·have e:C.TB=rb:=e
  omega
 ·have e:i=rb:=e
  omega
 ·rw[h9]
  have:=hA.any.trans hf
  exact Fr.high (Fr.high (Fr.high (Fr.high this (by omega) _ _) (by omega) _ _) (by omega) _ _) (by omega) _ _
theorem chainC_of (C:Pcx) (one:List Tk→PR Cn) (first:Int) (signs:List (List UInt8)) (g:Nat) (fst cap:Array Value) (bt b m:Nat) (l:List Tk) (d:Nat) (w:World) (hk:C.Ok) (h:PaAt C w l d) (hshr:Shr one)
  (hm:m=signs.length) (hsg:∀s∈signs,s≠ []) (hsl:signs.length≤3) (hss:Bk w b 9 (strA signs)) (hbP:b≠C.P)
  (hbt:Bk w bt 5 #[.int .u8 first]) (hbtP:bt≠C.P) (hf0:0≤first) (hf1:first≤20)
  (hent:Enters Tryz.prog g) (hone:∀W,Fr C.T w W→∀l',PaAt C W l' d→Calls Tryz.prog g (fst++cap) W (CdP C d (one l') W)):
  Calls Tryz.prog 314 #[.pointer (some ⟨C.P,0,none⟩),.func (.func g) fst cap,.func (.func 312) #[] #[.pointer (some ⟨bt,0,none⟩)],.slice (some ⟨b,0,none⟩) m m] w (CdP C d (chainP one (joinX first) signs l) w):=by
 subst hm
 exact chainC_any C one first signs g fst cap bt b _ l d w hk h hshr hsg hsl (fun j hj=>by rw[hss.cell j];simp[strA,hj]) hss.lt hbP hbt hbtP hf0 hf1 hent hone

def NotC (C:Pcx) (n:Nat):Prop:=∀(l:List Tk) (d:Nat) (w:World),d+n=24→PaAt C w l d→Calls Tryz.prog 315 #[.pointer (some ⟨C.P,0,none⟩)] w (CdP C d (notP n l) w)
def andS:List (List UInt8):= [[38,38]]
def orS:List (List UInt8):= [[124,124]]
def allP (n:Nat) (l:List Tk):PR Cn:=chainP (notP n) (joinX 10) andS l
theorem allP_shr (n:Nat):Shr (allP n):=chainP_shr (notP_shr n)
theorem all_any (C:Pcx) (n:Nat) (hs:NotC C n) (l:List Tk) (d pb fb:Nat) (w:World) (hdn:d+n=24) (hk:C.Ok) (h:PaAt C w l d) (hpb:Bk w pb 162 #[.pointer (some ⟨C.P,0,none⟩)]) (hne:pb≠C.P) (hfb:Bk w fb 397 #[.func (.func 311) #[] #[]]) (hneF:fb≠C.P):
  Calls Tryz.prog 313 #[.pointer (some ⟨pb,0,none⟩),.pointer (some ⟨fb,0,none⟩)] w (CdP C d (allP n l) w):=by
 have hmf:= @makeF Tryz.prog
 have hL:=h.lts
 have hpl:=hpb.lt
 have hfl:=hfb.lt
 have hfP:fb≠C.P:=hneF
 have hc0:=hfb.cell 0
 have hpP:pb≠C.P:=hne
 have hp0:=hpb.cell 0
 simp only[List.getElem?_toArray,List.getElem?_cons_zero]at hp0 hc0
 obtain⟨w1,hw1⟩:=nmq (w.alloc (.cells #[.int .u8 0,.slice none 0 0,.slice none 0 0,.int .i64 0] 179))
 have hz1:w1.heap.size=w.heap.size+1:=by rw[hw1];simp
 have hf1:Fr NoT w w1:=by rw[hw1];exact(Fr.refl _ _).alloc _
 have hbx:Bk w1 w.heap.size 179 #[.int .u8 0,.slice none 0 0,.slice none 0 0,.int .i64 0]:=by rw[hw1];exact Bk.new _ _ _
 obtain⟨a1,a2,a3⟩:=ordA w1 #[.int .u8 10] (strA andS) _ rfl
 obtain⟨b1,b2,b3⟩:=ordB w1 #[.int .u8 10] (strA andS) _ rfl
 rw[hz1]at a1 a2 b1 b2
 have key:∀(W:World) (bt b:Nat),Fr NoT w1 W→Bk W bt 5 #[.int .u8 10]→Bk W b 9 (strA andS)→w.heap.size < bt→w.heap.size < b→Calls Tryz.prog 314 #[.pointer (some ⟨C.P,0,none⟩),.func (.func 315) #[.pointer (some ⟨C.P,0,none⟩)] #[],.func (.func 312) #[] #[.pointer (some ⟨bt,0,none⟩)],.slice (some ⟨b,0,none⟩) 1 1] W (CdP C d (allP n l) W):=fun W bt b hf h1 h2 h3 h4=>
  chainC_of C (notP n) 10 andS 315 _ _ bt b 1 l d W hk (h.fr (hf1.trans hf) id id fun _ _=>id) (notP_shr n) rfl (by decide) (by decide) h2 (by omega) h1 (by omega) (by decide) (by decide) (enters_of Tryz.func315 (by kernel_rfl) rfl) fun W' hfw l' hp'=>by
   simpa using hs l' d W' hdn hp'
 have fin:∀(WA w7:World) (e:Ending),Fr NoT w1 WA→CdP C d (allP n l) WA e w7→Fr NoT w WA∧Bk WA w.heap.size 179 #[.int .u8 0,.slice none 0 0,.slice none 0 0,.int .i64 0]:=fun WA w7 e hf _=>⟨hf1.trans hf,hbx.fr0 hf⟩
 have HA:=hdq (key _ _ _ a3 a1 a2 (by omega) (by omega))
 have HB:=hdq (key _ _ _ b3 b1 b2 (by omega) (by omega))
 have HFA:=hdq (aiq (hf1.trans a3) (hbx.fr0 a3))
 have HFB:=hdq (aiq (hf1.trans b3) (hbx.fr0 b3))
 rw[hw1]at HA HB HFA HFB
 have HL:=hdq hL
 have hne2:¬w.heap.size=C.P:=by omega
 have HNE:=hdq hne2
 clear key fin hw1 hz1 hf1 hbx a1 a2 a3 b1 b2 b3 hL h hk hs hpb hne hne2 hfb hneF
 unfold strA andS at HA HB HFA HFB
 simp only[List.map_cons,List.map_nil]at HA HB HFA HFB
 go_enter Tryz.func313,Tryz.ntmps313
 go_wp2_with fail
 go_region_held2 (fun W'=>W'.cell? ⟨pb,0,none⟩=some (.pointer (some ⟨C.P,0,none⟩))∧W'.cell? ⟨fb,0,none⟩=some (.func (.func 311) #[] #[]))
  (first
   |(refine⟨?_,?_⟩<;>with_reducible assumption)
   |(with_reducible refine⟨(Fr.cell (T:=fun b=>b=w.heap.size) (w:=w7) (Fr.own (Fr.own (Fr.own (Fr.own (Fr.refl _ _) _ _) _ _) _ _) _ _) hpl7.1 hpl7.2).trans hp7,(Fr.cell (T:=fun b=>b=w.heap.size) (w:=w7) (Fr.own (Fr.own (Fr.own (Fr.own (Fr.refl _ _) _ _) _ _) _ _) _ _) hfl7.1 hfl7.2).trans hc7⟩)
   |(refine⟨(Fr.cell (T:=NoT) (w:=w) ?_ hpl id).trans hp0,(Fr.cell (T:=NoT) (w:=w) ?_ hfl id).trans hc0⟩<;>
     repeat(first|exact Fr.refl _ _|refine Fr.alloc ?_ _|refine Fr.drew ?_)))
  (first
   |(go_at_call 311
     refine(join_any _ _).mono ?_
     rintro _ wa ⟨rfl,rfl⟩)
   |(go_at_call 314
     with_reducible refine HA.out.mono ?_
     intro e w7 hE
     rcases hE.ways with⟨x,r,A,c,B,pc,hR,rfl,hv,hp,hf⟩|⟨c,a,hR,rfl,hf⟩
     rotate_left
     ·exact⟨rfl,by rw[hR];exact⟨rfl,(HFA.out.1.any).trans hf⟩⟩
     have hb7:=HFA.out.2.fr hf HNE.out
     have q0:=hb7.cell 0
     have q1:=hb7.cell 1
     have q2:=hb7.cell 2
     have q3:=hb7.cell 3
     have g0:=hb7.frozen 0
     have g1:=hb7.frozen 1
     have g2:=hb7.frozen 2
     have g3:=hb7.frozen 3
     have hlt7:=hb7.lt
     have hp7:=(hp0.symm.trans ((HFA.out.1.cell (p:=⟨pb,0,none⟩) hpl id).symm.trans (hf.cell (p:=⟨pb,0,none⟩) (ltq hpl HFA.out.1.size) hpP).symm)).symm
     have hc7:=(hc0.symm.trans ((HFA.out.1.cell (p:=⟨fb,0,none⟩) hfl id).symm.trans (hf.cell (p:=⟨fb,0,none⟩) (ltq hfl HFA.out.1.size) hfP).symm)).symm
     have hpl7:pb < w7.heap.size∧¬pb=w.heap.size:=⟨ltq hpl (leq9 HFA.out.1.size hf.size),by omega⟩
     have hfl7:fb < w7.heap.size∧¬fb=w.heap.size:=⟨ltq hfl (leq9 HFA.out.1.size hf.size),by omega⟩
     simp only[getsL]at q0 q1 q2 q3
     have HE:=hdq (show ∀w9,w9=(((w7.setCell ⟨w.heap.size,0,none⟩ (.int .u8 x.k)).setCell ⟨w.heap.size,1,none⟩ (.slice A x.args.len c)).setCell ⟨w.heap.size,2,none⟩ (.slice B x.of_.len pc)).setCell ⟨w.heap.size,3,none⟩ (.int .i64 x.at_)→CdP C d (allP n l) w (.returned (cdV x.k A x.args.len c B x.of_.len pc x.at_)) w9 from fun w9 h9=>by
      rw[hR]
      exact cdP_box HL.out HFA.out.1 (lrq _) HFA.out.2.lt hv hp hf h9)
     clear hR hv hp hf hb7)
   |(go_at_call 314
     with_reducible refine HB.out.mono ?_
     intro e w7 hE
     rcases hE.ways with⟨x,r,A,c,B,pc,hR,rfl,hv,hp,hf⟩|⟨c,a,hR,rfl,hf⟩
     rotate_left
     ·exact⟨rfl,by rw[hR];exact⟨rfl,(HFB.out.1.any).trans hf⟩⟩
     have hb7:=HFB.out.2.fr hf HNE.out
     have q0:=hb7.cell 0
     have q1:=hb7.cell 1
     have q2:=hb7.cell 2
     have q3:=hb7.cell 3
     have g0:=hb7.frozen 0
     have g1:=hb7.frozen 1
     have g2:=hb7.frozen 2
     have g3:=hb7.frozen 3
     have hlt7:=hb7.lt
     have hp7:=(hp0.symm.trans ((HFB.out.1.cell (p:=⟨pb,0,none⟩) hpl id).symm.trans (hf.cell (p:=⟨pb,0,none⟩) (ltq hpl HFB.out.1.size) hpP).symm)).symm
     have hc7:=(hc0.symm.trans ((HFB.out.1.cell (p:=⟨fb,0,none⟩) hfl id).symm.trans (hf.cell (p:=⟨fb,0,none⟩) (ltq hfl HFB.out.1.size) hfP).symm)).symm
     have hpl7:pb < w7.heap.size∧¬pb=w.heap.size:=⟨ltq hpl (leq9 HFB.out.1.size hf.size),by omega⟩
     have hfl7:fb < w7.heap.size∧¬fb=w.heap.size:=⟨ltq hfl (leq9 HFB.out.1.size hf.size),by omega⟩
     simp only[getsL]at q0 q1 q2 q3
     have HE:=hdq (show ∀w9,w9=(((w7.setCell ⟨w.heap.size,0,none⟩ (.int .u8 x.k)).setCell ⟨w.heap.size,1,none⟩ (.slice A x.args.len c)).setCell ⟨w.heap.size,2,none⟩ (.slice B x.of_.len pc)).setCell ⟨w.heap.size,3,none⟩ (.int .i64 x.at_)→CdP C d (allP n l) w (.returned (cdV x.k A x.args.len c B x.of_.len pc x.at_)) w9 from fun w9 h9=>by
      rw[hR]
      exact cdP_box HL.out HFB.out.1 (lrq _) HFB.out.2.lt hv hp hf h9)
     clear hR hv hp hf hb7))
 all_goals
  go_wp2_with fail
  exact bodyPost_ret (v:=cdV x.k A x.args.len c B x.of_.len pc x.at_) (by simp[results,Tryz.results313,go_sem,cdV,q0,q1,q2,q3,hlt7]) rfl (HE.out _ rfl)
-- cond
theorem cond_any (C:Pcx) (n:Nat) (hs:NotC C n) (l:List Tk) (d:Nat) (w:World) (hdn:d+n=24) (hk:C.Ok) (h:PaAt C w l d):
  Calls Tryz.prog 310 #[.pointer (some ⟨C.P,0,none⟩)] w (CdP C d (condP n l) w):=by
 have hmf:= @makeF Tryz.prog
 have hL:=h.lts
 obtain⟨w1,hw1⟩:=nmq (((w.alloc (.cells #[.pointer (some ⟨C.P,0,none⟩)] 162)).alloc (.cells #[.int .u8 0,.slice none 0 0,.slice none 0 0,.int .i64 0] 179)).alloc (.cells #[.func (.func 311) #[] #[]] 397))
 have hz1:w1.heap.size=w.heap.size+3:=by rw[hw1];simp
 have hf1:Fr NoT w w1:=by rw[hw1];exact(((Fr.refl _ _).alloc _).alloc _).alloc _
 have hpx:Bk w1 w.heap.size 162 #[.pointer (some ⟨C.P,0,none⟩)]:=by rw[hw1];exact((Bk.new _ _ _).alloc _).alloc _
 have hbx:Bk w1 (w.heap.size+1) 179 #[.int .u8 0,.slice none 0 0,.slice none 0 0,.int .i64 0]:=by rw[hw1];exact(Bk.new_at _ _ _ (by simp)).alloc _
 have hfx:Bk w1 (w.heap.size+2) 397 #[.func (.func 311) #[] #[]]:=by rw[hw1];exact Bk.new_at _ _ _ (by simp)
 obtain⟨a1,a2,a3⟩:=ordA w1 #[.int .u8 11] (strA orS) _ rfl
 obtain⟨b1,b2,b3⟩:=ordB w1 #[.int .u8 11] (strA orS) _ rfl
 rw[hz1]at a1 a2 b1 b2
 have key:∀(W:World) (bt b:Nat),Fr NoT w1 W→Bk W bt 5 #[.int .u8 11]→Bk W b 9 (strA orS)→w.heap.size < bt→w.heap.size < b→Calls Tryz.prog 314 #[.pointer (some ⟨C.P,0,none⟩),.func (.func 313) #[] #[.pointer (some ⟨w.heap.size,0,none⟩),.pointer (some ⟨w.heap.size+1+1,0,none⟩)],.func (.func 312) #[] #[.pointer (some ⟨bt,0,none⟩)],.slice (some ⟨b,0,none⟩) 1 1] W (CdP C d (condP n l) W):=fun W bt b hf h1 h2 h3 h4=>
  chainC_of C (allP n) 11 orS 313 _ _ bt b 1 l d W hk (h.fr (hf1.trans hf) id id fun _ _=>id) (allP_shr n) rfl (by decide) (by decide) h2 (by omega) h1 (by omega) (by decide) (by decide) (enters_of Tryz.func313 (by kernel_rfl) rfl) fun W' hfw l' hp'=>by
   simpa using all_any C n hs l' d w.heap.size (w.heap.size+2) W' hdn hk hp' ((hpx.fr0 hf).fr hfw (fun e=>by have e:w.heap.size=C.P:=e;omega)) (by omega) ((hfx.fr0 hf).fr hfw (fun e=>by have e:w.heap.size+2=C.P:=e;omega)) (by omega)
 have HA:=hdq (key _ _ _ a3 a1 a2 (by omega) (by omega))
 have HB:=hdq (key _ _ _ b3 b1 b2 (by omega) (by omega))
 have HFA:=hdq (aiq (hf1.trans a3) (aiq (hbx.fr0 a3) (aiq (hpx.fr0 a3) (hfx.fr0 a3))))
 have HFB:=hdq (aiq (hf1.trans b3) (aiq (hbx.fr0 b3) (aiq (hpx.fr0 b3) (hfx.fr0 b3))))
 have hp0:=hpx.cell 0
 have hpl:=hpx.lt
 have hc0:=hfx.cell 0
 have hfl:=hfx.lt
 simp only[List.getElem?_toArray,List.getElem?_cons_zero]at hp0 hc0
 rw[hw1]at HA HB HFA HFB hp0 hpl hc0 hfl
 have HL:=hdq hL
 have hne2:¬w.heap.size+1=C.P:=by omega
 have HNE:=hdq hne2
 have hpP:¬w.heap.size=C.P:=by omega
 have hfP:¬w.heap.size+2=C.P:=by omega
 clear key hw1 hz1 hf1 hbx hpx hfx a1 a2 a3 b1 b2 b3 hL h hk hs hne2
 unfold strA orS at HA HB HFA HFB
 simp only[List.map_cons,List.map_nil]at HA HB HFA HFB
 go_enter Tryz.func310,Tryz.ntmps310
 go_wp2_with fail
 go_region_held2 (fun W'=>W'.cell? ⟨w.heap.size,0,none⟩=some (.pointer (some ⟨C.P,0,none⟩))∧W'.cell? ⟨w.heap.size+1+1,0,none⟩=some (.func (.func 311) #[] #[]))
  (first
   |(refine⟨?_,?_⟩<;>with_reducible assumption)
   |(with_reducible refine⟨(Fr.cell (T:=fun b=>b=w.heap.size+1) (w:=w7) (Fr.own (Fr.own (Fr.own (Fr.own (Fr.refl _ _) _ _) _ _) _ _) _ _) hpl7.1 hpl7.2).trans hp7,(Fr.cell (T:=fun b=>b=w.heap.size+1) (w:=w7) (Fr.own (Fr.own (Fr.own (Fr.own (Fr.refl _ _) _ _) _ _) _ _) _ _) hfl7.1 hfl7.2).trans hc7⟩)
   |(refine⟨(Fr.cell (T:=NoT) ?_ hpl id).trans hp0,(Fr.cell (T:=NoT) ?_ hfl id).trans hc0⟩<;>
     repeat(first|exact Fr.refl _ _|refine Fr.alloc ?_ _|refine Fr.drew ?_)))
  (first
   |(go_at_call 311
     refine(join_any _ _).mono ?_
     rintro _ wa ⟨rfl,rfl⟩)
   |(go_at_call 314
     with_reducible refine HA.out.mono ?_
     intro e w7 hE
     rcases hE.ways with⟨x,r,A,c,B,pc,hR,rfl,hv,hp,hf⟩|⟨c,a,hR,rfl,hf⟩
     rotate_left
     ·exact⟨rfl,by rw[hR];exact⟨rfl,(HFA.out.1.any).trans hf⟩⟩
     have hb7:=HFA.out.2.1.fr hf HNE.out
     have q0:=hb7.cell 0
     have q1:=hb7.cell 1
     have q2:=hb7.cell 2
     have q3:=hb7.cell 3
     have g0:=hb7.frozen 0
     have g1:=hb7.frozen 1
     have g2:=hb7.frozen 2
     have g3:=hb7.frozen 3
     have hlt7:=hb7.lt
     have hp7:=(HFA.out.2.2.1.fr hf hpP).cell 0
     simp only[List.getElem?_toArray,List.getElem?_cons_zero]at hp7
     have hpl7:w.heap.size < w7.heap.size∧¬w.heap.size=w.heap.size+1:=⟨(HFA.out.2.2.1.fr hf hpP).lt,by omega⟩
     have hc7:=(HFA.out.2.2.2.fr hf hfP).cell 0
     have hfl7:w.heap.size+1+1 < w7.heap.size∧¬w.heap.size+1+1=w.heap.size+1:=⟨(HFA.out.2.2.2.fr hf hfP).lt,by omega⟩
     simp only[List.getElem?_toArray,List.getElem?_cons_zero]at hc7
     simp only[getsL]at q0 q1 q2 q3
     have HE:=hdq (show ∀w9,w9=(((w7.setCell ⟨w.heap.size+1,0,none⟩ (.int .u8 x.k)).setCell ⟨w.heap.size+1,1,none⟩ (.slice A x.args.len c)).setCell ⟨w.heap.size+1,2,none⟩ (.slice B x.of_.len pc)).setCell ⟨w.heap.size+1,3,none⟩ (.int .i64 x.at_)→CdP C d (condP n l) w (.returned (cdV x.k A x.args.len c B x.of_.len pc x.at_)) w9 from fun w9 h9=>by
      rw[hR]
      exact cdP_box HL.out HFA.out.1 (by omega) HFA.out.2.1.lt hv hp hf h9)
     clear hR hv hp hf hb7)
   |(go_at_call 314
     with_reducible refine HB.out.mono ?_
     intro e w7 hE
     rcases hE.ways with⟨x,r,A,c,B,pc,hR,rfl,hv,hp,hf⟩|⟨c,a,hR,rfl,hf⟩
     rotate_left
     ·exact⟨rfl,by rw[hR];exact⟨rfl,(HFB.out.1.any).trans hf⟩⟩
     have hb7:=HFB.out.2.1.fr hf HNE.out
     have q0:=hb7.cell 0
     have q1:=hb7.cell 1
     have q2:=hb7.cell 2
     have q3:=hb7.cell 3
     have g0:=hb7.frozen 0
     have g1:=hb7.frozen 1
     have g2:=hb7.frozen 2
     have g3:=hb7.frozen 3
     have hlt7:=hb7.lt
     have hp7:=(HFB.out.2.2.1.fr hf hpP).cell 0
     simp only[List.getElem?_toArray,List.getElem?_cons_zero]at hp7
     have hpl7:w.heap.size < w7.heap.size∧¬w.heap.size=w.heap.size+1:=⟨(HFB.out.2.2.1.fr hf hpP).lt,by omega⟩
     have hc7:=(HFB.out.2.2.2.fr hf hfP).cell 0
     have hfl7:w.heap.size+1+1 < w7.heap.size∧¬w.heap.size+1+1=w.heap.size+1:=⟨(HFB.out.2.2.2.fr hf hfP).lt,by omega⟩
     simp only[List.getElem?_toArray,List.getElem?_cons_zero]at hc7
     simp only[getsL]at q0 q1 q2 q3
     have HE:=hdq (show ∀w9,w9=(((w7.setCell ⟨w.heap.size+1,0,none⟩ (.int .u8 x.k)).setCell ⟨w.heap.size+1,1,none⟩ (.slice A x.args.len c)).setCell ⟨w.heap.size+1,2,none⟩ (.slice B x.of_.len pc)).setCell ⟨w.heap.size+1,3,none⟩ (.int .i64 x.at_)→CdP C d (condP n l) w (.returned (cdV x.k A x.args.len c B x.of_.len pc x.at_)) w9 from fun w9 h9=>by
      rw[hR]
      exact cdP_box HL.out HFB.out.1 (by omega) HFB.out.2.1.lt hv hp hf h9)
     clear hR hv hp hf hb7))
 all_goals
  go_wp2_with fail
  exact bodyPost_ret (v:=cdV x.k A x.args.len c B x.of_.len pc x.at_) (by simp[results,Tryz.results310,go_sem,cdV,q0,q1,q2,q3,hlt7]) rfl (HE.out _ rfl)

def ResC (rb L:Nat) (w:World) (x:Cn):Prop:=∃A c B pc,Bk w rb 179 #[.int .u8 x.k,.slice A x.args.len c,.slice B x.of_.len pc,.int .i64 x.at_]∧CdV w L (cdV x.k A x.args.len c B x.of_.len pc x.at_) x
def ParC (C:Pcx) (rb d:Nat) (r:PR Cn) (W:World) (e:Ending) (w':World):Prop:=
 match r with
 | .err c a=>e=wrongE c a∧Fr (PT C rb) W w'
 | .ok x l=>e= .returned (.tuple #[])∧ResC rb W.heap.size w' x∧PaAt C w' l d∧Fr (PT C rb) W w'
theorem bk4C {w:World} {rb:Nat} {a b c d:Value} {A B D E:Value} (h:Bk w rb 179 #[a,b,c,d]):
  Bk ((((w.setCell ⟨rb,0,none⟩ A).setCell ⟨rb,1,none⟩ B).setCell ⟨rb,2,none⟩ D).setCell ⟨rb,3,none⟩ E) rb 179 #[A,B,D,E]:=by
 have:=(((h.set_ 0 A).set_ 1 B).set_ 2 D).set_ 3 E
 simpa using this
def endC (s:List UInt8) (n:Nat) (l:List Tk):PR Cn:=(condP n l).then fun x r=>(takeP s r).then fun _ r=> .ok x r

theorem brackC_any (C:Pcx) (n:Nat) (hs:NotC C n) (l:List Tk) (d pb rb:Nat) (w:World) (hdn:d+n=24) (hk:C.Ok) (h:PaAt C w l d) (hpb:Bk w pb 162 #[.pointer (some ⟨C.P,0,none⟩)]) (hne:pb≠C.P)
  (hrb:Bk w rb 179 #[.int .u8 0,.slice none 0 0,.slice none 0 0,.int .i64 0]) (hnr:rb≠C.P) (hrT:rb≠C.TB) (hr0:C.W0.heap.size≤rb) (hpr:pb≠rb):
  Calls Tryz.prog 317 #[.pointer (some ⟨pb,0,none⟩),.pointer (some ⟨rb,0,none⟩)] w (ParC C rb d (endC [93] n l) w):=by
 have hp0:=hpb.cell 0
 simp only[List.getElem?_toArray,List.getElem?_cons_zero]at hp0
 have HE:=hdq (cond_any C n hs l d w hdn hk h)
 obtain⟨R,hR⟩:=nmq (endC [93] n l)
 rw[←hR]
 have HR:=hdq hR
 have HPB:=hdq hpb
 have HRB:=hdq hrb
 have HK:=hdq hk
 have HL:=hdq h.lts
 clear hR hpb hrb hs h hk
 go_enter Tryz.func317,Tryz.ntmps317
 go_wp2_with fail
 refine HE.out.mono ?_
 intro e w7 hE
 rcases hE.ways with⟨x,r,A,c,B,pc,hx,rfl,hv,hp,hf⟩|⟨c,a,hx,rfl,hf⟩
 rotate_left
 ·go_wp2_with fail
  exact⟨rfl,by rw[HR.out,endC,hx];exact⟨rfl,PT.l hf⟩⟩
 have hrl:=HRB.out.lt
 have hb7:=HRB.out.fr hf hnr
 have q0:=hb7.cell 0
 have q1:=hb7.cell 1
 have q2:=hb7.cell 2
 have q3:=hb7.cell 3
 have g0:=hb7.frozen 0
 have g1:=hb7.frozen 1
 have g2:=hb7.frozen 2
 have g3:=hb7.frozen 3
 have hp7:=(HPB.out.fr hf hne).cell 0
 simp only[getsL]at q0 q1 q2 q3 hp7
 obtain⟨w8,hw8⟩:=nmq ((((w7.setCell ⟨rb,0,none⟩ (.int .u8 x.k)).setCell ⟨rb,1,none⟩ (.slice A x.args.len c)).setCell ⟨rb,2,none⟩ (.slice B x.of_.len pc)).setCell ⟨rb,3,none⟩ (.int .i64 x.at_))
 have hf8:Fr (fun b=>b=rb) w7 w8:=by rw[hw8];exact Fr.own (Fr.own (Fr.own (Fr.own (Fr.refl _ _) _ _) _ _) _ _) _ _
 have hbk8:Bk w8 rb 179 #[.int .u8 x.k,.slice A x.args.len c,.slice B x.of_.len pc,.int .i64 x.at_]:=by rw[hw8];exact bk4C hb7
 have hv8:CdV w8 w.heap.size (cdV x.k A x.args.len c B x.of_.len pc x.at_) x:=CdV.fr hv hf8 fun b h1 h2 e=>by
  have e:b=rb:=e
  omega
 have hp8:PaAt C w8 r d:=hp.fr hf8 (fun e=>hnr (by have e:C.P=rb:=e;exact e.symm)) (fun e=>hrT (by have e:C.TB=rb:=e;exact e.symm)) (fun i hi e=>by have e:i=rb:=e;omega)
 have hF8:Fr (PT C rb) w w8:=(PT.l hf).trans (hf8.mono fun i _ h=>Or.inr h)
 have hpc8:w8.cell? ⟨pb,0,none⟩=some (.pointer (some ⟨C.P,0,none⟩)):=(hf8.cell (p:=⟨pb,0,none⟩) (HPB.out.fr hf hne).lt hpr).trans hp7
 have hP9:=hp8.alloc (.cells #[.string ⟨#[93]⟩] 9)
 have HX:=hdq hx
 have HBK:=hdq hbk8
 have HV:=hdq hv8
 have HF:=hdq hF8
 have HP:=hdq hP9
 have HW:=hdq hw8
 have hz:w8.heap.size=w7.heap.size:=by rw[hw8];simp
 rw[hw8]at hpc8
 cases hm:mayB [93] r
 ·have ht:=take_no C [93] r d w8.heap.size _ hP9 hm (by simp)
  unfold ErrP wrongE pP at ht
  rw[hw8]at ht
  simp only[World.size_setCell]at ht
  have HT:=hdq ht
  clear hx hbk8 hv8 hp8 hF8 hP9 hv hp hf hf8 hb7 hw8 ht hz
  go_wp2_with fail
  refine HT.out.mono ?_
  rintro _ w10 ⟨rfl,hf10⟩
  go_wp2_with fail
  refine⟨rfl,?_⟩
  rw[HR.out,endC,HX.out]
  simp only[PR.then,takeP,hm]
  refine⟨rfl,?_⟩
  rw[←HW.out]at hf10
  exact(HF.out.alloc _).trans (PT.l hf10)
 ·have ht:=take_yes C [93] r d w8.heap.size _ HK.out hP9 (by decide) hm (by simp)
  unfold DoneP pP at ht
  rw[hw8]at ht
  simp only[World.size_setCell]at ht
  have HT:=hdq ht
  clear hx hbk8 hv8 hp8 hF8 hP9 hv hp hf hf8 hb7 hw8 ht hz
  go_wp2_with fail
  refine HT.out.mono ?_
  rintro _ w10 ⟨rfl,hp10,hf10⟩
  have HP10:=hdq hp10
  rw[←HW.out]at hf10
  have HF10:=hdq hf10
  clear hp10 hf10
  go_wp2_with fail
  go_end0
  rw[HR.out,endC,HX.out]
  simp only[PR.then,takeP,hm]
  have hfz:Fr C.T w8 w10:=((Fr.refl C.T w8).alloc _).trans HF10.out
  exact⟨rfl,⟨A,c,B,pc,HBK.out.fr hfz hnr,HV.out.fr hfz fun b h1 h2 e=>by have e:b=C.P:=e;have:=HL.out.1;omega⟩,HP10.out,HF.out.trans (PT.l hfz)⟩
theorem ResC.fr {C:Pcx} {rb L:Nat} {w w':World} {x:Cn} (h:ResC rb L w x) (hf:Fr C.T w w') (h1:rb≠C.P) (h2:C.P < L):ResC rb L w' x:=by
 obtain⟨A,c,B,pc,hb,hv⟩:=h
 exact⟨A,c,B,pc,hb.fr hf h1,hv.fr hf fun b h3 _ e=>by have e:b=C.P:=e;omega⟩
theorem ResC.low {rb L L':Nat} {w:World} {x:Cn} (h:ResC rb L w x) (hl:L'≤L):ResC rb L' w x:=by
 obtain⟨A,c,B,pc,hb,hv⟩:=h
 exact⟨A,c,B,pc,hb,hv.low hl⟩
def notB (n:Nat) (a:Int) (l:List Tk):PR Cn:=(notP n l).then fun x r=> .ok ⟨9,.nil,x.cons .nil,a⟩ r

theorem not_fin {C:Pcx} {w w7:World} {rb d:Nat} {at_:Int} {x:Cn} {r:List Tk} {A B:Option Addr} {c pc:Nat} {q0 q1 q2 q3:Value} (hL:C.P < w.heap.size∧C.TB < w.heap.size∧C.W0.heap.size≤w.heap.size) (hat:in64 at_)
  (hnr:rb≠C.P) (hrT:rb≠C.TB) (hr0:C.W0.heap.size≤rb) (hb:Bk w7 rb 179 #[q0,q1,q2,q3]) (hv:CdV w7 w.drew.heap.size (cdV x.k A x.args.len c B x.of_.len pc x.at_) x) (hp:PaAt C w7 r d) (hf:Fr C.T w w7) (w9:World)
  (h9:w9=(((((w7.setCell ⟨rb,0,none⟩ (.int .u8 9)).setCell ⟨rb,1,none⟩ (.slice none 0 0)).setCell ⟨rb,2,none⟩ (.slice (some ⟨w7.heap.size,0,none⟩) 1 1)).setCell ⟨rb,3,none⟩ (.int .i64 at_)).alloc (.cells #[.int .u8 x.k,.slice A x.args.len c,.slice B x.of_.len pc,.int .i64 x.at_] 179)))
  (hrw:rb < w.heap.size):
  ParC C rb d ((PR.ok x r).then fun x r=>PR.ok ⟨9,.nil,x.cons .nil,at_⟩ r) w (.returned (.tuple #[])) w9:=by
 obtain⟨w8,hw8⟩:=nmq (((((w7.setCell ⟨rb,0,none⟩ (.int .u8 9)).setCell ⟨rb,1,none⟩ (.slice none 0 0)).setCell ⟨rb,2,none⟩ (.slice (some ⟨w7.heap.size,0,none⟩) 1 1)).setCell ⟨rb,3,none⟩ (.int .i64 at_)))
 rw[←hw8]at h9
 have hf8:Fr (fun b=>b=rb) w7 w8:=by rw[hw8];exact Fr.own (Fr.own (Fr.own (Fr.own (Fr.refl _ _) _ _) _ _) _ _) _ _
 have hbk8:Bk w8 rb 179 #[.int .u8 9,.slice none 0 0,.slice (some ⟨w7.heap.size,0,none⟩) 1 1,.int .i64 at_]:=by rw[hw8];exact bk4C hb
 have hz:w8.heap.size=w7.heap.size:=by rw[hw8];simp
 have hf9:Fr (fun b=>b=rb) w7 w9:=by rw[h9];exact hf8.alloc _
 have hs7:=hf.size
 have hs9:w9.heap.size=w7.heap.size+1:=by rw[h9];simp[hz]
 obtain⟨x1,x3,Ax,cx,Bx,qx,ex,hsx,hox⟩:=hv
 simp only[cdV,Value.agg.injEq,Array.mk.injEq,List.cons.injEq,Value.slice.injEq,true_and,and_true]at ex
 obtain⟨⟨rfl,rfl⟩,rfl,rfl⟩:=ex
 have hX:∀b,New w.drew.heap.size w7 b→(b < w7.heap.size∧¬b=rb)∧New w.heap.size w9 b:=fun b hb=>by
  have h1:w.heap.size≤b:=hb.1
  have h2:b < w7.heap.size:=hb.2
  exact⟨⟨h2,by omega⟩,h1,by omega⟩
 refine⟨rfl,⟨none,0,some ⟨w7.heap.size,0,none⟩,1,by rw[h9];exact hbk8.alloc _,by show in8 9;unfold in8;omega,hat,none,0,some ⟨w7.heap.size,0,none⟩,1,rfl,⟨lrq 0,sl0,fun h=>absurd h (by exact Nat.lt_irrefl 0)⟩,lrq 1,sl1,fun _=>⟨w7.heap.size,0,rfl,?_⟩⟩,?_,?_⟩
 ·refine cdR_one (by rw[h9];exact Bk.new_at _ _ _ hz) ⟨hs7,by omega⟩ ⟨x1,x3⟩ (hsx.imp fun _ _ h=>?_) (hox.imp fun _ _ h=>?_)
  ·exact ExR.more (fun b hb=>(hX b hb).2) (ExR.keep (hf9.same fun b hb=>(hX b hb).1) h)
  ·exact CdR.more (fun b hb=>(hX b hb).2) (CdR.keep (hf9.same fun b hb=>(hX b hb).1) h)
 ·exact hp.fr hf9 (fun e=>hnr (by have e:C.P=rb:=e;exact e.symm)) (fun e=>hrT (by have e:C.TB=rb:=e;exact e.symm)) (fun i hi e=>by have e:i=rb:=e;omega)
 ·exact(PT.l hf).trans (hf9.mono fun i _ h=>Or.inr h)
theorem notB_any (C:Pcx) (n:Nat) (hs:NotC C n) (l:List Tk) (d pb ab rb:Nat) (at_:Int) (w:World) (hat:in64 at_) (hdn:d+n=24) (hk:C.Ok) (h:PaAt C w l d) (hpb:Bk w pb 162 #[.pointer (some ⟨C.P,0,none⟩)]) (hne:pb≠C.P)
  (hab:Bk w ab 3 #[.int .i64 at_]) (hnea:ab≠C.P) (har:ab≠rb)
  (hrb:Bk w rb 179 #[.int .u8 0,.slice none 0 0,.slice none 0 0,.int .i64 0]) (hnr:rb≠C.P) (hrT:rb≠C.TB) (hr0:C.W0.heap.size≤rb) (hpr:pb≠rb):
  Calls Tryz.prog 316 #[.pointer (some ⟨pb,0,none⟩),.pointer (some ⟨ab,0,none⟩),.pointer (some ⟨rb,0,none⟩)] w (ParC C rb d (notB n at_ l) w):=by
 have hp0:=hpb.cell 0
 have ha0:=hab.cell 0
 simp only[List.getElem?_toArray,List.getElem?_cons_zero]at hp0 ha0
 have hpl:=hpb.lt
 have hal:=hab.lt
 have hrl:=hrb.lt
 have HE:=hdq (hs l d w.drew hdn (h.fr (T:=NoT) (Fr.drew (Fr.refl _ _)) id id fun _ _=>id))
 obtain⟨R,hR⟩:=nmq (notB n at_ l)
 rw[←hR]
 have HR:=hdq hR
 have HPB:=hdq hpb
 have HAB:=hdq hab
 have HRB:=hdq hrb
 have HK:=hdq hk
 have HL:=hdq h.lts
 have hpP:pb≠C.P:=hne
 have haP:ab≠C.P:=hnea
 clear hR hpb hab hrb hs h hk
 go_enter Tryz.func316,Tryz.ntmps316
 go_wp2_with fail
 go_region_held2 (fun W'=>W'.cell? ⟨pb,0,none⟩=some (.pointer (some ⟨C.P,0,none⟩))∧W'.cell? ⟨ab,0,none⟩=some (.int .i64 at_))
  (first
   |(refine⟨?_,?_⟩<;>with_reducible assumption)
   |(with_reducible refine⟨(Fr.cell (T:=fun b=>b=rb) (w:=w7) (Fr.alloc (Fr.own (Fr.own (Fr.own (Fr.own (Fr.refl _ _) _ _) _ _) _ _) _ _) _) hpl7 hpr).trans hp7,(Fr.cell (T:=fun b=>b=rb) (w:=w7) (Fr.alloc (Fr.own (Fr.own (Fr.own (Fr.own (Fr.refl _ _) _ _) _ _) _ _) _ _) _) hal7 har).trans ha7⟩)
   |(with_reducible refine⟨(Fr.cell (T:=NoT) (w:=w7) (Fr.alloc (Fr.refl _ _) _) hpl7 id).trans hp7,(Fr.cell (T:=NoT) (w:=w7) (Fr.alloc (Fr.refl _ _) _) hal7 id).trans ha7⟩)
   |(with_reducible refine⟨(Fr.cell (T:=NoT) (w:=w) (Fr.drew (Fr.refl _ _)) hpl id).trans hp0,(Fr.cell (T:=NoT) (w:=w) (Fr.drew (Fr.refl _ _)) hal id).trans ha0⟩))
  (first
   |(go_at_call 315
     with_reducible refine HE.out.mono ?_
     intro e w7 hE
     rcases hE.ways with⟨x,r,A,c,B,pc,hx,rfl,hv,hp,hf⟩|⟨c,a,hx,rfl,hf⟩
     rotate_left
     ·exact⟨rfl,by rw[HR.out,notB,hx];exact⟨rfl,PT.l ((Fr.drew (Fr.refl C.T w)).trans hf)⟩⟩
     have hfw:=(Fr.drew (Fr.refl C.T w)).trans hf
     have hb7:=HRB.out.fr hfw hnr
     have q0:=hb7.cell 0
     have q1:=hb7.cell 1
     have q2:=hb7.cell 2
     have q3:=hb7.cell 3
     have g0:=hb7.frozen 0
     have g1:=hb7.frozen 1
     have g2:=hb7.frozen 2
     have g3:=hb7.frozen 3
     have hpb7:=HPB.out.fr hfw hpP
     have hab7:=HAB.out.fr hfw haP
     have hp7:=hpb7.cell 0
     have ha7:=hab7.cell 0
     have hpl7:=hpb7.lt
     have hal7:=hab7.lt
     have hrl7:=hb7.lt
     simp only[getsL]at q0 q1 q2 q3 hp7 ha7
     have HX:=hdq hx
     have HV:=hdq hv
     have HP:=hdq hp
     have HF:=hdq hfw
     have HB:=hdq hb7
     clear hx hv hp hf hfw hb7 hpb7 hab7))
 all_goals
  go_wp2_with fail
  go_end0
  rw[HR.out,notB,HX.out]
  exact not_fin HL.out hat hnr hrT hr0 HB.out HV.out HP.out HF.out _ rfl hrl
end Go.Proofs.YtfomomaomggpbaaGreatDoor
