/-
  parse: conditions as values; what joins two.
-/
import Derived.Test.YtobegfbdedgmpaaGreatDoorJnPaV
set_option linter.unusedVariables false
set_option linter.unusedSimpArgs false
set_option maxRecDepth 100000
namespace Go.Proofs.YtobegfbdedgmpaaGreatDoor
open Go.RowKit Go.Shelf

def joinX (kind:Int) (k at_:Int) (a b:Cn):Cn:=⟨kind,.nil,a.cons (b.cons .nil),at_⟩
def cdV (k:Int) (A:Option Addr) (l c:Nat) (B:Option Addr) (m e:Nat) (at_:Int):Value:= .agg #[.int .u8 k,.slice A l c,.slice B m e,.int .i64 at_]
def CdVS (w:World) (S:Nat→Prop) (v:Value) (x:Cn):Prop:=
 in8 x.k∧in64 x.at_∧∃A c B e,v=cdV x.k A x.args.len c B x.of_.len e x.at_∧SlR (ExR w S False x.args) x.args.len 64 A c∧SlR (CdR w S False x.of_) x.of_.len 64 B e
def CdV (w:World) (L:Nat) (v:Value) (x:Cn):Prop:=CdVS w (New L w) v x
theorem CdVS.keep {w w':World} {S S':Nat→Prop} {v:Value} {x:Cn} (h:CdVS w S v x) (hf:SameS S w w') (hs:∀b,S b→S' b):CdVS w' S' v x:=by
 obtain⟨h1,h2,A,c,B,e,he,ha,ho⟩:=h
 exact⟨h1,h2,A,c,B,e,he,ha.imp fun _ _ hx=>ExR.more hs (ExR.keep hf hx),ho.imp fun _ _ hx=>CdR.more hs (CdR.keep hf hx)⟩
theorem CdVS.fr {w w':World} {S S' T:Nat→Prop} {v:Value} {x:Cn} (h:CdVS w S v x) (hf:Fr T w w') (ht:∀b,S b→b < w.heap.size∧¬T b) (hs:∀b,S b→S' b):CdVS w' S' v x:=h.keep (hf.same ht) hs
theorem CdV.fr {w w':World} {L:Nat} {T:Nat→Prop} {v:Value} {x:Cn} (h:CdV w L v x) (hf:Fr T w w') (ht:∀b,L≤b→b < w.heap.size→¬T b):CdV w' L v x:=
 CdVS.fr h hf (fun b hb=>⟨hb.2,ht b hb.1 hb.2⟩) fun b hb=>⟨hb.1,Nat.lt_of_lt_of_le hb.2 hf.size⟩
theorem CdV.low {w:World} {L L':Nat} {v:Value} {x:Cn} (h:CdV w L v x) (hl:L'≤L):CdV w L' v x:=
 CdVS.keep h (SameS.refl _ _) fun b hb=>⟨Nat.le_trans hl hb.1,hb.2⟩
theorem CdVS.parts {w:World} {S:Nat→Prop} {v:Value} {x:Cn} (h:CdVS w S v x):∃A c B e,v=cdV x.k A x.args.len c B x.of_.len e x.at_:=by
 obtain⟨_,_,A,c,B,e,he,_⟩:=h
 exact⟨A,c,B,e,he⟩
theorem cdR_two {w:World} {S:Nat→Prop} {g:Nat} {t:TypeId} {x y:Cn} {A B A' B':Option Addr} {c e c' e':Nat} (hb:Bk w g t #[.int .u8 x.k,.slice A x.args.len c,.slice B x.of_.len e,.int .i64 x.at_,.int .u8 y.k,.slice A' y.args.len c',.slice B' y.of_.len e',.int .i64 y.at_]) (hg:S g)
  (h1:in8 x.k∧in64 x.at_) (h2:in8 y.k∧in64 y.at_) (hx:SlR (ExR w S False x.args) x.args.len 64 A c) (hxo:SlR (CdR w S False x.of_) x.of_.len 64 B e) (hy:SlR (ExR w S False y.args) y.args.len 64 A' c') (hyo:SlR (CdR w S False y.of_) y.of_.len 64 B' e'):CdR w S False (x.cons (y.cons .nil)) g 0:=
 ⟨⟨hg,fun h=>absurd h id,h1.1,h1.2,hb.cell 0,hb.cell 3⟩,⟨A,c,hb.cell 1,hx⟩,⟨B,e,hb.cell 2,hxo⟩,
  ⟨hg,fun h=>absurd h id,h2.1,h2.2,hb.cell 4,hb.cell 7⟩,⟨A',c',hb.cell 5,hy⟩,⟨B',e',hb.cell 6,hyo⟩,trivial⟩
theorem cdR_one {w:World} {S:Nat→Prop} {g:Nat} {t:TypeId} {x:Cn} {A B:Option Addr} {c e:Nat} (hb:Bk w g t #[.int .u8 x.k,.slice A x.args.len c,.slice B x.of_.len e,.int .i64 x.at_]) (hg:S g)
  (h1:in8 x.k∧in64 x.at_) (hx:SlR (ExR w S False x.args) x.args.len 64 A c) (hxo:SlR (CdR w S False x.of_) x.of_.len 64 B e):CdR w S False (x.cons .nil) g 0:=
 ⟨⟨hg,fun h=>absurd h id,h1.1,h1.2,hb.cell 0,hb.cell 3⟩,⟨A,c,hb.cell 1,hx⟩,⟨B,e,hb.cell 2,hxo⟩,trivial⟩
def JoinP (k at_:Int) (xs:Array Value) (W:World) (e:Ending) (w':World):Prop:=
 ∃g,e= .returned (.agg #[.int .u8 k,.slice none 0 0,.slice (some ⟨g,0,none⟩) 2 2,.int .i64 at_])∧Bk w' g 199 xs∧W.heap.size≤g∧g < w'.heap.size∧Fr NoT W w'
theorem join_any (f:Int) (w:World):Calls Tryz.prog 291 #[.int .u8 f] w fun e w'=>e= .returned (.func (.func 292) #[] #[.pointer (some ⟨w.heap.size,0,none⟩)])∧w'=w.alloc (.cells #[.int .u8 f] 5):=by
 have hmf:= @makeF Tryz.prog
 go_enter Tryz.func291,Tryz.ntmps291
 go_wp2
 go_ret
 exact⟨rfl,rfl⟩
theorem join1_any (f k at_:Int) (bx:Nat) (k1 a1 k2 a2:Int) (A1 B1 A2 B2:Option Addr) (l1 l2 c1 c2 m1 m2 e1 e2:Nat) (w:World) (hbx:bx < w.heap.size) (hf:w.cell? ⟨bx,0,none⟩=some (.int .u8 f)):
  Calls Tryz.prog 292 #[.int .i64 k,.int .i64 at_,.agg #[.int .u8 k1,.slice A1 l1 c1,.slice B1 m1 e1,.int .i64 a1],.agg #[.int .u8 k2,.slice A2 l2 c2,.slice B2 m2 e2,.int .i64 a2],.pointer (some ⟨bx,0,none⟩)] w
   (JoinP f at_ #[.int .u8 k1,.slice A1 l1 c1,.slice B1 m1 e1,.int .i64 a1,.int .u8 k2,.slice A2 l2 c2,.slice B2 m2 e2,.int .i64 a2] w):=by
 have z1:bx < w.heap.size+1:=by omega
 have z2:bx < w.heap.size+1+1:=by omega
 go_enter Tryz.func292,Tryz.ntmps292
 go_wp2
 refine bodyPost_ret (v:= .agg #[.int .u8 f,.slice none 0 0,.slice (some ⟨w.heap.size+1+1+1,0,none⟩) 2 2,.int .i64 at_]) (by simp[results,Tryz.results292,go_sem]) rfl ?_
 exact⟨_,rfl,Bk.new_at _ _ _ (by simp),by omega,by simp,((((Fr.refl _ _).alloc _).alloc _).alloc _).alloc _⟩
def CdP (C:Pcx) (d:Nat) (r:PR Cn) (W:World) (e:Ending) (w':World):Prop:=
 match r with
 | .err c a=>e=wrongE c a∧Fr C.T W w'
 | .ok x l=>∃v,e= .returned v∧CdV w' W.heap.size v x∧PaAt C w' l d∧Fr C.T W w'
theorem CdP.ways {C:Pcx} {d:Nat} {r:PR Cn} {W w':World} {e:Ending} (h:CdP C d r W e w'):
  (∃(x:Cn) (l:List Tk) (A:Option Addr) (c:Nat) (B:Option Addr) (q:Nat),r= .ok x l∧e= .returned (.agg #[.int .u8 x.k,.slice A x.args.len c,.slice B x.of_.len q,.int .i64 x.at_])∧CdV w' W.heap.size (cdV x.k A x.args.len c B x.of_.len q x.at_) x∧PaAt C w' l d∧Fr C.T W w')∨
   ∃c a,r= .err c a∧e= .panicked [{v:= .iface 123 (.agg #[.int .i64 c,.int .i64 a]),recovered:=false}]∧Fr C.T W w':=by
 unfold CdP at h
 cases r with
 |err c a=>exact .inr ⟨c,a,rfl,h⟩
 |ok x l=>
  obtain⟨v,rfl,hv,hp,hf⟩:=h
  obtain⟨A,c,B,q,rfl⟩:=CdVS.parts hv
  exact .inl ⟨x,l,A,c,B,q,rfl,rfl,hv,hp,hf⟩

/-! plain conditions -/
def cmpS:List (List UInt8):= [[60], [60,61], [62], [62,61], [61,61], [33,61]]
def notS:List (List UInt8):= [[33], [91], [116,114,117,101], [102,97,108,115,101]]
def condOf (nt:List Tk→PR Cn) (l:List Tk):PR Cn:=chainP (chainP nt (joinX 10) [[38,38]]) (joinX 11) [[124,124]] l
def cmpP (n:Nat) (l:List Tk):PR Cn:=
 (exprP n l).then fun x r=>if isP cmpS r < 0 then .err 90 (hdT r).at_ else(exprP n r.tail).then fun y q=> .ok ⟨3+isP cmpS r,x.cons (y.cons .nil),.nil,(hdT r).at_⟩ q
def notP:Nat→List Tk→PR Cn
 |n,l=>
  if isP notS l=0 then(match n with
   |0=> .err 91 (hdT l).at_
   |n+1=>(notP n l.tail).then fun c r=> .ok ⟨9,.nil,c.cons .nil,(hdT l).at_⟩ r)
  else if isP notS l=1 then(match n with
   |0=> .err 91 (hdT l).at_
   |n+1=>(condOf (notP n) l.tail).then fun c r=>(takeP [93] r).then fun _ r=> .ok c r)
  else if isP notS l=2∨isP notS l=3 then .ok ⟨1+(isP notS l - 2),.nil,.nil,(hdT l).at_⟩ l.tail
  else cmpP n l
def condP (n:Nat) (l:List Tk):PR Cn:=condOf (notP n) l
theorem condOf_shr {nt:List Tk→PR Cn} (h:Shr nt):Shr (condOf nt):=chainP_shr (chainP_shr h)
theorem cmpP_shr (n:Nat):Shr (cmpP n):=fun l y r e=>by
 obtain⟨a,q,h1,h2⟩:=PR.then_ok e
 have:=exprP_shr n _ _ _ h1
 split at h2
 ·simp at h2
 ·obtain⟨b,q2,h3,h4⟩:=PR.then_ok h2
  simp only[PR.ok.injEq]at h4
  have h5:=exprP_shr n _ _ _ h3
  rw[List.length_tail]at h5
  rw[←h4.2];omega
theorem notP_shr:∀n,Shr (notP n)
 |0=>fun l y r e=>by
  simp only[notP]at e
  split at e
  ·simp at e
  ·split at e
   ·simp at e
   ·split at e
    ·simp only[PR.ok.injEq]at e;rw[←e.2,List.length_tail];omega
    ·exact cmpP_shr 0 _ _ _ e
 |n+1=>fun l y r e=>by
  have ih:=notP_shr n
  simp only[notP]at e
  split at e
  ·obtain⟨a,q,h1,h2⟩:=PR.then_ok e
   simp only[PR.ok.injEq]at h2
   have:=ih _ _ _ h1
   rw[List.length_tail]at this
   rw[←h2.2];omega
  ·split at e
   ·obtain⟨a,q,h1,h2⟩:=PR.then_ok e
    obtain⟨u,q2,h3,h4⟩:=PR.then_ok h2
    simp only[PR.ok.injEq]at h4
    have:=condOf_shr ih _ _ _ h1
    rw[List.length_tail]at this
    rw[←h4.2,takeP_shr h3,List.length_tail];omega
   ·split at e
    ·simp only[PR.ok.injEq]at e;rw[←e.2,List.length_tail];omega
    ·exact cmpP_shr (n+1) _ _ _ e

structure ChC (C:Pcx) (w:World) (bx d:Nat) (R:PR Cn) (one:List Tk→PR Cn) (first:Int) (signs:List (List UInt8)) (wr:World) (x:Cn) (A:Option Addr) (c:Nat) (B:Option Addr) (pc:Nat) (l:List Tk):Prop where
 eq:∃f,R=chainF one (joinX first) signs f x l∧l.length≤f
 box0:Bk wr w.heap.size 199 #[.int .u8 0,.slice none 0 0,.slice none 0 0,.int .i64 0]
 box:Bk wr bx 199 #[.int .u8 x.k,.slice A x.args.len c,.slice B x.of_.len pc,.int .i64 x.at_]
 hbx:w.heap.size+1≤bx
 val:CdVS wr (NewX (w.heap.size+1) bx wr) (cdV x.k A x.args.len c B x.of_.len pc x.at_) x
 pa:PaAt C wr l d
 fr:Fr C.T w wr
theorem chC_step {C:Pcx} {w wr w5 w7 w8:World} {bx d:Nat} {R:PR Cn} {one:List Tk→PR Cn} {first:Int} {signs:List (List UInt8)} {x y:Cn} {A A2 B B2:Option Addr} {c1 c2 pc1 pc2:Nat} {r l2:List Tk} {k:Int} {g2:Nat}
  (hk:C.Ok) (hL:C.P < w.heap.size∧C.TB < w.heap.size∧C.W0.heap.size≤w.heap.size) (hch:ChC C w bx d R one first signs wr x A c1 B pc1 r) (hbxP:bx≠C.P) (hf5:Fr C.T wr w5) (hv7:CdV w7 w5.drew.heap.size (cdV y.k A2 y.args.len c2 B2 y.of_.len pc2 y.at_) y) (hp7:PaAt C w7 l2 d) (hf7:Fr C.T w5.drew w7)
  (hb8:Bk w8 g2 199 #[.int .u8 x.k,.slice A x.args.len c1,.slice B x.of_.len pc1,.int .i64 x.at_,.int .u8 y.k,.slice A2 y.args.len c2,.slice B2 y.of_.len pc2,.int .i64 y.at_])
  (hg8:w7.heap.size≤g2∧g2 < w8.heap.size) (hf8:Fr NoT w7 w8) (hbb:Bk w8 bx 199 #[.int .u8 x.k,.slice A x.args.len c1,.slice B x.of_.len pc1,.int .i64 x.at_])
  (hRR:∃f,R=chainF one (joinX first) signs f (joinX first k (hdT r).at_ x y) l2∧l2.length≤f) (hge:0≤k) (hkb:k≤5) (hf0:0≤first) (hf1:first≤20) (w9:World)
  (hw9:w9=((((w8.setCell ⟨bx,0,none⟩ (.int .u8 first)).setCell ⟨bx,1,none⟩ (.slice none 0 0)).setCell ⟨bx,2,none⟩ (.slice (some ⟨g2,0,none⟩) 2 2)).setCell ⟨bx,3,none⟩ (.int .i64 ((hdT r).at_ :Int)))):
  ChC C w bx d R one first signs w9 (joinX first k (hdT r).at_ x y) none 0 (some ⟨g2,0,none⟩) 2 l2:=by
 have hf9:Fr (fun b=>b=bx) w8 w9:=by rw[hw9];exact Fr.own (Fr.own (Fr.own (Fr.own (Fr.refl _ _) _ _) _ _) _ _) _ _
 have hbl:bx < wr.heap.size:=hch.box.lt
 have hs0:=hch.fr.size
 have hs5:=hf5.size
 have hs7:w5.heap.size≤w7.heap.size:=hf7.size
 have hs8:=hf8.size
 have hs9:=hf9.size
 have hb1:=hch.hbx
 have hT:∀b,C.T b→b=C.P:=fun _ h=>h
 have hfa:Fr (fun b=>b=C.P∨b=bx) wr w9:=
  (((hf5.drew.mono fun i _ h=>Or.inl (hT i h)).trans (hf7.mono fun i _ h=>Or.inl (hT i h))).trans hf8.any).trans (hf9.mono fun i _ h=>Or.inr h)
 have hfb:Fr (fun b=>b=bx) w7 w9:=hf8.any.trans hf9
 have hat:in64 ((hdT r).at_ :Int):=by
  obtain⟨j,cap,e,_⟩:=hch.pa.at_
  have:=hk.pos _ (List.mem_of_getElem? (drop_head e hch.pa.ne).1)
  unfold in64;omega
 obtain⟨x1,x3,Ax,cx,Bx,qx,ex,hsx,hox⟩:=hch.val
 obtain⟨y1,y3,Ay,cy,By,qy,ey,hsy,hoy⟩:=hv7
 simp only[cdV,Value.agg.injEq,Array.mk.injEq,List.cons.injEq,Value.slice.injEq,true_and,and_true]at ex ey
 obtain⟨⟨rfl,rfl⟩,rfl,rfl⟩:=ex
 obtain⟨⟨rfl,rfl⟩,rfl,rfl⟩:=ey
 refine⟨hRR,?_,?_,hch.hbx,?_,?_,?_⟩
 ·exact(hch.box0.fr hfa (fun e=>by
   rcases e with e|e<;>omega))
 ·rw[hw9]
  have:=(((hbb.set_ 0 (.int .u8 first)).set_ 1 (.slice none 0 0)).set_ 2 (.slice (some ⟨g2,0,none⟩) 2 2)).set_ 3 (.int .i64 ((hdT r).at_ :Int))
  have e:Bk ((((w8.setCell ⟨bx,0,none⟩ (.int .u8 first)).setCell ⟨bx,1,none⟩ (.slice none 0 0)).setCell ⟨bx,2,none⟩ (.slice (some ⟨g2,0,none⟩) 2 2)).setCell ⟨bx,3,none⟩ (.int .i64 ((hdT r).at_ :Int))) bx 199 #[.int .u8 first,.slice none 0 0,.slice (some ⟨g2,0,none⟩) 2 2,.int .i64 ((hdT r).at_ :Int)]:=by simpa using this
  exact e
 ·have hX:∀b,NewX (w.heap.size+1) bx wr b→(b < wr.heap.size∧¬(b=C.P∨b=bx))∧NewX (w.heap.size+1) bx w9 b:=fun b hb=>
   ⟨⟨hb.2.1,fun e=>by
    rcases e with e|e
    ·have:=hb.1
     omega
    ·exact hb.2.2 e⟩,hb.1,by have:=hb.2.1;omega,hb.2.2⟩
  have hY:∀b,New w5.drew.heap.size w7 b→(b < w7.heap.size∧¬b=bx)∧NewX (w.heap.size+1) bx w9 b:=fun b hb=>by
   have h1:w5.heap.size≤b:=hb.1
   have h2:b < w7.heap.size:=hb.2
   exact⟨⟨h2,by omega⟩,by omega,by omega,by omega⟩
  refine⟨by show in8 first;unfold in8;omega,hat,none,0,some ⟨g2,0,none⟩,2,rfl,⟨Nat.le_refl 0,sl0,fun h=>absurd h (by exact Nat.lt_irrefl 0)⟩,Nat.le_refl 2,sl2,fun _=>⟨g2,0,rfl,?_⟩⟩
  refine cdR_two (hb8.fr hf9 (fun e=>by omega)) ⟨by omega,by omega,by omega⟩ ⟨x1,x3⟩ ⟨y1,y3⟩ (hsx.imp fun _ _ h=>?_) (hox.imp fun _ _ h=>?_) (hsy.imp fun _ _ h=>?_) (hoy.imp fun _ _ h=>?_)
  ·exact ExR.more (fun b hb=>(hX b hb).2) (ExR.keep (hfa.same fun b hb=>(hX b hb).1) h)
  ·exact CdR.more (fun b hb=>(hX b hb).2) (CdR.keep (hfa.same fun b hb=>(hX b hb).1) h)
  ·exact ExR.more (fun b hb=>(hY b hb).2) (ExR.keep (hfb.same fun b hb=>(hY b hb).1) h)
  ·exact CdR.more (fun b hb=>(hY b hb).2) (CdR.keep (hfb.same fun b hb=>(hY b hb).1) h)
 ·refine hp7.fr hfb (fun e=>hbxP e.symm) (fun e=>?_) (fun i hi e=>?_)
  ·omega
  ·omega
 ·rw[hw9]
  have:=((hch.fr.trans hf5).drew.trans hf7).trans hf8.any
  exact Fr.high (Fr.high (Fr.high (Fr.high this (by omega) _ _) (by omega) _ _) (by omega) _ _) (by omega) _ _
set_option maxHeartbeats 1600000 in
theorem chainC_any (C:Pcx) (one:List Tk→PR Cn) (first:Int) (signs:List (List UInt8)) (g:Nat) (fst cap:Array Value) (bt b c:Nat) (l:List Tk) (d:Nat) (w:World) (hk:C.Ok) (h:PaAt C w l d) (hshr:Shr one)
  (hsg:∀s∈signs,s≠ []) (hsl:signs.length≤3) (hc:∀j,j < signs.length→w.cell? ⟨b,j,none⟩=some (.string ⟨(signs.getD j []).toArray⟩)) (hbl:b < w.heap.size) (hbP:b≠C.P)
  (hbt:Bk w bt 5 #[.int .u8 first]) (hbtP:bt≠C.P) (hf0:0≤first) (hf1:first≤20)
  (hent:Enters Tryz.prog g) (hone:∀W,Fr C.T w W→∀l',PaAt C W l' d→Calls Tryz.prog g (fst++cap) W (CdP C d (one l') W)):
  Calls Tryz.prog 294 #[pP C,.func (.func g) fst cap,.func (.func 292) #[] #[.pointer (some ⟨bt,0,none⟩)],.slice (some ⟨b,0,none⟩) signs.length c] w (CdP C d (chainP one (joinX first) signs l) w):=by
 obtain⟨R,hR⟩:∃R,R=chainP one (joinX first) signs l:=⟨_,rfl⟩
 rw[←hR]
 have HR:=Lib.hid hR
 have H0:=Lib.hid h
 have HL:=Lib.hid h.lts
 have HONE:=Lib.hid hone
 obtain⟨n,hn⟩:∃n,n=signs.length:=⟨_,rfl⟩
 have HC:=Lib.hid hc
 have HSG:=Lib.hid hsg
 have HN:=Lib.hid hn
 rw[←hn]at hsl ⊢
 unfold Enters at hent
 have h2:=h.alloc (.cells #[.int .u8 0,.slice none 0 0,.slice none 0 0,.int .i64 0] 199)
 have H2:=Lib.hid h2
 clear hR h hone hc hsg hn h2
 cases ho:one l with
 |err e a=>
  have hq:=HONE.out _ ((Fr.refl C.T w).alloc (.cells #[.int .u8 0,.slice none 0 0,.slice none 0 0,.int .i64 0] 199)) l H2.out
  rw[ho]at hq
  have hRe:R= .err e a:=by rw[HR.out];unfold chainP;rw[ho];rfl
  rw[hRe]
  unfold CdP at hq ⊢
  simp only at hq ⊢
  unfold wrongE pP at*
  have HQ:=Lib.hid hq
  clear hq ho hRe
  go_enter Tryz.func294,Tryz.ntmps294
  go_wp2_with fail
  try simp only[Array.append_empty]
  refine HQ.out.mono ?_
  rintro _ w2 ⟨rfl,hf⟩
  go_wp2_with fail
  exact⟨rfl,rfl,((Fr.refl _ _).alloc _).trans hf⟩
 |ok x l1=>
  have hq:=HONE.out _ ((Fr.refl C.T w).alloc (.cells #[.int .u8 0,.slice none 0 0,.slice none 0 0,.int .i64 0] 199)) l H2.out
  rw[ho]at hq
  have hRe:R=chainF one (joinX first) signs l1.length x l1:=by rw[HR.out];unfold chainP;rw[ho];rfl
  have HRE:=Lib.hid hRe
  unfold CdP at hq
  simp only at hq
  unfold pP at*
  have HQ:=Lib.hid hq
  clear hq ho hRe
  go_enter Tryz.func294,Tryz.ntmps294
  go_wp2_with fail
  try simp only[Array.append_empty]
  refine HQ.out.mono ?_
  rintro _ w2 ⟨v,rfl,hv,hpa,hf⟩
  obtain⟨A,c1,B,pc1,rfl⟩:=CdVS.parts hv
  have hch:ChC C w w2.heap.size d R one first signs (w2.alloc (.cells #[.int .u8 x.k,.slice A x.args.len c1,.slice B x.of_.len pc1,.int .i64 x.at_] 199)) x A c1 B pc1 l1:=by
   have hs:=hf.size
   rw[World.size_alloc]at hs
   refine⟨⟨_,HRE.out,Nat.le_refl _⟩,?_,Bk.new _ _ _,hs,?_,hpa.alloc _,(((Fr.refl _ _).alloc _).trans hf).alloc _⟩
   ·exact((Bk.new w _ _).fr hf (fun e=>by have e:w.heap.size=C.P:=e;have:=HL.out.1;omega)).alloc _
   ·refine CdVS.fr (T:=NoT) hv ((Fr.refl _ _).alloc _) (fun b hb=>⟨hb.2,id⟩) fun b hb=>?_
    have h1:=hb.1
    have h2:=hb.2
    rw[World.size_alloc]at h1
    exact⟨h1,by rw[World.size_alloc];omega,by omega⟩
  obtain⟨bx,hbx⟩:∃bx,bx=w2.heap.size:=⟨_,rfl⟩
  obtain⟨w3,hw3⟩:∃w3,w3=w2.alloc (.cells #[.int .u8 x.k,.slice A x.args.len c1,.slice B x.of_.len pc1,.int .i64 x.at_] 199):=⟨_,rfl⟩
  rw[←hbx,←hw3]at hch
  unfold cdV
  have HCH:=Lib.hid hch
  have HBX:=Lib.hid hbx
  have HW3:=Lib.hid hw3
  have hIs:∀W l',Fr C.T w W→PaAt C W l' d→Calls Tryz.prog 193 #[.pointer (some ⟨C.P,0,none⟩),.slice (some ⟨b,0,none⟩) n c] W fun e w'=>e= .returned (.int .i64 (isP signs l'))∧W=w':=fun W l' hF hP=>by
   have:=is_any C signs l' d b 0 c W hP (by rw[←HN.out];omega) (fun j hj=>by
    rw[Nat.zero_add]
    exact(hF.cell (p:=⟨b,j,none⟩) hbl hbP).trans (HC.out j hj))
   rw[←HN.out]at this
   exact this
  have HIS:=Lib.hid hIs
  clear hv hpa hf hch hbx hw3 hIs
  go_wp2_with fail
  rw[←HW3.out]
  refine(HIS.out _ _ HCH.out.fr HCH.out.pa).mono ?_
  rintro _ w4 ⟨rfl,rfl⟩
  rw[←HBX.out]
  go_wp2_with fail
  go_loopw [10] (fun v wr=>∃(x:Cn) (A:Option Addr) (c1:Nat) (B:Option Addr) (pc1:Nat) (r:List Tk),v= .int .i64 (isP signs r)∧Hid (ChC C w bx d R one first signs wr x A c1 B pc1 r)) (fun _ wr=>lenP C wr)
  case atStart=>exact⟨x,A,c1,B,pc1,l1,rfl,HCH⟩
  case round=>
   obtain⟨x,A,c1,B,pc1,r,rfl,hch⟩:=hrel
   obtain⟨k,hk0⟩:∃k,k=isP signs r:=⟨_,rfl⟩
   rw[←hk0]
   have b1:=hch.out.box.cell 0
   have b2:=hch.out.box.cell 1
   have b3:=hch.out.box.cell 2
   have b4:=hch.out.box.cell 3
   have b0:=hch.out.box0.cell 0
   simp only[getsL]at b1 b2 b3 b4
   have HK0:=Lib.hid hk0
   clear hk0
   by_cases hneg:k < 0
   ·clear b0
    have g0:=hch.out.box0.frozen 0
    have g1:=hch.out.box0.frozen 1
    have g2:=hch.out.box0.frozen 2
    have g3:=hch.out.box0.frozen 3
    have q0:=hch.out.box0.cell 0
    have q1:=hch.out.box0.cell 1
    have q2:=hch.out.box0.cell 2
    have q3:=hch.out.box0.cell 3
    have hlt0:=hch.out.box0.lt
    simp only[getsL]at q0 q1 q2 q3
    have hne:¬0≤k:=by omega
    have hRR:R= .ok x r:=by
     obtain⟨f,hf,_⟩:=hch.out.eq
     rw[hf]
     cases f with
     |zero=>rfl
     |succ f=>simp only[chainF];rw[if_pos (by rw[←HK0.out];exact hneg)]
    have HRR:=Lib.hid hRR
    clear hRR
    go_wp2_with fail
    refine bodyPost_ret (v:=cdV x.k A x.args.len c1 B x.of_.len pc1 x.at_) (by simp[results,Tryz.results294,go_sem,cdV,q0,q1,q2,q3,hlt0]) rfl ?_
    rw[HRR.out]
    unfold CdP
    simp only
    have hfr:Fr (fun b=>b=w.heap.size) wr ((((wr.setCell ⟨w.heap.size,0,none⟩ (.int .u8 x.k)).setCell ⟨w.heap.size,1,none⟩ (.slice A x.args.len c1)).setCell ⟨w.heap.size,2,none⟩ (.slice B x.of_.len pc1)).setCell ⟨w.heap.size,3,none⟩ (.int .i64 x.at_)):=by
     exact Fr.own (Fr.own (Fr.own (Fr.own (Fr.refl _ _) _ _) _ _) _ _) _ _
    refine⟨_,rfl,CdVS.fr hch.out.val hfr (fun b hb=>⟨hb.2.1,fun e=>by have:=hb.1;omega⟩) (fun b hb=>⟨by have:=hb.1;omega,by have:=hb.2.1;have:=hfr.size;omega⟩),?_,?_⟩
    ·refine hch.out.pa.fr hfr (fun e=>?_) (fun e=>?_) (fun i hi e=>?_)<;>have:=HL.out<;>omega
    ·exact Fr.high (Fr.high (Fr.high (Fr.high hch.out.fr (Nat.le_refl _) _ _) (Nat.le_refl _) _ _) (Nat.le_refl _) _ _) (Nat.le_refl _) _ _
   ·have hge:0≤k:=by omega
    have htx:=isP_text (signs:=signs) (l:=r) (by rw[←HK0.out];exact hge)
    have hnz:=HSG.out _ htx.1
    have hps:=pass_any C r d wr hk hch.out.pa (fun ht=>hnz ht.1)
    unfold PassP tkV pP at hps
    have HPS:=Lib.hid hps
    have hkb:k≤5:=by
     have:=isP_le signs r
     rw[←HK0.out,←HN.out]at this
     omega
    clear hneg hps htx hnz
    go_wp2_with fail
    refine HPS.out.mono ?_
    rintro _ w5 ⟨rfl,hpa,hf⟩
    have hbxP:bx≠C.P:=by have:=hch.out.hbx;have:=HL.out.1;omega
    have hbk5:=hch.out.box.fr hf hbxP
    have HP5:=Lib.hid hpa
    have HF5:=Lib.hid (hch.out.fr.trans hf)
    have HFx:=Lib.hid hf
    have y1:=hbk5.cell 0
    have y2:=hbk5.cell 1
    have y3:=hbk5.cell 2
    have y4:=hbk5.cell 3
    simp only[getsL]at y1 y2 y3 y4
    have HBK5:=Lib.hid hbk5
    have hone:=fun W hW=>HONE.out W hW r.tail
    clear hpa hf hbk5 b0 b1 b2 b3 b4
    go_wp2_with fail
    cases ho:one r.tail with
    |err e a=>
     have hq:=hone _ HF5.out.drew (HP5.out.fr (T:=NoT) (Fr.drew (Fr.refl _ _)) id id (fun _ _=>id))
     rw[ho]at hq
     unfold CdP at hq
     simp only at hq
     unfold wrongE at hq
     have HQQ:=Lib.hid hq
     have hRR:R= .err e a:=by
      obtain⟨f,hf,hfl⟩:=hch.out.eq
      have hrl:0 < r.length:=List.length_pos_iff.2 hch.out.pa.ne
      obtain⟨f,rfl⟩:∃f',f=f'+1:=⟨f - 1,by omega⟩
      rw[hf]
      simp only[chainF]
      rw[if_neg (by rw[←HK0.out];omega),ho]
      rfl
     have HRR:=Lib.hid hRR
     clear hq hRR ho hone
     go_region_dies
     all_goals
      refine HQQ.out.mono ?_
      rintro _ w7 ⟨rfl,hf7⟩
      go_wp2_with fail
      exact⟨rfl,by rw[HRR.out];exact⟨rfl,HF5.out.drew.trans hf7⟩⟩
    |ok y l2=>
     have hq:=hone _ HF5.out.drew (HP5.out.fr (T:=NoT) (Fr.drew (Fr.refl _ _)) id id (fun _ _=>id))
     rw[ho]at hq
     unfold CdP at hq
     simp only at hq
     have HQQ:=Lib.hid hq
     have hRR:∃f,R=chainF one (joinX first) signs f (joinX first k (hdT r).at_ x y) l2∧l2.length≤f:=by
      obtain⟨f,hf,hfl⟩:=hch.out.eq
      have hrl:0 < r.length:=List.length_pos_iff.2 hch.out.pa.ne
      obtain⟨f,rfl⟩:∃f',f=f'+1:=⟨f - 1,by omega⟩
      refine⟨f,?_,?_⟩
      ·rw[hf]
       simp only[chainF]
       rw[if_neg (by rw[←HK0.out];omega),ho,←HK0.out]
       rfl
      ·have:=hshr _ _ _ ho
       rw[List.length_tail]at this
       omega
     have HRR:=Lib.hid hRR
     have HS:=Lib.hid (hshr _ _ _ ho)
     clear hq hRR ho hone
     go_region_with
      (first
       |(go_at_call 292
         with_reducible refine(join1_any first k (hdT r).at_ bt x.k x.at_ y.k y.at_ A B A2 B2 x.args.len y.args.len c1 c2 x.of_.len y.of_.len pc1 pc2 w7 HBT7.out.1 HBT7.out.2).mono ?_
         rintro _ w8 ⟨g2,rfl,hb8,hg8,hg8',hf8⟩
         have hbb:=HB7.out.fr0 hf8
         have q1:=hbb.cell 0
         have q2:=hbb.cell 1
         have q3:=hbb.cell 2
         have q4:=hbb.cell 3
         have f1:=hbb.frozen 0
         have f2:=hbb.frozen 1
         have f3:=hbb.frozen 2
         have f4:=hbb.frozen 3
         simp only[getsL]at q1 q2 q3 q4
         have HB8:=Lib.hid hb8
         have HG8:=Lib.hid (show w7.heap.size≤g2∧g2 < w8.heap.size from⟨hg8,hg8'⟩)
         have HF8:=Lib.hid hf8
         have HBB:=Lib.hid hbb
         clear hb8 hg8 hg8' hf8 hbb z1 z2 z3 z4
         skip)
       |(with_reducible refine HQQ.out.mono ?_
         rintro _ w7 ⟨v7,rfl,hv7,hpa7,hf7⟩
         obtain⟨A2,c2,B2,pc2,rfl⟩:=CdVS.parts hv7
         have hb7:=(HBK5.out.fr (Fr.drew (Fr.refl NoT _)) id).fr hf7 hbxP
         have z1:=hb7.cell 0
         have z2:=hb7.cell 1
         have z3:=hb7.cell 2
         have z4:=hb7.cell 3
         simp only[getsL]at z1 z2 z3 z4
         have HB7:=Lib.hid hb7
         have HV7:=Lib.hid hv7
         have HP7:=Lib.hid hpa7
         have HF7:=Lib.hid hf7
         have hbt7:=((hbt.fr HF5.out hbtP).fr (Fr.drew (Fr.refl NoT _)) id).fr hf7 hbtP
         have HBT7:=Lib.hid (show bt < w7.heap.size∧w7.cell? ⟨bt,0,none⟩=some (.int .u8 first)from⟨hbt7.lt,hbt7.cell 0⟩)
         clear hb7 hv7 hpa7 hf7 hbt7
         unfold cdV))
     all_goals(go_wp2_with fail)
     all_goals
      obtain⟨w9,hw9⟩:∃w9,w9=((((w8.setCell ⟨bx,0,none⟩ (.int .u8 first)).setCell ⟨bx,1,none⟩ (.slice none 0 0)).setCell ⟨bx,2,none⟩ (.slice (some ⟨g2,0,none⟩) 2 2)).setCell ⟨bx,3,none⟩ (.int .i64 ((hdT r).at_ :Int))):=⟨_,rfl⟩
      have hch9:=chC_step hk HL.out hch.out hbxP HFx.out HV7.out HP7.out HF7.out HB8.out HG8.out HF8.out HBB.out HRR.out hge hkb hf0 hf1 w9 hw9
      rw[←hw9]
      have HCH9:=Lib.hid hch9
      have HL9:=Lib.hid (show lenP C w9 < lenP C wr from by
       rw[hch9.pa.lenP,hch.out.pa.lenP]
       have h1:=HS.out
       have h2:=List.length_pos_iff.2 hch.out.pa.ne
       rw[List.length_tail]at h1
       omega)
      clear hw9 hch9 q1 q2 q3 q4 f1 f2 f3 f4
      refine(HIS.out _ l2 HCH9.out.fr HCH9.out.pa).mono ?_
      rintro _ w10 ⟨rfl,rfl⟩
      go_wp2_with fail
      go_roundw
      case rel=>exact⟨_,_,_,_,_,l2,rfl,HCH9⟩
      case measure=>exact HL9.out
end Go.Proofs.YtobegfbdedgmpaaGreatDoor
