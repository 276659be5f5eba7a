/-
  parse: chain, of expressions.
-/
import Derived.Test.YtmfioehnhjjgpaaGreatDoorJnPa
import Derived.Deep.RegionHeld2
set_option linter.unusedVariables false
set_option linter.unusedSimpArgs false
set_option maxHeartbeats 3200000
set_option maxRecDepth 100000
namespace Go.Proofs.YtmfioehnhjjgpaaGreatDoor
open Go.RowKit Go.Shelf

theorem zdX (x:ByteArray):∀(zs:List ByteArray) (i:Nat),Lib.idxFromS zs x i≤(i+zs.length:Nat)
 | [],i=>by simp[Lib.idxFromS]<;>omega
 |z::zs,i=>by
  have:=zdX x zs (i+1)
  simp only[Lib.idxFromS]
  split
  ·simp;omega
  ·simp at this ⊢;omega
theorem znW (signs:List (List UInt8)) (l:List Tk):isP signs l≤signs.length:=by
 unfold isP
 split
 ·omega
 ·have:=zdX (txt (hdT l)) (signs.map fun s=>(⟨s.toArray⟩:ByteArray)) 0
  simpa[Lib.idxOfS]using this
def lenP (C:Pcx) (w:World):Nat:=match w.cell? ⟨C.P,0,none⟩with|some (.slice _ m _)=>m|_=>0
theorem PaAt.lenP {C:Pcx} {w:World} {l:List Tk} {d:Nat} (h:PaAt C w l d):lenP C w=l.length:=by
 obtain⟨j,cap,m,hm0,hm1,hl,hmc,hcm,hb,p0,_⟩:=h.cells
 unfold Go.Proofs.YtmfioehnhjjgpaaGreatDoor.lenP
 rw[p0,hm0]
def NewX (L bx:Nat) (w:World):Nat→Prop:=fun b=>L≤b∧b < w.heap.size∧b≠bx
structure ChE (C:Pcx) (w:World) (bx d:Nat) (R:PR Ex) (one:List Tk→PR Ex) (first:Int) (signs:List (List UInt8)) (wr:World) (x:Ex) (A:Option Addr) (c:Nat) (l:List Tk):Prop where
 eq:∃f,R=za8 one (twoX first) signs f x l∧l.length≤f
 box0:Bk wr w.heap.size 133 #[.int .u8 0,.string noB,.int .i64 0,.slice none 0 0,.int .i64 0]
 box:Bk wr bx 133 #[.int .u8 x.k,.string x.nm,.int .i64 x.n,.slice A x.args.len c,.int .i64 x.at_]
 hbx:w.heap.size+1≤bx
 val:ExVS wr (NewX (w.heap.size+1) bx wr) (exV x.k x.nm x.n A x.args.len c x.at_) x
 pa:PaAt C wr l d
 fr:Fr C.T w wr
theorem ExVS.parts {w:World} {S:Nat→Prop} {v:Value} {x:Ex} (h:ExVS w S v x):∃A c,v=exV x.k x.nm x.n A x.args.len c x.at_:=by
 obtain⟨_,_,_,A,c,e,_⟩:=h
 exact⟨A,c,e⟩

theorem zmx {C:Pcx} {w wr w5 w7 w8:World} {bx d:Nat} {R:PR Ex} {one:List Tk→PR Ex} {first:Int} {signs:List (List UInt8)} {x y:Ex} {A A2:Option Addr} {c1 c2:Nat} {r l2:List Tk} {k:Int} {g2:Nat}
  (hk:C.Ok) (hL:C.P < w.heap.size∧C.TB < w.heap.size∧C.W0.heap.size≤w.heap.size) (hch:ChE C w bx d R one first signs wr x A c1 r) (hbxP:bx≠C.P) (hf5:Fr C.T wr w5) (hv7:ExV w7 w5.drew.heap.size (exV y.k y.nm y.n A2 y.args.len c2 y.at_) y) (hp7:PaAt C w7 l2 d) (hf7:Fr C.T w5.drew w7)
  (hb8:Bk w8 g2 133 #[.int .u8 x.k,.string x.nm,.int .i64 x.n,.slice A x.args.len c1,.int .i64 x.at_,.int .u8 y.k,.string y.nm,.int .i64 y.n,.slice A2 y.args.len c2,.int .i64 y.at_])
  (hg8:w7.heap.size≤g2∧g2 < w8.heap.size) (hf8:Fr NoT w7 w8) (hbb:Bk w8 bx 133 #[.int .u8 x.k,.string x.nm,.int .i64 x.n,.slice A x.args.len c1,.int .i64 x.at_])
  (hRR:∃f,R=za8 one (twoX first) signs f (twoX first k (hdT r).at_ x y) l2∧l2.length≤f) (hge:0≤k) (hkb:k≤5) (hf0:0≤first) (hf1:first≤20) (w9:World)
  (hw9:w9=(((((w8.setCell ⟨bx,0,none⟩ (.int .u8 (first+k))).setCell ⟨bx,1,none⟩ (.string noB)).setCell ⟨bx,2,none⟩ (.int .i64 0)).setCell ⟨bx,3,none⟩ (.slice (some ⟨g2,0,none⟩) 2 2)).setCell ⟨bx,4,none⟩ (.int .i64 ((hdT r).at_ :Int)))):
  ChE C w bx d R one first signs w9 (twoX first k (hdT r).at_ x y) (some ⟨g2,0,none⟩) 2 l2:=by
 have hf9:Fr (fun b=>b=bx) w8 w9:=by rw[hw9];exact Fr.own (Fr.own (Fr.own (Fr.own (Fr.own (Fr.refl _ _) _ _) _ _) _ _) _ _) _ _
 have hbl:bx < wr.heap.size:=hch.box.lt
 have hs0:=hch.fr.size
 have hs5:=hf5.size
 have hs7:w5.heap.size≤w7.heap.size:=hf7.size
 have hs8:=hf8.size
 have hs9:=hf9.size
 have hb1:=hch.hbx
 have hT:∀b,C.T b→b=C.P:=fun _ h=>h
 have hfa:Fr (fun b=>b=C.P∨b=bx) wr w9:=
  (((hf5.drew.mono fun i _ h=>Or.inl (hT i h)).trans (hf7.mono fun i _ h=>Or.inl (hT i h))).trans hf8.any).trans (hf9.mono fun i _ h=>Or.inr h)
 have hfb:Fr (fun b=>b=bx) w7 w9:=hf8.any.trans hf9
 have hat:in64 ((hdT r).at_ :Int):=by
  obtain⟨j,cap,e,_⟩:=hch.pa.at_
  have:=hk.pos _ (List.mem_of_getElem? (zaH e hch.pa.ne).1)
  unfold in64;omega
 obtain⟨x1,x2,x3,Ax,cx,ex,hsx⟩:=hch.val
 obtain⟨y1,y2,y3,Ay,cy,ey,hsy⟩:=hv7
 simp only[exV,Value.agg.injEq,Array.mk.injEq,List.cons.injEq,Value.slice.injEq,true_and,and_true]at ex ey
 obtain⟨rfl,rfl⟩:=ex
 obtain⟨rfl,rfl⟩:=ey
 refine⟨hRR,?_,?_,hch.hbx,?_,?_,?_⟩
 ·exact(hch.box0.fr hfa (fun e=>by
   rcases e with e|e<;>omega))
 ·rw[hw9]
  have:=((((hbb.set_ 0 (.int .u8 (first+k))).set_ 1 (.string noB)).set_ 2 (.int .i64 0)).set_ 3 (.slice (some ⟨g2,0,none⟩) 2 2)).set_ 4 (.int .i64 ((hdT r).at_ :Int))
  have e:Bk (((((w8.setCell ⟨bx,0,none⟩ (.int .u8 (first+k))).setCell ⟨bx,1,none⟩ (.string noB)).setCell ⟨bx,2,none⟩ (.int .i64 0)).setCell ⟨bx,3,none⟩ (.slice (some ⟨g2,0,none⟩) 2 2)).setCell ⟨bx,4,none⟩ (.int .i64 ((hdT r).at_ :Int))) bx 133 #[.int .u8 (first+k),.string noB,.int .i64 0,.slice (some ⟨g2,0,none⟩) 2 2,.int .i64 ((hdT r).at_ :Int)]:=by simpa using this
  exact e
 ·refine⟨by show in8 (first+k);unfold in8;omega,by show in64 0;unfold in64;omega,hat,some ⟨g2,0,none⟩,2,rfl,lrq 2,sl2,fun _=>⟨g2,0,rfl,?_⟩⟩
  refine zka (hb8.fr hf9 (fun e=>by omega)) ⟨by omega,by omega,by omega⟩ ⟨x1,x2,x3⟩ ⟨y1,y2,y3⟩ (hsx.imp fun _ _ h=>?_) (hsy.imp fun _ _ h=>?_)
  ·refine ExR.more (fun b hb=>⟨hb.1,by have:=hb.2.1;omega,hb.2.2⟩) (ExR.keep (hfa.same fun b hb=>⟨hb.2.1,fun e=>?_⟩) h)
   rcases e with e|e
   ·have:=hb.1
    omega
   ·exact hb.2.2 e
  ·refine ExR.more (fun b hb=>⟨?_,?_,?_⟩) (ExR.keep (hfb.same fun b hb=>⟨hb.2,fun e=>?_⟩) h)
   all_goals
    have h1:w5.heap.size≤b:=hb.1
    have h2:b < w7.heap.size:=hb.2
    first|omega|(show b < w9.heap.size;omega)|(show w.heap.size+1≤b;omega)
 ·refine hp7.fr hfb (fun e=>hbxP e.symm) (fun e=>?_) (fun i hi e=>?_)
  ·omega
  ·omega
 ·rw[hw9]
  have:=((hch.fr.trans hf5).drew.trans hf7).trans hf8.any
  exact Fr.high (Fr.high (Fr.high (Fr.high (Fr.high this (by omega) _ _) (by omega) _ _) (by omega) _ _) (by omega) _ _) (by omega) _ _

theorem zoR {C:Pcx} {w WA w7 w9:World} {d rb:Nat} {x:Ex} {l:List Tk} {A:Option Addr} {c:Nat} (hL:C.P < w.heap.size∧C.TB < w.heap.size∧C.W0.heap.size≤w.heap.size) (hA:Fr NoT w WA) (hr:w.heap.size≤rb) (hr2:rb < WA.heap.size)
  (hv:ExV w7 WA.heap.size (exV x.k x.nm x.n A x.args.len c x.at_) x) (hp:PaAt C w7 l d) (hf:Fr C.T WA w7)
  (h9:w9=((((w7.setCell ⟨rb,0,none⟩ (.int .u8 x.k)).setCell ⟨rb,1,none⟩ (.string x.nm)).setCell ⟨rb,2,none⟩ (.int .i64 x.n)).setCell ⟨rb,3,none⟩ (.slice A x.args.len c)).setCell ⟨rb,4,none⟩ (.int .i64 x.at_)):
  ExP C d (.ok x l) w (.returned (exV x.k x.nm x.n A x.args.len c x.at_)) w9:=by
 have hf9:Fr (fun b=>b=rb) w7 w9:=by rw[h9];exact Fr.own (Fr.own (Fr.own (Fr.own (Fr.own (Fr.refl _ _) _ _) _ _) _ _) _ _) _ _
 have h1:=hA.size
 unfold ExP
 refine⟨_,rfl,(ExV.fr hv hf9 fun b h2 h3 e=>?_).low (by omega),hp.fr hf9 (fun e=>?_) (fun e=>?_) (fun i hi e=>?_),?_⟩
 ·have e:b=rb:=e
  omega
 ·have e:C.P=rb:=e
  omega
 ·have e:C.TB=rb:=e
  omega
 ·have e:i=rb:=e
  omega
 ·rw[h9]
  have:=hA.any.trans hf
  exact Fr.high (Fr.high (Fr.high (Fr.high (Fr.high this (by omega) _ _) (by omega) _ _) (by omega) _ _) (by omega) _ _) (by omega) _ _
def strA (signs:List (List UInt8)):Array Value:=(signs.map fun s=>Value.string ⟨s.toArray⟩).toArray
theorem ordA (w:World) (cs ss:Array Value) (W:World) (hW:W=((w.alloc (.cells cs 5)).alloc (.cells ss 9)).drew):Bk W w.heap.size 5 cs∧Bk W (w.heap.size+1) 9 ss∧Fr NoT w W:=by
 subst hW
 exact⟨(Bk.new w _ _).alloc _,Bk.new_at _ _ _ (by simp),Fr.drew (((Fr.refl NoT w).alloc _).alloc _)⟩
theorem ordB (w:World) (cs ss:Array Value) (W:World) (hW:W=((w.alloc (.cells ss 9)).alloc (.cells cs 5)).drew):Bk W (w.heap.size+1) 5 cs∧Bk W w.heap.size 9 ss∧Fr NoT w W:=by
 subst hW
 exact⟨Bk.new_at _ _ _ (by simp),(Bk.new w _ _).alloc _,Fr.drew (((Fr.refl NoT w).alloc _).alloc _)⟩

def PT (C:Pcx) (rb:Nat):Nat→Prop:=fun b=>b=C.P∨b=rb
theorem PT.l {C:Pcx} {rb:Nat} {W w':World} (h:Fr C.T W w'):Fr (PT C rb) W w':=h.mono fun i _ h=>Or.inl h
theorem bk5 {w:World} {rb:Nat} {a b c d e:Value} {A B D E F:Value} (h:Bk w rb 133 #[a,b,c,d,e]):
  Bk (((((w.setCell ⟨rb,0,none⟩ A).setCell ⟨rb,1,none⟩ B).setCell ⟨rb,2,none⟩ D).setCell ⟨rb,3,none⟩ E).setCell ⟨rb,4,none⟩ F) rb 133 #[A,B,D,E,F]:=by
 have:=((((h.set_ 0 A).set_ 1 B).set_ 2 D).set_ 3 E).set_ 4 F
 simpa using this

theorem zdc {C:Pcx} (hk:C.Ok) {w:World} {l:List Tk} {d:Nat} (h:PaAt C w l d):in64 ((hdT l).at_ :Int):=by
 obtain⟨j,cap,e,_⟩:=h.at_
 have:=hk.pos _ (List.mem_of_getElem? (zaH e h.ne).1)
 unfold in64;omega
theorem zeH (C:Pcx) (a:Int) (w w1:World) (hw:w1=((w.alloc (.cells #[.pointer (some ⟨C.P,0,none⟩)] 164)).alloc (.cells #[.int .u8 0,.string ⟨#[]⟩,.int .i64 0,.slice none 0 0,.int .i64 0] 133)).alloc (.cells #[.int .i64 a] 3)):
  Fr NoT w w1∧w1.heap.size=w.heap.size+3∧Bk w1 w.heap.size 164 #[.pointer (some ⟨C.P,0,none⟩)]∧Bk w1 (w.heap.size+1) 133 #[.int .u8 0,.string ⟨#[]⟩,.int .i64 0,.slice none 0 0,.int .i64 0]∧Bk w1 (w.heap.size+2) 3 #[.int .i64 a]:=by
 subst hw
 exact⟨(((Fr.refl _ _).alloc _).alloc _).alloc _,by simp,((Bk.new _ _ _).alloc _).alloc _,(Bk.new_at _ _ _ (by simp)).alloc _,Bk.new_at _ _ _ (by simp)⟩

theorem zhv {n:Nat} {l:List Tk} (h0:mayB [45] l=false) (h1:mayB [40] l=false) (hn:zaY l=false):zdB n l=(zbV l).then fun v r=> .ok ⟨1,noB,v,.nil,(hdT l).at_⟩ r:=by
 cases n<;>(unfold zdB;rw[if_neg (by rw[h0];decide),if_neg (by rw[h1];decide),if_neg (by rw[hn];decide)])
theorem zhw {n:Nat} {l:List Tk} (h0:mayB [45] l=false) (h1:mayB [40] l=false) (hn:zaY l=true) (hb:mayB [91] l.tail=false):zdB n l= .ok ⟨2,txt (hdT l),0,.nil,(hdT l).at_⟩ l.tail:=by
 cases n<;>(unfold zdB;rw[if_neg (by rw[h0];decide),if_neg (by rw[h1];decide),if_pos hn,if_neg (by rw[hb];decide)])
theorem zi3 (C:Pcx) (l:List Tk) (d:Nat) (w:World) (hk:C.Ok) (h:PaAt C w l d):Calls Tryz.prog 167 #[.pointer (some ⟨C.P,0,none⟩)] w fun e w'=>
  ((hdT l).kind =2∧e= .returned (.int .i64 (decV (hdT l).text))∧PaAt C w' l.tail d∧Fr C.T w w')∨((hdT l).kind ≠2∧e= .panicked [{v:= .iface 163 (.agg #[.int .i64 90,.int .i64 (hdT l).at_]),recovered:=false}]∧Fr C.T w w'):=by
 by_cases hn:(hdT l).kind =2
 ·exact(zi2 C l d w hk h hn).mono fun e w' h=> .inl ⟨hn,h⟩
 ·exact(zj8 C l d w h hn).mono fun e w' h=> .inr ⟨hn,h⟩
theorem zmy {C:Pcx} (hk:C.Ok) {w:World} {l:List Tk} {d:Nat} (h:PaAt C w l d) (hn:(hdT l).kind =2):in64 (decV (hdT l).text :Int):=by
 obtain⟨j,cap,e,_⟩:=h.at_
 have hmem:=List.mem_of_getElem? (zaH e h.ne).1
 have hnum:=zgd (t:=(hdT l).text) (n:=(hdT l).text.length) (by
  rcases hk.toks _ hmem with h1|h1
  ·rw[h1,hn]
  ·rw[h1.2]at hn;simp at hn) rfl
 have:=hnum.2.2
 unfold in64;omega
theorem zia {C:Pcx} {w w7:World} {rb d:Nat} {k n a:Int} {nm:ByteArray} {r:List Tk} {q0 q1 q2 q3 q4:Value} (hL:C.P < w.heap.size∧C.TB < w.heap.size∧C.W0.heap.size≤w.heap.size) (h8:in8 k) (hn:in64 n) (hat:in64 a) (hrb:w.heap.size≤rb)
  (hb:Bk w7 rb 133 #[q0,q1,q2,q3,q4]) (hp:PaAt C w7 r d) (hf:Fr C.T w w7) (w9:World)
  (h9:w9=(((((w7.setCell ⟨rb,0,none⟩ (.int .u8 k)).setCell ⟨rb,1,none⟩ (.string nm)).setCell ⟨rb,2,none⟩ (.int .i64 n)).setCell ⟨rb,3,none⟩ (.slice none 0 0)).setCell ⟨rb,4,none⟩ (.int .i64 a))):
  Bk w9 rb 133 #[.int .u8 k,.string nm,.int .i64 n,.slice none 0 0,.int .i64 a]∧ExV w9 w.heap.size (exV k nm n none 0 0 a) ⟨k,nm,n,.nil,a⟩∧PaAt C w9 r d∧Fr C.T w w9:=by
 have hf9:Fr (fun b=>b=rb) w7 w9:=by rw[h9];exact Fr.own (Fr.own (Fr.own (Fr.own (Fr.own (Fr.refl _ _) _ _) _ _) _ _) _ _) _ _
 refine⟨by rw[h9];exact bk5 hb,⟨h8,hn,hat,none,0,rfl,lrq 0,sl0,fun h=>absurd h (by simp[Exs.len])⟩,hp.fr hf9 (fun e=>?_) (fun e=>?_) (fun i hi e=>?_),?_⟩
 ·have e:C.P=rb:=e
  omega
 ·have e:C.TB=rb:=e
  omega
 ·have e:i=rb:=e
  omega
 ·rw[h9]
  exact Fr.high (Fr.high (Fr.high (Fr.high (Fr.high hf hrb _ _) hrb _ _) hrb _ _) hrb _ _) hrb _ _

theorem zmz (C:Pcx) (n:Nat) (l:List Tk) (d:Nat) (w:World) (hk:C.Ok) (h:PaAt C w l d) (hn0:mayB [45] l=false) (hn1:mayB [40] l=false) (hnm:zaY l=false):
  Calls Tryz.prog 219 #[.pointer (some ⟨C.P,0,none⟩)] w (ExP C d (zdB n l) w):=by
 rw[zhv hn0 hn1 hnm]
 have hL:=h.lts
 have hat:=zdc hk h
 have hnumr:=fun hn=>zmy hk h (hn:=hn)
 obtain⟨j,cap,m,hm0,hm1,hl,hmc,hcm,hb,p0,p1,f0,f1,t0,t1,t2,ltP,ltT⟩:=h.cells
 have hm2:m≤9223372036854775807:=by omega
 have hm3:(0:Int) < (m:Int):=by omega
 obtain⟨a,ha⟩:∃a:Int,a=(hdT l).at_ :=⟨_,rfl⟩
 rw[←ha]at t2 hat ⊢
 obtain⟨w1,hw1⟩:=nmq (((w.alloc (.cells #[.pointer (some ⟨C.P,0,none⟩)] 164)).alloc (.cells #[.int .u8 0,.string ⟨#[]⟩,.int .i64 0,.slice none 0 0,.int .i64 0] 133)).alloc (.cells #[.int .i64 a] 3))
 obtain⟨hf1,hz1,hpx,hbx,hax⟩:=zeH C a w w1 hw1
 have h1:=h.fr hf1 id id fun _ _=>id
 have h2:=h1.alloc (.cells #[.string ⟨#[45]⟩] 9)
 have h3:=h2.alloc (.cells #[.string ⟨#[40]⟩] 9)
 have hi0:=zeF C [45] l d w1.heap.size _ h2 hn0 (by simp)
 have hi1:=zeF C [40] l d (w1.heap.size+1) _ h3 hn1 (by simp)
 have hf3:Fr NoT w1 ((w1.alloc (.cells #[.string ⟨#[45]⟩] 9)).alloc (.cells #[.string ⟨#[40]⟩] 9)):=((Fr.refl _ _).alloc _).alloc _
 have hnd:=zcK C l d _ hk h3
 rw[hnm]at hnd
 unfold zi1 at hnd
 have hnb:=fun W hW=>zi3 C l d W hk hW
 unfold pP at hi0 hi1 hnd
 rw[hz1]at hi0 hi1
 have HW1:=hdq hw1
 have HF3:=hdq (hf1.trans hf3)
 have HPX:=hdq (hpx.fr0 hf3)
 have HAX:=hdq (hax.fr0 hf3)
 have HBX:=hdq (hbx.fr0 hf3)
 rw[hw1]at hi0 hi1 hnd HF3 HPX HAX HBX
 have HI0:=hdq hi0
 have HI1:=hdq hi1
 have HND:=hdq hnd
 have HNB:=hdq hnb
 have HL:=hdq hL
 have HNR:=hdq hnumr
 have HA:=hdq ha
 obtain⟨Rl,hRl⟩:=nmq (zbV l)
 rw[←hRl]
 have HRL:=hdq hRl
 clear hi0 hi1 hnd hnb hL hnumr ha hRl hw1 hf1 hz1 hpx hbx hax h1 h2 h3 hf3 h hk hb hl hm0 hn0 hn1 hnm
 go_enter Tryz.func219,Tryz.ntmps219
 go_wp2_with fail
 refine HI0.out.mono ?_
 rintro _ wq0 ⟨rr0,hrr0,rfl,rfl⟩
 go_wp2_with fail
 refine HI1.out.mono ?_
 rintro _ wq1 ⟨rr1,hrr1,rfl,rfl⟩
 go_wp2_with fail
 refine HND.out.mono ?_
 rintro _ w4 ⟨rfl,hp4,hf4⟩
 have hpb4:=HPX.out.fr hf4 (fun e=>by have e:w.heap.size=C.P:=e;have:=HL.out;omega)
 have hab4:=HAX.out.fr hf4 (fun e=>by have e:w.heap.size+2=C.P:=e;have:=HL.out;omega)
 have hbb4:=HBX.out.fr hf4 (fun e=>by have e:w.heap.size+1=C.P:=e;have:=HL.out;omega)
 have hp0:=hpb4.cell 0
 have ha0:=hab4.cell 0
 simp only[List.getElem?_toArray,List.getElem?_cons_zero]at hp0 ha0
 have hpl:=hpb4.lt
 have hal:=hab4.lt
 have HP4:=hdq (hp4.fr (T:=NoT) (Fr.drew (Fr.refl _ _)) id id fun _ _=>id)
 have HF4:=hdq (HF3.out.any.trans hf4)
 have HPB:=hdq hpb4
 have HAB:=hdq hab4
 have HBB:=hdq hbb4
 clear hp4 hf4 hpb4 hab4 hbb4
 go_wp2_with fail
 go_region_held2 (fun W'=>W'.cell? ⟨w.heap.size,0,none⟩=some (.pointer (some ⟨C.P,0,none⟩))∧W'.cell? ⟨w.heap.size+1+1,0,none⟩=some (.int .i64 a))
  (first
   |(refine⟨?_,?_⟩<;>with_reducible assumption)
   |(with_reducible refine⟨(Fr.cell (T:=fun b=>b=w.heap.size+1) (w:=w7) (Fr.own (Fr.own (Fr.own (Fr.own (Fr.own (Fr.refl _ _) _ _) _ _) _ _) _ _) _ _) hpl7 hpr).trans hp7,(Fr.cell (T:=fun b=>b=w.heap.size+1) (w:=w7) (Fr.own (Fr.own (Fr.own (Fr.own (Fr.own (Fr.refl _ _) _ _) _ _) _ _) _ _) _ _) hal7 har).trans ha7⟩)
   |(with_reducible refine⟨(Fr.cell (T:=NoT) (w:=w4) (Fr.drew (Fr.refl _ _)) hpl id).trans hp0,(Fr.cell (T:=NoT) (w:=w4) (Fr.drew (Fr.refl _ _)) hal id).trans ha0⟩))
  (first
   |(go_at_call 167
     with_reducible refine(HNB.out _ HP4.out).mono ?_
     intro e w7 hE
     rcases hE with⟨hkn,rfl,hp,hf⟩|⟨hkn,rfl,hf⟩
     rotate_left
     ·exact⟨rfl,by rw[HRL.out,zbV,if_neg hkn];exact⟨rfl,(HF4.out.drew).trans hf⟩⟩
     have hfd:=(Fr.drew (Fr.refl C.T w4)).trans hf
     have hb7:=HBB.out.fr hfd (fun e=>by have e:w.heap.size+1=C.P:=e;have:=HL.out;omega)
     have q0:=hb7.cell 0
     have q1:=hb7.cell 1
     have q2:=hb7.cell 2
     have q3:=hb7.cell 3
     have q4:=hb7.cell 4
     have g0:=hb7.frozen 0
     have g1:=hb7.frozen 1
     have g2:=hb7.frozen 2
     have g3:=hb7.frozen 3
     have g4:=hb7.frozen 4
     have hpb7:=HPB.out.fr hfd (fun e=>by have e:w.heap.size=C.P:=e;have:=HL.out;omega)
     have hab7:=HAB.out.fr hfd (fun e=>by have e:w.heap.size+2=C.P:=e;have:=HL.out;omega)
     have hp7:=hpb7.cell 0
     have ha7:=hab7.cell 0
     have hpl7:=hpb7.lt
     have hal7:=hab7.lt
     have hrl7:=hb7.lt
     have hpr:¬w.heap.size=w.heap.size+1:=by omega
     have har:¬w.heap.size+1+1=w.heap.size+1:=by omega
     simp only[getsL]at q0 q1 q2 q3 q4 hp7 ha7
     have HKN:=hdq hkn
     have HP:=hdq hp
     have HF:=hdq (HF4.out.trans hfd)
     have HB:=hdq hb7
     clear hkn hp hf hfd hb7 hpb7 hab7))
 all_goals
  go_wp2_with fail
  obtain⟨hb9,hv9,hp9,hf9⟩:=zia HL.out (k:=1) (n:=(decV (hdT l).text :Int)) (a:=a) (nm:=⟨#[]⟩) (by unfold in8;omega) (HNR.out HKN.out) hat (by omega) HB.out HP.out HF.out _ rfl
  have HV:=hdq hv9
  have HP9:=hdq hp9
  have HF9:=hdq hf9
  clear hb9 hv9 hp9 hf9
  refine bodyPost_ret (v:=exV 1 noB (decV (hdT l).text :Int) none 0 0 a) (by simp[results,Tryz.results219,go_sem,exV,noB,q0,q1,q2,q3,q4,hrl7]) rfl ?_
  rw[HRL.out,zbV,if_pos HKN.out]
  exact⟨_,rfl,HV.out,HP9.out,HF9.out⟩

def ExK (C:Pcx) (d:Nat) (x:Ex) (l:List Tk) (W:World) (e:Ending) (w':World):Prop:=∃v,e= .returned v∧ExV w' W.heap.size v x∧PaAt C w' l d∧Fr C.T W w'
theorem zkc (C:Pcx) (one:List Tk→PR Ex) (first:Int) (signs:List (List UInt8)) (g:Nat) (fst cap:Array Value) (bt b c:Nat) (l:List Tk) (d:Nat) (w:World) (X:Ex) (Rr:List Tk) (hok:zaP one (twoX first) signs l= .ok X Rr) (hk:C.Ok) (h:PaAt C w l d) (hshr:Shr one)
  (hsg:∀s∈signs,s≠ []) (hsl:signs.length≤3) (hc:∀j,j < signs.length→w.cell? ⟨b,j,none⟩=some (.string ⟨(signs.getD j []).toArray⟩)) (hbl:b < w.heap.size) (hbP:b≠C.P)
  (hbt:Bk w bt 5 #[.int .u8 first]) (hbtP:bt≠C.P) (hf0:0≤first) (hf1:first≤20)
  (hent:Enters Tryz.prog g) (hone:∀W,Fr C.T w W→∀l' x r,one l'= .ok x r→PaAt C W l' d→Calls Tryz.prog g (fst++cap) W (ExK C d x r W)):
  Calls Tryz.prog 218 #[pP C,.func (.func g) fst cap,.func (.func 235) #[] #[.pointer (some ⟨bt,0,none⟩)],.slice (some ⟨b,0,none⟩) signs.length c] w (ExK C d X Rr w):=by
 obtain⟨R,hR⟩:=nmq (zaP one (twoX first) signs l)
 rw[←hR]at hok
 have HR:=hdq hR
 have HOK:=hdq hok
 have H0:=hdq h
 have HL:=hdq h.lts
 have HONE:=hdq hone
 obtain⟨n,hn⟩:=nmq signs.length
 have HC:=hdq hc
 have HSG:=hdq hsg
 have HN:=hdq hn
 rw[←hn]at hsl ⊢
 unfold Enters at hent
 have h2:=h.alloc (.cells #[.int .u8 0,.string ⟨#[]⟩,.int .i64 0,.slice none 0 0,.int .i64 0] 133)
 have H2:=hdq h2
 clear hR h hone hc hsg hn h2 hok
 cases ho:one l with
 |err e a=>exact absurd HOK.out (by rw[HR.out];unfold zaP;rw[ho];simp[PR.then])
 |ok x l1=>
  have hq:=HONE.out _ ((Fr.refl C.T w).alloc (.cells #[.int .u8 0,.string ⟨#[]⟩,.int .i64 0,.slice none 0 0,.int .i64 0] 133)) l _ _ ho H2.out
  have hRe:R=za8 one (twoX first) signs l1.length x l1:=by rw[HR.out];unfold zaP;rw[ho];rfl
  have HRE:=hdq hRe
  unfold ExK at hq
  unfold pP at*
  have HQ:=hdq hq
  clear hq ho hRe
  go_enter Tryz.func218,Tryz.ntmps218
  go_wp2_with fail
  try simp only[Array.append_empty]
  refine HQ.out.mono ?_
  rintro _ w2 ⟨v,rfl,hv,hpa,hf⟩
  obtain⟨A,c1,rfl⟩:=ExVS.parts hv
  have hch:ChE C w w2.heap.size d R one first signs (w2.alloc (.cells #[.int .u8 x.k,.string x.nm,.int .i64 x.n,.slice A x.args.len c1,.int .i64 x.at_] 133)) x A c1 l1:=by
   have hs:=hf.size
   rw[World.size_alloc]at hs
   refine⟨⟨_,HRE.out,lrq _⟩,?_,Bk.new _ _ _,hs,?_,hpa.alloc _,(((Fr.refl _ _).alloc _).trans hf).alloc _⟩
   ·exact((Bk.new w _ _).fr hf (fun e=>by have e:w.heap.size=C.P:=e;have:=HL.out.1;omega)).alloc _
   ·refine ExVS.fr (T:=NoT) hv ((Fr.refl _ _).alloc _) (fun b hb=>⟨hb.2,id⟩) fun b hb=>?_
    have h1:=hb.1
    have h2:=hb.2
    rw[World.size_alloc]at h1
    exact⟨h1,by rw[World.size_alloc];omega,by omega⟩
  obtain⟨bx,hbx⟩:=nmq w2.heap.size
  obtain⟨w3,hw3⟩:=nmq (w2.alloc (.cells #[.int .u8 x.k,.string x.nm,.int .i64 x.n,.slice A x.args.len c1,.int .i64 x.at_] 133))
  rw[←hbx,←hw3]at hch
  unfold exV
  have HCH:=hdq hch
  have HBX:=hdq hbx
  have HW3:=hdq hw3
  have hIs:∀W l',Fr C.T w W→PaAt C W l' d→Calls Tryz.prog 164 #[.pointer (some ⟨C.P,0,none⟩),.slice (some ⟨b,0,none⟩) n c] W fun e w'=>e= .returned (.int .i64 (isP signs l'))∧W=w':=fun W l' hF hP=>by
   have:=zh9 C signs l' d b 0 c W hP (by rw[←HN.out];omega) (fun j hj=>by
    rw[Nat.zero_add]
    exact(hF.cell (p:=⟨b,j,none⟩) hbl hbP).trans (HC.out j hj))
   rw[←HN.out]at this
   exact this
  have HIS:=hdq hIs
  clear hv hpa hf hch hbx hw3 hIs
  go_wp2_with fail
  rw[←HW3.out]
  refine(HIS.out _ _ HCH.out.fr HCH.out.pa).mono ?_
  rintro _ w4 ⟨rfl,rfl⟩
  rw[←HBX.out]
  go_wp2_with fail
  go_loopw [10] (fun v wr=>∃(x:Ex) (A:Option Addr) (c1:Nat) (r:List Tk),v= .int .i64 (isP signs r)∧Hid (ChE C w bx d R one first signs wr x A c1 r)) (fun _ wr=>lenP C wr)
  case atStart=>exact⟨x,A,c1,l1,rfl,HCH⟩
  case round=>
   obtain⟨x,A,c1,r,rfl,hch⟩:=hrel
   obtain⟨k,hk0⟩:=nmq (isP signs r)
   rw[←hk0]
   have b1:=hch.out.box.cell 0
   have b2:=hch.out.box.cell 1
   have b3:=hch.out.box.cell 2
   have b4:=hch.out.box.cell 3
   have b5:=hch.out.box.cell 4
   have b0:=hch.out.box0.cell 0
   simp only[getsL]at b1 b2 b3 b4 b5
   have HK0:=hdq hk0
   clear hk0
   by_cases hneg:k < 0
   ·clear b0
    have g0:=hch.out.box0.frozen 0
    have g1:=hch.out.box0.frozen 1
    have g2:=hch.out.box0.frozen 2
    have g3:=hch.out.box0.frozen 3
    have g4:=hch.out.box0.frozen 4
    have q0:=hch.out.box0.cell 0
    have q1:=hch.out.box0.cell 1
    have q2:=hch.out.box0.cell 2
    have q3:=hch.out.box0.cell 3
    have q4:=hch.out.box0.cell 4
    have hlt0:=hch.out.box0.lt
    simp only[getsL]at q0 q1 q2 q3 q4
    have hne:¬0≤k:=by omega
    have hRR:R= .ok x r:=by
     obtain⟨f,hf,_⟩:=hch.out.eq
     rw[hf]
     cases f with
     |zero=>rfl
     |succ f=>simp only[za8];rw[if_pos (by rw[←HK0.out];exact hneg)]
    have HRR:=hdq hRR
    clear hRR
    go_wp2_with fail
    refine bodyPost_ret (v:=exV x.k x.nm x.n A x.args.len c1 x.at_) (by simp[results,Tryz.results218,go_sem,exV,q0,q1,q2,q3,q4,hlt0]) rfl ?_
    unfold ExK
    have hXX:=HOK.out
    rw[HRR.out]at hXX
    simp only[PR.ok.injEq]at hXX
    obtain⟨rfl,rfl⟩:=hXX
    have hfr:Fr (fun b=>b=w.heap.size) wr (((((wr.setCell ⟨w.heap.size,0,none⟩ (.int .u8 x.k)).setCell ⟨w.heap.size,1,none⟩ (.string x.nm)).setCell ⟨w.heap.size,2,none⟩ (.int .i64 x.n)).setCell ⟨w.heap.size,3,none⟩ (.slice A x.args.len c1)).setCell ⟨w.heap.size,4,none⟩ (.int .i64 x.at_)):=by
     exact Fr.own (Fr.own (Fr.own (Fr.own (Fr.own (Fr.refl _ _) _ _) _ _) _ _) _ _) _ _
    refine⟨_,rfl,ExVS.fr hch.out.val hfr (fun b hb=>⟨hb.2.1,fun e=>by have:=hb.1;omega⟩) (fun b hb=>⟨by have:=hb.1;omega,by have:=hb.2.1;have:=hfr.size;omega⟩),?_,?_⟩
    ·refine hch.out.pa.fr hfr (fun e=>?_) (fun e=>?_) (fun i hi e=>?_)<;>have:=HL.out<;>omega
    ·exact Fr.high (Fr.high (Fr.high (Fr.high (Fr.high hch.out.fr (lrq _) _ _) (lrq _) _ _) (lrq _) _ _) (lrq _) _ _) (lrq _) _ _
   ·have hge:0≤k:=by omega
    have htx:=zh8 (signs:=signs) (l:=r) (by rw[←HK0.out];exact hge)
    have hnz:=HSG.out _ htx.1
    have hps:=zcn C r d wr hk hch.out.pa (fun ht=>hnz ht.1)
    unfold zgi tkV pP at hps
    have HPS:=hdq hps
    have hkb:k≤5:=by
     have:=znW signs r
     rw[←HK0.out,←HN.out]at this
     omega
    clear hneg hps htx hnz
    go_wp2_with fail
    refine HPS.out.mono ?_
    rintro _ w5 ⟨rfl,hpa,hf⟩
    have hbxP:bx≠C.P:=by have:=hch.out.hbx;have:=HL.out.1;omega
    have hbk5:=hch.out.box.fr hf hbxP
    have HP5:=hdq hpa
    have HF5:=hdq (hch.out.fr.trans hf)
    have HFx:=hdq hf
    have y1:=hbk5.cell 0
    have y2:=hbk5.cell 1
    have y3:=hbk5.cell 2
    have y4:=hbk5.cell 3
    have y5:=hbk5.cell 4
    simp only[getsL]at y1 y2 y3 y4 y5
    have HBK5:=hdq hbk5
    have hone:=fun W hW=>HONE.out W hW r.tail
    clear hpa hf hbk5 b0 b1 b2 b3 b4 b5
    go_wp2_with fail
    cases ho:one r.tail with
    |err e a=>
     refine absurd HOK.out ?_
     obtain⟨f,hf,hfl⟩:=hch.out.eq
     have hrl:0 < r.length:=List.length_pos_iff.2 hch.out.pa.ne
     obtain⟨f,rfl⟩:∃f',f=f'+1:=⟨f - 1,by omega⟩
     rw[hf]
     simp only[za8]
     rw[if_neg (by rw[←HK0.out];omega),ho]
     simp[PR.then]
    |ok y l2=>
     have hq:=hone _ HF5.out.drew _ _ ho (HP5.out.fr (T:=NoT) (Fr.drew (Fr.refl _ _)) id id (fun _ _=>id))
     unfold ExK at hq
     have HQQ:=hdq hq
     have hRR:∃f,R=za8 one (twoX first) signs f (twoX first k (hdT r).at_ x y) l2∧l2.length≤f:=by
      obtain⟨f,hf,hfl⟩:=hch.out.eq
      have hrl:0 < r.length:=List.length_pos_iff.2 hch.out.pa.ne
      obtain⟨f,rfl⟩:∃f',f=f'+1:=⟨f - 1,by omega⟩
      refine⟨f,?_,?_⟩
      ·rw[hf]
       simp only[za8]
       rw[if_neg (by rw[←HK0.out];omega),ho,←HK0.out]
       rfl
      ·have:=hshr _ _ _ ho
       rw[List.length_tail]at this
       omega
     have HRR:=hdq hRR
     have HS:=hdq (hshr _ _ _ ho)
     clear hq hRR ho hone
     go_region_with
      (first
       |(go_at_call 235
         with_reducible refine(zmw first k (hdT r).at_ bt x.k x.n x.at_ y.k y.n y.at_ x.nm y.nm A A2 x.args.len y.args.len c1 c2 w7 HBT7.out.1 HBT7.out.2 hge hkb hf0 hf1).mono ?_
         rintro _ w8 ⟨g2,rfl,hb8,hg8,hg8',hf8⟩
         have hbb:=HB7.out.fr0 hf8
         have q1:=hbb.cell 0
         have q2:=hbb.cell 1
         have q3:=hbb.cell 2
         have q4:=hbb.cell 3
         have q5:=hbb.cell 4
         have f1:=hbb.frozen 0
         have f2:=hbb.frozen 1
         have f3:=hbb.frozen 2
         have f4:=hbb.frozen 3
         have f5:=hbb.frozen 4
         simp only[getsL]at q1 q2 q3 q4 q5
         have HB8:=hdq hb8
         have HG8:=hdq (show w7.heap.size≤g2∧g2 < w8.heap.size from⟨hg8,hg8'⟩)
         have HF8:=hdq hf8
         have HBB:=hdq hbb
         clear hb8 hg8 hg8' hf8 hbb z1 z2 z3 z4 z5
         unfold exV)
       |(with_reducible refine HQQ.out.mono ?_
         rintro _ w7 ⟨v7,rfl,hv7,hpa7,hf7⟩
         obtain⟨A2,c2,rfl⟩:=ExVS.parts hv7
         have hb7:=(HBK5.out.fr (Fr.drew (Fr.refl NoT _)) id).fr hf7 hbxP
         have z1:=hb7.cell 0
         have z2:=hb7.cell 1
         have z3:=hb7.cell 2
         have z4:=hb7.cell 3
         have z5:=hb7.cell 4
         simp only[getsL]at z1 z2 z3 z4 z5
         have HB7:=hdq hb7
         have HV7:=hdq hv7
         have HP7:=hdq hpa7
         have HF7:=hdq hf7
         have hbt7:=((hbt.fr HF5.out hbtP).fr (Fr.drew (Fr.refl NoT _)) id).fr hf7 hbtP
         have HBT7:=hdq (show bt < w7.heap.size∧w7.cell? ⟨bt,0,none⟩=some (.int .u8 first)from⟨hbt7.lt,hbt7.cell 0⟩)
         clear hb7 hv7 hpa7 hf7 hbt7
         unfold exV))
     all_goals(go_wp2_with fail)
     all_goals
      obtain⟨w9,hw9⟩:=nmq ((((((w8.setCell ⟨bx,0,none⟩ (.int .u8 (first+k))).setCell ⟨bx,1,none⟩ (.string noB)).setCell ⟨bx,2,none⟩ (.int .i64 0)).setCell ⟨bx,3,none⟩ (.slice (some ⟨g2,0,none⟩) 2 2)).setCell ⟨bx,4,none⟩ (.int .i64 ((hdT r).at_ :Int))))
      have hch9:=zmx hk HL.out hch.out hbxP HFx.out HV7.out HP7.out HF7.out HB8.out HG8.out HF8.out HBB.out HRR.out hge hkb hf0 hf1 w9 hw9
      rw[←hw9]
      have HCH9:=hdq hch9
      have HL9:=hdq (show lenP C w9 < lenP C wr from by
       rw[hch9.pa.lenP,hch.out.pa.lenP]
       have h1:=HS.out
       have h2:=List.length_pos_iff.2 hch.out.pa.ne
       rw[List.length_tail]at h1
       omega)
      clear hw9 hch9 q1 q2 q3 q4 q5 f1 f2 f3 f4 f5
      refine(HIS.out _ l2 HCH9.out.fr HCH9.out.pa).mono ?_
      rintro _ w10 ⟨rfl,rfl⟩
      go_wp2_with fail
      go_roundw
      case rel=>exact⟨_,_,_,l2,rfl,HCH9⟩
      case measure=>exact HL9.out

def zgk (l:List Tk):PR Ex:=
 if mayB [45] l || mayB [40] l then .err 0 0 else if zaY l then(if mayB [91] l.tail then .err 0 0 else .ok ⟨2,txt (hdT l),0,.nil,(hdT l).at_⟩ l.tail)
 else(zbV l).then fun v r=> .ok ⟨1,noB,v,.nil,(hdT l).at_⟩ r
theorem zgl:Shr zgk:=fun l y r e=>by
 unfold zgk at e
 split at e
 ·simp at e
 ·split at e
  ·split at e
   ·simp at e
   ·simp only[PR.ok.injEq]at e;rw[←e.2,List.length_tail];omega
  ·obtain⟨a,q,h1,h2⟩:=PR.then_ok e
   simp only[PR.ok.injEq]at h2
   rw[←h2.2,zhu h1,List.length_tail];omega
theorem zkd (C:Pcx) (n:Nat) (l:List Tk) (d:Nat) (w:World) (hk:C.Ok) (h:PaAt C w l d) (hn0:mayB [45] l=false) (hn1:mayB [40] l=false) (hnm:zaY l=true) (hbr0:mayB [91] l.tail=false):
  Calls Tryz.prog 219 #[.pointer (some ⟨C.P,0,none⟩)] w (ExP C d (zdB n l) w):=by
 have hL:=h.lts
 have hat:=zdc hk h
 obtain⟨R,hR⟩:=nmq (zdB n l)
 rw[←hR]
 obtain⟨j,cap,m,hm0,hm1,hl,hmc,hcm,hb,p0,p1,f0,f1,t0,t1,t2,ltP,ltT⟩:=h.cells
 have hm2:m≤9223372036854775807:=by omega
 have hm3:(0:Int) < (m:Int):=by omega
 obtain⟨a,ha⟩:∃a:Int,a=(hdT l).at_ :=⟨_,rfl⟩
 rw[←ha]at t2 hat
 obtain⟨w1,hw1⟩:=nmq (((w.alloc (.cells #[.pointer (some ⟨C.P,0,none⟩)] 164)).alloc (.cells #[.int .u8 0,.string ⟨#[]⟩,.int .i64 0,.slice none 0 0,.int .i64 0] 133)).alloc (.cells #[.int .i64 a] 3))
 obtain⟨hf1,hz1,hpx,hbx,hax⟩:=zeH C a w w1 hw1
 have h1:=h.fr hf1 id id fun _ _=>id
 have h2:=h1.alloc (.cells #[.string ⟨#[45]⟩] 9)
 have h3:=h2.alloc (.cells #[.string ⟨#[40]⟩] 9)
 have hi0:=zeF C [45] l d w1.heap.size _ h2 hn0 (by simp)
 have hi1:=zeF C [40] l d (w1.heap.size+1) _ h3 hn1 (by simp)
 have hf3:Fr NoT w1 ((w1.alloc (.cells #[.string ⟨#[45]⟩] 9)).alloc (.cells #[.string ⟨#[40]⟩] 9)):=((Fr.refl _ _).alloc _).alloc _
 have hnd:=zcK C l d _ hk h3
 rw[hnm]at hnd
 unfold zi1 at hnd
 have hnb:=fun W hW=>zfy C l d W hk hW hnm
 unfold RetP vaV at hnb
 unfold pP at hi0 hi1 hnd hnb
 rw[hz1]at hi0 hi1
 have HW1:=hdq hw1
 have HF3:=hdq (hf1.trans hf3)
 have HPX:=hdq (hpx.fr0 hf3)
 have HAX:=hdq (hax.fr0 hf3)
 have HBX:=hdq (hbx.fr0 hf3)
 rw[hw1]at hi0 hi1 hnd HF3 HPX HAX HBX
 have HI0:=hdq hi0
 have HI1:=hdq hi1
 have HND:=hdq hnd
 have HNB:=hdq hnb
 have HL:=hdq hL
 have HR:=hdq hR
 have HBR:=hdq hbr0
 have HA:=hdq ha
 have HV0:=hdq (fun hb=>zhw (n:=n) hn0 hn1 hnm hb)
 clear hi0 hi1 hnd hnb hL ha hR hw1 hf1 hz1 hpx hbx hax h1 h2 h3 hf3 h hk hb hl hm0 hn0 hn1 hnm hbr0
 go_enter Tryz.func219,Tryz.ntmps219
 go_wp2_with fail
 refine HI0.out.mono ?_
 rintro _ wq0 ⟨rr0,hrr0,rfl,rfl⟩
 go_wp2_with fail
 refine HI1.out.mono ?_
 rintro _ wq1 ⟨rr1,hrr1,rfl,rfl⟩
 go_wp2_with fail
 refine HND.out.mono ?_
 rintro _ w4 ⟨rfl,hp4,hf4⟩
 have hpb4:=HPX.out.fr hf4 (fun e=>by have e:w.heap.size=C.P:=e;have:=HL.out;omega)
 have hab4:=HAX.out.fr hf4 (fun e=>by have e:w.heap.size+2=C.P:=e;have:=HL.out;omega)
 have hbb4:=HBX.out.fr hf4 (fun e=>by have e:w.heap.size+1=C.P:=e;have:=HL.out;omega)
 have hp0:=hpb4.cell 0
 have ha0:=hab4.cell 0
 simp only[List.getElem?_toArray,List.getElem?_cons_zero]at hp0 ha0
 have hpl:=hpb4.lt
 have hal:=hab4.lt
 have HP4:=hdq (hp4.fr (T:=NoT) (Fr.drew (Fr.refl _ _)) id id fun _ _=>id)
 have HF4:=hdq (HF3.out.any.trans hf4)
 have HPB:=hdq hpb4
 have HAB:=hdq hab4
 have HBB:=hdq hbb4
 clear hp4 hf4 hpb4 hab4 hbb4
 go_wp2_with fail
 go_region_held2 (fun W'=>W'.cell? ⟨w.heap.size,0,none⟩=some (.pointer (some ⟨C.P,0,none⟩))∧W'.cell? ⟨w.heap.size+1+1,0,none⟩=some (.int .i64 a))
  (first
   |(refine⟨?_,?_⟩<;>with_reducible assumption)
   |(with_reducible refine⟨(Fr.cell (T:=fun b=>b=w.heap.size+1) (w:=w7) (Fr.own (Fr.own (Fr.own (Fr.own (Fr.own (Fr.refl _ _) _ _) _ _) _ _) _ _) _ _) hpl7 hpr).trans hp7,(Fr.cell (T:=fun b=>b=w.heap.size+1) (w:=w7) (Fr.own (Fr.own (Fr.own (Fr.own (Fr.own (Fr.refl _ _) _ _) _ _) _ _) _ _) _ _) hal7 har).trans ha7⟩)
   |(with_reducible refine⟨(Fr.cell (T:=NoT) (w:=w4) (Fr.drew (Fr.refl _ _)) hpl id).trans hp0,(Fr.cell (T:=NoT) (w:=w4) (Fr.drew (Fr.refl _ _)) hal id).trans ha0⟩))
  (first
   |(go_at_call 118
     with_reducible refine(HNB.out _ HP4.out).mono ?_
     intro e w7 hE
     obtain⟨rfl,hp,hf⟩:=hE
     have hfd:=(Fr.drew (Fr.refl C.T w4)).trans hf
     have hb7:=HBB.out.fr hfd (fun e=>by have e:w.heap.size+1=C.P:=e;have:=HL.out;omega)
     have q0:=hb7.cell 0
     have q1:=hb7.cell 1
     have q2:=hb7.cell 2
     have q3:=hb7.cell 3
     have q4:=hb7.cell 4
     have g0:=hb7.frozen 0
     have g1:=hb7.frozen 1
     have g2:=hb7.frozen 2
     have g3:=hb7.frozen 3
     have g4:=hb7.frozen 4
     have hpb7:=HPB.out.fr hfd (fun e=>by have e:w.heap.size=C.P:=e;have:=HL.out;omega)
     have hab7:=HAB.out.fr hfd (fun e=>by have e:w.heap.size+2=C.P:=e;have:=HL.out;omega)
     have hp7:=hpb7.cell 0
     have ha7:=hab7.cell 0
     have hpl7:=hpb7.lt
     have hal7:=hab7.lt
     have hrl7:=hb7.lt
     have hpr:¬w.heap.size=w.heap.size+1:=by omega
     have har:¬w.heap.size+1+1=w.heap.size+1:=by omega
     simp only[getsL]at q0 q1 q2 q3 q4 hp7 ha7
     have HP:=hdq hp
     have HF:=hdq (HF4.out.trans hfd)
     have HB:=hdq hb7
     clear hp hf hfd hb7 hpb7 hab7))
 all_goals
  obtain⟨w9,hw9⟩:=nmq ((((((w7.setCell ⟨w.heap.size+1,0,none⟩ (.int .u8 2)).setCell ⟨w.heap.size+1,1,none⟩ (.string (txt (hdT l)))).setCell ⟨w.heap.size+1,2,none⟩ (.int .i64 0)).setCell ⟨w.heap.size+1,3,none⟩ (.slice none 0 0)).setCell ⟨w.heap.size+1,4,none⟩ (.int .i64 a)))
  obtain⟨hb9,hv9,hp9,hf9⟩:=zia HL.out (k:=2) (n:=0) (a:=a) (nm:=txt (hdT l)) (by unfold in8;omega) (by unfold in64;omega) hat (by omega) HB.out HP.out HF.out w9 hw9
  have HV:=hdq hv9
  have HP9:=hdq hp9
  have HF9:=hdq hf9
  have HB9:=hdq hb9
  rw[←hw9]
  have hf79:Fr (fun b=>b=w.heap.size+1) w7 w9:=by rw[hw9];exact Fr.own (Fr.own (Fr.own (Fr.own (Fr.own (Fr.refl _ _) _ _) _ _) _ _) _ _) _ _
  have hp9c:=(hf79.cell (p:=⟨w.heap.size,0,none⟩) hpl7 hpr).trans hp7
  clear hb9 hv9 hp9 hf9 hw9 q0 q1 q2 q3 q4 g0 g1 g2 g3 g4 hf79 hp7 ha7
  have hpa10:=HP9.out.alloc (.cells #[.string ⟨#[91]⟩] 9)
  have hb10:=HB9.out.alloc (.cells #[.string ⟨#[91]⟩] 9)
  have hpl9:w.heap.size < w9.heap.size:=by have:=HB9.out.lt;omega
  have hbr:=HBR.out
  ·have hi2:=zeF C [91] l.tail d w9.heap.size _ hpa10 hbr (by simp)
   unfold pP at hi2
   have HI2:=hdq hi2
   have HRR:=hdq (HR.out.trans (HV0.out hbr))
   have q0:=hb10.cell 0
   have q1:=hb10.cell 1
   have q2:=hb10.cell 2
   have q3:=hb10.cell 3
   have q4:=hb10.cell 4
   simp only[getsL]at q0 q1 q2 q3 q4
   have HP10:=hdq hpa10
   clear hi2 hbr hpa10 hb10
   go_wp2_with fail
   refine HI2.out.mono ?_
   rintro _ wq2 ⟨rr2,hrr2,rfl,rfl⟩
   go_wp2_with fail
   refine bodyPost_ret (v:=exV 2 (txt (hdT l)) 0 none 0 0 a) (by simp[results,Tryz.results219,go_sem,exV,q0,q1,q2,q3,q4]) rfl ?_
   rw[HRR.out,←HA.out]
   exact⟨_,rfl,ExV.fr (T:=NoT) HV.out ((Fr.refl _ _).alloc _) (fun _ _ _=>id),HP10.out,HF9.out.alloc _⟩
theorem zoS (C:Pcx) (l:List Tk) (d:Nat) (w:World) (x:Ex) (r:List Tk) (hok:zgk l= .ok x r) (hk:C.Ok) (h:PaAt C w l d):Calls Tryz.prog 219 #[.pointer (some ⟨C.P,0,none⟩)] w (ExK C d x r w):=by
 unfold zgk at hok
 split at hok
 ·simp at hok
 ·rename_i h0
  simp only[Bool.or_eq_true,not_or,Bool.not_eq_true]at h0
  cases h2:zaY l
  ·rw[if_neg (by rw[h2];decide)]at hok
   have:=zmz C 0 l d w hk h h0.1 h0.2 h2
   rw[zhv h0.1 h0.2 h2,hok]at this
   exact this
  ·rw[if_pos h2]at hok
   split at hok
   ·simp at hok
   ·rename_i h3
    have h3:mayB [91] l.tail=false:=by simpa using h3
    have:=zkd C 0 l d w hk h h0.1 h0.2 h2 h3
    rw[zhw h0.1 h0.2 h2 h3,hok]at this
    exact this

def zib (l:List Tk):PR Ex:=zaP zgk (twoX 7) mulS l
def sumQ (l:List Tk):PR Ex:=zaP zib (twoX 5) addS l
def zey (l:List Tk):PR Ex:=zaP sumQ (twoX 10) shS l
theorem zeI:Shr zib:=zdb zgl
theorem zic:Shr sumQ:=zdb zeI
theorem zcL:Shr zey:=zdb zic
def BoxK (C:Pcx) (d:Nat) (X:Ex) (Rr:List Tk) (w:World) (rb:Nat) (K:World→Prop) (e:Ending) (w7:World):Prop:=
  ∃A c,e= .returned (.agg #[.int .u8 X.k,.string X.nm,.int .i64 X.n,.slice A X.args.len c,.int .i64 X.at_])∧Bk w7 rb 133 #[.int .u8 0,.string ⟨#[]⟩,.int .i64 0,.slice none 0 0,.int .i64 0]∧K w7∧
    Hid (∀w9,w9=((((w7.setCell ⟨rb,0,none⟩ (.int .u8 X.k)).setCell ⟨rb,1,none⟩ (.string X.nm)).setCell ⟨rb,2,none⟩ (.int .i64 X.n)).setCell ⟨rb,3,none⟩ (.slice A X.args.len c)).setCell ⟨rb,4,none⟩ (.int .i64 X.at_)→ExK C d X Rr w (.returned (exV X.k X.nm X.n A X.args.len c X.at_)) w9)
theorem boxK {C:Pcx} {d:Nat} {X:Ex} {Rr:List Tk} {w WA:World} {rb f:Nat} {av:Array Value} {K:World→Prop} (hL:C.P < w.heap.size∧C.TB < w.heap.size∧C.W0.heap.size≤w.heap.size) (hA:Fr NoT w WA) (hr:w.heap.size≤rb)
    (hb:Bk WA rb 133 #[.int .u8 0,.string ⟨#[]⟩,.int .i64 0,.slice none 0 0,.int .i64 0]) (hK:∀W,Fr C.T WA W→K W) (h:Calls Tryz.prog f av WA (ExK C d X Rr WA)):Calls Tryz.prog f av WA (BoxK C d X Rr w rb K):=by
  refine h.mono ?_
  rintro e w7 ⟨v,rfl,hv,hp,hf⟩
  obtain⟨A,c,rfl⟩:=ExVS.parts hv
  exact⟨A,c,rfl,hb.fr hf (fun e=>by have e:rb=C.P:=e;omega),hK _ hf,fun w9 h9=>zoR hL hA hr hb.lt hv hp hf h9⟩
theorem zdY (C:Pcx) (one:List Tk→PR Ex) (first:Int) (signs:List (List UInt8)) (g:Nat) (fst cap:Array Value) (bt b m:Nat) (l:List Tk) (d:Nat) (w:World) (X:Ex) (Rr:List Tk) (hok:zaP one (twoX first) signs l= .ok X Rr) (hk:C.Ok) (h:PaAt C w l d) (hshr:Shr one)
    (hm:m=signs.length) (hsg:∀s∈signs,s≠ []) (hsl:signs.length≤3) (hss:Bk w b 9 (strA signs)) (hbP:b≠C.P)
    (hbt:Bk w bt 5 #[.int .u8 first]) (hbtP:bt≠C.P) (hf0:0≤first) (hf1:first≤20)
    (hent:Enters Tryz.prog g) (hone:∀W,Fr C.T w W→∀l' x r,one l'= .ok x r→PaAt C W l' d→Calls Tryz.prog g (fst++cap) W (ExK C d x r W)):
    Calls Tryz.prog 218 #[.pointer (some ⟨C.P,0,none⟩),.func (.func g) fst cap,.func (.func 235) #[] #[.pointer (some ⟨bt,0,none⟩)],.slice (some ⟨b,0,none⟩) m m] w (ExK C d X Rr w):=by
  subst hm
  exact zkc C one first signs g fst cap bt b _ l d w X Rr hok hk h hshr hsg hsl (fun j hj=>by rw[hss.cell j];simp[strA,hj]) hss.lt hbP hbt hbtP hf0 hf1 hent hone
theorem zmA (C:Pcx) (l:List Tk) (d:Nat) (pb:Nat) (w:World) (X:Ex) (Rr:List Tk) (hok:zib l= .ok X Rr) (hk:C.Ok) (h:PaAt C w l d) (hpb:Bk w pb 164 #[.pointer (some ⟨C.P,0,none⟩)]) (hnep:pb≠C.P):
    Calls Tryz.prog 217 #[.pointer (some ⟨pb,0,none⟩)] w (ExK C d X Rr w):=by
  have hmf:= @makeF Tryz.prog
  have hL:=h.lts
  have hpl:=hpb.lt
  have hp0:=hpb.cell 0
  simp only[List.getElem?_toArray,List.getElem?_cons_zero]at hp0
  obtain⟨w1,hw1⟩:=nmq (w.alloc (.cells #[.int .u8 0,.string ⟨#[]⟩,.int .i64 0,.slice none 0 0,.int .i64 0] 133))
  have hz1:w1.heap.size=w.heap.size+1:=by rw[hw1];simp
  have hf1:Fr NoT w w1:=by rw[hw1];exact(Fr.refl _ _).alloc _
  have hbx:Bk w1 w.heap.size 133 #[.int .u8 0,.string ⟨#[]⟩,.int .i64 0,.slice none 0 0,.int .i64 0]:=by rw[hw1];exact Bk.new _ _ _
  obtain⟨a1,a2,a3⟩:=ordA w1 #[.int .u8 7] (strA mulS) _ rfl
  obtain⟨b1,b2,b3⟩:=ordB w1 #[.int .u8 7] (strA mulS) _ rfl
  rw[hz1]at a1 a2 b1 b2
  have key:∀(W:World) (bt b:Nat),Fr NoT w1 W→Bk W bt 5 #[.int .u8 7]→Bk W b 9 (strA mulS)→w.heap.size < bt→w.heap.size < b→Calls Tryz.prog 218 #[.pointer (some ⟨C.P,0,none⟩),.func (.func 219) #[.pointer (some ⟨C.P,0,none⟩)] #[],.func (.func 235) #[] #[.pointer (some ⟨bt,0,none⟩)],.slice (some ⟨b,0,none⟩) 3 3] W (BoxK C d X Rr w (w.heap.size) fun W'=>(W'.cell? ⟨pb,0,none⟩=some (.pointer (some ⟨C.P,0,none⟩))∧pb < W'.heap.size)):=fun W bt b hf h1 h2 h3 h4=>
    boxK hL (hf1.trans hf) (by omega) (hbx.fr0 hf) (fun W' hW=>⟨((hpb.fr0 (hf1.trans hf)).fr hW hnep).cell 0,((hpb.fr0 (hf1.trans hf)).fr hW hnep).lt⟩) (zdY C zgk 7 mulS 219 _ _ bt b 3 l d W X Rr hok hk (h.fr (hf1.trans hf) id id fun _ _=>id) zgl rfl (by decide) (by decide) h2 (by omega) h1 (by omega) (by decide) (by decide) (enters_of Tryz.func219 (by kernel_rfl) rfl) fun W' hfw l' x r hx hp'=>by
      simpa using zoS C l' d W' x r hx hk hp')
  have HA:=hdq (key _ _ _ a3 a1 a2 (by omega) (by omega))
  have HB:=hdq (key _ _ _ b3 b1 b2 (by omega) (by omega))
  rw[hw1]at HA HB
  have hpr:¬pb=w.heap.size:=by omega
  clear key hw1 hz1 hf1 hbx a1 a2 a3 b1 b2 b3 hL h hk hok hpb hnep
  unfold strA mulS at HA HB
  simp only[List.map_cons,List.map_nil]at HA HB
  go_enter Tryz.func217,Tryz.ntmps217
  go_wp2_with fail
  go_region_held2 (fun W'=>W'.cell? ⟨pb,0,none⟩=some (.pointer (some ⟨C.P,0,none⟩)))
    (first
      |(with_reducible assumption)
      |(with_reducible refine(Fr.cell (T:=fun b=>b=w.heap.size) (w:=w7) (Fr.own (Fr.own (Fr.own (Fr.own (Fr.own (Fr.refl _ _) _ _) _ _) _ _) _ _) _ _) hpl7 hpr).trans hp7)
      | (refine(Fr.cell (T:=NoT) (w:=w) ?_ hpl id).trans hp0
         repeat(first|exact Fr.refl _ _|refine Fr.alloc ?_ _|refine Fr.drew ?_)))
    (first
      | (go_at_call 220
         refine(zht _ _).mono ?_
         rintro _ wa ⟨rfl,rfl⟩)
      | (go_at_call 218
         first
           |(with_reducible refine HA.out.mono ?_)
           |(with_reducible refine HB.out.mono ?_)
         rintro _ w7 ⟨A,c,rfl,hb7,⟨hp7,hpl7⟩,HE⟩
         have q0:=hb7.cell 0
         have q1:=hb7.cell 1
         have q2:=hb7.cell 2
         have q3:=hb7.cell 3
         have q4:=hb7.cell 4
         have g0:=hb7.frozen 0
         have g1:=hb7.frozen 1
         have g2:=hb7.frozen 2
         have g3:=hb7.frozen 3
         have g4:=hb7.frozen 4
         have hlt7:=hb7.lt
         simp only[getsL]at q0 q1 q2 q3 q4
         clear hb7))
  all_goals
    go_wp2_with fail
    exact bodyPost_ret (v:=exV X.k X.nm X.n A X.args.len c X.at_) (by simp[results,Tryz.results217,go_sem,exV,q0,q1,q2,q3,q4,hlt7]) rfl (HE.out _ rfl)
theorem zpS (C:Pcx) (l:List Tk) (d:Nat) (pb fb:Nat) (w:World) (X:Ex) (Rr:List Tk) (hok:sumQ l= .ok X Rr) (hk:C.Ok) (h:PaAt C w l d) (hpb:Bk w pb 164 #[.pointer (some ⟨C.P,0,none⟩)]) (hnep:pb≠C.P) (hfb:Bk w fb 265 #[.func (.func 217) #[] #[.pointer (some ⟨pb,0,none⟩)]]) (hnef:fb≠C.P):
    Calls Tryz.prog 221 #[.pointer (some ⟨pb,0,none⟩),.pointer (some ⟨fb,0,none⟩)] w (ExK C d X Rr w):=by
  have hmf:= @makeF Tryz.prog
  have hL:=h.lts
  have hpl:=hpb.lt
  have hp0:=hpb.cell 0
  have hfl:=hfb.lt
  have hf0:=hfb.cell 0
  simp only[List.getElem?_toArray,List.getElem?_cons_zero]at hp0 hf0
  obtain⟨w1,hw1⟩:=nmq (w.alloc (.cells #[.int .u8 0,.string ⟨#[]⟩,.int .i64 0,.slice none 0 0,.int .i64 0] 133))
  have hz1:w1.heap.size=w.heap.size+1:=by rw[hw1];simp
  have hf1:Fr NoT w w1:=by rw[hw1];exact(Fr.refl _ _).alloc _
  have hbx:Bk w1 w.heap.size 133 #[.int .u8 0,.string ⟨#[]⟩,.int .i64 0,.slice none 0 0,.int .i64 0]:=by rw[hw1];exact Bk.new _ _ _
  obtain⟨a1,a2,a3⟩:=ordA w1 #[.int .u8 5] (strA addS) _ rfl
  obtain⟨b1,b2,b3⟩:=ordB w1 #[.int .u8 5] (strA addS) _ rfl
  rw[hz1]at a1 a2 b1 b2
  have key:∀(W:World) (bt b:Nat),Fr NoT w1 W→Bk W bt 5 #[.int .u8 5]→Bk W b 9 (strA addS)→w.heap.size < bt→w.heap.size < b→Calls Tryz.prog 218 #[.pointer (some ⟨C.P,0,none⟩),.func (.func 217) #[] #[.pointer (some ⟨pb,0,none⟩)],.func (.func 235) #[] #[.pointer (some ⟨bt,0,none⟩)],.slice (some ⟨b,0,none⟩) 2 2] W (BoxK C d X Rr w (w.heap.size) fun W'=>(W'.cell? ⟨pb,0,none⟩=some (.pointer (some ⟨C.P,0,none⟩))∧pb < W'.heap.size)∧(W'.cell? ⟨fb,0,none⟩=some (.func (.func 217) #[] #[.pointer (some ⟨pb,0,none⟩)])∧fb < W'.heap.size)):=fun W bt b hf h1 h2 h3 h4=>
    boxK hL (hf1.trans hf) (by omega) (hbx.fr0 hf) (fun W' hW=>⟨⟨((hpb.fr0 (hf1.trans hf)).fr hW hnep).cell 0,((hpb.fr0 (hf1.trans hf)).fr hW hnep).lt⟩,⟨((hfb.fr0 (hf1.trans hf)).fr hW hnef).cell 0,((hfb.fr0 (hf1.trans hf)).fr hW hnef).lt⟩⟩) (zdY C zib 5 addS 217 _ _ bt b 2 l d W X Rr hok hk (h.fr (hf1.trans hf) id id fun _ _=>id) zeI rfl (by decide) (by decide) h2 (by omega) h1 (by omega) (by decide) (by decide) (enters_of Tryz.func217 (by kernel_rfl) rfl) fun W' hfw l' x r hx hp'=>by
      simpa using zmA C l' d pb W' x r hx hk hp' ((hpb.fr0 (hf1.trans hf)).fr hfw hnep) hnep)
  have HA:=hdq (key _ _ _ a3 a1 a2 (by omega) (by omega))
  have HB:=hdq (key _ _ _ b3 b1 b2 (by omega) (by omega))
  rw[hw1]at HA HB
  have hpr:¬pb=w.heap.size:=by omega
  have hfr:¬fb=w.heap.size:=by omega
  clear key hw1 hz1 hf1 hbx a1 a2 a3 b1 b2 b3 hL h hk hok hpb hnep hfb hnef
  unfold strA addS at HA HB
  simp only[List.map_cons,List.map_nil]at HA HB
  go_enter Tryz.func221,Tryz.ntmps221
  go_wp2_with fail
  go_region_held2 (fun W'=>W'.cell? ⟨pb,0,none⟩=some (.pointer (some ⟨C.P,0,none⟩))∧W'.cell? ⟨fb,0,none⟩=some (.func (.func 217) #[] #[.pointer (some ⟨pb,0,none⟩)]))
    (first
      |(refine⟨?_,?_⟩<;>with_reducible assumption)
      |(with_reducible refine⟨(Fr.cell (T:=fun b=>b=w.heap.size) (w:=w7) (Fr.own (Fr.own (Fr.own (Fr.own (Fr.own (Fr.refl _ _) _ _) _ _) _ _) _ _) _ _) hpl7 hpr).trans hp7,(Fr.cell (T:=fun b=>b=w.heap.size) (w:=w7) (Fr.own (Fr.own (Fr.own (Fr.own (Fr.own (Fr.refl _ _) _ _) _ _) _ _) _ _) _ _) hfl7 hfr).trans hf7⟩)
      | (refine⟨(Fr.cell (T:=NoT) (w:=w) ?_ hpl id).trans hp0,(Fr.cell (T:=NoT) (w:=w) ?_ hfl id).trans hf0⟩<;>
         repeat(first|exact Fr.refl _ _|refine Fr.alloc ?_ _|refine Fr.drew ?_)))
    (first
      | (go_at_call 220
         refine(zht _ _).mono ?_
         rintro _ wa ⟨rfl,rfl⟩)
      | (go_at_call 218
         first
           |(with_reducible refine HA.out.mono ?_)
           |(with_reducible refine HB.out.mono ?_)
         rintro _ w7 ⟨A,c,rfl,hb7,⟨⟨hp7,hpl7⟩,⟨hf7,hfl7⟩⟩,HE⟩
         have q0:=hb7.cell 0
         have q1:=hb7.cell 1
         have q2:=hb7.cell 2
         have q3:=hb7.cell 3
         have q4:=hb7.cell 4
         have g0:=hb7.frozen 0
         have g1:=hb7.frozen 1
         have g2:=hb7.frozen 2
         have g3:=hb7.frozen 3
         have g4:=hb7.frozen 4
         have hlt7:=hb7.lt
         simp only[getsL]at q0 q1 q2 q3 q4
         clear hb7))
  all_goals
    go_wp2_with fail
    exact bodyPost_ret (v:=exV X.k X.nm X.n A X.args.len c X.at_) (by simp[results,Tryz.results221,go_sem,exV,q0,q1,q2,q3,q4,hlt7]) rfl (HE.out _ rfl)
theorem zhx (C:Pcx) (l:List Tk) (d:Nat) (w:World) (X:Ex) (Rr:List Tk) (hok:zey l= .ok X Rr) (hk:C.Ok) (h:PaAt C w l d):
    Calls Tryz.prog 195 #[.pointer (some ⟨C.P,0,none⟩)] w (ExK C d X Rr w):=by
  have hmf:= @makeF Tryz.prog
  have hL:=h.lts
  obtain⟨w1,hw1⟩:=nmq (((w.alloc (.cells #[.pointer (some ⟨C.P,0,none⟩)] 164)).alloc (.cells #[.int .u8 0,.string ⟨#[]⟩,.int .i64 0,.slice none 0 0,.int .i64 0] 133)).alloc (.cells #[.func (.func 217) #[] #[.pointer (some ⟨w.heap.size,0,none⟩)]] 265))
  have hz1:w1.heap.size=w.heap.size+3:=by rw[hw1];simp
  have hf1:Fr NoT w w1:=by rw[hw1];exact(((Fr.refl _ _).alloc _).alloc _).alloc _
  have hpx:Bk w1 w.heap.size 164 #[.pointer (some ⟨C.P,0,none⟩)]:=by rw[hw1];exact((Bk.new _ _ _).alloc _).alloc _
  have hbx:Bk w1 (w.heap.size+1) 133 #[.int .u8 0,.string ⟨#[]⟩,.int .i64 0,.slice none 0 0,.int .i64 0]:=by rw[hw1];exact(Bk.new_at _ _ _ (by simp)).alloc _
  have hfx:Bk w1 (w.heap.size+2) 265 #[.func (.func 217) #[] #[.pointer (some ⟨w.heap.size,0,none⟩)]]:=by rw[hw1];exact Bk.new_at _ _ _ (by simp)
  have hp0:=hpx.cell 0
  have hpl:=hpx.lt
  simp only[List.getElem?_toArray,List.getElem?_cons_zero]at hp0
  obtain⟨a1,a2,a3⟩:=ordA w1 #[.int .u8 10] (strA shS) _ rfl
  obtain⟨b1,b2,b3⟩:=ordB w1 #[.int .u8 10] (strA shS) _ rfl
  rw[hz1]at a1 a2 b1 b2
  have key:∀(W:World) (bt b:Nat),Fr NoT w1 W→Bk W bt 5 #[.int .u8 10]→Bk W b 9 (strA shS)→w.heap.size < bt→w.heap.size < b→Calls Tryz.prog 218 #[.pointer (some ⟨C.P,0,none⟩),.func (.func 221) #[] #[.pointer (some ⟨w.heap.size,0,none⟩),.pointer (some ⟨w.heap.size+1+1,0,none⟩)],.func (.func 235) #[] #[.pointer (some ⟨bt,0,none⟩)],.slice (some ⟨b,0,none⟩) 2 2] W (BoxK C d X Rr w (w.heap.size+1) fun W'=>(W'.cell? ⟨w.heap.size,0,none⟩=some (.pointer (some ⟨C.P,0,none⟩))∧w.heap.size < W'.heap.size)):=fun W bt b hf h1 h2 h3 h4=>
    boxK hL (hf1.trans hf) (by omega) (hbx.fr0 hf) (fun W' hW=>⟨((hpx.fr0 hf).fr hW (fun e=>by have e:w.heap.size=C.P:=e;omega)).cell 0,((hpx.fr0 hf).fr hW (fun e=>by have e:w.heap.size=C.P:=e;omega)).lt⟩) (zdY C sumQ 10 shS 221 _ _ bt b 2 l d W X Rr hok hk (h.fr (hf1.trans hf) id id fun _ _=>id) zic rfl (by decide) (by decide) h2 (by omega) h1 (by omega) (by decide) (by decide) (enters_of Tryz.func221 (by kernel_rfl) rfl) fun W' hfw l' x r hx hp'=>by
      simpa using zpS C l' d w.heap.size (w.heap.size+2) W' x r hx hk hp' ((hpx.fr0 hf).fr hfw (fun e=>by have e:w.heap.size=C.P:=e;omega)) (by omega) ((hfx.fr0 hf).fr hfw (fun e=>by have e:w.heap.size+2=C.P:=e;omega)) (by omega))
  have HA:=hdq (key _ _ _ a3 a1 a2 (by omega) (by omega))
  have HB:=hdq (key _ _ _ b3 b1 b2 (by omega) (by omega))
  rw[hw1]at HA HB hp0 hpl
  have hpr:¬w.heap.size=w.heap.size+1:=by omega
  clear key hw1 hz1 hf1 hbx a1 a2 a3 b1 b2 b3 hL h hk hok hpx hfx
  unfold strA shS at HA HB
  simp only[List.map_cons,List.map_nil]at HA HB
  go_enter Tryz.func195,Tryz.ntmps195
  go_wp2_with fail
  go_region_held2 (fun W'=>W'.cell? ⟨w.heap.size,0,none⟩=some (.pointer (some ⟨C.P,0,none⟩)))
    (first
      |(with_reducible assumption)
      |(with_reducible refine(Fr.cell (T:=fun b=>b=w.heap.size+1) (w:=w7) (Fr.own (Fr.own (Fr.own (Fr.own (Fr.own (Fr.refl _ _) _ _) _ _) _ _) _ _) _ _) hpl7 hpr).trans hp7)
      | (refine(Fr.cell (T:=NoT) (w:=_) ?_ hpl id).trans hp0
         repeat(first|exact Fr.refl _ _|refine Fr.alloc ?_ _|refine Fr.drew ?_)))
    (first
      | (go_at_call 220
         refine(zht _ _).mono ?_
         rintro _ wa ⟨rfl,rfl⟩)
      | (go_at_call 218
         first
           |(with_reducible refine HA.out.mono ?_)
           |(with_reducible refine HB.out.mono ?_)
         rintro _ w7 ⟨A,c,rfl,hb7,⟨hp7,hpl7⟩,HE⟩
         have q0:=hb7.cell 0
         have q1:=hb7.cell 1
         have q2:=hb7.cell 2
         have q3:=hb7.cell 3
         have q4:=hb7.cell 4
         have g0:=hb7.frozen 0
         have g1:=hb7.frozen 1
         have g2:=hb7.frozen 2
         have g3:=hb7.frozen 3
         have g4:=hb7.frozen 4
         have hlt7:=hb7.lt
         simp only[getsL]at q0 q1 q2 q3 q4
         clear hb7))
  all_goals
    go_wp2_with fail
    exact bodyPost_ret (v:=exV X.k X.nm X.n A X.args.len c X.at_) (by simp[results,Tryz.results195,go_sem,exV,q0,q1,q2,q3,q4,hlt7]) rfl (HE.out _ rfl)
end Go.Proofs.YtmfioehnhjjgpaaGreatDoor
