/-
  parse: chain, of expressions.
-/
import Derived.Test.YtphlnpaikpjakaaGreatDoorJnPa
import Derived.Deep.RegionHeld2
set_option linter.unusedVariables false
set_option linter.unusedSimpArgs false
namespace Go.Proofs.YtphlnpaikpjakaaGreatDoor
open Go.RowKit Go.Shelf

theorem idxFromS_le (x:ByteArray):∀(zs:List ByteArray) (i:Nat),Lib.idxFromS zs x i≤(i+zs.length:Nat)
 | [],i=>by simp[Lib.idxFromS]<;>omega
 |z::zs,i=>by
  have:=idxFromS_le x zs (i+1)
  simp only[Lib.idxFromS]
  split
  ·simp;omega
  ·simp at this ⊢;omega
theorem isP_le (signs:List (List UInt8)) (l:List Tk):isP signs l≤signs.length:=by
 unfold isP
 split
 ·omega
 ·have:=idxFromS_le (txt (hdT l)) (signs.map fun s=>(⟨s.toArray⟩:ByteArray)) 0
  simpa[Lib.idxOfS]using this
def lenP (C:Pcx) (w:World):Nat:=match w.cell? ⟨C.P,0,none⟩with|some (.slice _ m _)=>m|_=>0
theorem PaAt.lenP {C:Pcx} {w:World} {l:List Tk} {d:Nat} (h:PaAt C w l d):lenP C w=l.length:=by
 obtain⟨j,cap,m,hm0,hm1,hl,hmc,hcm,hb,p0,_⟩:=h.cells
 unfold Go.Proofs.YtphlnpaikpjakaaGreatDoor.lenP
 rw[p0,hm0]
def NewX (L bx:Nat) (w:World):Nat→Prop:=fun b=>L≤b∧b < w.heap.size∧b≠bx
structure ChE (C:Pcx) (w:World) (bx d:Nat) (R:PR Ex) (one:List Tk→PR Ex) (first:Int) (signs:List (List UInt8)) (wr:World) (x:Ex) (A:Option Addr) (c:Nat) (l:List Tk):Prop where
 eq:∃f,R=chainF one (twoX first) signs f x l∧l.length≤f
 box0:Bk wr w.heap.size 68 #[.int .u8 0,.string noB,.int .i64 0,.slice none 0 0,.int .i64 0]
 box:Bk wr bx 68 #[.int .u8 x.k,.string x.nm,.int .i64 x.n,.slice A x.args.len c,.int .i64 x.at_]
 hbx:w.heap.size+1≤bx
 val:ExVS wr (NewX (w.heap.size+1) bx wr) (exV x.k x.nm x.n A x.args.len c x.at_) x
 pa:PaAt C wr l d
 fr:Fr C.T w wr
theorem ExVS.parts {w:World} {S:Nat→Prop} {v:Value} {x:Ex} (h:ExVS w S v x):∃A c,v=exV x.k x.nm x.n A x.args.len c x.at_:=by
 obtain⟨_,_,_,A,c,e,_⟩:=h
 exact⟨A,c,e⟩

theorem chE_step {C:Pcx} {w wr w5 w7 w8:World} {bx d:Nat} {R:PR Ex} {one:List Tk→PR Ex} {first:Int} {signs:List (List UInt8)} {x y:Ex} {A A2:Option Addr} {c1 c2:Nat} {r l2:List Tk} {k:Int} {g2:Nat}
  (hk:C.Ok) (hL:C.P < w.heap.size∧C.TB < w.heap.size∧C.W0.heap.size≤w.heap.size) (hch:ChE C w bx d R one first signs wr x A c1 r) (hbxP:bx≠C.P) (hf5:Fr C.T wr w5) (hv7:ExV w7 w5.drew.heap.size (exV y.k y.nm y.n A2 y.args.len c2 y.at_) y) (hp7:PaAt C w7 l2 d) (hf7:Fr C.T w5.drew w7)
  (hb8:Bk w8 g2 68 #[.int .u8 x.k,.string x.nm,.int .i64 x.n,.slice A x.args.len c1,.int .i64 x.at_,.int .u8 y.k,.string y.nm,.int .i64 y.n,.slice A2 y.args.len c2,.int .i64 y.at_])
  (hg8:w7.heap.size≤g2∧g2 < w8.heap.size) (hf8:Fr NoT w7 w8) (hbb:Bk w8 bx 68 #[.int .u8 x.k,.string x.nm,.int .i64 x.n,.slice A x.args.len c1,.int .i64 x.at_])
  (hRR:∃f,R=chainF one (twoX first) signs f (twoX first k (hdT r).at_ x y) l2∧l2.length≤f) (hge:0≤k) (hkb:k≤5) (hf0:0≤first) (hf1:first≤20) (w9:World)
  (hw9:w9=(((((w8.setCell ⟨bx,0,none⟩ (.int .u8 (first+k))).setCell ⟨bx,1,none⟩ (.string noB)).setCell ⟨bx,2,none⟩ (.int .i64 0)).setCell ⟨bx,3,none⟩ (.slice (some ⟨g2,0,none⟩) 2 2)).setCell ⟨bx,4,none⟩ (.int .i64 ((hdT r).at_ :Int)))):
  ChE C w bx d R one first signs w9 (twoX first k (hdT r).at_ x y) (some ⟨g2,0,none⟩) 2 l2:=by
 have hf9:Fr (fun b=>b=bx) w8 w9:=by rw[hw9];exact Fr.own (Fr.own (Fr.own (Fr.own (Fr.own (Fr.refl _ _) _ _) _ _) _ _) _ _) _ _
 have hbl:bx < wr.heap.size:=hch.box.lt
 have hs0:=hch.fr.size
 have hs5:=hf5.size
 have hs7:w5.heap.size≤w7.heap.size:=hf7.size
 have hs8:=hf8.size
 have hs9:=hf9.size
 have hb1:=hch.hbx
 have hT:∀b,C.T b→b=C.P:=fun _ h=>h
 have hfa:Fr (fun b=>b=C.P∨b=bx) wr w9:=
  (((hf5.drew.mono fun i _ h=>Or.inl (hT i h)).trans (hf7.mono fun i _ h=>Or.inl (hT i h))).trans hf8.any).trans (hf9.mono fun i _ h=>Or.inr h)
 have hfb:Fr (fun b=>b=bx) w7 w9:=hf8.any.trans hf9
 have hat:in64 ((hdT r).at_ :Int):=by
  obtain⟨j,cap,e,_⟩:=hch.pa.at_
  have:=hk.pos _ (List.mem_of_getElem? (drop_head e hch.pa.ne).1)
  unfold in64;omega
 obtain⟨x1,x2,x3,Ax,cx,ex,hsx⟩:=hch.val
 obtain⟨y1,y2,y3,Ay,cy,ey,hsy⟩:=hv7
 simp only[exV,Value.agg.injEq,Array.mk.injEq,List.cons.injEq,Value.slice.injEq,true_and,and_true]at ex ey
 obtain⟨rfl,rfl⟩:=ex
 obtain⟨rfl,rfl⟩:=ey
 refine⟨hRR,?_,?_,hch.hbx,?_,?_,?_⟩
 ·exact(hch.box0.fr hfa (fun e=>by
   rcases e with e|e<;>omega))
 ·rw[hw9]
  have:=((((hbb.set_ 0 (.int .u8 (first+k))).set_ 1 (.string noB)).set_ 2 (.int .i64 0)).set_ 3 (.slice (some ⟨g2,0,none⟩) 2 2)).set_ 4 (.int .i64 ((hdT r).at_ :Int))
  have e:Bk (((((w8.setCell ⟨bx,0,none⟩ (.int .u8 (first+k))).setCell ⟨bx,1,none⟩ (.string noB)).setCell ⟨bx,2,none⟩ (.int .i64 0)).setCell ⟨bx,3,none⟩ (.slice (some ⟨g2,0,none⟩) 2 2)).setCell ⟨bx,4,none⟩ (.int .i64 ((hdT r).at_ :Int))) bx 68 #[.int .u8 (first+k),.string noB,.int .i64 0,.slice (some ⟨g2,0,none⟩) 2 2,.int .i64 ((hdT r).at_ :Int)]:=by simpa using this
  exact e
 ·refine⟨by show in8 (first+k);unfold in8;omega,by show in64 0;unfold in64;omega,hat,some ⟨g2,0,none⟩,2,rfl,lrq 2,sl2,fun _=>⟨g2,0,rfl,?_⟩⟩
  refine exR_two (hb8.fr hf9 (fun e=>by omega)) ⟨by omega,by omega,by omega⟩ ⟨x1,x2,x3⟩ ⟨y1,y2,y3⟩ (hsx.imp fun _ _ h=>?_) (hsy.imp fun _ _ h=>?_)
  ·refine ExR.more (fun b hb=>⟨hb.1,by have:=hb.2.1;omega,hb.2.2⟩) (ExR.keep (hfa.same fun b hb=>⟨hb.2.1,fun e=>?_⟩) h)
   rcases e with e|e
   ·have:=hb.1
    omega
   ·exact hb.2.2 e
  ·refine ExR.more (fun b hb=>⟨?_,?_,?_⟩) (ExR.keep (hfb.same fun b hb=>⟨hb.2,fun e=>?_⟩) h)
   all_goals
    have h1:w5.heap.size≤b:=hb.1
    have h2:b < w7.heap.size:=hb.2
    first|omega|(show b < w9.heap.size;omega)|(show w.heap.size+1≤b;omega)
 ·refine hp7.fr hfb (fun e=>hbxP e.symm) (fun e=>?_) (fun i hi e=>?_)
  ·omega
  ·omega
 ·rw[hw9]
  have:=((hch.fr.trans hf5).drew.trans hf7).trans hf8.any
  exact Fr.high (Fr.high (Fr.high (Fr.high (Fr.high this (by omega) _ _) (by omega) _ _) (by omega) _ _) (by omega) _ _) (by omega) _ _

theorem exP_box {C:Pcx} {w WA w7 w9:World} {d rb:Nat} {x:Ex} {l:List Tk} {A:Option Addr} {c:Nat} (hL:C.P < w.heap.size∧C.TB < w.heap.size∧C.W0.heap.size≤w.heap.size) (hA:Fr NoT w WA) (hr:w.heap.size≤rb) (hr2:rb < WA.heap.size)
  (hv:ExV w7 WA.heap.size (exV x.k x.nm x.n A x.args.len c x.at_) x) (hp:PaAt C w7 l d) (hf:Fr C.T WA w7)
  (h9:w9=((((w7.setCell ⟨rb,0,none⟩ (.int .u8 x.k)).setCell ⟨rb,1,none⟩ (.string x.nm)).setCell ⟨rb,2,none⟩ (.int .i64 x.n)).setCell ⟨rb,3,none⟩ (.slice A x.args.len c)).setCell ⟨rb,4,none⟩ (.int .i64 x.at_)):
  ExP C d (.ok x l) w (.returned (exV x.k x.nm x.n A x.args.len c x.at_)) w9:=by
 have hf9:Fr (fun b=>b=rb) w7 w9:=by rw[h9];exact Fr.own (Fr.own (Fr.own (Fr.own (Fr.own (Fr.refl _ _) _ _) _ _) _ _) _ _) _ _
 have h1:=hA.size
 unfold ExP
 refine⟨_,rfl,(ExV.fr hv hf9 fun b h2 h3 e=>?_).low (by omega),hp.fr hf9 (fun e=>?_) (fun e=>?_) (fun i hi e=>?_),?_⟩
 ·have e:b=rb:=e
  omega
 ·have e:C.P=rb:=e
  omega
 ·have e:C.TB=rb:=e
  omega
 ·have e:i=rb:=e
  omega
 ·rw[h9]
  have:=hA.any.trans hf
  exact Fr.high (Fr.high (Fr.high (Fr.high (Fr.high this (by omega) _ _) (by omega) _ _) (by omega) _ _) (by omega) _ _) (by omega) _ _
def strA (signs:List (List UInt8)):Array Value:=(signs.map fun s=>Value.string ⟨s.toArray⟩).toArray
theorem ordA (w:World) (cs ss:Array Value) (W:World) (hW:W=((w.alloc (.cells cs 5)).alloc (.cells ss 9)).drew):Bk W w.heap.size 5 cs∧Bk W (w.heap.size+1) 9 ss∧Fr NoT w W:=by
 subst hW
 exact⟨(Bk.new w _ _).alloc _,Bk.new_at _ _ _ (by simp),Fr.drew (((Fr.refl NoT w).alloc _).alloc _)⟩
theorem ordB (w:World) (cs ss:Array Value) (W:World) (hW:W=((w.alloc (.cells ss 9)).alloc (.cells cs 5)).drew):Bk W (w.heap.size+1) 5 cs∧Bk W w.heap.size 9 ss∧Fr NoT w W:=by
 subst hW
 exact⟨Bk.new_at _ _ _ (by simp),(Bk.new w _ _).alloc _,Fr.drew (((Fr.refl NoT w).alloc _).alloc _)⟩

def PT (C:Pcx) (rb:Nat):Nat→Prop:=fun b=>b=C.P∨b=rb
theorem PT.l {C:Pcx} {rb:Nat} {W w':World} (h:Fr C.T W w'):Fr (PT C rb) W w':=h.mono fun i _ h=>Or.inl h
theorem bk5 {w:World} {rb:Nat} {a b c d e:Value} {A B D E F:Value} (h:Bk w rb 68 #[a,b,c,d,e]):
  Bk (((((w.setCell ⟨rb,0,none⟩ A).setCell ⟨rb,1,none⟩ B).setCell ⟨rb,2,none⟩ D).setCell ⟨rb,3,none⟩ E).setCell ⟨rb,4,none⟩ F) rb 68 #[A,B,D,E,F]:=by
 have:=((((h.set_ 0 A).set_ 1 B).set_ 2 D).set_ 3 E).set_ 4 F
 simpa using this

def ExK (C:Pcx) (d:Nat) (x:Ex) (l:List Tk) (W:World) (e:Ending) (w':World):Prop:=∃v,e= .returned v∧ExV w' W.heap.size v x∧PaAt C w' l d∧Fr C.T W w'
set_option maxRecDepth 100000 in
set_option maxHeartbeats 1600000 in
theorem chainE_ok (C:Pcx) (one:List Tk→PR Ex) (first:Int) (signs:List (List UInt8)) (g:Nat) (fst cap:Array Value) (bt b c:Nat) (l:List Tk) (d:Nat) (w:World) (X:Ex) (Rr:List Tk) (hok:chainP one (twoX first) signs l= .ok X Rr) (hk:C.Ok) (h:PaAt C w l d) (hshr:Shr one)
  (hsg:∀s∈signs,s≠ []) (hsl:signs.length≤3) (hc:∀j,j < signs.length→w.cell? ⟨b,j,none⟩=some (.string ⟨(signs.getD j []).toArray⟩)) (hbl:b < w.heap.size) (hbP:b≠C.P)
  (hbt:Bk w bt 5 #[.int .u8 first]) (hbtP:bt≠C.P) (hf0:0≤first) (hf1:first≤20)
  (hent:Enters Tryz.prog g) (hone:∀W,Fr C.T w W→∀l' x r,one l'= .ok x r→PaAt C W l' d→Calls Tryz.prog g (fst++cap) W (ExK C d x r W)):
  Calls Tryz.prog 174 #[pP C,.func (.func g) fst cap,.func (.func 206) #[] #[.pointer (some ⟨bt,0,none⟩)],.slice (some ⟨b,0,none⟩) signs.length c] w (ExK C d X Rr w):=by
 obtain⟨R,hR⟩:=nmq (chainP one (twoX first) signs l)
 rw[←hR]at hok
 have HR:=hdq hR
 have HOK:=hdq hok
 have H0:=hdq h
 have HL:=hdq h.lts
 have HONE:=hdq hone
 obtain⟨n,hn⟩:=nmq signs.length
 have HC:=hdq hc
 have HSG:=hdq hsg
 have HN:=hdq hn
 rw[←hn]at hsl ⊢
 unfold Enters at hent
 have h2:=h.alloc (.cells #[.int .u8 0,.string ⟨#[]⟩,.int .i64 0,.slice none 0 0,.int .i64 0] 68)
 have H2:=hdq h2
 clear hR h hone hc hsg hn h2 hok
 cases ho:one l with
 |err e a=>exact absurd HOK.out (by rw[HR.out];unfold chainP;rw[ho];simp[PR.then])
 |ok x l1=>
  have hq:=HONE.out _ ((Fr.refl C.T w).alloc (.cells #[.int .u8 0,.string ⟨#[]⟩,.int .i64 0,.slice none 0 0,.int .i64 0] 68)) l _ _ ho H2.out
  have hRe:R=chainF one (twoX first) signs l1.length x l1:=by rw[HR.out];unfold chainP;rw[ho];rfl
  have HRE:=hdq hRe
  unfold ExK at hq
  unfold pP at*
  have HQ:=hdq hq
  clear hq ho hRe
  go_enter Tryz.func174,Tryz.ntmps174
  go_wp2_with fail
  try simp only[Array.append_empty]
  refine HQ.out.mono ?_
  rintro _ w2 ⟨v,rfl,hv,hpa,hf⟩
  obtain⟨A,c1,rfl⟩:=ExVS.parts hv
  have hch:ChE C w w2.heap.size d R one first signs (w2.alloc (.cells #[.int .u8 x.k,.string x.nm,.int .i64 x.n,.slice A x.args.len c1,.int .i64 x.at_] 68)) x A c1 l1:=by
   have hs:=hf.size
   rw[World.size_alloc]at hs
   refine⟨⟨_,HRE.out,lrq _⟩,?_,Bk.new _ _ _,hs,?_,hpa.alloc _,(((Fr.refl _ _).alloc _).trans hf).alloc _⟩
   ·exact((Bk.new w _ _).fr hf (fun e=>by have e:w.heap.size=C.P:=e;have:=HL.out.1;omega)).alloc _
   ·refine ExVS.fr (T:=NoT) hv ((Fr.refl _ _).alloc _) (fun b hb=>⟨hb.2,id⟩) fun b hb=>?_
    have h1:=hb.1
    have h2:=hb.2
    rw[World.size_alloc]at h1
    exact⟨h1,by rw[World.size_alloc];omega,by omega⟩
  obtain⟨bx,hbx⟩:=nmq w2.heap.size
  obtain⟨w3,hw3⟩:=nmq (w2.alloc (.cells #[.int .u8 x.k,.string x.nm,.int .i64 x.n,.slice A x.args.len c1,.int .i64 x.at_] 68))
  rw[←hbx,←hw3]at hch
  unfold exV
  have HCH:=hdq hch
  have HBX:=hdq hbx
  have HW3:=hdq hw3
  have hIs:∀W l',Fr C.T w W→PaAt C W l' d→Calls Tryz.prog 90 #[.pointer (some ⟨C.P,0,none⟩),.slice (some ⟨b,0,none⟩) n c] W fun e w'=>e= .returned (.int .i64 (isP signs l'))∧W=w':=fun W l' hF hP=>by
   have:=is_any C signs l' d b 0 c W hP (by rw[←HN.out];omega) (fun j hj=>by
    rw[Nat.zero_add]
    exact(hF.cell (p:=⟨b,j,none⟩) hbl hbP).trans (HC.out j hj))
   rw[←HN.out]at this
   exact this
  have HIS:=hdq hIs
  clear hv hpa hf hch hbx hw3 hIs
  go_wp2_with fail
  rw[←HW3.out]
  refine(HIS.out _ _ HCH.out.fr HCH.out.pa).mono ?_
  rintro _ w4 ⟨rfl,rfl⟩
  rw[←HBX.out]
  go_wp2_with fail
  go_loopw [10] (fun v wr=>∃(x:Ex) (A:Option Addr) (c1:Nat) (r:List Tk),v= .int .i64 (isP signs r)∧Hid (ChE C w bx d R one first signs wr x A c1 r)) (fun _ wr=>lenP C wr)
  case atStart=>exact⟨x,A,c1,l1,rfl,HCH⟩
  case round=>
   obtain⟨x,A,c1,r,rfl,hch⟩:=hrel
   obtain⟨k,hk0⟩:=nmq (isP signs r)
   rw[←hk0]
   have b1:=hch.out.box.cell 0
   have b2:=hch.out.box.cell 1
   have b3:=hch.out.box.cell 2
   have b4:=hch.out.box.cell 3
   have b5:=hch.out.box.cell 4
   have b0:=hch.out.box0.cell 0
   simp only[getsL]at b1 b2 b3 b4 b5
   have HK0:=hdq hk0
   clear hk0
   by_cases hneg:k < 0
   ·clear b0
    have g0:=hch.out.box0.frozen 0
    have g1:=hch.out.box0.frozen 1
    have g2:=hch.out.box0.frozen 2
    have g3:=hch.out.box0.frozen 3
    have g4:=hch.out.box0.frozen 4
    have q0:=hch.out.box0.cell 0
    have q1:=hch.out.box0.cell 1
    have q2:=hch.out.box0.cell 2
    have q3:=hch.out.box0.cell 3
    have q4:=hch.out.box0.cell 4
    have hlt0:=hch.out.box0.lt
    simp only[getsL]at q0 q1 q2 q3 q4
    have hne:¬0≤k:=by omega
    have hRR:R= .ok x r:=by
     obtain⟨f,hf,_⟩:=hch.out.eq
     rw[hf]
     cases f with
     |zero=>rfl
     |succ f=>simp only[chainF];rw[if_pos (by rw[←HK0.out];exact hneg)]
    have HRR:=hdq hRR
    clear hRR
    go_wp2_with fail
    refine bodyPost_ret (v:=exV x.k x.nm x.n A x.args.len c1 x.at_) (by simp[results,Tryz.results174,go_sem,exV,q0,q1,q2,q3,q4,hlt0]) rfl ?_
    unfold ExK
    have hXX:=HOK.out
    rw[HRR.out]at hXX
    simp only[PR.ok.injEq]at hXX
    obtain⟨rfl,rfl⟩:=hXX
    have hfr:Fr (fun b=>b=w.heap.size) wr (((((wr.setCell ⟨w.heap.size,0,none⟩ (.int .u8 x.k)).setCell ⟨w.heap.size,1,none⟩ (.string x.nm)).setCell ⟨w.heap.size,2,none⟩ (.int .i64 x.n)).setCell ⟨w.heap.size,3,none⟩ (.slice A x.args.len c1)).setCell ⟨w.heap.size,4,none⟩ (.int .i64 x.at_)):=by
     exact Fr.own (Fr.own (Fr.own (Fr.own (Fr.own (Fr.refl _ _) _ _) _ _) _ _) _ _) _ _
    refine⟨_,rfl,ExVS.fr hch.out.val hfr (fun b hb=>⟨hb.2.1,fun e=>by have:=hb.1;omega⟩) (fun b hb=>⟨by have:=hb.1;omega,by have:=hb.2.1;have:=hfr.size;omega⟩),?_,?_⟩
    ·refine hch.out.pa.fr hfr (fun e=>?_) (fun e=>?_) (fun i hi e=>?_)<;>have:=HL.out<;>omega
    ·exact Fr.high (Fr.high (Fr.high (Fr.high (Fr.high hch.out.fr (lrq _) _ _) (lrq _) _ _) (lrq _) _ _) (lrq _) _ _) (lrq _) _ _
   ·have hge:0≤k:=by omega
    have htx:=isP_text (signs:=signs) (l:=r) (by rw[←HK0.out];exact hge)
    have hnz:=HSG.out _ htx.1
    have hps:=pass_any C r d wr hk hch.out.pa (fun ht=>hnz ht.1)
    unfold PassP tkV pP at hps
    have HPS:=hdq hps
    have hkb:k≤5:=by
     have:=isP_le signs r
     rw[←HK0.out,←HN.out]at this
     omega
    clear hneg hps htx hnz
    go_wp2_with fail
    refine HPS.out.mono ?_
    rintro _ w5 ⟨rfl,hpa,hf⟩
    have hbxP:bx≠C.P:=by have:=hch.out.hbx;have:=HL.out.1;omega
    have hbk5:=hch.out.box.fr hf hbxP
    have HP5:=hdq hpa
    have HF5:=hdq (hch.out.fr.trans hf)
    have HFx:=hdq hf
    have y1:=hbk5.cell 0
    have y2:=hbk5.cell 1
    have y3:=hbk5.cell 2
    have y4:=hbk5.cell 3
    have y5:=hbk5.cell 4
    simp only[getsL]at y1 y2 y3 y4 y5
    have HBK5:=hdq hbk5
    have hone:=fun W hW=>HONE.out W hW r.tail
    clear hpa hf hbk5 b0 b1 b2 b3 b4 b5
    go_wp2_with fail
    cases ho:one r.tail with
    |err e a=>
     refine absurd HOK.out ?_
     obtain⟨f,hf,hfl⟩:=hch.out.eq
     have hrl:0 < r.length:=List.length_pos_iff.2 hch.out.pa.ne
     obtain⟨f,rfl⟩:∃f',f=f'+1:=⟨f - 1,by omega⟩
     rw[hf]
     simp only[chainF]
     rw[if_neg (by rw[←HK0.out];omega),ho]
     simp[PR.then]
    |ok y l2=>
     have hq:=hone _ HF5.out.drew _ _ ho (HP5.out.fr (T:=NoT) (Fr.drew (Fr.refl _ _)) id id (fun _ _=>id))
     unfold ExK at hq
     have HQQ:=hdq hq
     have hRR:∃f,R=chainF one (twoX first) signs f (twoX first k (hdT r).at_ x y) l2∧l2.length≤f:=by
      obtain⟨f,hf,hfl⟩:=hch.out.eq
      have hrl:0 < r.length:=List.length_pos_iff.2 hch.out.pa.ne
      obtain⟨f,rfl⟩:∃f',f=f'+1:=⟨f - 1,by omega⟩
      refine⟨f,?_,?_⟩
      ·rw[hf]
       simp only[chainF]
       rw[if_neg (by rw[←HK0.out];omega),ho,←HK0.out]
       rfl
      ·have:=hshr _ _ _ ho
       rw[List.length_tail]at this
       omega
     have HRR:=hdq hRR
     have HS:=hdq (hshr _ _ _ ho)
     clear hq hRR ho hone
     go_region_with
      (first
       |(go_at_call 206
         with_reducible refine(two1_any first k (hdT r).at_ bt x.k x.n x.at_ y.k y.n y.at_ x.nm y.nm A A2 x.args.len y.args.len c1 c2 w7 HBT7.out.1 HBT7.out.2 hge hkb hf0 hf1).mono ?_
         rintro _ w8 ⟨g2,rfl,hb8,hg8,hg8',hf8⟩
         have hbb:=HB7.out.fr0 hf8
         have q1:=hbb.cell 0
         have q2:=hbb.cell 1
         have q3:=hbb.cell 2
         have q4:=hbb.cell 3
         have q5:=hbb.cell 4
         have f1:=hbb.frozen 0
         have f2:=hbb.frozen 1
         have f3:=hbb.frozen 2
         have f4:=hbb.frozen 3
         have f5:=hbb.frozen 4
         simp only[getsL]at q1 q2 q3 q4 q5
         have HB8:=hdq hb8
         have HG8:=hdq (show w7.heap.size≤g2∧g2 < w8.heap.size from⟨hg8,hg8'⟩)
         have HF8:=hdq hf8
         have HBB:=hdq hbb
         clear hb8 hg8 hg8' hf8 hbb z1 z2 z3 z4 z5
         unfold exV)
       |(with_reducible refine HQQ.out.mono ?_
         rintro _ w7 ⟨v7,rfl,hv7,hpa7,hf7⟩
         obtain⟨A2,c2,rfl⟩:=ExVS.parts hv7
         have hb7:=(HBK5.out.fr (Fr.drew (Fr.refl NoT _)) id).fr hf7 hbxP
         have z1:=hb7.cell 0
         have z2:=hb7.cell 1
         have z3:=hb7.cell 2
         have z4:=hb7.cell 3
         have z5:=hb7.cell 4
         simp only[getsL]at z1 z2 z3 z4 z5
         have HB7:=hdq hb7
         have HV7:=hdq hv7
         have HP7:=hdq hpa7
         have HF7:=hdq hf7
         have hbt7:=((hbt.fr HF5.out hbtP).fr (Fr.drew (Fr.refl NoT _)) id).fr hf7 hbtP
         have HBT7:=hdq (show bt < w7.heap.size∧w7.cell? ⟨bt,0,none⟩=some (.int .u8 first)from⟨hbt7.lt,hbt7.cell 0⟩)
         clear hb7 hv7 hpa7 hf7 hbt7
         unfold exV))
     all_goals(go_wp2_with fail)
     all_goals
      obtain⟨w9,hw9⟩:=nmq ((((((w8.setCell ⟨bx,0,none⟩ (.int .u8 (first+k))).setCell ⟨bx,1,none⟩ (.string noB)).setCell ⟨bx,2,none⟩ (.int .i64 0)).setCell ⟨bx,3,none⟩ (.slice (some ⟨g2,0,none⟩) 2 2)).setCell ⟨bx,4,none⟩ (.int .i64 ((hdT r).at_ :Int))))
      have hch9:=chE_step hk HL.out hch.out hbxP HFx.out HV7.out HP7.out HF7.out HB8.out HG8.out HF8.out HBB.out HRR.out hge hkb hf0 hf1 w9 hw9
      rw[←hw9]
      have HCH9:=hdq hch9
      have HL9:=hdq (show lenP C w9 < lenP C wr from by
       rw[hch9.pa.lenP,hch.out.pa.lenP]
       have h1:=HS.out
       have h2:=List.length_pos_iff.2 hch.out.pa.ne
       rw[List.length_tail]at h1
       omega)
      clear hw9 hch9 q1 q2 q3 q4 q5 f1 f2 f3 f4 f5
      refine(HIS.out _ l2 HCH9.out.fr HCH9.out.pa).mono ?_
      rintro _ w10 ⟨rfl,rfl⟩
      go_wp2_with fail
      go_roundw
      case rel=>exact⟨_,_,_,l2,rfl,HCH9⟩
      case measure=>exact HL9.out
end Go.Proofs.YtphlnpaikpjakaaGreatDoor
