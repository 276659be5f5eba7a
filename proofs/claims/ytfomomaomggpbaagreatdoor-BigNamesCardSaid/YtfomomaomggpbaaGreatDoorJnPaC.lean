/-
  parse: chain, of expressions.
-/
import Derived.Test.YtfomomaomggpbaaGreatDoorJnPa
import Derived.Deep.RegionHeld2
set_option linter.unusedVariables false
set_option linter.unusedSimpArgs false
set_option maxHeartbeats 3200000
set_option maxRecDepth 100000
namespace Go.Proofs.YtfomomaomggpbaaGreatDoor
open Go.RowKit Go.Shelf

theorem idxFromS_le (x:ByteArray):∀(zs:List ByteArray) (i:Nat),Lib.idxFromS zs x i≤(i+zs.length:Nat)
 | [],i=>by simp[Lib.idxFromS]<;>omega
 |z::zs,i=>by
  have:=idxFromS_le x zs (i+1)
  simp only[Lib.idxFromS]
  split
  ·simp;omega
  ·simp at this ⊢;omega
theorem isP_le (signs:List (List UInt8)) (l:List Tk):isP signs l≤signs.length:=by
 unfold isP
 split
 ·omega
 ·have:=idxFromS_le (txt (hdT l)) (signs.map fun s=>(⟨s.toArray⟩:ByteArray)) 0
  simpa[Lib.idxOfS]using this
def lenP (C:Pcx) (w:World):Nat:=match w.cell? ⟨C.P,0,none⟩with|some (.slice _ m _)=>m|_=>0
theorem PaAt.lenP {C:Pcx} {w:World} {l:List Tk} {d:Nat} (h:PaAt C w l d):lenP C w=l.length:=by
 obtain⟨j,cap,m,hm0,hm1,hl,hmc,hcm,hb,p0,_⟩:=h.cells
 unfold Go.Proofs.YtfomomaomggpbaaGreatDoor.lenP
 rw[p0,hm0]
def NewX (L bx:Nat) (w:World):Nat→Prop:=fun b=>L≤b∧b < w.heap.size∧b≠bx
structure ChE (C:Pcx) (w:World) (bx d:Nat) (R:PR Ex) (one:List Tk→PR Ex) (first:Int) (signs:List (List UInt8)) (wr:World) (x:Ex) (A:Option Addr) (c:Nat) (l:List Tk):Prop where
 eq:∃f,R=chainF one (twoX first) signs f x l∧l.length≤f
 box0:Bk wr w.heap.size 175 #[.int .u8 0,.string noB,.int .i64 0,.slice none 0 0,.int .i64 0]
 box:Bk wr bx 175 #[.int .u8 x.k,.string x.nm,.int .i64 x.n,.slice A x.args.len c,.int .i64 x.at_]
 hbx:w.heap.size+1≤bx
 val:ExVS wr (NewX (w.heap.size+1) bx wr) (exV x.k x.nm x.n A x.args.len c x.at_) x
 pa:PaAt C wr l d
 fr:Fr C.T w wr
theorem ExVS.parts {w:World} {S:Nat→Prop} {v:Value} {x:Ex} (h:ExVS w S v x):∃A c,v=exV x.k x.nm x.n A x.args.len c x.at_:=by
 obtain⟨_,_,_,A,c,e,_⟩:=h
 exact⟨A,c,e⟩

theorem chE_step {C:Pcx} {w wr w5 w7 w8:World} {bx d:Nat} {R:PR Ex} {one:List Tk→PR Ex} {first:Int} {signs:List (List UInt8)} {x y:Ex} {A A2:Option Addr} {c1 c2:Nat} {r l2:List Tk} {k:Int} {g2:Nat}
  (hk:C.Ok) (hL:C.P < w.heap.size∧C.TB < w.heap.size∧C.W0.heap.size≤w.heap.size) (hch:ChE C w bx d R one first signs wr x A c1 r) (hbxP:bx≠C.P) (hf5:Fr C.T wr w5) (hv7:ExV w7 w5.drew.heap.size (exV y.k y.nm y.n A2 y.args.len c2 y.at_) y) (hp7:PaAt C w7 l2 d) (hf7:Fr C.T w5.drew w7)
  (hb8:Bk w8 g2 175 #[.int .u8 x.k,.string x.nm,.int .i64 x.n,.slice A x.args.len c1,.int .i64 x.at_,.int .u8 y.k,.string y.nm,.int .i64 y.n,.slice A2 y.args.len c2,.int .i64 y.at_])
  (hg8:w7.heap.size≤g2∧g2 < w8.heap.size) (hf8:Fr NoT w7 w8) (hbb:Bk w8 bx 175 #[.int .u8 x.k,.string x.nm,.int .i64 x.n,.slice A x.args.len c1,.int .i64 x.at_])
  (hRR:∃f,R=chainF one (twoX first) signs f (twoX first k (hdT r).at_ x y) l2∧l2.length≤f) (hge:0≤k) (hkb:k≤5) (hf0:0≤first) (hf1:first≤20) (w9:World)
  (hw9:w9=(((((w8.setCell ⟨bx,0,none⟩ (.int .u8 (first+k))).setCell ⟨bx,1,none⟩ (.string noB)).setCell ⟨bx,2,none⟩ (.int .i64 0)).setCell ⟨bx,3,none⟩ (.slice (some ⟨g2,0,none⟩) 2 2)).setCell ⟨bx,4,none⟩ (.int .i64 ((hdT r).at_ :Int)))):
  ChE C w bx d R one first signs w9 (twoX first k (hdT r).at_ x y) (some ⟨g2,0,none⟩) 2 l2:=by
 have hf9:Fr (fun b=>b=bx) w8 w9:=by rw[hw9];exact Fr.own (Fr.own (Fr.own (Fr.own (Fr.own (Fr.refl _ _) _ _) _ _) _ _) _ _) _ _
 have hbl:bx < wr.heap.size:=hch.box.lt
 have hs0:=hch.fr.size
 have hs5:=hf5.size
 have hs7:w5.heap.size≤w7.heap.size:=hf7.size
 have hs8:=hf8.size
 have hs9:=hf9.size
 have hb1:=hch.hbx
 have hT:∀b,C.T b→b=C.P:=fun _ h=>h
 have hfa:Fr (fun b=>b=C.P∨b=bx) wr w9:=
  (((hf5.drew.mono fun i _ h=>Or.inl (hT i h)).trans (hf7.mono fun i _ h=>Or.inl (hT i h))).trans hf8.any).trans (hf9.mono fun i _ h=>Or.inr h)
 have hfb:Fr (fun b=>b=bx) w7 w9:=hf8.any.trans hf9
 have hat:in64 ((hdT r).at_ :Int):=by
  obtain⟨j,cap,e,_⟩:=hch.pa.at_
  have:=hk.pos _ (List.mem_of_getElem? (drop_head e hch.pa.ne).1)
  unfold in64;omega
 obtain⟨x1,x2,x3,Ax,cx,ex,hsx⟩:=hch.val
 obtain⟨y1,y2,y3,Ay,cy,ey,hsy⟩:=hv7
 simp only[exV,Value.agg.injEq,Array.mk.injEq,List.cons.injEq,Value.slice.injEq,true_and,and_true]at ex ey
 obtain⟨rfl,rfl⟩:=ex
 obtain⟨rfl,rfl⟩:=ey
 refine⟨hRR,?_,?_,hch.hbx,?_,?_,?_⟩
 ·exact(hch.box0.fr hfa (fun e=>by
   rcases e with e|e<;>omega))
 ·rw[hw9]
  have:=((((hbb.set_ 0 (.int .u8 (first+k))).set_ 1 (.string noB)).set_ 2 (.int .i64 0)).set_ 3 (.slice (some ⟨g2,0,none⟩) 2 2)).set_ 4 (.int .i64 ((hdT r).at_ :Int))
  have e:Bk (((((w8.setCell ⟨bx,0,none⟩ (.int .u8 (first+k))).setCell ⟨bx,1,none⟩ (.string noB)).setCell ⟨bx,2,none⟩ (.int .i64 0)).setCell ⟨bx,3,none⟩ (.slice (some ⟨g2,0,none⟩) 2 2)).setCell ⟨bx,4,none⟩ (.int .i64 ((hdT r).at_ :Int))) bx 175 #[.int .u8 (first+k),.string noB,.int .i64 0,.slice (some ⟨g2,0,none⟩) 2 2,.int .i64 ((hdT r).at_ :Int)]:=by simpa using this
  exact e
 ·refine⟨by show in8 (first+k);unfold in8;omega,by show in64 0;unfold in64;omega,hat,some ⟨g2,0,none⟩,2,rfl,lrq 2,sl2,fun _=>⟨g2,0,rfl,?_⟩⟩
  refine exR_two (hb8.fr hf9 (fun e=>by omega)) ⟨by omega,by omega,by omega⟩ ⟨x1,x2,x3⟩ ⟨y1,y2,y3⟩ (hsx.imp fun _ _ h=>?_) (hsy.imp fun _ _ h=>?_)
  ·refine ExR.more (fun b hb=>⟨hb.1,by have:=hb.2.1;omega,hb.2.2⟩) (ExR.keep (hfa.same fun b hb=>⟨hb.2.1,fun e=>?_⟩) h)
   rcases e with e|e
   ·have:=hb.1
    omega
   ·exact hb.2.2 e
  ·refine ExR.more (fun b hb=>⟨?_,?_,?_⟩) (ExR.keep (hfb.same fun b hb=>⟨hb.2,fun e=>?_⟩) h)
   all_goals
    have h1:w5.heap.size≤b:=hb.1
    have h2:b < w7.heap.size:=hb.2
    first|omega|(show b < w9.heap.size;omega)|(show w.heap.size+1≤b;omega)
 ·refine hp7.fr hfb (fun e=>hbxP e.symm) (fun e=>?_) (fun i hi e=>?_)
  ·omega
  ·omega
 ·rw[hw9]
  have:=((hch.fr.trans hf5).drew.trans hf7).trans hf8.any
  exact Fr.high (Fr.high (Fr.high (Fr.high (Fr.high this (by omega) _ _) (by omega) _ _) (by omega) _ _) (by omega) _ _) (by omega) _ _
theorem chainE_any (C:Pcx) (one:List Tk→PR Ex) (first:Int) (signs:List (List UInt8)) (g:Nat) (fst cap:Array Value) (bt b c:Nat) (l:List Tk) (d:Nat) (w:World) (hk:C.Ok) (h:PaAt C w l d) (hshr:Shr one)
  (hsg:∀s∈signs,s≠ []) (hsl:signs.length≤3) (hc:∀j,j < signs.length→w.cell? ⟨b,j,none⟩=some (.string ⟨(signs.getD j []).toArray⟩)) (hbl:b < w.heap.size) (hbP:b≠C.P)
  (hbt:Bk w bt 5 #[.int .u8 first]) (hbtP:bt≠C.P) (hf0:0≤first) (hf1:first≤20)
  (hent:Enters Tryz.prog g) (hone:∀W,Fr C.T w W→∀l',PaAt C W l' d→Calls Tryz.prog g (fst++cap) W (ExP C d (one l') W)):
  Calls Tryz.prog 285 #[pP C,.func (.func g) fst cap,.func (.func 305) #[] #[.pointer (some ⟨bt,0,none⟩)],.slice (some ⟨b,0,none⟩) signs.length c] w (ExP C d (chainP one (twoX first) signs l) w):=by
 obtain⟨R,hR⟩:=nmq (chainP one (twoX first) signs l)
 rw[←hR]
 have HR:=hdq hR
 have H0:=hdq h
 have HL:=hdq h.lts
 have HONE:=hdq hone
 obtain⟨n,hn⟩:=nmq signs.length
 have HC:=hdq hc
 have HSG:=hdq hsg
 have HN:=hdq hn
 rw[←hn]at hsl ⊢
 unfold Enters at hent
 have h2:=h.alloc (.cells #[.int .u8 0,.string ⟨#[]⟩,.int .i64 0,.slice none 0 0,.int .i64 0] 175)
 have H2:=hdq h2
 clear hR h hone hc hsg hn h2
 cases ho:one l with
 |err e a=>
  have hq:=HONE.out _ ((Fr.refl C.T w).alloc (.cells #[.int .u8 0,.string ⟨#[]⟩,.int .i64 0,.slice none 0 0,.int .i64 0] 175)) l H2.out
  rw[ho]at hq
  have hRe:R= .err e a:=by rw[HR.out];unfold chainP;rw[ho];rfl
  rw[hRe]
  unfold ExP at hq ⊢
  simp only at hq ⊢
  unfold wrongE pP at*
  have HQ:=hdq hq
  clear hq ho hRe
  go_enter Tryz.func285,Tryz.ntmps285
  go_wp2_with fail
  try simp only[Array.append_empty]
  refine HQ.out.mono ?_
  rintro _ w2 ⟨rfl,hf⟩
  go_wp2_with fail
  exact⟨rfl,rfl,((Fr.refl _ _).alloc _).trans hf⟩
 |ok x l1=>
  have hq:=HONE.out _ ((Fr.refl C.T w).alloc (.cells #[.int .u8 0,.string ⟨#[]⟩,.int .i64 0,.slice none 0 0,.int .i64 0] 175)) l H2.out
  rw[ho]at hq
  have hRe:R=chainF one (twoX first) signs l1.length x l1:=by rw[HR.out];unfold chainP;rw[ho];rfl
  have HRE:=hdq hRe
  unfold ExP at hq
  simp only at hq
  unfold pP at*
  have HQ:=hdq hq
  clear hq ho hRe
  go_enter Tryz.func285,Tryz.ntmps285
  go_wp2_with fail
  try simp only[Array.append_empty]
  refine HQ.out.mono ?_
  rintro _ w2 ⟨v,rfl,hv,hpa,hf⟩
  obtain⟨A,c1,rfl⟩:=ExVS.parts hv
  have hch:ChE C w w2.heap.size d R one first signs (w2.alloc (.cells #[.int .u8 x.k,.string x.nm,.int .i64 x.n,.slice A x.args.len c1,.int .i64 x.at_] 175)) x A c1 l1:=by
   have hs:=hf.size
   rw[World.size_alloc]at hs
   refine⟨⟨_,HRE.out,lrq _⟩,?_,Bk.new _ _ _,hs,?_,hpa.alloc _,(((Fr.refl _ _).alloc _).trans hf).alloc _⟩
   ·exact((Bk.new w _ _).fr hf (fun e=>by have e:w.heap.size=C.P:=e;have:=HL.out.1;omega)).alloc _
   ·refine ExVS.fr (T:=NoT) hv ((Fr.refl _ _).alloc _) (fun b hb=>⟨hb.2,id⟩) fun b hb=>?_
    have h1:=hb.1
    have h2:=hb.2
    rw[World.size_alloc]at h1
    exact⟨h1,by rw[World.size_alloc];omega,by omega⟩
  obtain⟨bx,hbx⟩:=nmq w2.heap.size
  obtain⟨w3,hw3⟩:=nmq (w2.alloc (.cells #[.int .u8 x.k,.string x.nm,.int .i64 x.n,.slice A x.args.len c1,.int .i64 x.at_] 175))
  rw[←hbx,←hw3]at hch
  unfold exV
  have HCH:=hdq hch
  have HBX:=hdq hbx
  have HW3:=hdq hw3
  have hIs:∀W l',Fr C.T w W→PaAt C W l' d→Calls Tryz.prog 200 #[.pointer (some ⟨C.P,0,none⟩),.slice (some ⟨b,0,none⟩) n c] W fun e w'=>e= .returned (.int .i64 (isP signs l'))∧W=w':=fun W l' hF hP=>by
   have:=is_any C signs l' d b 0 c W hP (by rw[←HN.out];omega) (fun j hj=>by
    rw[Nat.zero_add]
    exact(hF.cell (p:=⟨b,j,none⟩) hbl hbP).trans (HC.out j hj))
   rw[←HN.out]at this
   exact this
  have HIS:=hdq hIs
  clear hv hpa hf hch hbx hw3 hIs
  go_wp2_with fail
  rw[←HW3.out]
  refine(HIS.out _ _ HCH.out.fr HCH.out.pa).mono ?_
  rintro _ w4 ⟨rfl,rfl⟩
  rw[←HBX.out]
  go_wp2_with fail
  go_loopw [10] (fun v wr=>∃(x:Ex) (A:Option Addr) (c1:Nat) (r:List Tk),v= .int .i64 (isP signs r)∧Hid (ChE C w bx d R one first signs wr x A c1 r)) (fun _ wr=>lenP C wr)
  case atStart=>exact⟨x,A,c1,l1,rfl,HCH⟩
  case round=>
   obtain⟨x,A,c1,r,rfl,hch⟩:=hrel
   obtain⟨k,hk0⟩:=nmq (isP signs r)
   rw[←hk0]
   have b1:=hch.out.box.cell 0
   have b2:=hch.out.box.cell 1
   have b3:=hch.out.box.cell 2
   have b4:=hch.out.box.cell 3
   have b5:=hch.out.box.cell 4
   have b0:=hch.out.box0.cell 0
   simp only[getsL]at b1 b2 b3 b4 b5
   have HK0:=hdq hk0
   clear hk0
   by_cases hneg:k < 0
   ·clear b0
    have g0:=hch.out.box0.frozen 0
    have g1:=hch.out.box0.frozen 1
    have g2:=hch.out.box0.frozen 2
    have g3:=hch.out.box0.frozen 3
    have g4:=hch.out.box0.frozen 4
    have q0:=hch.out.box0.cell 0
    have q1:=hch.out.box0.cell 1
    have q2:=hch.out.box0.cell 2
    have q3:=hch.out.box0.cell 3
    have q4:=hch.out.box0.cell 4
    have hlt0:=hch.out.box0.lt
    simp only[getsL]at q0 q1 q2 q3 q4
    have hne:¬0≤k:=by omega
    have hRR:R= .ok x r:=by
     obtain⟨f,hf,_⟩:=hch.out.eq
     rw[hf]
     cases f with
     |zero=>rfl
     |succ f=>simp only[chainF];rw[if_pos (by rw[←HK0.out];exact hneg)]
    have HRR:=hdq hRR
    clear hRR
    go_wp2_with fail
    refine bodyPost_ret (v:=exV x.k x.nm x.n A x.args.len c1 x.at_) (by simp[results,Tryz.results285,go_sem,exV,q0,q1,q2,q3,q4,hlt0]) rfl ?_
    rw[HRR.out]
    unfold ExP
    simp only
    have hfr:Fr (fun b=>b=w.heap.size) wr (((((wr.setCell ⟨w.heap.size,0,none⟩ (.int .u8 x.k)).setCell ⟨w.heap.size,1,none⟩ (.string x.nm)).setCell ⟨w.heap.size,2,none⟩ (.int .i64 x.n)).setCell ⟨w.heap.size,3,none⟩ (.slice A x.args.len c1)).setCell ⟨w.heap.size,4,none⟩ (.int .i64 x.at_)):=by
     exact Fr.own (Fr.own (Fr.own (Fr.own (Fr.own (Fr.refl _ _) _ _) _ _) _ _) _ _) _ _
    refine⟨_,rfl,ExVS.fr hch.out.val hfr (fun b hb=>⟨hb.2.1,fun e=>by have:=hb.1;omega⟩) (fun b hb=>⟨by have:=hb.1;omega,by have:=hb.2.1;have:=hfr.size;omega⟩),?_,?_⟩
    ·refine hch.out.pa.fr hfr (fun e=>?_) (fun e=>?_) (fun i hi e=>?_)<;>have:=HL.out<;>omega
    ·exact Fr.high (Fr.high (Fr.high (Fr.high (Fr.high hch.out.fr (lrq _) _ _) (lrq _) _ _) (lrq _) _ _) (lrq _) _ _) (lrq _) _ _
   ·have hge:0≤k:=by omega
    have htx:=isP_text (signs:=signs) (l:=r) (by rw[←HK0.out];exact hge)
    have hnz:=HSG.out _ htx.1
    have hps:=pass_any C r d wr hk hch.out.pa (fun ht=>hnz ht.1)
    unfold PassP tkV pP at hps
    have HPS:=hdq hps
    have hkb:k≤5:=by
     have:=isP_le signs r
     rw[←HK0.out,←HN.out]at this
     omega
    clear hneg hps htx hnz
    go_wp2_with fail
    refine HPS.out.mono ?_
    rintro _ w5 ⟨rfl,hpa,hf⟩
    have hbxP:bx≠C.P:=by have:=hch.out.hbx;have:=HL.out.1;omega
    have hbk5:=hch.out.box.fr hf hbxP
    have HP5:=hdq hpa
    have HF5:=hdq (hch.out.fr.trans hf)
    have HFx:=hdq hf
    have y1:=hbk5.cell 0
    have y2:=hbk5.cell 1
    have y3:=hbk5.cell 2
    have y4:=hbk5.cell 3
    have y5:=hbk5.cell 4
    simp only[getsL]at y1 y2 y3 y4 y5
    have HBK5:=hdq hbk5
    have hone:=fun W hW=>HONE.out W hW r.tail
    clear hpa hf hbk5 b0 b1 b2 b3 b4 b5
    go_wp2_with fail
    cases ho:one r.tail with
    |err e a=>
     have hq:=hone _ HF5.out.drew (HP5.out.fr (T:=NoT) (Fr.drew (Fr.refl _ _)) id id (fun _ _=>id))
     rw[ho]at hq
     unfold ExP at hq
     simp only at hq
     unfold wrongE at hq
     have HQQ:=hdq hq
     have hRR:R= .err e a:=by
      obtain⟨f,hf,hfl⟩:=hch.out.eq
      have hrl:0 < r.length:=List.length_pos_iff.2 hch.out.pa.ne
      obtain⟨f,rfl⟩:∃f',f=f'+1:=⟨f - 1,by omega⟩
      rw[hf]
      simp only[chainF]
      rw[if_neg (by rw[←HK0.out];omega),ho]
      rfl
     have HRR:=hdq hRR
     clear hq hRR ho hone
     go_region_dies
     all_goals
      refine HQQ.out.mono ?_
      rintro _ w7 ⟨rfl,hf7⟩
      go_wp2_with fail
      exact⟨rfl,by rw[HRR.out];exact⟨rfl,HF5.out.drew.trans hf7⟩⟩
    |ok y l2=>
     have hq:=hone _ HF5.out.drew (HP5.out.fr (T:=NoT) (Fr.drew (Fr.refl _ _)) id id (fun _ _=>id))
     rw[ho]at hq
     unfold ExP at hq
     simp only at hq
     have HQQ:=hdq hq
     have hRR:∃f,R=chainF one (twoX first) signs f (twoX first k (hdT r).at_ x y) l2∧l2.length≤f:=by
      obtain⟨f,hf,hfl⟩:=hch.out.eq
      have hrl:0 < r.length:=List.length_pos_iff.2 hch.out.pa.ne
      obtain⟨f,rfl⟩:∃f',f=f'+1:=⟨f - 1,by omega⟩
      refine⟨f,?_,?_⟩
      ·rw[hf]
       simp only[chainF]
       rw[if_neg (by rw[←HK0.out];omega),ho,←HK0.out]
       rfl
      ·have:=hshr _ _ _ ho
       rw[List.length_tail]at this
       omega
     have HRR:=hdq hRR
     have HS:=hdq (hshr _ _ _ ho)
     clear hq hRR ho hone
     go_region_with
      (first
       |(go_at_call 305
         with_reducible refine(two1_any first k (hdT r).at_ bt x.k x.n x.at_ y.k y.n y.at_ x.nm y.nm A A2 x.args.len y.args.len c1 c2 w7 HBT7.out.1 HBT7.out.2 hge hkb hf0 hf1).mono ?_
         rintro _ w8 ⟨g2,rfl,hb8,hg8,hg8',hf8⟩
         have hbb:=HB7.out.fr0 hf8
         have q1:=hbb.cell 0
         have q2:=hbb.cell 1
         have q3:=hbb.cell 2
         have q4:=hbb.cell 3
         have q5:=hbb.cell 4
         have f1:=hbb.frozen 0
         have f2:=hbb.frozen 1
         have f3:=hbb.frozen 2
         have f4:=hbb.frozen 3
         have f5:=hbb.frozen 4
         simp only[getsL]at q1 q2 q3 q4 q5
         have HB8:=hdq hb8
         have HG8:=hdq (show w7.heap.size≤g2∧g2 < w8.heap.size from⟨hg8,hg8'⟩)
         have HF8:=hdq hf8
         have HBB:=hdq hbb
         clear hb8 hg8 hg8' hf8 hbb z1 z2 z3 z4 z5
         unfold exV)
       |(with_reducible refine HQQ.out.mono ?_
         rintro _ w7 ⟨v7,rfl,hv7,hpa7,hf7⟩
         obtain⟨A2,c2,rfl⟩:=ExVS.parts hv7
         have hb7:=(HBK5.out.fr (Fr.drew (Fr.refl NoT _)) id).fr hf7 hbxP
         have z1:=hb7.cell 0
         have z2:=hb7.cell 1
         have z3:=hb7.cell 2
         have z4:=hb7.cell 3
         have z5:=hb7.cell 4
         simp only[getsL]at z1 z2 z3 z4 z5
         have HB7:=hdq hb7
         have HV7:=hdq hv7
         have HP7:=hdq hpa7
         have HF7:=hdq hf7
         have hbt7:=((hbt.fr HF5.out hbtP).fr (Fr.drew (Fr.refl NoT _)) id).fr hf7 hbtP
         have HBT7:=hdq (show bt < w7.heap.size∧w7.cell? ⟨bt,0,none⟩=some (.int .u8 first)from⟨hbt7.lt,hbt7.cell 0⟩)
         clear hb7 hv7 hpa7 hf7 hbt7
         unfold exV))
     all_goals(go_wp2_with fail)
     all_goals
      obtain⟨w9,hw9⟩:=nmq ((((((w8.setCell ⟨bx,0,none⟩ (.int .u8 (first+k))).setCell ⟨bx,1,none⟩ (.string noB)).setCell ⟨bx,2,none⟩ (.int .i64 0)).setCell ⟨bx,3,none⟩ (.slice (some ⟨g2,0,none⟩) 2 2)).setCell ⟨bx,4,none⟩ (.int .i64 ((hdT r).at_ :Int))))
      have hch9:=chE_step hk HL.out hch.out hbxP HFx.out HV7.out HP7.out HF7.out HB8.out HG8.out HF8.out HBB.out HRR.out hge hkb hf0 hf1 w9 hw9
      rw[←hw9]
      have HCH9:=hdq hch9
      have HL9:=hdq (show lenP C w9 < lenP C wr from by
       rw[hch9.pa.lenP,hch.out.pa.lenP]
       have h1:=HS.out
       have h2:=List.length_pos_iff.2 hch.out.pa.ne
       rw[List.length_tail]at h1
       omega)
      clear hw9 hch9 q1 q2 q3 q4 q5 f1 f2 f3 f4 f5
      refine(HIS.out _ l2 HCH9.out.fr HCH9.out.pa).mono ?_
      rintro _ w10 ⟨rfl,rfl⟩
      go_wp2_with fail
      go_roundw
      case rel=>exact⟨_,_,_,l2,rfl,HCH9⟩
      case measure=>exact HL9.out

theorem ExP.ways {C:Pcx} {d:Nat} {r:PR Ex} {W w':World} {e:Ending} (h:ExP C d r W e w'):
  (∃(x:Ex) (l:List Tk) (A:Option Addr) (c:Nat),r= .ok x l∧e= .returned (.agg #[.int .u8 x.k,.string x.nm,.int .i64 x.n,.slice A x.args.len c,.int .i64 x.at_])∧ExV w' W.heap.size (exV x.k x.nm x.n A x.args.len c x.at_) x∧PaAt C w' l d∧Fr C.T W w')∨
   ∃c a,r= .err c a∧e= .panicked [{v:= .iface 161 (.agg #[.int .i64 c,.int .i64 a]),recovered:=false}]∧Fr C.T W w':=by
 unfold ExP at h
 cases r with
 |err c a=>exact .inr ⟨c,a,rfl,h⟩
 |ok x l=>
  obtain⟨v,rfl,hv,hp,hf⟩:=h
  obtain⟨A,c,rfl⟩:=ExVS.parts hv
  exact .inl ⟨x,l,A,c,rfl,rfl,hv,hp,hf⟩
theorem exP_box {C:Pcx} {w WA w7 w9:World} {d rb:Nat} {x:Ex} {l:List Tk} {A:Option Addr} {c:Nat} (hL:C.P < w.heap.size∧C.TB < w.heap.size∧C.W0.heap.size≤w.heap.size) (hA:Fr NoT w WA) (hr:w.heap.size≤rb) (hr2:rb < WA.heap.size)
  (hv:ExV w7 WA.heap.size (exV x.k x.nm x.n A x.args.len c x.at_) x) (hp:PaAt C w7 l d) (hf:Fr C.T WA w7)
  (h9:w9=((((w7.setCell ⟨rb,0,none⟩ (.int .u8 x.k)).setCell ⟨rb,1,none⟩ (.string x.nm)).setCell ⟨rb,2,none⟩ (.int .i64 x.n)).setCell ⟨rb,3,none⟩ (.slice A x.args.len c)).setCell ⟨rb,4,none⟩ (.int .i64 x.at_)):
  ExP C d (.ok x l) w (.returned (exV x.k x.nm x.n A x.args.len c x.at_)) w9:=by
 have hf9:Fr (fun b=>b=rb) w7 w9:=by rw[h9];exact Fr.own (Fr.own (Fr.own (Fr.own (Fr.own (Fr.refl _ _) _ _) _ _) _ _) _ _) _ _
 have h1:=hA.size
 unfold ExP
 refine⟨_,rfl,(ExV.fr hv hf9 fun b h2 h3 e=>?_).low (by omega),hp.fr hf9 (fun e=>?_) (fun e=>?_) (fun i hi e=>?_),?_⟩
 ·have e:b=rb:=e
  omega
 ·have e:C.P=rb:=e
  omega
 ·have e:C.TB=rb:=e
  omega
 ·have e:i=rb:=e
  omega
 ·rw[h9]
  have:=hA.any.trans hf
  exact Fr.high (Fr.high (Fr.high (Fr.high (Fr.high this (by omega) _ _) (by omega) _ _) (by omega) _ _) (by omega) _ _) (by omega) _ _
def strA (signs:List (List UInt8)):Array Value:=(signs.map fun s=>Value.string ⟨s.toArray⟩).toArray
theorem ordA (w:World) (cs ss:Array Value) (W:World) (hW:W=((w.alloc (.cells cs 5)).alloc (.cells ss 9)).drew):Bk W w.heap.size 5 cs∧Bk W (w.heap.size+1) 9 ss∧Fr NoT w W:=by
 subst hW
 exact⟨(Bk.new w _ _).alloc _,Bk.new_at _ _ _ (by simp),Fr.drew (((Fr.refl NoT w).alloc _).alloc _)⟩
theorem ordB (w:World) (cs ss:Array Value) (W:World) (hW:W=((w.alloc (.cells ss 9)).alloc (.cells cs 5)).drew):Bk W (w.heap.size+1) 5 cs∧Bk W w.heap.size 9 ss∧Fr NoT w W:=by
 subst hW
 exact⟨Bk.new_at _ _ _ (by simp),(Bk.new w _ _).alloc _,Fr.drew (((Fr.refl NoT w).alloc _).alloc _)⟩
theorem chain_of (C:Pcx) (one:List Tk→PR Ex) (first:Int) (signs:List (List UInt8)) (g:Nat) (fst cap:Array Value) (bt b m:Nat) (l:List Tk) (d:Nat) (w:World) (hk:C.Ok) (h:PaAt C w l d) (hshr:Shr one)
  (hm:m=signs.length) (hsg:∀s∈signs,s≠ []) (hsl:signs.length≤3) (hss:Bk w b 9 (strA signs)) (hbP:b≠C.P)
  (hbt:Bk w bt 5 #[.int .u8 first]) (hbtP:bt≠C.P) (hf0:0≤first) (hf1:first≤20)
  (hent:Enters Tryz.prog g) (hone:∀W,Fr C.T w W→∀l',PaAt C W l' d→Calls Tryz.prog g (fst++cap) W (ExP C d (one l') W)):
  Calls Tryz.prog 285 #[.pointer (some ⟨C.P,0,none⟩),.func (.func g) fst cap,.func (.func 305) #[] #[.pointer (some ⟨bt,0,none⟩)],.slice (some ⟨b,0,none⟩) m m] w (ExP C d (chainP one (twoX first) signs l) w):=by
 subst hm
 exact chainE_any C one first signs g fst cap bt b _ l d w hk h hshr hsg hsl (fun j hj=>by rw[hss.cell j];simp[strA,hj]) hss.lt hbP hbt hbtP hf0 hf1 hent hone

def SignC (C:Pcx) (n:Nat):Prop:=∀(l:List Tk) (d:Nat) (w:World),d+n=24→PaAt C w l d→Calls Tryz.prog 286 #[.pointer (some ⟨C.P,0,none⟩)] w (ExP C d (signP n l) w)
def timesP (n:Nat) (l:List Tk):PR Ex:=chainP (signP n) (twoX 7) mulS l
def sumP (n:Nat) (l:List Tk):PR Ex:=chainP (timesP n) (twoX 5) addS l
theorem timesP_shr (n:Nat):Shr (timesP n):=chainP_shr (signP_shr n)
theorem sumP_shr (n:Nat):Shr (sumP n):=chainP_shr (timesP_shr n)
theorem times_any (C:Pcx) (n:Nat) (hs:SignC C n) (l:List Tk) (d pb:Nat) (w:World) (hdn:d+n=24) (hk:C.Ok) (h:PaAt C w l d) (hpb:Bk w pb 162 #[.pointer (some ⟨C.P,0,none⟩)]) (hne:pb≠C.P):
  Calls Tryz.prog 284 #[.pointer (some ⟨pb,0,none⟩)] w (ExP C d (timesP n l) w):=by
 have hmf:= @makeF Tryz.prog
 have hL:=h.lts
 have hpl:=hpb.lt
 have hpP:pb≠C.P:=hne
 have hp0:=hpb.cell 0
 simp only[List.getElem?_toArray,List.getElem?_cons_zero]at hp0
 obtain⟨w1,hw1⟩:=nmq (w.alloc (.cells #[.int .u8 0,.string ⟨#[]⟩,.int .i64 0,.slice none 0 0,.int .i64 0] 175))
 have hz1:w1.heap.size=w.heap.size+1:=by rw[hw1];simp
 have hf1:Fr NoT w w1:=by rw[hw1];exact(Fr.refl _ _).alloc _
 have hbx:Bk w1 w.heap.size 175 #[.int .u8 0,.string ⟨#[]⟩,.int .i64 0,.slice none 0 0,.int .i64 0]:=by rw[hw1];exact Bk.new _ _ _
 obtain⟨a1,a2,a3⟩:=ordA w1 #[.int .u8 7] (strA mulS) _ rfl
 obtain⟨b1,b2,b3⟩:=ordB w1 #[.int .u8 7] (strA mulS) _ rfl
 rw[hz1]at a1 a2 b1 b2
 have key:∀(W:World) (bt b:Nat),Fr NoT w1 W→Bk W bt 5 #[.int .u8 7]→Bk W b 9 (strA mulS)→w.heap.size < bt→w.heap.size < b→Calls Tryz.prog 285 #[.pointer (some ⟨C.P,0,none⟩),.func (.func 286) #[.pointer (some ⟨C.P,0,none⟩)] #[],.func (.func 305) #[] #[.pointer (some ⟨bt,0,none⟩)],.slice (some ⟨b,0,none⟩) 3 3] W (ExP C d (timesP n l) W):=fun W bt b hf h1 h2 h3 h4=>
  chain_of C (signP n) 7 mulS 286 _ _ bt b 3 l d W hk (h.fr (hf1.trans hf) id id fun _ _=>id) (signP_shr n) rfl (by decide) (by decide) h2 (by omega) h1 (by omega) (by decide) (by decide) (enters_of Tryz.func286 (by kernel_rfl) rfl) fun W' _ l' hp'=>by
   simpa using hs l' d W' hdn hp'
 have fin:∀(WA w7:World) (e:Ending),Fr NoT w1 WA→ExP C d (timesP n l) WA e w7→Fr NoT w WA∧Bk WA w.heap.size 175 #[.int .u8 0,.string ⟨#[]⟩,.int .i64 0,.slice none 0 0,.int .i64 0]:=fun WA w7 e hf _=>⟨hf1.trans hf,hbx.fr0 hf⟩
 have HA:=hdq (key _ _ _ a3 a1 a2 (by omega) (by omega))
 have HB:=hdq (key _ _ _ b3 b1 b2 (by omega) (by omega))
 have HFA:=hdq (aiq (hf1.trans a3) (hbx.fr0 a3))
 have HFB:=hdq (aiq (hf1.trans b3) (hbx.fr0 b3))
 rw[hw1]at HA HB HFA HFB
 have HL:=hdq hL
 have hne2:¬w.heap.size=C.P:=by omega
 have HNE:=hdq hne2
 clear key fin hw1 hz1 hf1 hbx a1 a2 a3 b1 b2 b3 hL h hk hs hpb hne hne2
 unfold strA mulS at HA HB HFA HFB
 simp only[List.map_cons,List.map_nil]at HA HB HFA HFB
 go_enter Tryz.func284,Tryz.ntmps284
 go_wp2_with fail
 go_region_held2 (fun W'=>W'.cell? ⟨pb,0,none⟩=some (.pointer (some ⟨C.P,0,none⟩)))
  (first
   |(with_reducible assumption)
   |(with_reducible refine(Fr.cell (T:=fun b=>b=w.heap.size) (w:=w7) (Fr.own (Fr.own (Fr.own (Fr.own (Fr.own (Fr.refl _ _) _ _) _ _) _ _) _ _) _ _) hpl7.1 hpl7.2).trans hp7)
   |(refine(Fr.cell (T:=NoT) (w:=w) ?_ hpl id).trans hp0
     repeat(first|exact Fr.refl _ _|refine Fr.alloc ?_ _|refine Fr.drew ?_)))
  (first
   |(go_at_call 287
     refine(two_any _ _).mono ?_
     rintro _ wa ⟨rfl,rfl⟩)
   |(go_at_call 285
     with_reducible refine HA.out.mono ?_
     intro e w7 hE
     rcases hE.ways with⟨x,r,A,c,hR,rfl,hv,hp,hf⟩|⟨c,a,hR,rfl,hf⟩
     rotate_left
     ·exact⟨rfl,by rw[hR];exact⟨rfl,(HFA.out.1.any).trans hf⟩⟩
     have hb7:=HFA.out.2.fr hf HNE.out
     have q0:=hb7.cell 0
     have q1:=hb7.cell 1
     have q2:=hb7.cell 2
     have q3:=hb7.cell 3
     have q4:=hb7.cell 4
     have g0:=hb7.frozen 0
     have g1:=hb7.frozen 1
     have g2:=hb7.frozen 2
     have g3:=hb7.frozen 3
     have g4:=hb7.frozen 4
     have hlt7:=hb7.lt
     have hp7:=(hp0.symm.trans ((HFA.out.1.cell (p:=⟨pb,0,none⟩) hpl id).symm.trans (hf.cell (p:=⟨pb,0,none⟩) (ltq hpl HFA.out.1.size) hpP).symm)).symm
     have hpl7:pb < w7.heap.size∧¬pb=w.heap.size:=⟨ltq hpl (leq9 HFA.out.1.size hf.size),by omega⟩
     simp only[getsL]at q0 q1 q2 q3 q4
     have HE:=hdq (show ∀w9,w9=((((w7.setCell ⟨w.heap.size,0,none⟩ (.int .u8 x.k)).setCell ⟨w.heap.size,1,none⟩ (.string x.nm)).setCell ⟨w.heap.size,2,none⟩ (.int .i64 x.n)).setCell ⟨w.heap.size,3,none⟩ (.slice A x.args.len c)).setCell ⟨w.heap.size,4,none⟩ (.int .i64 x.at_)→ExP C d (timesP n l) w (.returned (exV x.k x.nm x.n A x.args.len c x.at_)) w9 from fun w9 h9=>by
      rw[hR]
      exact exP_box HL.out HFA.out.1 (lrq _) HFA.out.2.lt hv hp hf h9)
     clear hR hv hp hf hb7)
   |(go_at_call 285
     with_reducible refine HB.out.mono ?_
     intro e w7 hE
     rcases hE.ways with⟨x,r,A,c,hR,rfl,hv,hp,hf⟩|⟨c,a,hR,rfl,hf⟩
     rotate_left
     ·exact⟨rfl,by rw[hR];exact⟨rfl,(HFB.out.1.any).trans hf⟩⟩
     have hb7:=HFB.out.2.fr hf HNE.out
     have q0:=hb7.cell 0
     have q1:=hb7.cell 1
     have q2:=hb7.cell 2
     have q3:=hb7.cell 3
     have q4:=hb7.cell 4
     have g0:=hb7.frozen 0
     have g1:=hb7.frozen 1
     have g2:=hb7.frozen 2
     have g3:=hb7.frozen 3
     have g4:=hb7.frozen 4
     have hlt7:=hb7.lt
     have hp7:=(hp0.symm.trans ((HFB.out.1.cell (p:=⟨pb,0,none⟩) hpl id).symm.trans (hf.cell (p:=⟨pb,0,none⟩) (ltq hpl HFB.out.1.size) hpP).symm)).symm
     have hpl7:pb < w7.heap.size∧¬pb=w.heap.size:=⟨ltq hpl (leq9 HFB.out.1.size hf.size),by omega⟩
     simp only[getsL]at q0 q1 q2 q3 q4
     have HE:=hdq (show ∀w9,w9=((((w7.setCell ⟨w.heap.size,0,none⟩ (.int .u8 x.k)).setCell ⟨w.heap.size,1,none⟩ (.string x.nm)).setCell ⟨w.heap.size,2,none⟩ (.int .i64 x.n)).setCell ⟨w.heap.size,3,none⟩ (.slice A x.args.len c)).setCell ⟨w.heap.size,4,none⟩ (.int .i64 x.at_)→ExP C d (timesP n l) w (.returned (exV x.k x.nm x.n A x.args.len c x.at_)) w9 from fun w9 h9=>by
      rw[hR]
      exact exP_box HL.out HFB.out.1 (lrq _) HFB.out.2.lt hv hp hf h9)
     clear hR hv hp hf hb7))
 all_goals
  go_wp2_with fail
  exact bodyPost_ret (v:=exV x.k x.nm x.n A x.args.len c x.at_) (by simp[results,Tryz.results284,go_sem,exV,q0,q1,q2,q3,q4,hlt7]) rfl (HE.out _ rfl)
-- sum
theorem sum_any (C:Pcx) (n:Nat) (hs:SignC C n) (l:List Tk) (d pb fb:Nat) (w:World) (hdn:d+n=24) (hk:C.Ok) (h:PaAt C w l d) (hpb:Bk w pb 162 #[.pointer (some ⟨C.P,0,none⟩)]) (hne:pb≠C.P) (hfb:Bk w fb 328 #[.func (.func 284) #[] #[.pointer (some ⟨pb,0,none⟩)]]) (hneF:fb≠C.P):
  Calls Tryz.prog 288 #[.pointer (some ⟨pb,0,none⟩),.pointer (some ⟨fb,0,none⟩)] w (ExP C d (sumP n l) w):=by
 have hmf:= @makeF Tryz.prog
 have hL:=h.lts
 have hpl:=hpb.lt
 have hfl:=hfb.lt
 have hfP:fb≠C.P:=hneF
 have hc0:=hfb.cell 0
 have hpP:pb≠C.P:=hne
 have hp0:=hpb.cell 0
 simp only[List.getElem?_toArray,List.getElem?_cons_zero]at hp0 hc0
 obtain⟨w1,hw1⟩:=nmq (w.alloc (.cells #[.int .u8 0,.string ⟨#[]⟩,.int .i64 0,.slice none 0 0,.int .i64 0] 175))
 have hz1:w1.heap.size=w.heap.size+1:=by rw[hw1];simp
 have hf1:Fr NoT w w1:=by rw[hw1];exact(Fr.refl _ _).alloc _
 have hbx:Bk w1 w.heap.size 175 #[.int .u8 0,.string ⟨#[]⟩,.int .i64 0,.slice none 0 0,.int .i64 0]:=by rw[hw1];exact Bk.new _ _ _
 obtain⟨a1,a2,a3⟩:=ordA w1 #[.int .u8 5] (strA addS) _ rfl
 obtain⟨b1,b2,b3⟩:=ordB w1 #[.int .u8 5] (strA addS) _ rfl
 rw[hz1]at a1 a2 b1 b2
 have key:∀(W:World) (bt b:Nat),Fr NoT w1 W→Bk W bt 5 #[.int .u8 5]→Bk W b 9 (strA addS)→w.heap.size < bt→w.heap.size < b→Calls Tryz.prog 285 #[.pointer (some ⟨C.P,0,none⟩),.func (.func 284) #[] #[.pointer (some ⟨pb,0,none⟩)],.func (.func 305) #[] #[.pointer (some ⟨bt,0,none⟩)],.slice (some ⟨b,0,none⟩) 2 2] W (ExP C d (sumP n l) W):=fun W bt b hf h1 h2 h3 h4=>
  chain_of C (timesP n) 5 addS 284 _ _ bt b 2 l d W hk (h.fr (hf1.trans hf) id id fun _ _=>id) (timesP_shr n) rfl (by decide) (by decide) h2 (by omega) h1 (by omega) (by decide) (by decide) (enters_of Tryz.func284 (by kernel_rfl) rfl) fun W' hfw l' hp'=>by
   simpa using times_any C n hs l' d pb W' hdn hk hp' (((hpb.fr0 (hf1.trans hf)).fr hfw hne)) hne
 have fin:∀(WA w7:World) (e:Ending),Fr NoT w1 WA→ExP C d (sumP n l) WA e w7→Fr NoT w WA∧Bk WA w.heap.size 175 #[.int .u8 0,.string ⟨#[]⟩,.int .i64 0,.slice none 0 0,.int .i64 0]:=fun WA w7 e hf _=>⟨hf1.trans hf,hbx.fr0 hf⟩
 have HA:=hdq (key _ _ _ a3 a1 a2 (by omega) (by omega))
 have HB:=hdq (key _ _ _ b3 b1 b2 (by omega) (by omega))
 have HFA:=hdq (aiq (hf1.trans a3) (hbx.fr0 a3))
 have HFB:=hdq (aiq (hf1.trans b3) (hbx.fr0 b3))
 rw[hw1]at HA HB HFA HFB
 have HL:=hdq hL
 have hne2:¬w.heap.size=C.P:=by omega
 have HNE:=hdq hne2
 clear key fin hw1 hz1 hf1 hbx a1 a2 a3 b1 b2 b3 hL h hk hs hpb hne hne2 hfb hneF
 unfold strA addS at HA HB HFA HFB
 simp only[List.map_cons,List.map_nil]at HA HB HFA HFB
 go_enter Tryz.func288,Tryz.ntmps288
 go_wp2_with fail
 go_region_held2 (fun W'=>W'.cell? ⟨pb,0,none⟩=some (.pointer (some ⟨C.P,0,none⟩))∧W'.cell? ⟨fb,0,none⟩=some (.func (.func 284) #[] #[.pointer (some ⟨pb,0,none⟩)]))
  (first
   |(refine⟨?_,?_⟩<;>with_reducible assumption)
   |(with_reducible refine⟨(Fr.cell (T:=fun b=>b=w.heap.size) (w:=w7) (Fr.own (Fr.own (Fr.own (Fr.own (Fr.own (Fr.refl _ _) _ _) _ _) _ _) _ _) _ _) hpl7.1 hpl7.2).trans hp7,(Fr.cell (T:=fun b=>b=w.heap.size) (w:=w7) (Fr.own (Fr.own (Fr.own (Fr.own (Fr.own (Fr.refl _ _) _ _) _ _) _ _) _ _) _ _) hfl7.1 hfl7.2).trans hc7⟩)
   |(refine⟨(Fr.cell (T:=NoT) (w:=w) ?_ hpl id).trans hp0,(Fr.cell (T:=NoT) (w:=w) ?_ hfl id).trans hc0⟩<;>
     repeat(first|exact Fr.refl _ _|refine Fr.alloc ?_ _|refine Fr.drew ?_)))
  (first
   |(go_at_call 287
     refine(two_any _ _).mono ?_
     rintro _ wa ⟨rfl,rfl⟩)
   |(go_at_call 285
     with_reducible refine HA.out.mono ?_
     intro e w7 hE
     rcases hE.ways with⟨x,r,A,c,hR,rfl,hv,hp,hf⟩|⟨c,a,hR,rfl,hf⟩
     rotate_left
     ·exact⟨rfl,by rw[hR];exact⟨rfl,(HFA.out.1.any).trans hf⟩⟩
     have hb7:=HFA.out.2.fr hf HNE.out
     have q0:=hb7.cell 0
     have q1:=hb7.cell 1
     have q2:=hb7.cell 2
     have q3:=hb7.cell 3
     have q4:=hb7.cell 4
     have g0:=hb7.frozen 0
     have g1:=hb7.frozen 1
     have g2:=hb7.frozen 2
     have g3:=hb7.frozen 3
     have g4:=hb7.frozen 4
     have hlt7:=hb7.lt
     have hp7:=(hp0.symm.trans ((HFA.out.1.cell (p:=⟨pb,0,none⟩) hpl id).symm.trans (hf.cell (p:=⟨pb,0,none⟩) (ltq hpl HFA.out.1.size) hpP).symm)).symm
     have hc7:=(hc0.symm.trans ((HFA.out.1.cell (p:=⟨fb,0,none⟩) hfl id).symm.trans (hf.cell (p:=⟨fb,0,none⟩) (ltq hfl HFA.out.1.size) hfP).symm)).symm
     have hpl7:pb < w7.heap.size∧¬pb=w.heap.size:=⟨ltq hpl (leq9 HFA.out.1.size hf.size),by omega⟩
     have hfl7:fb < w7.heap.size∧¬fb=w.heap.size:=⟨ltq hfl (leq9 HFA.out.1.size hf.size),by omega⟩
     simp only[getsL]at q0 q1 q2 q3 q4
     have HE:=hdq (show ∀w9,w9=((((w7.setCell ⟨w.heap.size,0,none⟩ (.int .u8 x.k)).setCell ⟨w.heap.size,1,none⟩ (.string x.nm)).setCell ⟨w.heap.size,2,none⟩ (.int .i64 x.n)).setCell ⟨w.heap.size,3,none⟩ (.slice A x.args.len c)).setCell ⟨w.heap.size,4,none⟩ (.int .i64 x.at_)→ExP C d (sumP n l) w (.returned (exV x.k x.nm x.n A x.args.len c x.at_)) w9 from fun w9 h9=>by
      rw[hR]
      exact exP_box HL.out HFA.out.1 (lrq _) HFA.out.2.lt hv hp hf h9)
     clear hR hv hp hf hb7)
   |(go_at_call 285
     with_reducible refine HB.out.mono ?_
     intro e w7 hE
     rcases hE.ways with⟨x,r,A,c,hR,rfl,hv,hp,hf⟩|⟨c,a,hR,rfl,hf⟩
     rotate_left
     ·exact⟨rfl,by rw[hR];exact⟨rfl,(HFB.out.1.any).trans hf⟩⟩
     have hb7:=HFB.out.2.fr hf HNE.out
     have q0:=hb7.cell 0
     have q1:=hb7.cell 1
     have q2:=hb7.cell 2
     have q3:=hb7.cell 3
     have q4:=hb7.cell 4
     have g0:=hb7.frozen 0
     have g1:=hb7.frozen 1
     have g2:=hb7.frozen 2
     have g3:=hb7.frozen 3
     have g4:=hb7.frozen 4
     have hlt7:=hb7.lt
     have hp7:=(hp0.symm.trans ((HFB.out.1.cell (p:=⟨pb,0,none⟩) hpl id).symm.trans (hf.cell (p:=⟨pb,0,none⟩) (ltq hpl HFB.out.1.size) hpP).symm)).symm
     have hc7:=(hc0.symm.trans ((HFB.out.1.cell (p:=⟨fb,0,none⟩) hfl id).symm.trans (hf.cell (p:=⟨fb,0,none⟩) (ltq hfl HFB.out.1.size) hfP).symm)).symm
     have hpl7:pb < w7.heap.size∧¬pb=w.heap.size:=⟨ltq hpl (leq9 HFB.out.1.size hf.size),by omega⟩
     have hfl7:fb < w7.heap.size∧¬fb=w.heap.size:=⟨ltq hfl (leq9 HFB.out.1.size hf.size),by omega⟩
     simp only[getsL]at q0 q1 q2 q3 q4
     have HE:=hdq (show ∀w9,w9=((((w7.setCell ⟨w.heap.size,0,none⟩ (.int .u8 x.k)).setCell ⟨w.heap.size,1,none⟩ (.string x.nm)).setCell ⟨w.heap.size,2,none⟩ (.int .i64 x.n)).setCell ⟨w.heap.size,3,none⟩ (.slice A x.args.len c)).setCell ⟨w.heap.size,4,none⟩ (.int .i64 x.at_)→ExP C d (sumP n l) w (.returned (exV x.k x.nm x.n A x.args.len c x.at_)) w9 from fun w9 h9=>by
      rw[hR]
      exact exP_box HL.out HFB.out.1 (lrq _) HFB.out.2.lt hv hp hf h9)
     clear hR hv hp hf hb7))
 all_goals
  go_wp2_with fail
  exact bodyPost_ret (v:=exV x.k x.nm x.n A x.args.len c x.at_) (by simp[results,Tryz.results288,go_sem,exV,q0,q1,q2,q3,q4,hlt7]) rfl (HE.out _ rfl)
-- expr
theorem expr_any (C:Pcx) (n:Nat) (hs:SignC C n) (l:List Tk) (d:Nat) (w:World) (hdn:d+n=24) (hk:C.Ok) (h:PaAt C w l d):
  Calls Tryz.prog 247 #[.pointer (some ⟨C.P,0,none⟩)] w (ExP C d (exprP n l) w):=by
 have hmf:= @makeF Tryz.prog
 have hL:=h.lts
 obtain⟨w1,hw1⟩:=nmq (((w.alloc (.cells #[.pointer (some ⟨C.P,0,none⟩)] 162)).alloc (.cells #[.int .u8 0,.string ⟨#[]⟩,.int .i64 0,.slice none 0 0,.int .i64 0] 175)).alloc (.cells #[.func (.func 284) #[] #[.pointer (some ⟨w.heap.size,0,none⟩)]] 328))
 have hz1:w1.heap.size=w.heap.size+3:=by rw[hw1];simp
 have hf1:Fr NoT w w1:=by rw[hw1];exact(((Fr.refl _ _).alloc _).alloc _).alloc _
 have hpx:Bk w1 w.heap.size 162 #[.pointer (some ⟨C.P,0,none⟩)]:=by rw[hw1];exact((Bk.new _ _ _).alloc _).alloc _
 have hbx:Bk w1 (w.heap.size+1) 175 #[.int .u8 0,.string ⟨#[]⟩,.int .i64 0,.slice none 0 0,.int .i64 0]:=by rw[hw1];exact(Bk.new_at _ _ _ (by simp)).alloc _
 have hfx:Bk w1 (w.heap.size+2) 328 #[.func (.func 284) #[] #[.pointer (some ⟨w.heap.size,0,none⟩)]]:=by rw[hw1];exact Bk.new_at _ _ _ (by simp)
 obtain⟨a1,a2,a3⟩:=ordA w1 #[.int .u8 10] (strA shS) _ rfl
 obtain⟨b1,b2,b3⟩:=ordB w1 #[.int .u8 10] (strA shS) _ rfl
 rw[hz1]at a1 a2 b1 b2
 have key:∀(W:World) (bt b:Nat),Fr NoT w1 W→Bk W bt 5 #[.int .u8 10]→Bk W b 9 (strA shS)→w.heap.size < bt→w.heap.size < b→Calls Tryz.prog 285 #[.pointer (some ⟨C.P,0,none⟩),.func (.func 288) #[] #[.pointer (some ⟨w.heap.size,0,none⟩),.pointer (some ⟨w.heap.size+1+1,0,none⟩)],.func (.func 305) #[] #[.pointer (some ⟨bt,0,none⟩)],.slice (some ⟨b,0,none⟩) 2 2] W (ExP C d (exprP n l) W):=fun W bt b hf h1 h2 h3 h4=>
  chain_of C (sumP n) 10 shS 288 _ _ bt b 2 l d W hk (h.fr (hf1.trans hf) id id fun _ _=>id) (sumP_shr n) rfl (by decide) (by decide) h2 (by omega) h1 (by omega) (by decide) (by decide) (enters_of Tryz.func288 (by kernel_rfl) rfl) fun W' hfw l' hp'=>by
   simpa using sum_any C n hs l' d w.heap.size (w.heap.size+2) W' hdn hk hp' ((hpx.fr0 hf).fr hfw (fun e=>by have e:w.heap.size=C.P:=e;omega)) (by omega) ((hfx.fr0 hf).fr hfw (fun e=>by have e:w.heap.size+2=C.P:=e;omega)) (by omega)
 have HA:=hdq (key _ _ _ a3 a1 a2 (by omega) (by omega))
 have HB:=hdq (key _ _ _ b3 b1 b2 (by omega) (by omega))
 have HFA:=hdq (aiq (hf1.trans a3) (aiq (hbx.fr0 a3) (hpx.fr0 a3)))
 have HFB:=hdq (aiq (hf1.trans b3) (aiq (hbx.fr0 b3) (hpx.fr0 b3)))
 have hp0:=hpx.cell 0
 have hpl:=hpx.lt
 simp only[List.getElem?_toArray,List.getElem?_cons_zero]at hp0
 rw[hw1]at HA HB HFA HFB hp0 hpl
 have HL:=hdq hL
 have hne2:¬w.heap.size+1=C.P:=by omega
 have HNE:=hdq hne2
 have hpP:¬w.heap.size=C.P:=by omega
 clear key hw1 hz1 hf1 hbx hpx hfx a1 a2 a3 b1 b2 b3 hL h hk hs hne2
 unfold strA shS at HA HB HFA HFB
 simp only[List.map_cons,List.map_nil]at HA HB HFA HFB
 go_enter Tryz.func247,Tryz.ntmps247
 go_wp2_with fail
 go_region_held2 (fun W'=>W'.cell? ⟨w.heap.size,0,none⟩=some (.pointer (some ⟨C.P,0,none⟩)))
  (first
   |(with_reducible assumption)
   |(with_reducible refine(Fr.cell (T:=fun b=>b=w.heap.size+1) (w:=w7) (Fr.own (Fr.own (Fr.own (Fr.own (Fr.own (Fr.refl _ _) _ _) _ _) _ _) _ _) _ _) hpl7.1 hpl7.2).trans hp7)
   |(refine(Fr.cell (T:=NoT) ?_ hpl id).trans hp0
     repeat(first|exact Fr.refl _ _|refine Fr.alloc ?_ _|refine Fr.drew ?_)))
  (first
   |(go_at_call 287
     refine(two_any _ _).mono ?_
     rintro _ wa ⟨rfl,rfl⟩)
   |(go_at_call 285
     with_reducible refine HA.out.mono ?_
     intro e w7 hE
     rcases hE.ways with⟨x,r,A,c,hR,rfl,hv,hp,hf⟩|⟨c,a,hR,rfl,hf⟩
     rotate_left
     ·exact⟨rfl,by rw[hR];exact⟨rfl,(HFA.out.1.any).trans hf⟩⟩
     have hb7:=HFA.out.2.1.fr hf HNE.out
     have q0:=hb7.cell 0
     have q1:=hb7.cell 1
     have q2:=hb7.cell 2
     have q3:=hb7.cell 3
     have q4:=hb7.cell 4
     have g0:=hb7.frozen 0
     have g1:=hb7.frozen 1
     have g2:=hb7.frozen 2
     have g3:=hb7.frozen 3
     have g4:=hb7.frozen 4
     have hlt7:=hb7.lt
     have hp7:=(HFA.out.2.2.fr hf hpP).cell 0
     simp only[List.getElem?_toArray,List.getElem?_cons_zero]at hp7
     have hpl7:w.heap.size < w7.heap.size∧¬w.heap.size=w.heap.size+1:=⟨(HFA.out.2.2.fr hf hpP).lt,by omega⟩
     simp only[getsL]at q0 q1 q2 q3 q4
     have HE:=hdq (show ∀w9,w9=((((w7.setCell ⟨w.heap.size+1,0,none⟩ (.int .u8 x.k)).setCell ⟨w.heap.size+1,1,none⟩ (.string x.nm)).setCell ⟨w.heap.size+1,2,none⟩ (.int .i64 x.n)).setCell ⟨w.heap.size+1,3,none⟩ (.slice A x.args.len c)).setCell ⟨w.heap.size+1,4,none⟩ (.int .i64 x.at_)→ExP C d (exprP n l) w (.returned (exV x.k x.nm x.n A x.args.len c x.at_)) w9 from fun w9 h9=>by
      rw[hR]
      exact exP_box HL.out HFA.out.1 (by omega) HFA.out.2.1.lt hv hp hf h9)
     clear hR hv hp hf hb7)
   |(go_at_call 285
     with_reducible refine HB.out.mono ?_
     intro e w7 hE
     rcases hE.ways with⟨x,r,A,c,hR,rfl,hv,hp,hf⟩|⟨c,a,hR,rfl,hf⟩
     rotate_left
     ·exact⟨rfl,by rw[hR];exact⟨rfl,(HFB.out.1.any).trans hf⟩⟩
     have hb7:=HFB.out.2.1.fr hf HNE.out
     have q0:=hb7.cell 0
     have q1:=hb7.cell 1
     have q2:=hb7.cell 2
     have q3:=hb7.cell 3
     have q4:=hb7.cell 4
     have g0:=hb7.frozen 0
     have g1:=hb7.frozen 1
     have g2:=hb7.frozen 2
     have g3:=hb7.frozen 3
     have g4:=hb7.frozen 4
     have hlt7:=hb7.lt
     have hp7:=(HFB.out.2.2.fr hf hpP).cell 0
     simp only[List.getElem?_toArray,List.getElem?_cons_zero]at hp7
     have hpl7:w.heap.size < w7.heap.size∧¬w.heap.size=w.heap.size+1:=⟨(HFB.out.2.2.fr hf hpP).lt,by omega⟩
     simp only[getsL]at q0 q1 q2 q3 q4
     have HE:=hdq (show ∀w9,w9=((((w7.setCell ⟨w.heap.size+1,0,none⟩ (.int .u8 x.k)).setCell ⟨w.heap.size+1,1,none⟩ (.string x.nm)).setCell ⟨w.heap.size+1,2,none⟩ (.int .i64 x.n)).setCell ⟨w.heap.size+1,3,none⟩ (.slice A x.args.len c)).setCell ⟨w.heap.size+1,4,none⟩ (.int .i64 x.at_)→ExP C d (exprP n l) w (.returned (exV x.k x.nm x.n A x.args.len c x.at_)) w9 from fun w9 h9=>by
      rw[hR]
      exact exP_box HL.out HFB.out.1 (by omega) HFB.out.2.1.lt hv hp hf h9)
     clear hR hv hp hf hb7))
 all_goals
  go_wp2_with fail
  exact bodyPost_ret (v:=exV x.k x.nm x.n A x.args.len c x.at_) (by simp[results,Tryz.results247,go_sem,exV,q0,q1,q2,q3,q4,hlt7]) rfl (HE.out _ rfl)
end Go.Proofs.YtfomomaomggpbaaGreatDoor
