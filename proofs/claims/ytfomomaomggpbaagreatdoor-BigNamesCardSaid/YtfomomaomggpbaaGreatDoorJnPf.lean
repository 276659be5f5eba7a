/-
  parse: sized.
-/
import Derived.Test.YtfomomaomggpbaaGreatDoorJnLoc
set_option linter.unusedVariables false
set_option linter.unusedSimpArgs false
set_option maxHeartbeats 1600000
set_option maxRecDepth 100000
namespace Go.Proofs.YtfomomaomggpbaaGreatDoor
open Go.RowKit Go.Shelf

theorem pname_any (C:Pcx) (l:List Tk) (d:Nat) (w:World) (hk:C.Ok) (h:PaAt C w l d):Calls Tryz.prog 131 #[.pointer (some ⟨C.P,0,none⟩)] w (cPVa C d (nameP l) w):=by
 cases hn:namedB l
 ·refine(name_no C l d w hk h hn).mono fun e w' hE=>?_
  have e1:nameP l= .err 90 (hdT l).at_ :=by unfold nameP;rw[hn];rfl
  rw[e1]
  exact hE
 ·refine(name_yes C l d w hk h hn).mono fun e w' hE=>?_
  have e1:nameP l= .ok ⟨txt (hdT l),(hdT l).at_⟩ l.tail:=by unfold nameP;rw[hn];rfl
  rw[e1]
  exact⟨hE.1,in64_at hk h,hE.2.1,hE.2.2⟩
theorem sized_any (C:Pcx) (l:List Tk) (d:Nat) (w:World) (hk:C.Ok) (h:PaAt C w l d):
  Calls Tryz.prog 133 #[.pointer (some ⟨C.P,0,none⟩)] w (cPAr C d (sizedP l) w):=by
 obtain⟨R,hR⟩:=nmq (sizedP l)
 rw[←hR]
 unfold sizedP at hR
 have HR:=hdq hR
 have HK:=hdq hk
 have HL:=hdq h.lts
 have h1:=h.alloc (.cells #[.string ⟨#[]⟩,.int .i64 0,.int .i64 0] 61)
 have HN:=hdq (pname_any C l d _ hk h1)
 have hbk:=Bk.new w 61 #[.string ⟨#[]⟩,.int .i64 0,.int .i64 0]
 have HBK:=hdq hbk
 have HA:=hdq (show Fr C.T w (w.alloc (.cells #[.string ⟨#[]⟩,.int .i64 0,.int .i64 0] 61))from(Fr.refl _ _).alloc _)
 clear hR h h1 hk hbk
 go_enter Tryz.func133,Tryz.ntmps133
 go_wp2_with fail
 refine HN.out.mono ?_
 intro e w2 hE
 rcases hE.ways with⟨x,r,hx,rfl,hok,hp,hf⟩|⟨c,a,hx,rfl,hf⟩
 rotate_left
 ·go_wp2_with fail
  exact⟨rfl,by rw[HR.out,hx];exact⟨rfl,HA.out.trans hf⟩⟩
 have hR2:=HR.out
 rw[hx]at hR2
 replace hR2:R=(takeP [91] r).then fun _ r=>(numberP r).then fun n r=>(takeP [93] r).then fun _ r=> .ok ⟨x.nm,n,x.at_⟩ r:=hR2
 have HR2:=hdq hR2
 have HOK:=hdq hok
 have hp2:=(hp.alloc (.cells #[.string x.nm,.int .i64 x.at_] 77)).alloc (.cells #[.string ⟨#[91]⟩] 9)
 have HT:=hdq (take_any C [91] r d (w2.heap.size+1) _ HK.out hp2 (by decide) (by simp))
 have hF2:=HA.out.trans hf
 have HF2:=hdq ((hF2.alloc (.cells #[.string x.nm,.int .i64 x.at_] 77)).alloc (.cells #[.string ⟨#[91]⟩] 9))
 have HV2:=hdq ((Bk.new w2 77 #[.string x.nm,.int .i64 x.at_]).alloc (.cells #[.string ⟨#[91]⟩] 9))
 have hnw:¬C.T w.heap.size:=fun e=>by have e:w.heap.size=C.P:=e;have:=HL.out;omega
 have hs2:w.heap.size≤w2.heap.size:=hF2.size
 have hnv:¬C.T w2.heap.size:=fun e=>by have e:w2.heap.size=C.P:=e;have:=HL.out;omega
 have HB2:=hdq (((HBK.out.fr hf hnw).alloc (.cells #[.string x.nm,.int .i64 x.at_] 77)).alloc (.cells #[.string ⟨#[91]⟩] 9))
 have HNW:=hdq (aiq hnw hnv)
 clear hx hok hp hf hR2 hp2 hF2 hnw hnv
 go_wp2_with fail
 refine HT.out.mono ?_
 intro e w3 hE
 rcases hE with⟨ht,rfl,hp,hf⟩|⟨ht,rfl,hf⟩
 rotate_left
 ·go_wp2_with fail
  exact⟨rfl,by rw[HR2.out,ht];exact⟨rfl,HF2.out.trans hf⟩⟩
 have hR3:=HR2.out
 rw[ht]at hR3
 replace hR3:R=(numberP r.tail).then fun n r=>(takeP [93] r).then fun _ r=> .ok ⟨x.nm,n,x.at_⟩ r:=hR3
 have HR3:=hdq hR3
 have HNM:=hdq (number_any C r.tail d w3 HK.out hp)
 have HI:=hdq (fun hn=>in64_num HK.out hp (hn:=hn))
 have HF3:=hdq (HF2.out.trans hf)
 have HV3:=hdq (HV2.out.fr hf HNW.out.2)
 have HB3:=hdq (HB2.out.fr hf HNW.out.1)
 clear ht hp hf hR3
 go_wp2_with fail
 refine HNM.out.mono ?_
 intro e w4 hE
 rcases hE with⟨hkn,rfl,hp,hf⟩|⟨hkn,rfl,hf⟩
 rotate_left
 ·go_wp2_with fail
  exact⟨rfl,by rw[HR3.out,numberP,if_neg hkn];exact⟨rfl,HF3.out.trans hf⟩⟩
 obtain⟨n,hn⟩:∃n:Int,n=decV (hdT r.tail).text :=⟨_,rfl⟩
 have hR4:=HR3.out
 rw[numberP,if_pos hkn,←hn]at hR4
 replace hR4:R=(takeP [93] r.tail.tail).then fun _ r=> .ok ⟨x.nm,n,x.at_⟩ r:=hR4
 have HR4:=hdq hR4
 have HNI:=hdq (show in64 n from hn▸HI.out hkn)
 rw[←hn]
 have hp5:=hp.alloc (.cells #[.string ⟨#[93]⟩] 9)
 have HT5:=hdq (take_any C [93] r.tail.tail d w4.heap.size _ HK.out hp5 (by decide) (by simp))
 have HF4:=hdq ((HF3.out.trans hf).alloc (.cells #[.string ⟨#[93]⟩] 9))
 have HV4:=hdq ((HV3.out.fr hf HNW.out.2).alloc (.cells #[.string ⟨#[93]⟩] 9))
 have HB4:=hdq ((HB3.out.fr hf HNW.out.1).alloc (.cells #[.string ⟨#[93]⟩] 9))
 clear hkn hp hf hR4 hp5 hn
 go_wp2_with fail
 refine HT5.out.mono ?_
 intro e w5 hE
 rcases hE with⟨ht,rfl,hp,hf⟩|⟨ht,rfl,hf⟩
 rotate_left
 ·go_wp2_with fail
  exact⟨rfl,by rw[HR4.out,ht];exact⟨rfl,HF4.out.trans hf⟩⟩
 have hR5:=HR4.out
 rw[ht]at hR5
 replace hR5:R= .ok ⟨x.nm,n,x.at_⟩ r.tail.tail.tail:=hR5
 have HR5:=hdq hR5
 have hv5:=HV4.out.fr hf HNW.out.2
 have hb5:=HB4.out.fr hf HNW.out.1
 have q0:=hv5.cell 0
 have q1:=hv5.cell 1
 have g0:=hb5.frozen 0
 have g1:=hb5.frozen 1
 have g2:=hb5.frozen 2
 have b0:=hb5.cell 0
 have b1:=hb5.cell 1
 have b2:=hb5.cell 2
 simp only[getsL]at q0 q1 b0 b1 b2
 have hlt5:=hb5.lt
 have HP5:=hdq hp
 have HF5:=hdq (HF4.out.trans hf)
 clear ht hp hf hR5 hv5 hb5
 go_wp2_with fail
 refine bodyPost_ret (v:=cVAr ⟨x.nm,n,x.at_⟩) (by simp[results,Tryz.results133,go_sem,cVAr,b0,b1,b2,hlt5]) rfl ?_
 rw[HR5.out]
 have hfw:Fr (fun b=>b=w.heap.size) w5 (((w5.setCell ⟨w.heap.size,0,none⟩ (.string x.nm)).setCell ⟨w.heap.size,1,none⟩ (.int .i64 n)).setCell ⟨w.heap.size,2,none⟩ (.int .i64 x.at_)):=Fr.own (Fr.own (Fr.own (Fr.refl _ _) _ _) _ _) _ _
 refine⟨rfl,⟨HNI.out,HOK.out⟩,HP5.out.fr hfw (fun e=>?_) (fun e=>?_) (fun i hi e=>?_),Fr.high (Fr.high (Fr.high HF5.out (lrq _) _ _) (lrq _) _ _) (lrq _) _ _⟩<;>have:=HL.out<;>omega

structure Loc where
 A:Option Addr
 c:Nat
 B:Option Addr
 q:Nat
 D:Option Addr
 e:Nat
 E:Option Addr
 f:Nat
def Loc.none_:Loc:=⟨none,0,none,0,none,0,none,0⟩
def stC (x:St) (p:Loc):List Value:= [.int .u8 x.k,.string x.nm,.slice p.A x.args.len p.c,.slice p.B x.cond.len p.q,.slice p.D x.body.len p.e,.slice p.E x.els.len p.f,.int .i64 x.at_]
structure StS (w:World) (S:Nat→Prop) (x:St) (p:Loc):Prop where
 k:in8 x.k
 at_:in64 x.at_
 args:SlR (ExR w S False x.args) x.args.len 64 p.A p.c
 cond:SlR (CdR w S False x.cond) x.cond.len 64 p.B p.q
 body:SlR (StR w S False x.body) x.body.len 128 p.D p.e
 els:SlR (StR w S False x.els) x.els.len 128 p.E p.f
theorem StS.imp {w w':World} {S S':Nat→Prop} {x:St} {p:Loc} (h:StS w S x p) (hf:SameS S w w') (hs:∀b,S b→S' b):StS w' S' x p:=
 ⟨h.k,h.at_,h.args.imp fun _ _ h=>ExR.more hs (ExR.keep hf h),h.cond.imp fun _ _ h=>CdR.more hs (CdR.keep hf h),h.body.imp fun _ _ h=>StR.more hs (StR.keep hf h),h.els.imp fun _ _ h=>StR.more hs (StR.keep hf h)⟩
theorem StS.zero {w:World} {S:Nat→Prop} {k a:Int} {nm:ByteArray} (hk:in8 k) (ha:in64 a):StS w S ⟨k,nm,.nil,.nil,.nil,.nil,a⟩ Loc.none_:=
 ⟨hk,ha,⟨lrq 0,sl0,fun h=>absurd h (by exact Nat.lt_irrefl 0)⟩,⟨lrq 0,sl0,fun h=>absurd h (by exact Nat.lt_irrefl 0)⟩,⟨lrq 0,⟨by decide,by exact Nat.zero_le _⟩,fun h=>absurd h (by exact Nat.lt_irrefl 0)⟩,⟨lrq 0,⟨by decide,by exact Nat.zero_le _⟩,fun h=>absurd h (by exact Nat.lt_irrefl 0)⟩⟩
def StAt (w:World) (sb L:Nat) (x:St):Prop:=∃p,Bk w sb 51 (stC x p).toArray ∧StS w (fun b=>L≤b∧b < w.heap.size∧b≠sb) x p

def MetP (C:Pcx) (sb L d:Nat) (r:PR St) (W:World) (e:Ending) (w':World):Prop:=
 match r with
 | .err c a=>e=wrongE c a∧Fr (PT C sb) W w'
 | .ok x l=>e= .returned (.tuple #[])∧StAt w' sb L x∧PaAt C w' l d∧Fr (PT C sb) W w'
theorem StAt.fr {C:Pcx} {w w':World} {sb L:Nat} {x:St} (h:StAt w sb L x) (hf:Fr C.T w w') (h1:sb≠C.P) (h2:C.P < L):StAt w' sb L x:=by
 obtain⟨p,hb,hs⟩:=h
 exact⟨p,hb.fr hf h1,hs.imp (hf.same fun b hb=>⟨hb.2.1,fun e=>by have e:b=C.P:=e;have:=hb.1;omega⟩) fun b hb=>⟨hb.1,by have:=hb.2.1;have:=hf.size;omega,hb.2.2⟩⟩
theorem skip_any (C:Pcx) (sb L:Nat) (x:St) (l:List Tk) (d:Nat) (w:World) (hk:C.Ok) (h:PaAt C w l d) (hst:StAt w sb L x) (hsb:sb≠C.P) (hL:C.P < L):
  Calls Tryz.prog 277 #[.pointer (some ⟨C.P,0,none⟩),.pointer (some ⟨sb,0,none⟩)] w (MetP C sb L d (endS x l) w):=by
 obtain⟨R,hR⟩:=nmq (endS x l)
 rw[←hR]
 unfold endS at hR
 have HR:=hdq hR
 have HT:=hdq (take_any C [59] l d w.heap.size _ hk (h.alloc (.cells #[.string ⟨#[59]⟩] 9)) (by decide) (by simp))
 have HA:=hdq (show Fr C.T w (w.alloc (.cells #[.string ⟨#[59]⟩] 9))from(Fr.refl _ _).alloc _)
 have HST:=hdq hst
 clear hR h hst
 go_enter Tryz.func277,Tryz.ntmps277
 go_wp2_with fail
 refine HT.out.mono ?_
 intro e w2 hE
 rcases hE with⟨ht,rfl,hp,hf⟩|⟨ht,rfl,hf⟩
 rotate_left
 ·go_wp2_with fail
  exact⟨rfl,by rw[HR.out,ht];exact⟨rfl,PT.l (HA.out.trans hf)⟩⟩
 have HT2:=hdq ht
 have HP2:=hdq hp
 have HF2:=hdq (HA.out.trans hf)
 clear ht hp hf
 go_wp2_with fail
 go_end0
 rw[HR.out,HT2.out]
 exact⟨rfl,HST.out.fr HF2.out hsb hL,HP2.out,PT.l HF2.out⟩

theorem StAt.name {C:Pcx} {w:World} {sb L:Nat} {x:St} (h:StAt w sb L x) (nm:ByteArray):StAt (w.setCell ⟨sb,1,none⟩ (.string nm)) sb L {x with nm:=nm}:=by
 obtain⟨p,hb,hs⟩:=h
 refine⟨p,by simpa[stC]using hb.set_ 1 (.string nm),?_⟩
 have hf:Fr (fun b=>b=sb) w (w.setCell ⟨sb,1,none⟩ (.string nm)):=Fr.own (Fr.refl _ _) _ _
 have:=hs.imp (S':=fun b=>L≤b∧b < (w.setCell ⟨sb,1,none⟩ (.string nm)).heap.size ∧b≠sb) (hf.same fun b hb=>⟨hb.2.1,hb.2.2⟩) fun b hb=>⟨hb.1,by simpa using hb.2.1,hb.2.2⟩
 exact⟨this.k,this.at_,this.args,this.cond,this.body,this.els⟩
theorem input_any (C:Pcx) (sb L:Nat) (x:St) (l:List Tk) (d:Nat) (w:World) (hk:C.Ok) (h:PaAt C w l d) (hst:StAt w sb L x) (hsb:sb≠C.P) (hL:C.P < L) (hT:sb≠C.TB) (h0:C.W0.heap.size≤sb):
  Calls Tryz.prog 278 #[.pointer (some ⟨C.P,0,none⟩),.pointer (some ⟨sb,0,none⟩)] w (MetP C sb L d ((nameP l).then fun v r=>endS {x with nm:=v.nm} r) w):=by
 obtain⟨R,hR⟩:=nmq ((nameP l).then fun v r=>endS {x with nm:=v.nm} r)
 rw[←hR]
 have HR:=hdq hR
 have HK:=hdq hk
 have HN:=hdq (pname_any C l d w hk h)
 have HST:=hdq hst
 clear hR h hst hk
 go_enter Tryz.func278,Tryz.ntmps278
 go_wp2_with fail
 refine HN.out.mono ?_
 intro e w2 hE
 rcases hE.ways with⟨v,r,hx,rfl,hok,hp,hf⟩|⟨c,a,hx,rfl,hf⟩
 rotate_left
 ·go_wp2_with fail
  exact⟨rfl,by rw[HR.out,hx];exact⟨rfl,PT.l hf⟩⟩
 have hst2:=HST.out.fr hf hsb hL
 obtain⟨p,hb,hs⟩:=hst2
 have b1:=hb.cell 1
 have g1:=hb.frozen 1
 simp only[stC,List.getElem?_toArray,List.getElem?_cons_succ,List.getElem?_cons_zero]at b1
 obtain⟨w3,hw3⟩:=nmq (w2.setCell ⟨sb,1,none⟩ (.string v.nm))
 have hf3:Fr (fun b=>b=sb) w2 w3:=by rw[hw3];exact Fr.own (Fr.refl _ _) _ _
 have hst3:StAt w3 sb L {x with nm:=v.nm}:=by rw[hw3];exact StAt.name (C:=C) ⟨p,hb,hs⟩ _
 have hp3:PaAt C w3 r d:=hp.fr hf3 (fun e=>hsb (by have e:C.P=sb:=e;exact e.symm)) (fun e=>hT (by have e:C.TB=sb:=e;exact e.symm)) (fun i hi e=>by have e:i=sb:=e;omega)
 have hz:w3.heap.size=w2.heap.size:=by rw[hw3];simp
 have ht:=take_any C [59] r d w3.heap.size _ HK.out (hp3.alloc (.cells #[.string ⟨#[59]⟩] 9)) (by decide) (by simp)
 rw[hz]at ht
 have HX:=hdq hx
 have HW3:=hdq hw3
 have HF3:=hdq ((PT.l hf (rb:=sb)).trans ((hf3.mono fun i _ h=>Or.inr h).alloc (.cells #[.string ⟨#[59]⟩] 9)))
 have HST3:=hdq hst3
 have hal:Fr C.T w3 (w3.alloc (.cells #[.string ⟨#[59]⟩] 9)):=(Fr.refl _ _).alloc _
 have HAL:=hdq hal
 rw[hw3]at ht
 have HT:=hdq ht
 clear hx hok hp hf hb hs hw3 hf3 hst3 hp3 hz ht hal
 go_wp2_with fail
 refine HT.out.mono ?_
 intro e w4 hE
 rw[←HW3.out]at hE
 have hR2:=HR.out
 rw[HX.out]at hR2
 replace hR2:R=endS {x with nm:=v.nm} r:=hR2
 have HR2:=hdq hR2
 clear hR2
 rcases hE with⟨ht,rfl,hp,hf⟩|⟨ht,rfl,hf⟩
 rotate_left
 ·go_wp2_with fail
  exact⟨rfl,by rw[HR2.out,endS,ht];exact⟨rfl,HF3.out.trans (PT.l hf)⟩⟩
 have HT2:=hdq ht
 have HP2:=hdq hp
 have HF2:=hdq hf
 clear ht hp hf
 go_wp2_with fail
 go_end0
 rw[HR2.out,endS,HT2.out]
 exact⟨rfl,HST3.out.fr (HAL.out.trans HF2.out) hsb hL,HP2.out,HF3.out.trans (PT.l HF2.out)⟩

theorem StAt.ask {w:World} {sb L L':Nat} {x:St} (h:StAt w sb L x) {xs:Cds} {B:Option Addr} {q:Nat} (hv:SlR (CdR w (New L' w) False xs) xs.len 64 B q) (hl:L≤L') (hsb:sb < L'):StAt (w.setCell ⟨sb,3,none⟩ (.slice B xs.len q)) sb L {x with cond:=xs}:=by
 obtain⟨p,hb,hs⟩:=h
 refine⟨{p with B:=B,q:=q},by simpa[stC]using hb.set_ 3 (.slice B xs.len q),?_⟩
 have hf:Fr (fun b=>b=sb) w (w.setCell ⟨sb,3,none⟩ (.slice B xs.len q)):=Fr.own (Fr.refl _ _) _ _
 have:=hs.imp (S':=fun b=>L≤b∧b < (w.setCell ⟨sb,3,none⟩ (.slice B xs.len q)).heap.size ∧b≠sb) (hf.same fun b hb=>⟨hb.2.1,hb.2.2⟩) fun b hb=>⟨hb.1,by simpa using hb.2.1,hb.2.2⟩
 refine⟨this.k,this.at_,this.args,hv.imp fun _ _ h=>CdR.more (fun b hb=>?_) (CdR.keep (hf.same fun b hb=>⟨hb.2,fun e=>?_⟩) h),this.body,this.els⟩
 ·have h1:=hb.1
  have h2:=hb.2
  exact⟨by omega,by simpa using h2,by omega⟩
 ·have e:b=sb:=e
  have h1:=hb.1
  omega
theorem ask_any (C:Pcx) (n:Nat) (sb L:Nat) (x:St) (l:List Tk) (d:Nat) (w:World) (hdn:d+n=24) (hk:C.Ok) (h:PaAt C w l d) (hst:StAt w sb L x) (hsb:sb≠C.P) (hL:C.P < L) (hT:sb≠C.TB) (h0:C.W0.heap.size≤sb) (hLw:L≤w.heap.size):
  Calls Tryz.prog 279 #[.pointer (some ⟨C.P,0,none⟩),.pointer (some ⟨sb,0,none⟩)] w (MetP C sb L d ((askP n l).then fun v r=>endS {x with cond:=v} r) w):=by
 obtain⟨R,hR⟩:=nmq ((askP n l).then fun v r=>endS {x with cond:=v} r)
 rw[←hR]
 have HR:=hdq hR
 have HK:=hdq hk
 have HN:=hdq (asked_any C n l d w hdn hk h)
 have HST:=hdq hst
 clear hR h hst hk
 go_enter Tryz.func279,Tryz.ntmps279
 go_wp2_with fail
 refine HN.out.mono ?_
 intro e w2 hE
 have hlw:L≤w.heap.size∧sb < w.heap.size:=by
  obtain⟨p,hb,hs⟩:=HST.out
  exact⟨hLw,hb.lt⟩
 unfold EndV at hE
 cases hx:askP n l with
 |err c a=>
  rw[hx]at hE
  obtain⟨rfl,hf⟩:=hE
  unfold wrongE
  go_wp2_with fail
  exact⟨rfl,by rw[HR.out,hx];exact⟨rfl,PT.l hf⟩⟩
 |ok xs r=>
 rw[hx]at hE
 obtain⟨_,rfl,⟨B,q,rfl,hok⟩,hp,hf⟩:=hE
 have hst2:=HST.out.fr hf hsb hL
 obtain⟨p,hb,hs⟩:=hst2
 have b1:=hb.cell 3
 have g1:=hb.frozen 3
 simp only[stC,List.getElem?_toArray,List.getElem?_cons_succ,List.getElem?_cons_zero]at b1
 obtain⟨w3,hw3⟩:=nmq (w2.setCell ⟨sb,3,none⟩ (.slice B xs.len q))
 have hf3:Fr (fun b=>b=sb) w2 w3:=by rw[hw3];exact Fr.own (Fr.refl _ _) _ _
 have hst3:StAt w3 sb L {x with cond:=xs}:=by rw[hw3];exact StAt.ask ⟨p,hb,hs⟩ hok hlw.1 hlw.2
 have hp3:PaAt C w3 r d:=hp.fr hf3 (fun e=>hsb (by have e:C.P=sb:=e;exact e.symm)) (fun e=>hT (by have e:C.TB=sb:=e;exact e.symm)) (fun i hi e=>by have e:i=sb:=e;omega)
 have hz:w3.heap.size=w2.heap.size:=by rw[hw3];simp
 have ht:=take_any C [59] r d w3.heap.size _ HK.out (hp3.alloc (.cells #[.string ⟨#[59]⟩] 9)) (by decide) (by simp)
 rw[hz]at ht
 have HX:=hdq hx
 have HW3:=hdq hw3
 have HF3:=hdq ((PT.l hf (rb:=sb)).trans ((hf3.mono fun i _ h=>Or.inr h).alloc (.cells #[.string ⟨#[59]⟩] 9)))
 have HST3:=hdq hst3
 have hal:Fr C.T w3 (w3.alloc (.cells #[.string ⟨#[59]⟩] 9)):=(Fr.refl _ _).alloc _
 have HAL:=hdq hal
 rw[hw3]at ht
 have HT:=hdq ht
 clear hx hok hp hf hb hs hw3 hf3 hst3 hp3 hz ht hal
 go_wp2_with fail
 refine HT.out.mono ?_
 intro e w4 hE
 rw[←HW3.out]at hE
 have hR2:=HR.out
 rw[HX.out]at hR2
 replace hR2:R=endS {x with cond:=xs} r:=hR2
 have HR2:=hdq hR2
 clear hR2
 rcases hE with⟨ht,rfl,hp,hf⟩|⟨ht,rfl,hf⟩
 rotate_left
 ·go_wp2_with fail
  exact⟨rfl,by rw[HR2.out,endS,ht];exact⟨rfl,HF3.out.trans (PT.l hf)⟩⟩
 have HT2:=hdq ht
 have HP2:=hdq hp
 have HF2:=hdq hf
 clear ht hp hf
 go_wp2_with fail
 go_end0
 rw[HR2.out,endS,HT2.out]
 exact⟨rfl,HST3.out.fr (HAL.out.trans HF2.out) hsb hL,HP2.out,HF3.out.trans (PT.l HF2.out)⟩

def StlV (w:World) (L:Nat) (v:Value) (xs:List St):Prop:=∃A c,v= .slice A (stsOf xs).len c∧SlR (StR w (New L w) False (stsOf xs)) (stsOf xs).len 128 A c
def BlkC (C:Pcx) (n:Nat):Prop:=∀(l:List Tk) (d:Nat) (w:World),d+n=24→PaAt C w l d→Calls Tryz.prog 136 #[.pointer (some ⟨C.P,0,none⟩)] w (EndV C d StlV (blockP n l) w)
theorem StlV.fr {w w':World} {L:Nat} {T:Nat→Prop} {v:Value} {xs:List St} (h:StlV w L v xs) (hf:Fr T w w') (ht:∀b,L≤b→b < w.heap.size→¬T b):StlV w' L v xs:=by
 obtain⟨A,c,e,hs⟩:=h
 exact⟨A,c,e,hs.imp fun _ _ hx=>StR.more (fun b hb=>⟨hb.1,ltq hb.2 hf.size⟩) (StR.keep (hf.same fun b hb=>⟨hb.2,ht b hb.1 hb.2⟩) hx)⟩
theorem StAt.body {w:World} {sb L L':Nat} {x:St} (h:StAt w sb L x) {xs:Sts} {B:Option Addr} {q:Nat} (hv:SlR (StR w (New L' w) False xs) xs.len 128 B q) (hl:L≤L') (hsb:sb < L'):StAt (w.setCell ⟨sb,4,none⟩ (.slice B xs.len q)) sb L {x with body:=xs}:=by
 obtain⟨p,hb,hs⟩:=h
 refine⟨{p with D:=B,e:=q},by simpa[stC]using hb.set_ 4 (.slice B xs.len q),?_⟩
 have hf:Fr (fun b=>b=sb) w (w.setCell ⟨sb,4,none⟩ (.slice B xs.len q)):=Fr.own (Fr.refl _ _) _ _
 have:=hs.imp (S':=fun b=>L≤b∧b < (w.setCell ⟨sb,4,none⟩ (.slice B xs.len q)).heap.size ∧b≠sb) (hf.same fun b hb=>⟨hb.2.1,hb.2.2⟩) fun b hb=>⟨hb.1,by simpa using hb.2.1,hb.2.2⟩
 refine⟨this.k,this.at_,this.args,this.cond,hv.imp fun _ _ h=>StR.more (fun b hb=>?_) (StR.keep (hf.same fun b hb=>⟨hb.2,fun e=>?_⟩) h),this.els⟩
 ·have h1:=hb.1
  have h2:=hb.2
  exact⟨by omega,by simpa using h2,by omega⟩
 ·have e:b=sb:=e
  have h1:=hb.1
  omega
theorem StAt.els {w:World} {sb L L':Nat} {x:St} (h:StAt w sb L x) {xs:Sts} {B:Option Addr} {q:Nat} (hv:SlR (StR w (New L' w) False xs) xs.len 128 B q) (hl:L≤L') (hsb:sb < L'):StAt (w.setCell ⟨sb,5,none⟩ (.slice B xs.len q)) sb L {x with els:=xs}:=by
 obtain⟨p,hb,hs⟩:=h
 refine⟨{p with E:=B,f:=q},by simpa[stC]using hb.set_ 5 (.slice B xs.len q),?_⟩
 have hf:Fr (fun b=>b=sb) w (w.setCell ⟨sb,5,none⟩ (.slice B xs.len q)):=Fr.own (Fr.refl _ _) _ _
 have:=hs.imp (S':=fun b=>L≤b∧b < (w.setCell ⟨sb,5,none⟩ (.slice B xs.len q)).heap.size ∧b≠sb) (hf.same fun b hb=>⟨hb.2.1,hb.2.2⟩) fun b hb=>⟨hb.1,by simpa using hb.2.1,hb.2.2⟩
 refine⟨this.k,this.at_,this.args,this.cond,this.body,hv.imp fun _ _ h=>StR.more (fun b hb=>?_) (StR.keep (hf.same fun b hb=>⟨hb.2,fun e=>?_⟩) h)⟩
 ·have h1:=hb.1
  have h2:=hb.2
  exact⟨by omega,by simpa using h2,by omega⟩
 ·have e:b=sb:=e
  have h1:=hb.1
  omega
theorem StAt.args {w:World} {sb L L':Nat} {x:St} (h:StAt w sb L x) {xs:Exs} {B:Option Addr} {q:Nat} (hv:SlR (ExR w (New L' w) False xs) xs.len 64 B q) (hl:L≤L') (hsb:sb < L'):StAt (w.setCell ⟨sb,2,none⟩ (.slice B xs.len q)) sb L {x with args:=xs}:=by
 obtain⟨p,hb,hs⟩:=h
 refine⟨{p with A:=B,c:=q},by simpa[stC]using hb.set_ 2 (.slice B xs.len q),?_⟩
 have hf:Fr (fun b=>b=sb) w (w.setCell ⟨sb,2,none⟩ (.slice B xs.len q)):=Fr.own (Fr.refl _ _) _ _
 have:=hs.imp (S':=fun b=>L≤b∧b < (w.setCell ⟨sb,2,none⟩ (.slice B xs.len q)).heap.size ∧b≠sb) (hf.same fun b hb=>⟨hb.2.1,hb.2.2⟩) fun b hb=>⟨hb.1,by simpa using hb.2.1,hb.2.2⟩
 refine⟨this.k,this.at_,hv.imp fun _ _ h=>ExR.more (fun b hb=>?_) (ExR.keep (hf.same fun b hb=>⟨hb.2,fun e=>?_⟩) h),this.cond,this.body,this.els⟩
 ·have h1:=hb.1
  have h2:=hb.2
  exact⟨by omega,by simpa using h2,by omega⟩
 ·have e:b=sb:=e
  have h1:=hb.1
  omega

theorem loop_any (C:Pcx) (n:Nat) (hbk:BlkC C n) (sb L:Nat) (x:St) (l:List Tk) (d:Nat) (w:World) (hdn:d+n=24) (hk:C.Ok) (h:PaAt C w l d) (hst:StAt w sb L x) (hsb:sb≠C.P) (hL:C.P < L) (hT:sb≠C.TB) (h0:C.W0.heap.size≤sb) (hLw:L≤w.heap.size):
  Calls Tryz.prog 281 #[.pointer (some ⟨C.P,0,none⟩),.pointer (some ⟨sb,0,none⟩)] w (MetP C sb L d ((askP n l).then fun c r=>(blockP n r).then fun b r=> .ok {x with cond:=c,body:=stsOf b} r) w):=by
 obtain⟨R,hR⟩:=nmq ((askP n l).then fun c r=>(blockP n r).then fun b r=>PR.ok {x with cond:=c,body:=stsOf b} r)
 rw[←hR]
 have HR:=hdq hR
 have HN:=hdq (asked_any C n l d w hdn hk h)
 have HST:=hdq hst
 have HL:=hdq h.lts
 have hsl:sb < w.heap.size:=by
  obtain⟨p,hb,hs⟩:=hst
  exact hb.lt
 have HBK:=hdq hbk
 clear hR h hst hk hbk
 go_enter Tryz.func281,Tryz.ntmps281
 go_wp2_with fail
 refine HN.out.mono ?_
 intro e w2 hE
 unfold EndV at hE
 cases hx:askP n l with
 |err c a=>
  rw[hx]at hE
  obtain⟨rfl,hf⟩:=hE
  unfold wrongE
  go_wp2_with fail
  exact⟨rfl,by rw[HR.out,hx];exact⟨rfl,PT.l hf⟩⟩
 |ok xs r=>
 rw[hx]at hE
 obtain⟨_,rfl,⟨B,q,rfl,hok⟩,hp,hf⟩:=hE
 have hR2:=HR.out
 rw[hx]at hR2
 replace hR2:R=(blockP n r).then fun b r=>PR.ok {x with cond:=xs,body:=stsOf b} r:=hR2
 have HR2:=hdq hR2
 have HB:=hdq (HBK.out r d w2 hdn hp)
 have HST2:=hdq (HST.out.fr hf hsb hL)
 have HOK:=hdq hok
 have HF:=hdq hf
 have hs2:w.heap.size≤w2.heap.size:=hf.size
 clear hx hok hp hf hR2
 go_wp2_with fail
 refine HB.out.mono ?_
 intro e w3 hE
 unfold EndV at hE
 cases hx:blockP n r with
 |err c a=>
  rw[hx]at hE
  obtain⟨rfl,hf⟩:=hE
  unfold wrongE
  go_wp2_with fail
  exact⟨rfl,by rw[HR2.out,hx];exact⟨rfl,PT.l (HF.out.trans hf)⟩⟩
 |ok b r2=>
 rw[hx]at hE
 obtain⟨_,rfl,⟨D,m,rfl,hok⟩,hp,hf⟩:=hE
 have hst3:=HST2.out.fr hf hsb hL
 have hc3:SlR (CdR w3 (New w.heap.size w3) False xs) xs.len 64 B q:=HOK.out.imp fun _ _ h=>CdR.more (fun b hb=>⟨hb.1,ltq hb.2 hf.size⟩) (CdR.keep (hf.same fun b hb=>⟨hb.2,fun e=>by have e:b=C.P:=e;have:=hb.1;have:=HL.out.1;omega⟩) h)
 have hs3:=hf.size
 have hst4:=StAt.ask hst3 hc3 hLw hsl
 have hst5:=StAt.body hst4 (L':=w2.heap.size) (xs:=stsOf b) (B:=D) (q:=m) (hok.imp fun _ _ h=>StR.more (fun b hb=>⟨hb.1,by simpa using hb.2⟩) (StR.keep ((Fr.own (g:=sb) (Fr.refl _ _) _ _).same fun b hb=>⟨hb.2,fun e=>by have e:b=sb:=e;have:=hb.1;omega⟩) h)) (by omega) (by omega)
 obtain⟨p,hb,hs⟩:=hst3
 have b3:=hb.cell 3
 have g3:=hb.frozen 3
 have b4:=hb.cell 4
 have g4:=hb.frozen 4
 simp only[stC,List.getElem?_toArray,List.getElem?_cons_succ,List.getElem?_cons_zero]at b3 b4
 have HX:=hdq hx
 have HP:=hdq hp
 have HF3:=hdq (HF.out.trans hf)
 have H5:=hdq hst5
 clear hx hok hp hf hb hs hst4 hst5 hc3
 go_wp2_with fail
 go_end0
 rw[HR2.out,HX.out]
 have hfw:Fr (fun b=>b=sb) w3 ((w3.setCell ⟨sb,3,none⟩ (.slice B xs.len q)).setCell ⟨sb,4,none⟩ (.slice D (stsOf b).len m)):=Fr.own (Fr.own (Fr.refl _ _) _ _) _ _
 exact⟨rfl,H5.out,HP.out.fr hfw (fun e=>hsb (by have e:C.P=sb:=e;exact e.symm)) (fun e=>hT (by have e:C.TB=sb:=e;exact e.symm)) (fun i hi e=>by have e:i=sb:=e;omega),(PT.l HF3.out).trans (hfw.mono fun i _ h=>Or.inr h)⟩

theorem branch_any (C:Pcx) (n:Nat) (hbk:BlkC C n) (sb L:Nat) (x:St) (l:List Tk) (d:Nat) (w:World) (hdn:d+n=24) (hk:C.Ok) (h:PaAt C w l d) (hst:StAt w sb L x) (hsb:sb≠C.P) (hL:C.P < L) (hT:sb≠C.TB) (h0:C.W0.heap.size≤sb) (hLw:L≤w.heap.size):
  Calls Tryz.prog 280 #[.pointer (some ⟨C.P,0,none⟩),.pointer (some ⟨sb,0,none⟩)] w (MetP C sb L d ((askP n l).then fun c r=>(blockP n r).then fun b r=>if mayB [101,108,115,101] r then(blockP n r.tail).then fun e r=> .ok {x with cond:=c,body:=stsOf b,els:=stsOf e} r else .ok {x with cond:=c,body:=stsOf b} r) w):=by
 obtain⟨R,hR⟩:=nmq ((askP n l).then fun c r=>(blockP n r).then fun b r=>if mayB [101,108,115,101] r then(blockP n r.tail).then fun e r=>PR.ok {x with cond:=c,body:=stsOf b,els:=stsOf e} r else PR.ok {x with cond:=c,body:=stsOf b} r)
 rw[←hR]
 have HR:=hdq hR
 have HN:=hdq (asked_any C n l d w hdn hk h)
 have HST:=hdq hst
 have HL:=hdq h.lts
 have hsl:sb < w.heap.size:=by
  obtain⟨p,hb,hs⟩:=hst
  exact hb.lt
 have HBK:=hdq hbk
 have HK:=hdq hk
 clear hR h hst hk hbk
 go_enter Tryz.func280,Tryz.ntmps280
 go_wp2_with fail
 refine HN.out.mono ?_
 intro e w2 hE
 unfold EndV at hE
 cases hx:askP n l with
 |err c a=>
  rw[hx]at hE
  obtain⟨rfl,hf⟩:=hE
  unfold wrongE
  go_wp2_with fail
  exact⟨rfl,by rw[HR.out,hx];exact⟨rfl,PT.l hf⟩⟩
 |ok xs r=>
 rw[hx]at hE
 obtain⟨_,rfl,⟨B,q,rfl,hok⟩,hp,hf⟩:=hE
 have hR2:=HR.out
 rw[hx]at hR2
 replace hR2:R=(blockP n r).then fun b r=>if mayB [101,108,115,101] r then(blockP n r.tail).then fun e r=>PR.ok {x with cond:=xs,body:=stsOf b,els:=stsOf e} r else PR.ok {x with cond:=xs,body:=stsOf b} r:=hR2
 have HR2:=hdq hR2
 have HB:=hdq (HBK.out r d w2 hdn hp)
 have HST2:=hdq (HST.out.fr hf hsb hL)
 have HOK:=hdq hok
 have HF:=hdq hf
 have hs2:w.heap.size≤w2.heap.size:=hf.size
 clear hx hok hp hf hR2
 go_wp2_with fail
 refine HB.out.mono ?_
 intro e w3 hE
 unfold EndV at hE
 cases hx:blockP n r with
 |err c a=>
  rw[hx]at hE
  obtain⟨rfl,hf⟩:=hE
  unfold wrongE
  go_wp2_with fail
  exact⟨rfl,by rw[HR2.out,hx];exact⟨rfl,PT.l (HF.out.trans hf)⟩⟩
 |ok b r2=>
 rw[hx]at hE
 obtain⟨_,rfl,⟨D,m,rfl,hok⟩,hp,hf⟩:=hE
 have hst3:=HST2.out.fr hf hsb hL
 have hc3:SlR (CdR w3 (New w.heap.size w3) False xs) xs.len 64 B q:=HOK.out.imp fun _ _ h=>CdR.more (fun b hb=>⟨hb.1,ltq hb.2 hf.size⟩) (CdR.keep (hf.same fun b hb=>⟨hb.2,fun e=>by have e:b=C.P:=e;have:=hb.1;have:=HL.out.1;omega⟩) h)
 have hs3:=hf.size
 have hst4:=StAt.ask hst3 hc3 hLw hsl
 have hst5:=StAt.body hst4 (L':=w2.heap.size) (xs:=stsOf b) (B:=D) (q:=m) (hok.imp fun _ _ h=>StR.more (fun b hb=>⟨hb.1,by simpa using hb.2⟩) (StR.keep ((Fr.own (g:=sb) (Fr.refl _ _) _ _).same fun b hb=>⟨hb.2,fun e=>by have e:b=sb:=e;have:=hb.1;omega⟩) h)) (by omega) (by omega)
 obtain⟨p,hb,hs⟩:=hst3
 have b3:=hb.cell 3
 have g3:=hb.frozen 3
 have b4:=hb.cell 4
 have g4:=hb.frozen 4
 simp only[stC,List.getElem?_toArray,List.getElem?_cons_succ,List.getElem?_cons_zero]at b3 b4
 have hR3:=HR2.out
 rw[hx]at hR3
 replace hR3:R=if mayB [101,108,115,101] r2 then(blockP n r2.tail).then fun e r=>PR.ok {x with cond:=xs,body:=stsOf b,els:=stsOf e} r else PR.ok {x with cond:=xs,body:=stsOf b} r2:=hR3
 have HR3:=hdq hR3
 have hfw:Fr (fun b=>b=sb) w3 ((w3.setCell ⟨sb,3,none⟩ (.slice B xs.len q)).setCell ⟨sb,4,none⟩ (.slice D (stsOf b).len m)):=Fr.own (Fr.own (Fr.refl _ _) _ _) _ _
 obtain⟨w5,hw5⟩:=nmq ((w3.setCell ⟨sb,3,none⟩ (.slice B xs.len q)).setCell ⟨sb,4,none⟩ (.slice D (stsOf b).len m))
 rw[←hw5]at hfw hst5
 have hp5:PaAt C w5 r2 d:=hp.fr hfw (fun e=>hsb (by have e:C.P=sb:=e;exact e.symm)) (fun e=>hT (by have e:C.TB=sb:=e;exact e.symm)) (fun i hi e=>by have e:i=sb:=e;omega)
 have hF5:Fr (PT C sb) w w5:=(PT.l (HF.out.trans hf)).trans (hfw.mono fun i _ h=>Or.inr h)
 have HM:=hdq (may_any C [101,108,115,101] r2 d w5 HK.out hp5 (by decide))
 have HF5:=hdq hF5
 have H5:=hdq hst5
 have HW5:=hdq hw5
 have hs5:w.heap.size≤w5.heap.size:=hF5.size
 clear hx hok hp hf hb hs hst4 hst5 hc3 hR3 hfw hw5 hp5 hF5
 go_wp2_with fail
 rw[←HW5.out]
 refine HM.out.mono ?_
 rintro _ w6 ⟨rfl,hp6,hf6⟩
 have HST6:=hdq (H5.out.fr hf6 hsb hL)
 have HF6:=hdq (HF5.out.trans (PT.l hf6))
 cases hm:mayB [101,108,115,101] r2
 ·rw[hm]at hp6
  have HP6:=hdq (show PaAt C w6 r2 d from hp6)
  have hR4:=HR3.out
  rw[hm]at hR4
  have HR4:=hdq (show R=PR.ok {x with cond:=xs,body:=stsOf b} r2 from hR4)
  clear hR4 hp6 hf6 hm
  go_wp2_with fail
  go_end0
  rw[HR4.out]
  exact⟨rfl,HST6.out,HP6.out,HF6.out⟩
 ·rw[hm]at hp6
  have hR4:=HR3.out
  rw[hm]at hR4
  have HR4:=hdq (show R=(blockP n r2.tail).then fun e r=>PR.ok {x with cond:=xs,body:=stsOf b,els:=stsOf e} r from hR4)
  have HB6:=hdq (HBK.out r2.tail d w6 hdn hp6)
  have hs6:w5.heap.size≤w6.heap.size:=hf6.size
  clear hR4 hp6 hf6 hm
  go_wp2_with fail
  refine HB6.out.mono ?_
  intro e w7 hE
  unfold EndV at hE
  cases hx:blockP n r2.tail with
  |err c a=>
   rw[hx]at hE
   obtain⟨rfl,hf⟩:=hE
   unfold wrongE
   go_wp2_with fail
   exact⟨rfl,by rw[HR4.out,hx];exact⟨rfl,HF6.out.trans (PT.l hf)⟩⟩
  |ok b2 r3=>
  rw[hx]at hE
  obtain⟨_,rfl,⟨D2,m2,rfl,hok⟩,hp,hf⟩:=hE
  have hst7:=HST6.out.fr hf hsb hL
  have H8:=hdq (StAt.els hst7 hok (by omega) (by omega))
  obtain⟨p,hb,hs⟩:=hst7
  have b5:=hb.cell 5
  have g5:=hb.frozen 5
  simp only[stC,List.getElem?_toArray,List.getElem?_cons_succ,List.getElem?_cons_zero]at b5
  have HX:=hdq hx
  have HP:=hdq hp
  have HF7:=hdq (HF6.out.trans (PT.l hf))
  clear hx hok hp hf hb hs
  go_wp2_with fail
  go_end0
  rw[HR4.out,HX.out]
  have hfw:Fr (fun b=>b=sb) w7 (w7.setCell ⟨sb,5,none⟩ (.slice D2 (stsOf b2).len m2)):=Fr.own (Fr.refl _ _) _ _
  exact⟨rfl,H8.out,HP.out.fr hfw (fun e=>hsb (by have e:C.P=sb:=e;exact e.symm)) (fun e=>hT (by have e:C.TB=sb:=e;exact e.symm)) (fun i hi e=>by have e:i=sb:=e;omega),HF7.out.trans (hfw.mono fun i _ h=>Or.inr h)⟩

theorem call_any (C:Pcx) (n:Nat) (sb L:Nat) (x:St) (l:List Tk) (d:Nat) (w:World) (hdn:d+n=24) (hk:C.Ok) (h:PaAt C w l d) (hst:StAt w sb L x) (hsb:sb≠C.P) (hL:C.P < L) (hT:sb≠C.TB) (h0:C.W0.heap.size≤sb) (hLw:L≤w.heap.size):
  Calls Tryz.prog 282 #[.pointer (some ⟨C.P,0,none⟩),.pointer (some ⟨sb,0,none⟩)] w (MetP C sb L d ((nameP l).then fun v r=>(takeP [40] r).then fun _ r=>(someP (exprP n) [41] true r).then fun xs r=>endS {x with nm:=v.nm,args:=exsOf xs} r) w):=by
 have hmf:= @makeF Tryz.prog
 obtain⟨R,hR⟩:=nmq ((nameP l).then fun v r=>(takeP [40] r).then fun _ r=>(someP (exprP n) [41] true r).then fun xs r=>endS {x with nm:=v.nm,args:=exsOf xs} r)
 rw[←hR]
 have HR:=hdq hR
 have HK:=hdq hk
 have HN:=hdq (pname_any C l d w hk h)
 have HST:=hdq hst
 have hsl:sb < w.heap.size:=by
  obtain⟨p,hb,hs⟩:=hst
  exact hb.lt
 clear hR h hst hk
 go_enter Tryz.func282,Tryz.ntmps282
 go_wp2_with fail
 refine HN.out.mono ?_
 intro e w2 hE
 rcases hE.ways with⟨v,r,hx,rfl,hok,hp,hf⟩|⟨c,a,hx,rfl,hf⟩
 rotate_left
 ·go_wp2_with fail
  exact⟨rfl,by rw[HR.out,hx];exact⟨rfl,PT.l hf⟩⟩
 have hst2:=HST.out.fr hf hsb hL
 have hs2:w.heap.size≤w2.heap.size:=hf.size
 obtain⟨p,hb,hs⟩:=hst2
 have b1:=hb.cell 1
 have g1:=hb.frozen 1
 simp only[stC,List.getElem?_toArray,List.getElem?_cons_succ,List.getElem?_cons_zero]at b1
 obtain⟨w3,hw3⟩:=nmq (w2.setCell ⟨sb,1,none⟩ (.string v.nm))
 have hf3:Fr (fun b=>b=sb) w2 w3:=by rw[hw3];exact Fr.own (Fr.refl _ _) _ _
 have hst3:StAt w3 sb L {x with nm:=v.nm}:=by rw[hw3];exact StAt.name (C:=C) ⟨p,hb,hs⟩ _
 have hp3:PaAt C w3 r d:=hp.fr hf3 (fun e=>hsb (by have e:C.P=sb:=e;exact e.symm)) (fun e=>hT (by have e:C.TB=sb:=e;exact e.symm)) (fun i hi e=>by have e:i=sb:=e;omega)
 have hz:w3.heap.size=w2.heap.size:=by rw[hw3];simp
 have ht:=take_any C [40] r d w3.heap.size _ HK.out (hp3.alloc (.cells #[.string ⟨#[40]⟩] 9)) (by decide) (by simp)
 rw[hz]at ht
 have HX:=hdq hx
 have HW3:=hdq hw3
 have hal:Fr C.T w3 (w3.alloc (.cells #[.string ⟨#[40]⟩] 9)):=(Fr.refl _ _).alloc _
 have HF3:=hdq ((PT.l hf (rb:=sb)).trans ((hf3.mono fun i _ h=>Or.inr h).alloc (.cells #[.string ⟨#[40]⟩] 9)))
 have HST3:=hdq (hst3.fr hal hsb hL)
 rw[hw3]at ht
 have HT:=hdq ht
 clear hx hok hp hf hb hs hw3 hf3 hst3 hp3 hz ht hal
 go_wp2_with fail
 refine HT.out.mono ?_
 intro e w4 hE
 rw[←HW3.out]at hE
 have hR2:=HR.out
 rw[HX.out]at hR2
 replace hR2:R=(takeP [40] r).then fun _ r=>(someP (exprP n) [41] true r).then fun xs r=>endS {x with nm:=v.nm,args:=exsOf xs} r:=hR2
 have HR1:=hdq hR2
 clear hR2
 rcases hE with⟨ht,rfl,hp,hf⟩|⟨ht,rfl,hf⟩
 rotate_left
 ·go_wp2_with fail
  exact⟨rfl,by rw[HR1.out,ht];exact⟨rfl,HF3.out.trans (PT.l hf)⟩⟩
 have hR2:=HR1.out
 rw[ht]at hR2
 replace hR2:R=(someP (exprP n) [41] true r.tail).then fun xs r=>endS {x with nm:=v.nm,args:=exsOf xs} r:=hR2
 have HR2:=hdq hR2
 have HF4:=hdq (HF3.out.trans (PT.l hf))
 have HST4:=hdq (HST3.out.fr hf hsb hL)
 have hs4:w.heap.size≤w4.heap.size:=HF4.out.size
 have hsm:=someX_any C (exprP n) [41] true 247 #[.pointer (some ⟨C.P,0,none⟩)] #[] r.tail d w4 HK.out hp (exprP_shr n) (by decide) (enters_of Tryz.func247 (by kernel_rfl) rfl) fun W _ l' hp'=>by
  simpa using pexpr_any C n l' d W hdn HK.out hp'
 have HSM:=hdq hsm
 clear hR2 ht hp hf hsm
 go_wp2_with fail
 refine HSM.out.mono ?_
 intro e w5 hE
 unfold EndV at hE
 cases hx:someP (exprP n) [41] true r.tail with
 |err c a=>
  rw[hx]at hE
  obtain⟨rfl,hf⟩:=hE
  unfold wrongE
  go_wp2_with fail
  exact⟨rfl,by rw[HR2.out,hx];exact⟨rfl,HF4.out.trans (PT.l hf)⟩⟩
 |ok xs r2=>
 rw[hx]at hE
 obtain⟨_,rfl,⟨B,q,rfl,hok⟩,hp,hf⟩:=hE
 have hR3:=HR2.out
 rw[hx]at hR3
 replace hR3:R=endS {x with nm:=v.nm,args:=exsOf xs} r2:=hR3
 have HR3:=hdq hR3
 have hst5:=HST4.out.fr hf hsb hL
 obtain⟨p5,hb,hs⟩:=hst5
 have b2:=hb.cell 2
 have g2:=hb.frozen 2
 simp only[stC,List.getElem?_toArray,List.getElem?_cons_succ,List.getElem?_cons_zero]at b2
 obtain⟨w6,hw6⟩:=nmq (w5.setCell ⟨sb,2,none⟩ (.slice B (exsOf xs).len q))
 have hf6:Fr (fun b=>b=sb) w5 w6:=by rw[hw6];exact Fr.own (Fr.refl _ _) _ _
 have hst6:StAt w6 sb L {x with nm:=v.nm,args:=exsOf xs}:=by rw[hw6];exact StAt.args ⟨p5,hb,hs⟩ hok (by omega) (by omega)
 have hp6:PaAt C w6 r2 d:=hp.fr hf6 (fun e=>hsb (by have e:C.P=sb:=e;exact e.symm)) (fun e=>hT (by have e:C.TB=sb:=e;exact e.symm)) (fun i hi e=>by have e:i=sb:=e;omega)
 have hz:w6.heap.size=w5.heap.size:=by rw[hw6];simp
 have ht:=take_any C [59] r2 d w6.heap.size _ HK.out (hp6.alloc (.cells #[.string ⟨#[59]⟩] 9)) (by decide) (by simp)
 rw[hz]at ht
 have HW6:=hdq hw6
 have hal:Fr C.T w6 (w6.alloc (.cells #[.string ⟨#[59]⟩] 9)):=(Fr.refl _ _).alloc _
 have HF6:=hdq (((HF4.out.trans (PT.l hf)).trans (hf6.mono fun i _ h=>Or.inr h)).alloc (.cells #[.string ⟨#[59]⟩] 9))
 have HST6:=hdq (hst6.fr hal hsb hL)
 rw[hw6]at ht
 have HT6:=hdq ht
 clear hx hok hp hf hb hs hw6 hf6 hst6 hp6 hz ht hal hR3
 go_wp2_with fail
 refine HT6.out.mono ?_
 intro e w7 hE
 rw[←HW6.out]at hE
 rcases hE with⟨ht,rfl,hp,hf⟩|⟨ht,rfl,hf⟩
 rotate_left
 ·go_wp2_with fail
  exact⟨rfl,by rw[HR3.out,endS,ht];exact⟨rfl,HF6.out.trans (PT.l hf)⟩⟩
 have HT7:=hdq ht
 have HP7:=hdq hp
 have HF7:=hdq hf
 clear ht hp hf
 go_wp2_with fail
 go_end0
 rw[HR3.out,endS,HT7.out]
 exact⟨rfl,HST6.out.fr HF7.out hsb hL,HP7.out,HF6.out.trans (PT.l HF7.out)⟩

def kwF (k:Int):Nat:=if k=1 then 277 else if k=4 then 278 else if k=5∨k=6 then 279 else if k=7 then 280 else if k=8 then 281 else 282
theorem keyK_cases (t:List UInt8):keyK t=0∨keyK t=1∨keyK t=4∨keyK t=5∨keyK t=6∨keyK t=7∨keyK t=8∨keyK t=9:=by
 unfold keyK
 repeat' split
 all_goals simp
theorem StAt.kind {w:World} {sb L:Nat} {x:St} (h:StAt w sb L x) {k:Int} (hk:in8 k):StAt (w.setCell ⟨sb,0,none⟩ (.int .u8 k)) sb L {x with k:=k}:=by
 obtain⟨p,hb,hs⟩:=h
 refine⟨p,by simpa[stC]using hb.set_ 0 (.int .u8 k),?_⟩
 have hf:Fr (fun b=>b=sb) w (w.setCell ⟨sb,0,none⟩ (.int .u8 k)):=Fr.own (Fr.refl _ _) _ _
 have:=hs.imp (S':=fun b=>L≤b∧b < (w.setCell ⟨sb,0,none⟩ (.int .u8 k)).heap.size ∧b≠sb) (hf.same fun b hb=>⟨hb.2.1,hb.2.2⟩) fun b hb=>⟨hb.1,by simpa using hb.2.1,hb.2.2⟩
 exact⟨hk,this.at_,this.args,this.cond,this.body,this.els⟩
theorem StAt.new {w:World} {sb L:Nat} {k a:Int} (hk:in8 k) (ha:in64 a) (hb:Bk w sb 51 #[.int .u8 k,.string ⟨#[]⟩,.slice none 0 0,.slice none 0 0,.slice none 0 0,.slice none 0 0,.int .i64 a]):StAt w sb L ⟨k,noB,.nil,.nil,.nil,.nil,a⟩:=
 ⟨Loc.none_,hb,StS.zero hk ha⟩
theorem kw_enters (k:Int):Enters Tryz.prog (kwF k):=by
 unfold kwF
 split
 ·exact enters_of Tryz.func277 (by kernel_rfl) rfl
 split
 ·exact enters_of Tryz.func278 (by kernel_rfl) rfl
 split
 ·exact enters_of Tryz.func279 (by kernel_rfl) rfl
 split
 ·exact enters_of Tryz.func280 (by kernel_rfl) rfl
 split
 ·exact enters_of Tryz.func281 (by kernel_rfl) rfl
 ·exact enters_of Tryz.func282 (by kernel_rfl) rfl
theorem word_any (C:Pcx) (n:Nat) (hbk:BlkC C n) (sb L:Nat) (l:List Tk) (d:Nat) (w:World) (k a:Int) (hkk:k=keyK (hdT l).text) (hk0:k≠0) (ha:a=((hdT l).at_ :Int)) (hdn:d+n=24) (hk:C.Ok) (h:PaAt C w l.tail d) (hst:StAt w sb L ⟨k,noB,.nil,.nil,.nil,.nil,a⟩) (hsb:sb≠C.P) (hL:C.P < L) (hT:sb≠C.TB) (h0:C.W0.heap.size≤sb) (hLw:L≤w.heap.size):
  Calls Tryz.prog (kwF k) #[.pointer (some ⟨C.P,0,none⟩),.pointer (some ⟨sb,0,none⟩)] w (MetP C sb L d (stmtOf (blockP n) n l) w):=by
 subst hkk
 subst ha
 have hc:=keyK_cases (hdT l).text
 unfold stmtOf
 obtain⟨k,hkk⟩:=nmq (keyK (hdT l).text )
 simp only[←hkk]at hc hk0 hst ⊢
 clear hkk
 rcases hc with rfl|rfl|rfl|rfl|rfl|rfl|rfl|rfl
 ·exact absurd rfl hk0
 ·exact skip_any C sb L _ _ d w hk h hst hsb hL
 ·exact input_any C sb L _ _ d w hk h hst hsb hL hT h0
 ·exact ask_any C n sb L _ _ d w hdn hk h hst hsb hL hT h0 hLw
 ·exact ask_any C n sb L _ _ d w hdn hk h hst hsb hL hT h0 hLw
 ·exact branch_any C n hbk sb L _ _ d w hdn hk h hst hsb hL hT h0 hLw
 ·exact loop_any C n hbk sb L _ _ d w hdn hk h hst hsb hL hT h0 hLw
 ·exact call_any C n sb L _ _ d w hdn hk h hst hsb hL hT h0 hLw
end Go.Proofs.YtfomomaomggpbaaGreatDoor
