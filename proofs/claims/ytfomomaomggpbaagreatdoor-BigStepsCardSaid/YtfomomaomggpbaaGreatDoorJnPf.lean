/- parse: sized. -/
import Derived.Test.YtfomomaomggpbaaGreatDoorJnLoc
set_option linter.all false
set_option maxHeartbeats 1600000
set_option maxRecDepth 100000
namespace Go.Proofs.YtfomomaomggpbaaGreatDoor
open Go.RowKit Go.Shelf
theorem zbs (C:Pcx)(l:List Tk)(d:Nat)(w:World)(hk:C.Ok)(h:PaAt C w l d):Calls Tryz.prog 131 #[.pointer (some ⟨C.P,0,none⟩)] w (cPVa C d (zaX l) w):=by
 cases hn:zaJ l
 ·refine(zne C l d w hk h hn).mono λe w' hE=>?_;have e1:zaX l= .err 90 (hdT l).at_ :=by unfold zaX;rw[hn];rfl
  rw[e1];exact hE
 ·refine(zhi C l d w hk h hn).mono λe w' hE=>?_;have e1:zaX l= .ok ⟨txt (hdT l),(hdT l).at_⟩ l.tail:=by unfold zaX;rw[hn];rfl
  rw[e1];exact⟨hE.1,zbc hk h,hE.2.1,hE.2.2⟩
theorem zkh (C:Pcx)(l:List Tk)(d:Nat)(w:World)(hk:C.Ok)(h:PaAt C w l d):
  Calls Tryz.prog 133 #[.pointer (some ⟨C.P,0,none⟩)] w (cPAr C d (zei l) w):=by
 obtain⟨R,hR⟩:=nmq (zei l);rw[<-hR];unfold zei at hR;have HR:=hdq hR;have HK:=hdq hk;have HL:=hdq h.lts;have h1:=h.alloc (.cells #[.string ⟨#[]⟩,.int .i64 0,.int .i64 0] 61);have HN:=hdq (zbs C l d _ hk h1);have Gm:=Bk.new w 61 #[.string ⟨#[]⟩,.int .i64 0,.int .i64 0];have J2:=hdq Gm;have HA:=hdq (show Fr C.T w (w.alloc (.cells #[.string ⟨#[]⟩,.int .i64 0,.int .i64 0] 61))from(Fr.refl _ _).alloc _);clear hR h h1 hk Gm;go_enter Tryz.func133,Tryz.ntmps133;go_wp2_with fail;refine HN.mono ?_;intro e w2 hE;rcases hE.ways with⟨x,r,hx,rfl,Fh,hp,hf⟩|⟨c,a,hx,rfl,hf⟩;rotate_left
 ·go_wp2_with fail;exact⟨rfl,by rw[HR.out,hx];exact⟨rfl,HA.trans hf⟩⟩
 have GA:=HR.out;rw[hx]at GA;replace GA:R=(zal [91] r).then λ_ r=>(zaP r).then λn r=>(zal [93] r).then λ_ r=> .ok ⟨x.nm,n,x.at_⟩ r:=GA;have GB:=hdq GA;have M1:=hdq Fh;have JG:=(hp.alloc (.cells #[.string x.nm,.int .i64 x.at_] 77)).alloc (.cells #[.string ⟨#[91]⟩] 9);have HT:=hdq (zas C [91] r d (w2.heap.size+1) _ HK.out JG (by decide) (by simp));have Pt:=HA.trans hf;have Hv:=hdq ((Pt.alloc (.cells #[.string x.nm,.int .i64 x.at_] 77)).alloc (.cells #[.string ⟨#[91]⟩] 9));have Vo:=hdq ((Bk.new w2 77 #[.string x.nm,.int .i64 x.at_]).alloc (.cells #[.string ⟨#[91]⟩] 9));have Yz:¬C.T w.heap.size:=λe=>by have e:w.heap.size=C.P:=e;have:=HL.out;omega
 have GR:w.heap.size<=w2.heap.size:=Pt.size;have M2:¬C.T w2.heap.size:=λe=>by have e:w2.heap.size=C.P:=e;have:=HL.out;omega
 have Lv:=hdq (((J2.fr hf Yz).alloc (.cells #[.string x.nm,.int .i64 x.at_] 77)).alloc (.cells #[.string ⟨#[91]⟩] 9));have UC:=hdq (aiq Yz M2);clear hx Fh hp hf GA JG Pt Yz M2;go_wp2_with fail;refine HT.mono ?_;intro e w3 hE;rcases hE with⟨ht,rfl,hp,hf⟩|⟨ht,rfl,hf⟩;rotate_left
 ·go_wp2_with fail;exact⟨rfl,by rw[GB.out,ht];exact⟨rfl,Hv.trans hf⟩⟩
 have GE:=GB.out;rw[ht]at GE;replace GE:R=(zaP r.tail).then λn r=>(zal [93] r).then λ_ r=> .ok ⟨x.nm,n,x.at_⟩ r:=GE;have G8:=hdq GE;have LO:=hdq (zeF C r.tail d w3 HK.out hp);have HI:=hdq (λhn=>zhn HK.out hp (hn:=hn));have Ge:=hdq (Hv.trans hf);have Xc:=hdq (Vo.fr hf UC.2);have PZ:=hdq (Lv.fr hf UC.1);clear ht hp hf GE;go_wp2_with fail;refine LO.mono ?_;intro e w4 hE;rcases hE with⟨F7,rfl,hp,hf⟩|⟨F7,rfl,hf⟩;rotate_left
 ·go_wp2_with fail;exact⟨rfl,by rw[G8.out,zaP,if_neg F7];exact⟨rfl,Ge.trans hf⟩⟩
 obtain⟨n,hn⟩:∃n:Int,n=decV (hdT r.tail).text :=⟨_,rfl⟩;have JW:=G8.out;rw[zaP,if_pos F7,<-hn]at JW;replace JW:R=(zal [93] r.tail.tail).then λ_ r=> .ok ⟨x.nm,n,x.at_⟩ r:=JW;have KH:=hdq JW;have kL:=hdq (show in64 n from hn▸HI.out F7);rw[<-hn];have Rk:=hp.alloc (.cells #[.string ⟨#[93]⟩] 9);have Yy:=hdq (zas C [93] r.tail.tail d w4.heap.size _ HK.out Rk (by decide) (by simp));have GN:=hdq ((Ge.trans hf).alloc (.cells #[.string ⟨#[93]⟩] 9));have kM:=hdq ((Xc.fr hf UC.2).alloc (.cells #[.string ⟨#[93]⟩] 9));have ND:=hdq ((PZ.fr hf UC.1).alloc (.cells #[.string ⟨#[93]⟩] 9));clear F7 hp hf JW Rk hn;go_wp2_with fail;refine Yy.mono ?_;intro e w5 hE;rcases hE with⟨ht,rfl,hp,hf⟩|⟨ht,rfl,hf⟩;rotate_left
 ·go_wp2_with fail;exact⟨rfl,by rw[KH.out,ht];exact⟨rfl,GN.trans hf⟩⟩
 have J6:=KH.out;rw[ht]at J6;replace J6:R= .ok ⟨x.nm,n,x.at_⟩ r.tail.tail.tail:=J6;have MH:=hdq J6;have F4:=kM.fr hf UC.2;have Jw:=ND.fr hf UC.1;have q0:=F4.cell 0;have q1:=F4.cell 1;have g0:=Jw.frozen 0;have g1:=Jw.frozen 1;have g2:=Jw.frozen 2;have b0:=Jw.cell 0;have b1:=Jw.cell 1;have b2:=Jw.cell 2;simp only[getsL]at q0 q1 b0 b1 b2;have N0:=Jw.lt;have Rd:=hdq hp;have Gl:=hdq (GN.trans hf);clear ht hp hf J6 F4 Jw;go_wp2_with fail;refine bodyPost_ret (v:=cVAr ⟨x.nm,n,x.at_⟩) (by simp[results,Tryz.results133,go_sem,cVAr,b0,b1,b2,N0]) rfl ?_;rw[MH.out];have G6:Fr (λb=>b=w.heap.size) w5 (((w5.setCell ⟨w.heap.size,0,none⟩ (.string x.nm)).setCell ⟨w.heap.size,1,none⟩ (.int .i64 n)).setCell ⟨w.heap.size,2,none⟩ (.int .i64 x.at_)):=Fr.own (Fr.own (Fr.own (Fr.refl _ _) _ _) _ _) _ _;refine⟨rfl,⟨kL.out,M1.out⟩,Rd.fr G6 (λe=>?_) (λe=>?_) (λi hi e=>?_),Fr.high (Fr.high (Fr.high Gl.out (lrq _) _ _) (lrq _) _ _) (lrq _) _ _⟩<;>have:=HL.out<;>omega
structure Loc where
 A:Option Addr
 c:Nat
 B:Option Addr
 q:Nat
 D:Option Addr
 e:Nat
 E:Option Addr
 f:Nat
def Loc.none_:Loc:=⟨none,0,none,0,none,0,none,0⟩
def stC (x:St)(p:Loc):List Value:= [.int .u8 x.k,.string x.nm,.slice p.A x.args.len p.c,.slice p.B x.cond.len p.q,.slice p.D x.body.len p.e,.slice p.E x.els.len p.f,.int .i64 x.at_]
structure StS (w:World)(S:Nat->Prop)(x:St)(p:Loc):Prop where
 k:in8 x.k
 at_:in64 x.at_
 args:SlR (ExR w S False x.args) x.args.len 64 p.A p.c
 cond:SlR (CdR w S False x.cond) x.cond.len 64 p.B p.q
 body:SlR (StR w S False x.body) x.body.len 128 p.D p.e
 els:SlR (StR w S False x.els) x.els.len 128 p.E p.f
theorem StS.imp {w w':World}{S S':Nat->Prop}{x:St}{p:Loc}(h:StS w S x p)(hf:SameS S w w')(hs:∀b,S b->S' b):StS w' S' x p:=
 ⟨h.k,h.at_,h.args.imp λ_ _ h=>ExR.more hs (ExR.keep hf h),h.cond.imp λ_ _ h=>CdR.more hs (CdR.keep hf h),h.body.imp λ_ _ h=>StR.more hs (StR.keep hf h),h.els.imp λ_ _ h=>StR.more hs (StR.keep hf h)⟩
theorem StS.zero {w:World}{S:Nat->Prop}{k a:Int}{nm:ByteArray}(hk:in8 k)(ha:in64 a):StS w S ⟨k,nm,.nil,.nil,.nil,.nil,a⟩ Loc.none_:=
 ⟨hk,ha,⟨lrq 0,sl0,λh=>absurd h (by exact Nat.lt_irrefl 0)⟩,⟨lrq 0,sl0,λh=>absurd h (by exact Nat.lt_irrefl 0)⟩,⟨lrq 0,⟨by decide,by exact Nat.zero_le _⟩,λh=>absurd h (by exact Nat.lt_irrefl 0)⟩,⟨lrq 0,⟨by decide,by exact Nat.zero_le _⟩,λh=>absurd h (by exact Nat.lt_irrefl 0)⟩⟩
def StAt (w:World)(sb L:Nat)(x:St):Prop:=∃p,Bk w sb 51 (stC x p).toArray /\StS w (λb=>L<=b/\b < w.heap.size/\b≠sb) x p
def MetP (C:Pcx)(sb L d:Nat)(r:PR St)(W:World)(e:Ending)(w':World):Prop:=
 match r with
 | .err c a=>e=zae c a/\Fr (PT C sb) W w'
 | .ok x l=>e= .returned (.tuple #[])/\StAt w' sb L x/\PaAt C w' l d/\Fr (PT C sb) W w'
theorem StAt.fr {C:Pcx}{w w':World}{sb L:Nat}{x:St}(h:StAt w sb L x)(hf:Fr C.T w w')(h1:sb≠C.P)(h2:C.P < L):StAt w' sb L x:=by
 obtain⟨p,hb,hs⟩:=h;exact⟨p,hb.fr hf h1,hs.imp (hf.same λb hb=>⟨hb.2.1,λe=>by have e:b=C.P:=e;have:=hb.1;omega⟩) λb hb=>⟨hb.1,by have:=hb.2.1;have:=hf.size;omega,hb.2.2⟩⟩
theorem zl1 (C:Pcx)(sb L:Nat)(x:St)(l:List Tk)(d:Nat)(w:World)(hk:C.Ok)(h:PaAt C w l d)(Gu:StAt w sb L x)(FL:sb≠C.P)(hL:C.P < L):
  Calls Tryz.prog 277 #[.pointer (some ⟨C.P,0,none⟩),.pointer (some ⟨sb,0,none⟩)] w (MetP C sb L d (endS x l) w):=by
 obtain⟨R,hR⟩:=nmq (endS x l);rw[<-hR];unfold endS at hR;have HR:=hdq hR;have HT:=hdq (zas C [59] l d w.heap.size _ hk (h.alloc (.cells #[.string ⟨#[59]⟩] 9)) (by decide) (by simp));have HA:=hdq (show Fr C.T w (w.alloc (.cells #[.string ⟨#[59]⟩] 9))from(Fr.refl _ _).alloc _);have Gi:=hdq Gu;clear hR h Gu;go_enter Tryz.func277,Tryz.ntmps277;go_wp2_with fail;refine HT.mono ?_;intro e w2 hE;rcases hE with⟨ht,rfl,hp,hf⟩|⟨ht,rfl,hf⟩;rotate_left
 ·go_wp2_with fail;exact⟨rfl,by rw[HR.out,ht];exact⟨rfl,PT.l (HA.trans hf)⟩⟩
 have GJ:=hdq ht;have M6:=hdq hp;have Hv:=hdq (HA.trans hf);clear ht hp hf;go_wp2_with fail;go_end0;rw[HR.out,GJ.out];exact⟨rfl,Gi.fr Hv.out FL hL,M6.out,PT.l Hv.out⟩
theorem StAt.name {C:Pcx}{w:World}{sb L:Nat}{x:St}(h:StAt w sb L x)(nm:ByteArray):StAt (w.setCell ⟨sb,1,none⟩ (.string nm)) sb L {x with nm:=nm}:=by
 obtain⟨p,hb,hs⟩:=h;refine⟨p,by simpa[stC]using hb.set_ 1 (.string nm),?_⟩;have hf:Fr (λb=>b=sb) w (w.setCell ⟨sb,1,none⟩ (.string nm)):=Fr.own (Fr.refl _ _) _ _;have:=hs.imp (S':=λb=>L<=b/\b < (w.setCell ⟨sb,1,none⟩ (.string nm)).heap.size /\b≠sb) (hf.same λb hb=>⟨hb.2.1,hb.2.2⟩) λb hb=>⟨hb.1,by simpa using hb.2.1,hb.2.2⟩;exact⟨this.k,this.at_,this.args,this.cond,this.body,this.els⟩
theorem zki (C:Pcx)(sb L:Nat)(x:St)(l:List Tk)(d:Nat)(w:World)(hk:C.Ok)(h:PaAt C w l d)(Gu:StAt w sb L x)(FL:sb≠C.P)(hL:C.P < L)(hT:sb≠C.TB)(h0:C.W0.heap.size<=sb):
  Calls Tryz.prog 278 #[.pointer (some ⟨C.P,0,none⟩),.pointer (some ⟨sb,0,none⟩)] w (MetP C sb L d ((zaX l).then λv r=>endS {x with nm:=v.nm} r) w):=by
 obtain⟨R,hR⟩:=nmq ((zaX l).then λv r=>endS {x with nm:=v.nm} r);rw[<-hR];have HR:=hdq hR;have HK:=hdq hk;have HN:=hdq (zbs C l d w hk h);have Gi:=hdq Gu;clear hR h Gu hk;go_enter Tryz.func278,Tryz.ntmps278;go_wp2_with fail;refine HN.mono ?_;intro e w2 hE;rcases hE.ways with⟨v,r,hx,rfl,Fh,hp,hf⟩|⟨c,a,hx,rfl,hf⟩;rotate_left
 ·go_wp2_with fail;exact⟨rfl,by rw[HR.out,hx];exact⟨rfl,PT.l hf⟩⟩
 have MI:=Gi.fr hf FL hL;obtain⟨p,hb,hs⟩:=MI;have b1:=hb.cell 1;have g1:=hb.frozen 1;simp only[stC,List.getElem?_toArray,List.getElem?_cons_succ,List.getElem?_cons_zero]at b1;obtain⟨w3,GL⟩:=nmq (w2.setCell ⟨sb,1,none⟩ (.string v.nm));have Ga:Fr (λb=>b=sb) w2 w3:=by rw[GL];exact Fr.own (Fr.refl _ _) _ _
 have Kd:StAt w3 sb L {x with nm:=v.nm}:=by rw[GL];exact StAt.name (C:=C) ⟨p,hb,hs⟩ _
 have Qf:PaAt C w3 r d:=hp.fr Ga (λe=>FL (by have e:C.P=sb:=e;exact e.symm)) (λe=>hT (by have e:C.TB=sb:=e;exact e.symm)) (λi hi e=>by have e:i=sb:=e;omega);have hz:w3.heap.size=w2.heap.size:=by rw[GL];simp
 have ht:=zas C [59] r d w3.heap.size _ HK.out (Qf.alloc (.cells #[.string ⟨#[59]⟩] 9)) (by decide) (by simp);rw[hz]at ht;have HX:=hdq hx;have L0:=hdq GL;have Ge:=hdq ((PT.l hf (rb:=sb)).trans ((Ga.mono λi _ h=>Or.inr h).alloc (.cells #[.string ⟨#[59]⟩] 9)));have K1:=hdq Kd;have KT:Fr C.T w3 (w3.alloc (.cells #[.string ⟨#[59]⟩] 9)):=(Fr.refl _ _).alloc _;have Vy:=hdq KT;rw[GL]at ht;have HT:=hdq ht;clear hx Fh hp hf hb hs GL Ga Kd Qf hz ht KT;go_wp2_with fail;refine HT.mono ?_;intro e w4 hE;rw[<-L0.out]at hE;have GA:=HR.out;rw[HX.out]at GA;replace GA:R=endS {x with nm:=v.nm} r:=GA;have GB:=hdq GA;clear GA;rcases hE with⟨ht,rfl,hp,hf⟩|⟨ht,rfl,hf⟩;rotate_left
 ·go_wp2_with fail;exact⟨rfl,by rw[GB.out,endS,ht];exact⟨rfl,Ge.trans (PT.l hf)⟩⟩
 have GJ:=hdq ht;have M6:=hdq hp;have Hv:=hdq hf;clear ht hp hf;go_wp2_with fail;go_end0;rw[GB.out,endS,GJ.out];exact⟨rfl,K1.fr (Vy.trans Hv.out) FL hL,M6.out,Ge.trans (PT.l Hv.out)⟩
theorem StAt.ask {w:World}{sb L L':Nat}{x:St}(h:StAt w sb L x){xs:Cds}{B:Option Addr}{q:Nat}(hv:SlR (CdR w (New L' w) False xs) xs.len 64 B q)(hl:L<=L')(FL:sb < L'):StAt (w.setCell ⟨sb,3,none⟩ (.slice B xs.len q)) sb L {x with cond:=xs}:=by
 obtain⟨p,hb,hs⟩:=h;refine⟨{p with B:=B,q:=q},by simpa[stC]using hb.set_ 3 (.slice B xs.len q),?_⟩;have hf:Fr (λb=>b=sb) w (w.setCell ⟨sb,3,none⟩ (.slice B xs.len q)):=Fr.own (Fr.refl _ _) _ _;have:=hs.imp (S':=λb=>L<=b/\b < (w.setCell ⟨sb,3,none⟩ (.slice B xs.len q)).heap.size /\b≠sb) (hf.same λb hb=>⟨hb.2.1,hb.2.2⟩) λb hb=>⟨hb.1,by simpa using hb.2.1,hb.2.2⟩;refine⟨this.k,this.at_,this.args,hv.imp λ_ _ h=>CdR.more (λb hb=>?_) (CdR.keep (hf.same λb hb=>⟨hb.2,λe=>?_⟩) h),this.body,this.els⟩
 ·have h1:=hb.1;have h2:=hb.2;exact⟨by omega,by simpa using h2,by omega⟩
 ·have e:b=sb:=e;have h1:=hb.1;omega
theorem zkj (C:Pcx)(n:Nat)(sb L:Nat)(x:St)(l:List Tk)(d:Nat)(w:World)(Gd:d+n=24)(hk:C.Ok)(h:PaAt C w l d)(Gu:StAt w sb L x)(FL:sb≠C.P)(hL:C.P < L)(hT:sb≠C.TB)(h0:C.W0.heap.size<=sb)(N1:L<=w.heap.size):
  Calls Tryz.prog 279 #[.pointer (some ⟨C.P,0,none⟩),.pointer (some ⟨sb,0,none⟩)] w (MetP C sb L d ((askP n l).then λv r=>endS {x with cond:=v} r) w):=by
 obtain⟨R,hR⟩:=nmq ((askP n l).then λv r=>endS {x with cond:=v} r);rw[<-hR];have HR:=hdq hR;have HK:=hdq hk;have HN:=hdq (zef C n l d w Gd hk h);have Gi:=hdq Gu;clear hR h Gu hk;go_enter Tryz.func279,Tryz.ntmps279;go_wp2_with fail;refine HN.mono ?_;intro e w2 hE;have gw:L<=w.heap.size/\sb < w.heap.size:=by
  obtain⟨p,hb,hs⟩:=Gi.out;exact⟨N1,hb.lt⟩
 unfold EndV at hE;cases hx:askP n l with
 |err c a=>
  rw[hx]at hE;obtain⟨rfl,hf⟩:=hE;unfold zae;go_wp2_with fail;exact⟨rfl,by rw[HR.out,hx];exact⟨rfl,PT.l hf⟩⟩
 |ok xs r=>
 rw[hx]at hE;obtain⟨_,rfl,⟨B,q,rfl,Fh⟩,hp,hf⟩:=hE;have MI:=Gi.fr hf FL hL;obtain⟨p,hb,hs⟩:=MI;have b1:=hb.cell 3;have g1:=hb.frozen 3;simp only[stC,List.getElem?_toArray,List.getElem?_cons_succ,List.getElem?_cons_zero]at b1;obtain⟨w3,GL⟩:=nmq (w2.setCell ⟨sb,3,none⟩ (.slice B xs.len q));have Ga:Fr (λb=>b=sb) w2 w3:=by rw[GL];exact Fr.own (Fr.refl _ _) _ _
 have Kd:StAt w3 sb L {x with cond:=xs}:=by rw[GL];exact StAt.ask ⟨p,hb,hs⟩ Fh gw.1 gw.2
 have Qf:PaAt C w3 r d:=hp.fr Ga (λe=>FL (by have e:C.P=sb:=e;exact e.symm)) (λe=>hT (by have e:C.TB=sb:=e;exact e.symm)) (λi hi e=>by have e:i=sb:=e;omega);have hz:w3.heap.size=w2.heap.size:=by rw[GL];simp
 have ht:=zas C [59] r d w3.heap.size _ HK.out (Qf.alloc (.cells #[.string ⟨#[59]⟩] 9)) (by decide) (by simp);rw[hz]at ht;have HX:=hdq hx;have L0:=hdq GL;have Ge:=hdq ((PT.l hf (rb:=sb)).trans ((Ga.mono λi _ h=>Or.inr h).alloc (.cells #[.string ⟨#[59]⟩] 9)));have K1:=hdq Kd;have KT:Fr C.T w3 (w3.alloc (.cells #[.string ⟨#[59]⟩] 9)):=(Fr.refl _ _).alloc _;have Vy:=hdq KT;rw[GL]at ht;have HT:=hdq ht;clear hx Fh hp hf hb hs GL Ga Kd Qf hz ht KT;go_wp2_with fail;refine HT.mono ?_;intro e w4 hE;rw[<-L0.out]at hE;have GA:=HR.out;rw[HX.out]at GA;replace GA:R=endS {x with cond:=xs} r:=GA;have GB:=hdq GA;clear GA;rcases hE with⟨ht,rfl,hp,hf⟩|⟨ht,rfl,hf⟩;rotate_left
 ·go_wp2_with fail;exact⟨rfl,by rw[GB.out,endS,ht];exact⟨rfl,Ge.trans (PT.l hf)⟩⟩
 have GJ:=hdq ht;have M6:=hdq hp;have Hv:=hdq hf;clear ht hp hf;go_wp2_with fail;go_end0;rw[GB.out,endS,GJ.out];exact⟨rfl,K1.fr (Vy.trans Hv.out) FL hL,M6.out,Ge.trans (PT.l Hv.out)⟩
def StlV (w:World)(L:Nat)(v:Value)(xs:List St):Prop:=∃A c,v= .slice A (zam xs).len c/\SlR (StR w (New L w) False (zam xs)) (zam xs).len 128 A c
def BlkC (C:Pcx)(n:Nat):Prop:=∀(l:List Tk)(d:Nat)(w:World),d+n=24->PaAt C w l d->Calls Tryz.prog 136 #[.pointer (some ⟨C.P,0,none⟩)] w (EndV C d StlV (zag n l) w)
theorem StlV.fr {w w':World}{L:Nat}{T:Nat->Prop}{v:Value}{xs:List St}(h:StlV w L v xs)(hf:Fr T w w')(ht:∀b,L<=b->b < w.heap.size->¬T b):StlV w' L v xs:=by
 obtain⟨A,c,e,hs⟩:=h;exact⟨A,c,e,hs.imp λ_ _ hx=>StR.more (λb hb=>⟨hb.1,ltq hb.2 hf.size⟩) (StR.keep (hf.same λb hb=>⟨hb.2,ht b hb.1 hb.2⟩) hx)⟩
theorem StAt.body {w:World}{sb L L':Nat}{x:St}(h:StAt w sb L x){xs:Sts}{B:Option Addr}{q:Nat}(hv:SlR (StR w (New L' w) False xs) xs.len 128 B q)(hl:L<=L')(FL:sb < L'):StAt (w.setCell ⟨sb,4,none⟩ (.slice B xs.len q)) sb L {x with body:=xs}:=by
 obtain⟨p,hb,hs⟩:=h;refine⟨{p with D:=B,e:=q},by simpa[stC]using hb.set_ 4 (.slice B xs.len q),?_⟩;have hf:Fr (λb=>b=sb) w (w.setCell ⟨sb,4,none⟩ (.slice B xs.len q)):=Fr.own (Fr.refl _ _) _ _;have:=hs.imp (S':=λb=>L<=b/\b < (w.setCell ⟨sb,4,none⟩ (.slice B xs.len q)).heap.size /\b≠sb) (hf.same λb hb=>⟨hb.2.1,hb.2.2⟩) λb hb=>⟨hb.1,by simpa using hb.2.1,hb.2.2⟩;refine⟨this.k,this.at_,this.args,this.cond,hv.imp λ_ _ h=>StR.more (λb hb=>?_) (StR.keep (hf.same λb hb=>⟨hb.2,λe=>?_⟩) h),this.els⟩
 ·have h1:=hb.1;have h2:=hb.2;exact⟨by omega,by simpa using h2,by omega⟩
 ·have e:b=sb:=e;have h1:=hb.1;omega
theorem StAt.els {w:World}{sb L L':Nat}{x:St}(h:StAt w sb L x){xs:Sts}{B:Option Addr}{q:Nat}(hv:SlR (StR w (New L' w) False xs) xs.len 128 B q)(hl:L<=L')(FL:sb < L'):StAt (w.setCell ⟨sb,5,none⟩ (.slice B xs.len q)) sb L {x with els:=xs}:=by
 obtain⟨p,hb,hs⟩:=h;refine⟨{p with E:=B,f:=q},by simpa[stC]using hb.set_ 5 (.slice B xs.len q),?_⟩;have hf:Fr (λb=>b=sb) w (w.setCell ⟨sb,5,none⟩ (.slice B xs.len q)):=Fr.own (Fr.refl _ _) _ _;have:=hs.imp (S':=λb=>L<=b/\b < (w.setCell ⟨sb,5,none⟩ (.slice B xs.len q)).heap.size /\b≠sb) (hf.same λb hb=>⟨hb.2.1,hb.2.2⟩) λb hb=>⟨hb.1,by simpa using hb.2.1,hb.2.2⟩;refine⟨this.k,this.at_,this.args,this.cond,this.body,hv.imp λ_ _ h=>StR.more (λb hb=>?_) (StR.keep (hf.same λb hb=>⟨hb.2,λe=>?_⟩) h)⟩
 ·have h1:=hb.1;have h2:=hb.2;exact⟨by omega,by simpa using h2,by omega⟩
 ·have e:b=sb:=e;have h1:=hb.1;omega
theorem StAt.args {w:World}{sb L L':Nat}{x:St}(h:StAt w sb L x){xs:Exs}{B:Option Addr}{q:Nat}(hv:SlR (ExR w (New L' w) False xs) xs.len 64 B q)(hl:L<=L')(FL:sb < L'):StAt (w.setCell ⟨sb,2,none⟩ (.slice B xs.len q)) sb L {x with args:=xs}:=by
 obtain⟨p,hb,hs⟩:=h;refine⟨{p with A:=B,c:=q},by simpa[stC]using hb.set_ 2 (.slice B xs.len q),?_⟩;have hf:Fr (λb=>b=sb) w (w.setCell ⟨sb,2,none⟩ (.slice B xs.len q)):=Fr.own (Fr.refl _ _) _ _;have:=hs.imp (S':=λb=>L<=b/\b < (w.setCell ⟨sb,2,none⟩ (.slice B xs.len q)).heap.size /\b≠sb) (hf.same λb hb=>⟨hb.2.1,hb.2.2⟩) λb hb=>⟨hb.1,by simpa using hb.2.1,hb.2.2⟩;refine⟨this.k,this.at_,hv.imp λ_ _ h=>ExR.more (λb hb=>?_) (ExR.keep (hf.same λb hb=>⟨hb.2,λe=>?_⟩) h),this.cond,this.body,this.els⟩
 ·have h1:=hb.1;have h2:=hb.2;exact⟨by omega,by simpa using h2,by omega⟩
 ·have e:b=sb:=e;have h1:=hb.1;omega
theorem zl2 (C:Pcx)(n:Nat)(Gm:BlkC C n)(sb L:Nat)(x:St)(l:List Tk)(d:Nat)(w:World)(Gd:d+n=24)(hk:C.Ok)(h:PaAt C w l d)(Gu:StAt w sb L x)(FL:sb≠C.P)(hL:C.P < L)(hT:sb≠C.TB)(h0:C.W0.heap.size<=sb)(N1:L<=w.heap.size):
  Calls Tryz.prog 281 #[.pointer (some ⟨C.P,0,none⟩),.pointer (some ⟨sb,0,none⟩)] w (MetP C sb L d ((askP n l).then λc r=>(zag n r).then λb r=> .ok {x with cond:=c,body:=zam b} r) w):=by
 obtain⟨R,hR⟩:=nmq ((askP n l).then λc r=>(zag n r).then λb r=>PR.ok {x with cond:=c,body:=zam b} r);rw[<-hR];have HR:=hdq hR;have HN:=hdq (zef C n l d w Gd hk h);have Gi:=hdq Gu;have HL:=hdq h.lts;have Fu:sb < w.heap.size:=by
  obtain⟨p,hb,hs⟩:=Gu;exact hb.lt
 have J2:=hdq Gm;clear hR h Gu hk Gm;go_enter Tryz.func281,Tryz.ntmps281;go_wp2_with fail;refine HN.mono ?_;intro e w2 hE;unfold EndV at hE;cases hx:askP n l with
 |err c a=>
  rw[hx]at hE;obtain⟨rfl,hf⟩:=hE;unfold zae;go_wp2_with fail;exact⟨rfl,by rw[HR.out,hx];exact⟨rfl,PT.l hf⟩⟩
 |ok xs r=>
 rw[hx]at hE;obtain⟨_,rfl,⟨B,q,rfl,Fh⟩,hp,hf⟩:=hE;have GA:=HR.out;rw[hx]at GA;replace GA:R=(zag n r).then λb r=>PR.ok {x with cond:=xs,body:=zam b} r:=GA;have GB:=hdq GA;have HB:=hdq (J2 r d w2 Gd hp);have LF:=hdq (Gi.fr hf FL hL);have M1:=hdq Fh;have HF:=hdq hf;have GR:w.heap.size<=w2.heap.size:=hf.size;clear hx Fh hp hf GA;go_wp2_with fail;refine HB.mono ?_;intro e w3 hE;unfold EndV at hE;cases hx:zag n r with
 |err c a=>
  rw[hx]at hE;obtain⟨rfl,hf⟩:=hE;unfold zae;go_wp2_with fail;exact⟨rfl,by rw[GB.out,hx];exact⟨rfl,PT.l (HF.trans hf)⟩⟩
 |ok b r2=>
 rw[hx]at hE;obtain⟨_,rfl,⟨D,m,rfl,Fh⟩,hp,hf⟩:=hE;have Kd:=LF.fr hf FL hL;have Vz:SlR (CdR w3 (New w.heap.size w3) False xs) xs.len 64 B q:=M1.imp λ_ _ h=>CdR.more (λb hb=>⟨hb.1,ltq hb.2 hf.size⟩) (CdR.keep (hf.same λb hb=>⟨hb.2,λe=>by have e:b=C.P:=e;have:=hb.1;have:=HL.1;omega⟩) h);have Md:=hf.size;have Qg:=StAt.ask Kd Vz N1 Fu;have MJ:=StAt.body Qg (L':=w2.heap.size) (xs:=zam b) (B:=D) (q:=m) (Fh.imp λ_ _ h=>StR.more (λb hb=>⟨hb.1,by simpa using hb.2⟩) (StR.keep ((Fr.own (g:=sb) (Fr.refl _ _) _ _).same λb hb=>⟨hb.2,λe=>by have e:b=sb:=e;have:=hb.1;omega⟩) h)) (by omega) (by omega);obtain⟨p,hb,hs⟩:=Kd;have b3:=hb.cell 3;have g3:=hb.frozen 3;have b4:=hb.cell 4;have g4:=hb.frozen 4;simp only[stC,List.getElem?_toArray,List.getElem?_cons_succ,List.getElem?_cons_zero]at b3 b4;have HX:=hdq hx;have HP:=hdq hp;have Ge:=hdq (HF.trans hf);have H5:=hdq MJ;clear hx Fh hp hf hb hs Qg MJ Vz;go_wp2_with fail;go_end0;rw[GB.out,HX.out];have G6:Fr (λb=>b=sb) w3 ((w3.setCell ⟨sb,3,none⟩ (.slice B xs.len q)).setCell ⟨sb,4,none⟩ (.slice D (zam b).len m)):=Fr.own (Fr.own (Fr.refl _ _) _ _) _ _;exact⟨rfl,H5.out,HP.fr G6 (λe=>FL (by have e:C.P=sb:=e;exact e.symm)) (λe=>hT (by have e:C.TB=sb:=e;exact e.symm)) (λi hi e=>by have e:i=sb:=e;omega),(PT.l Ge.out).trans (G6.mono λi _ h=>Or.inr h)⟩
theorem ziG (C:Pcx)(n:Nat)(Gm:BlkC C n)(sb L:Nat)(x:St)(l:List Tk)(d:Nat)(w:World)(Gd:d+n=24)(hk:C.Ok)(h:PaAt C w l d)(Gu:StAt w sb L x)(FL:sb≠C.P)(hL:C.P < L)(hT:sb≠C.TB)(h0:C.W0.heap.size<=sb)(N1:L<=w.heap.size):
  Calls Tryz.prog 280 #[.pointer (some ⟨C.P,0,none⟩),.pointer (some ⟨sb,0,none⟩)] w (MetP C sb L d ((askP n l).then λc r=>(zag n r).then λb r=>if mayB [101,108,115,101] r then(zag n r.tail).then λe r=> .ok {x with cond:=c,body:=zam b,els:=zam e} r else .ok {x with cond:=c,body:=zam b} r) w):=by
 obtain⟨R,hR⟩:=nmq ((askP n l).then λc r=>(zag n r).then λb r=>if mayB [101,108,115,101] r then(zag n r.tail).then λe r=>PR.ok {x with cond:=c,body:=zam b,els:=zam e} r else PR.ok {x with cond:=c,body:=zam b} r);rw[<-hR];have HR:=hdq hR;have HN:=hdq (zef C n l d w Gd hk h);have Gi:=hdq Gu;have HL:=hdq h.lts;have Fu:sb < w.heap.size:=by
  obtain⟨p,hb,hs⟩:=Gu;exact hb.lt
 have J2:=hdq Gm;have HK:=hdq hk;clear hR h Gu hk Gm;go_enter Tryz.func280,Tryz.ntmps280;go_wp2_with fail;refine HN.mono ?_;intro e w2 hE;unfold EndV at hE;cases hx:askP n l with
 |err c a=>
  rw[hx]at hE;obtain⟨rfl,hf⟩:=hE;unfold zae;go_wp2_with fail;exact⟨rfl,by rw[HR.out,hx];exact⟨rfl,PT.l hf⟩⟩
 |ok xs r=>
 rw[hx]at hE;obtain⟨_,rfl,⟨B,q,rfl,Fh⟩,hp,hf⟩:=hE;have GA:=HR.out;rw[hx]at GA;replace GA:R=(zag n r).then λb r=>if mayB [101,108,115,101] r then(zag n r.tail).then λe r=>PR.ok {x with cond:=xs,body:=zam b,els:=zam e} r else PR.ok {x with cond:=xs,body:=zam b} r:=GA
 have GB:=hdq GA;have HB:=hdq (J2 r d w2 Gd hp);have LF:=hdq (Gi.fr hf FL hL);have M1:=hdq Fh;have HF:=hdq hf;have GR:w.heap.size<=w2.heap.size:=hf.size;clear hx Fh hp hf GA;go_wp2_with fail;refine HB.mono ?_;intro e w3 hE;unfold EndV at hE;cases hx:zag n r with
 |err c a=>
  rw[hx]at hE;obtain⟨rfl,hf⟩:=hE;unfold zae;go_wp2_with fail;exact⟨rfl,by rw[GB.out,hx];exact⟨rfl,PT.l (HF.trans hf)⟩⟩
 |ok b r2=>
 rw[hx]at hE;obtain⟨_,rfl,⟨D,m,rfl,Fh⟩,hp,hf⟩:=hE;have Kd:=LF.fr hf FL hL;have Vz:SlR (CdR w3 (New w.heap.size w3) False xs) xs.len 64 B q:=M1.imp λ_ _ h=>CdR.more (λb hb=>⟨hb.1,ltq hb.2 hf.size⟩) (CdR.keep (hf.same λb hb=>⟨hb.2,λe=>by have e:b=C.P:=e;have:=hb.1;have:=HL.1;omega⟩) h);have Md:=hf.size;have Qg:=StAt.ask Kd Vz N1 Fu;have MJ:=StAt.body Qg (L':=w2.heap.size) (xs:=zam b) (B:=D) (q:=m) (Fh.imp λ_ _ h=>StR.more (λb hb=>⟨hb.1,by simpa using hb.2⟩) (StR.keep ((Fr.own (g:=sb) (Fr.refl _ _) _ _).same λb hb=>⟨hb.2,λe=>by have e:b=sb:=e;have:=hb.1;omega⟩) h)) (by omega) (by omega);obtain⟨p,hb,hs⟩:=Kd;have b3:=hb.cell 3;have g3:=hb.frozen 3;have b4:=hb.cell 4;have g4:=hb.frozen 4;simp only[stC,List.getElem?_toArray,List.getElem?_cons_succ,List.getElem?_cons_zero]at b3 b4;have GE:=GB.out;rw[hx]at GE;replace GE:R=if mayB [101,108,115,101] r2 then(zag n r2.tail).then λe r=>PR.ok {x with cond:=xs,body:=zam b,els:=zam e} r else PR.ok {x with cond:=xs,body:=zam b} r2:=GE
 have G8:=hdq GE;have G6:Fr (λb=>b=sb) w3 ((w3.setCell ⟨sb,3,none⟩ (.slice B xs.len q)).setCell ⟨sb,4,none⟩ (.slice D (zam b).len m)):=Fr.own (Fr.own (Fr.refl _ _) _ _) _ _;obtain⟨w5,FY⟩:=nmq ((w3.setCell ⟨sb,3,none⟩ (.slice B xs.len q)).setCell ⟨sb,4,none⟩ (.slice D (zam b).len m));rw[<-FY]at G6 MJ;have Rk:PaAt C w5 r2 d:=hp.fr G6 (λe=>FL (by have e:C.P=sb:=e;exact e.symm)) (λe=>hT (by have e:C.TB=sb:=e;exact e.symm)) (λi hi e=>by have e:i=sb:=e;omega);have YA:Fr (PT C sb) w w5:=(PT.l (HF.trans hf)).trans (G6.mono λi _ h=>Or.inr h);have HM:=hdq (za0 C [101,108,115,101] r2 d w5 HK.out Rk (by decide));have Gl:=hdq YA;have H5:=hdq MJ;have Xd:=hdq FY;have Rc:w.heap.size<=w5.heap.size:=YA.size;clear hx Fh hp hf hb hs Qg MJ Vz GE G6 FY Rk YA;go_wp2_with fail;rw[<-Xd.out];refine HM.mono ?_;rintro _ w6 ⟨rfl,N2,Gt⟩;have N8:=hdq (H5.fr Gt FL hL);have G1:=hdq (Gl.trans (PT.l Gt));cases hm:mayB [101,108,115,101] r2
 ·rw[hm]at N2;have kN:=hdq (show PaAt C w6 r2 d from N2);have JW:=G8.out;rw[hm]at JW;have KH:=hdq (show R=PR.ok {x with cond:=xs,body:=zam b} r2 from JW);clear JW N2 Gt hm;go_wp2_with fail;go_end0;rw[KH.out];exact⟨rfl,N8.out,kN.out,G1.out⟩
 ·rw[hm]at N2;have JW:=G8.out;rw[hm]at JW;have KH:=hdq (show R=(zag n r2.tail).then λe r=>PR.ok {x with cond:=xs,body:=zam b,els:=zam e} r from JW);have LC:=hdq (J2 r2.tail d w6 Gd N2);have Mn:w5.heap.size<=w6.heap.size:=Gt.size;clear JW N2 Gt hm;go_wp2_with fail;refine LC.mono ?_;intro e w7 hE;unfold EndV at hE;cases hx:zag n r2.tail with
  |err c a=>
   rw[hx]at hE;obtain⟨rfl,hf⟩:=hE;unfold zae;go_wp2_with fail;exact⟨rfl,by rw[KH.out,hx];exact⟨rfl,G1.trans (PT.l hf)⟩⟩
  |ok b2 r3=>
  rw[hx]at hE;obtain⟨_,rfl,⟨D2,m2,rfl,Fh⟩,hp,hf⟩:=hE;have Qh:=N8.fr hf FL hL;have H8:=hdq (StAt.els Qh Fh (by omega) (by omega));obtain⟨p,hb,hs⟩:=Qh;have b5:=hb.cell 5;have g5:=hb.frozen 5;simp only[stC,List.getElem?_toArray,List.getElem?_cons_succ,List.getElem?_cons_zero]at b5;have HX:=hdq hx;have HP:=hdq hp;have GV:=hdq (G1.trans (PT.l hf));clear hx Fh hp hf hb hs;go_wp2_with fail;go_end0;rw[KH.out,HX.out];have G6:Fr (λb=>b=sb) w7 (w7.setCell ⟨sb,5,none⟩ (.slice D2 (zam b2).len m2)):=Fr.own (Fr.refl _ _) _ _;exact⟨rfl,H8.out,HP.fr G6 (λe=>FL (by have e:C.P=sb:=e;exact e.symm)) (λe=>hT (by have e:C.TB=sb:=e;exact e.symm)) (λi hi e=>by have e:i=sb:=e;omega),GV.trans (G6.mono λi _ h=>Or.inr h)⟩
theorem zl3 (C:Pcx)(n:Nat)(sb L:Nat)(x:St)(l:List Tk)(d:Nat)(w:World)(Gd:d+n=24)(hk:C.Ok)(h:PaAt C w l d)(Gu:StAt w sb L x)(FL:sb≠C.P)(hL:C.P < L)(hT:sb≠C.TB)(h0:C.W0.heap.size<=sb)(N1:L<=w.heap.size):
  Calls Tryz.prog 282 #[.pointer (some ⟨C.P,0,none⟩),.pointer (some ⟨sb,0,none⟩)] w (MetP C sb L d ((zaX l).then λv r=>(zal [40] r).then λ_ r=>(zaR (zaL n) [41] true r).then λxs r=>endS {x with nm:=v.nm,args:=zbi xs} r) w):=by
 have Jt:= @makeF Tryz.prog;obtain⟨R,hR⟩:=nmq ((zaX l).then λv r=>(zal [40] r).then λ_ r=>(zaR (zaL n) [41] true r).then λxs r=>endS {x with nm:=v.nm,args:=zbi xs} r);rw[<-hR];have HR:=hdq hR;have HK:=hdq hk;have HN:=hdq (zbs C l d w hk h);have Gi:=hdq Gu;have Fu:sb < w.heap.size:=by
  obtain⟨p,hb,hs⟩:=Gu;exact hb.lt
 clear hR h Gu hk;go_enter Tryz.func282,Tryz.ntmps282;go_wp2_with fail;refine HN.mono ?_;intro e w2 hE;rcases hE.ways with⟨v,r,hx,rfl,Fh,hp,hf⟩|⟨c,a,hx,rfl,hf⟩;rotate_left
 ·go_wp2_with fail;exact⟨rfl,by rw[HR.out,hx];exact⟨rfl,PT.l hf⟩⟩
 have MI:=Gi.fr hf FL hL;have GR:w.heap.size<=w2.heap.size:=hf.size;obtain⟨p,hb,hs⟩:=MI;have b1:=hb.cell 1;have g1:=hb.frozen 1;simp only[stC,List.getElem?_toArray,List.getElem?_cons_succ,List.getElem?_cons_zero]at b1;obtain⟨w3,GL⟩:=nmq (w2.setCell ⟨sb,1,none⟩ (.string v.nm));have Ga:Fr (λb=>b=sb) w2 w3:=by rw[GL];exact Fr.own (Fr.refl _ _) _ _
 have Kd:StAt w3 sb L {x with nm:=v.nm}:=by rw[GL];exact StAt.name (C:=C) ⟨p,hb,hs⟩ _
 have Qf:PaAt C w3 r d:=hp.fr Ga (λe=>FL (by have e:C.P=sb:=e;exact e.symm)) (λe=>hT (by have e:C.TB=sb:=e;exact e.symm)) (λi hi e=>by have e:i=sb:=e;omega);have hz:w3.heap.size=w2.heap.size:=by rw[GL];simp
 have ht:=zas C [40] r d w3.heap.size _ HK.out (Qf.alloc (.cells #[.string ⟨#[40]⟩] 9)) (by decide) (by simp);rw[hz]at ht;have HX:=hdq hx;have L0:=hdq GL;have KT:Fr C.T w3 (w3.alloc (.cells #[.string ⟨#[40]⟩] 9)):=(Fr.refl _ _).alloc _;have Ge:=hdq ((PT.l hf (rb:=sb)).trans ((Ga.mono λi _ h=>Or.inr h).alloc (.cells #[.string ⟨#[40]⟩] 9)));have K1:=hdq (Kd.fr KT FL hL);rw[GL]at ht;have HT:=hdq ht;clear hx Fh hp hf hb hs GL Ga Kd Qf hz ht KT;go_wp2_with fail;refine HT.mono ?_;intro e w4 hE;rw[<-L0.out]at hE;have GA:=HR.out;rw[HX.out]at GA;replace GA:R=(zal [40] r).then λ_ r=>(zaR (zaL n) [41] true r).then λxs r=>endS {x with nm:=v.nm,args:=zbi xs} r:=GA;have Mk:=hdq GA;clear GA;rcases hE with⟨ht,rfl,hp,hf⟩|⟨ht,rfl,hf⟩;rotate_left
 ·go_wp2_with fail;exact⟨rfl,by rw[Mk.out,ht];exact⟨rfl,Ge.trans (PT.l hf)⟩⟩
 have GA:=Mk.out;rw[ht]at GA;replace GA:R=(zaR (zaL n) [41] true r.tail).then λxs r=>endS {x with nm:=v.nm,args:=zbi xs} r:=GA;have GB:=hdq GA;have GN:=hdq (Ge.trans (PT.l hf));have YB:=hdq (K1.fr hf FL hL);have QU:w.heap.size<=w4.heap.size:=GN.size;have Fe:=zke C (zaL n) [41] true 247 #[.pointer (some ⟨C.P,0,none⟩)] #[] r.tail d w4 HK.out hp (zdT n) (by decide) (enters_of Tryz.func247 (by kernel_rfl) rfl) λW _ l' Lx=>by
  simpa using zbY C n l' d W Gd HK.out Lx
 have ME:=hdq Fe;clear GA ht hp hf Fe;go_wp2_with fail;refine ME.mono ?_;intro e w5 hE;unfold EndV at hE;cases hx:zaR (zaL n) [41] true r.tail with
 |err c a=>
  rw[hx]at hE;obtain⟨rfl,hf⟩:=hE;unfold zae;go_wp2_with fail;exact⟨rfl,by rw[GB.out,hx];exact⟨rfl,GN.trans (PT.l hf)⟩⟩
 |ok xs r2=>
 rw[hx]at hE;obtain⟨_,rfl,⟨B,q,rfl,Fh⟩,hp,hf⟩:=hE;have GE:=GB.out;rw[hx]at GE;replace GE:R=endS {x with nm:=v.nm,args:=zbi xs} r2:=GE;have G8:=hdq GE;have MJ:=YB.fr hf FL hL;obtain⟨p5,hb,hs⟩:=MJ;have b2:=hb.cell 2;have g2:=hb.frozen 2;simp only[stC,List.getElem?_toArray,List.getElem?_cons_succ,List.getElem?_cons_zero]at b2;obtain⟨w6,Fx⟩:=nmq (w5.setCell ⟨sb,2,none⟩ (.slice B (zbi xs).len q));have Gt:Fr (λb=>b=sb) w5 w6:=by rw[Fx];exact Fr.own (Fr.refl _ _) _ _
 have VA:StAt w6 sb L {x with nm:=v.nm,args:=zbi xs}:=by rw[Fx];exact StAt.args ⟨p5,hb,hs⟩ Fh (by omega) (by omega)
 have N2:PaAt C w6 r2 d:=hp.fr Gt (λe=>FL (by have e:C.P=sb:=e;exact e.symm)) (λe=>hT (by have e:C.TB=sb:=e;exact e.symm)) (λi hi e=>by have e:i=sb:=e;omega);have hz:w6.heap.size=w5.heap.size:=by rw[Fx];simp
 have ht:=zas C [59] r2 d w6.heap.size _ HK.out (N2.alloc (.cells #[.string ⟨#[59]⟩] 9)) (by decide) (by simp);rw[hz]at ht;have Q4:=hdq Fx;have KT:Fr C.T w6 (w6.alloc (.cells #[.string ⟨#[59]⟩] 9)):=(Fr.refl _ _).alloc _;have G1:=hdq (((GN.trans (PT.l hf)).trans (Gt.mono λi _ h=>Or.inr h)).alloc (.cells #[.string ⟨#[59]⟩] 9));have N8:=hdq (VA.fr KT FL hL);rw[Fx]at ht;have YC:=hdq ht;clear hx Fh hp hf hb hs Fx Gt VA N2 hz ht KT GE;go_wp2_with fail;refine YC.mono ?_;intro e w7 hE;rw[<-Q4.out]at hE;rcases hE with⟨ht,rfl,hp,hf⟩|⟨ht,rfl,hf⟩;rotate_left
 ·go_wp2_with fail;exact⟨rfl,by rw[G8.out,endS,ht];exact⟨rfl,G1.trans (PT.l hf)⟩⟩
 have kO:=hdq ht;have KQ:=hdq hp;have GV:=hdq hf;clear ht hp hf;go_wp2_with fail;go_end0;rw[G8.out,endS,kO.out];exact⟨rfl,N8.fr GV.out FL hL,KQ.out,G1.trans (PT.l GV.out)⟩
def kwF (k:Int):Nat:=if k=1 then 277 else if k=4 then 278 else if k=5\/k=6 then 279 else if k=7 then 280 else if k=8 then 281 else 282
theorem ze0 (t:List UInt8):keyK t=0\/keyK t=1\/keyK t=4\/keyK t=5\/keyK t=6\/keyK t=7\/keyK t=8\/keyK t=9:=by
 unfold keyK
 repeat' split
 all_goals simp
theorem StAt.kind {w:World}{sb L:Nat}{x:St}(h:StAt w sb L x){k:Int}(hk:in8 k):StAt (w.setCell ⟨sb,0,none⟩ (.int .u8 k)) sb L {x with k:=k}:=by
 obtain⟨p,hb,hs⟩:=h;refine⟨p,by simpa[stC]using hb.set_ 0 (.int .u8 k),?_⟩;have hf:Fr (λb=>b=sb) w (w.setCell ⟨sb,0,none⟩ (.int .u8 k)):=Fr.own (Fr.refl _ _) _ _;have:=hs.imp (S':=λb=>L<=b/\b < (w.setCell ⟨sb,0,none⟩ (.int .u8 k)).heap.size /\b≠sb) (hf.same λb hb=>⟨hb.2.1,hb.2.2⟩) λb hb=>⟨hb.1,by simpa using hb.2.1,hb.2.2⟩;exact⟨hk,this.at_,this.args,this.cond,this.body,this.els⟩
theorem StAt.new {w:World}{sb L:Nat}{k a:Int}(hk:in8 k)(ha:in64 a)(hb:Bk w sb 51 #[.int .u8 k,.string ⟨#[]⟩,.slice none 0 0,.slice none 0 0,.slice none 0 0,.slice none 0 0,.int .i64 a]):StAt w sb L ⟨k,noB,.nil,.nil,.nil,.nil,a⟩:=
 ⟨Loc.none_,hb,StS.zero hk ha⟩
theorem zkk (k:Int):Enters Tryz.prog (kwF k):=by
 unfold kwF;split
 ·exact enters_of Tryz.func277 (by kernel_rfl) rfl
 split
 ·exact enters_of Tryz.func278 (by kernel_rfl) rfl
 split
 ·exact enters_of Tryz.func279 (by kernel_rfl) rfl
 split
 ·exact enters_of Tryz.func280 (by kernel_rfl) rfl
 split
 ·exact enters_of Tryz.func281 (by kernel_rfl) rfl
 ·exact enters_of Tryz.func282 (by kernel_rfl) rfl
theorem zl4 (C:Pcx)(n:Nat)(Gm:BlkC C n)(sb L:Nat)(l:List Tk)(d:Nat)(w:World)(k a:Int)(Kz:k=keyK (hdT l).text)(Gz:k≠0)(ha:a=((hdT l).at_ :Int))(Gd:d+n=24)(hk:C.Ok)(h:PaAt C w l.tail d)(Gu:StAt w sb L ⟨k,noB,.nil,.nil,.nil,.nil,a⟩)(FL:sb≠C.P)(hL:C.P < L)(hT:sb≠C.TB)(h0:C.W0.heap.size<=sb)(N1:L<=w.heap.size):
  Calls Tryz.prog (kwF k) #[.pointer (some ⟨C.P,0,none⟩),.pointer (some ⟨sb,0,none⟩)] w (MetP C sb L d (zaz (zag n) n l) w):=by
 subst Kz;subst ha;have hc:=ze0 (hdT l).text;unfold zaz;obtain⟨k,Kz⟩:=nmq (keyK (hdT l).text );simp only[<-Kz]at hc Gz Gu ⊢;clear Kz;rcases hc with rfl|rfl|rfl|rfl|rfl|rfl|rfl|rfl
 ·exact absurd rfl Gz
 ·exact zl1 C sb L _ _ d w hk h Gu FL hL
 ·exact zki C sb L _ _ d w hk h Gu FL hL hT h0
 ·exact zkj C n sb L _ _ d w Gd hk h Gu FL hL hT h0 N1
 ·exact zkj C n sb L _ _ d w Gd hk h Gu FL hL hT h0 N1
 ·exact ziG C n Gm sb L _ _ d w Gd hk h Gu FL hL hT h0 N1
 ·exact zl2 C n Gm sb L _ _ d w Gd hk h Gu FL hL hT h0 N1
 ·exact zl3 C n sb L _ _ d w Gd hk h Gu FL hL hT h0 N1
