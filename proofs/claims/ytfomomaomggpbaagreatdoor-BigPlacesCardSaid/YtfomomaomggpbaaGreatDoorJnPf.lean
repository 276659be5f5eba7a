/- parse. -/
import Derived.Test.YtfomomaomggpbaaGreatDoorJnLoc
set_option linter.all false
set_option maxHeartbeats 1600000
set_option maxRecDepth 100000
namespace Go.Proofs.YtfomomaomggpbaaGreatDoor
open Go.RowKit Go.Shelf
theorem zbs (C:Pcx)(l:List Tk)(d:Nat)(w:World)(hk:C.Ok)(h:PaAt C w l d):Calls Tryz.prog 131 #[.pointer (some ⟨C.P,0,none⟩)] w (cPVa C d (zaZ l) w):=by
 cases hn:zaL l
 ·refine(zoy C l d w hk h hn).mono λe w' hE=>?_;have e1:zaZ l= .err 90 (hdT l).at_ :=by unfold zaZ;rw[hn];rfl
  rw[e1];exact hE
 ·refine(zh1 C l d w hk h hn).mono λe w' hE=>?_;have e1:zaZ l= .ok ⟨txt (hdT l),(hdT l).at_⟩ l.tail:=by unfold zaZ;rw[hn];rfl
  rw[e1];exact⟨hE.1,zbf hk h,hE.2.1,hE.2.2⟩
theorem zkt (C:Pcx)(l:List Tk)(d:Nat)(w:World)(hk:C.Ok)(h:PaAt C w l d):
  Calls Tryz.prog 133 #[.pointer (some ⟨C.P,0,none⟩)] w (cPAr C d (zen l) w):=by
 obtain⟨R,hR⟩:=aF (zen l);rw[<-hR];unfold zen at hR;have HR:=aA hR;have HK:=aA hk;have HL:=aA h.lts;have h1:=h.alloc (.cells #[.string ⟨#[]⟩,.int .i64 0,.int .i64 0] 61);have HN:=aA (zbs C l d _ hk h1);have Hr:=Bk.new w 61 #[.string ⟨#[]⟩,.int .i64 0,.int .i64 0];have F4:=aA Hr;have HA:=aA (show Fr C.T w (w.alloc (.cells #[.string ⟨#[]⟩,.int .i64 0,.int .i64 0] 61))from aH.alloc _);clear hR h h1 hk Hr;go_enter Tryz.func133,Tryz.ntmps133;go_wp2_with fail;refine HN.mono ?_;intro e w2 hE;rcases hE.ways with⟨x,r,hx,rfl,FC,hp,hf⟩|⟨c,a,hx,rfl,hf⟩;rotate_left
 ·go_wp2_with fail;exact⟨rfl,by rw[HR.out,hx];exact⟨rfl,HA.trans hf⟩⟩
 have GJ:=HR.out;rw[hx]at GJ;replace GJ:R=(zal [91] r).then λ_ r=>(zaR r).then λn r=>(zal [93] r).then λ_ r=> .ok ⟨x.nm,n,x.at_⟩ r:=GJ;have GF:=aA GJ;have Ni:=aA FC;have J0:=(hp.alloc (.cells #[.string x.nm,.int .i64 x.at_] 77)).alloc (.cells #[.string ⟨#[91]⟩] 9);have HT:=aA (zau C [91] r d (w2.heap.size+1) _ HK.out J0 (by decide) (by simp));have PS:=HA.trans hf;have Hu:=aA ((PS.alloc (.cells #[.string x.nm,.int .i64 x.at_] 77)).alloc (.cells #[.string ⟨#[91]⟩] 9));have V7:=aA ((Bk.new w2 77 #[.string x.nm,.int .i64 x.at_]).alloc (.cells #[.string ⟨#[91]⟩] 9));have Zj:¬C.T w.heap.size:=λe=>by have e:w.heap.size=C.P:=e;have:=HL.out;omega
 have GH:w.heap.size<=w2.heap.size:=PS.size;have Nj:¬C.T w2.heap.size:=λe=>by have e:w2.heap.size=C.P:=e;have:=HL.out;omega
 have LR:=aA (((F4.fr hf Zj).alloc (.cells #[.string x.nm,.int .i64 x.at_] 77)).alloc (.cells #[.string ⟨#[91]⟩] 9));have Vh:=aA (aG Zj Nj);clear hx FC hp hf GJ J0 PS Zj Nj;go_wp2_with fail;refine HT.mono ?_;intro e w3 hE;rcases hE with⟨ht,rfl,hp,hf⟩|⟨ht,rfl,hf⟩;rotate_left
 ·go_wp2_with fail;exact⟨rfl,by rw[GF.out,ht];exact⟨rfl,Hu.trans hf⟩⟩
 have GM:=GF.out;rw[ht]at GM;replace GM:R=(zaR r.tail).then λn r=>(zal [93] r).then λ_ r=> .ok ⟨x.nm,n,x.at_⟩ r:=GM;have Fe:=aA GM;have Ma:=aA (ze2 C r.tail d w3 HK.out hp);have HI:=aA (λhn=>zh6 HK.out hp (hn:=hn));have Gi:=aA (Hu.trans hf);have X7:=aA (V7.fr hf Vh.2);have QB:=aA (LR.fr hf Vh.1);clear ht hp hf GM;go_wp2_with fail;refine Ma.mono ?_;intro e w4 hE;rcases hE with⟨Ji,rfl,hp,hf⟩|⟨Ji,rfl,hf⟩;rotate_left
 ·go_wp2_with fail;exact⟨rfl,by rw[Fe.out,zaR,if_neg Ji];exact⟨rfl,Gi.trans hf⟩⟩
 obtain⟨n,hn⟩:∃n:Int,n=decV (hdT r.tail).text :=⟨_,rfl⟩;have Kf:=Fe.out;rw[zaR,if_pos Ji,<-hn]at Kf;replace Kf:R=(zal [93] r.tail.tail).then λ_ r=> .ok ⟨x.nm,n,x.at_⟩ r:=Kf;have K6:=aA Kf;have vg:=aA (show in64 n from hn▸HI.out Ji);rw[<-hn];have RV:=hp.alloc (.cells #[.string ⟨#[93]⟩] 9);have Zi:=aA (zau C [93] r.tail.tail d w4.heap.size _ HK.out RV (by decide) (by simp));have GG:=aA ((Gi.trans hf).alloc (.cells #[.string ⟨#[93]⟩] 9));have vh:=aA ((X7.fr hf Vh.2).alloc (.cells #[.string ⟨#[93]⟩] 9));have NY:=aA ((QB.fr hf Vh.1).alloc (.cells #[.string ⟨#[93]⟩] 9));clear Ji hp hf Kf RV hn;go_wp2_with fail;refine Zi.mono ?_;intro e w5 hE;rcases hE with⟨ht,rfl,hp,hf⟩|⟨ht,rfl,hf⟩;rotate_left
 ·go_wp2_with fail;exact⟨rfl,by rw[K6.out,ht];exact⟨rfl,GG.trans hf⟩⟩
 have Km:=K6.out;rw[ht]at Km;replace Km:R= .ok ⟨x.nm,n,x.at_⟩ r.tail.tail.tail:=Km;have MQ:=aA Km;have Jf:=vh.fr hf Vh.2;have JL:=NY.fr hf Vh.1;have q0:=Jf.cell 0;have q1:=Jf.cell 1;have g0:=JL.frozen 0;have g1:=JL.frozen 1;have g2:=JL.frozen 2;have b0:=JL.cell 0;have b1:=JL.cell 1;have b2:=JL.cell 2;simp only[aD]at q0 q1 b0 b1 b2;have Pl:=JL.lt;have RM:=aA hp;have Gk:=aA (GG.trans hf);clear ht hp hf Km Jf JL;go_wp2_with fail;refine bodyPost_ret (v:=cVAr ⟨x.nm,n,x.at_⟩) (by simp[results,Tryz.results133,go_sem,cVAr,b0,b1,b2,Pl]) rfl ?_;rw[MQ.out];have Fl:Fr (λb=>b=w.heap.size) w5 (((w5.setCell ⟨w.heap.size,0,none⟩ (.string x.nm)).setCell ⟨w.heap.size,1,none⟩ (.int .i64 n)).setCell ⟨w.heap.size,2,none⟩ (.int .i64 x.at_)):=aJ (aJ (aJ aH));refine⟨rfl,⟨vg.out,Ni.out⟩,RM.fr Fl (λe=>?_) (λe=>?_) (λi hi e=>?_),Fr.high (Fr.high (Fr.high Gk.out (aL _) _ _) (aL _) _ _) (aL _) _ _⟩<;>have:=HL.out<;>omega
structure Loc where
 A:Option Addr
 c:Nat
 B:Option Addr
 q:Nat
 D:Option Addr
 e:Nat
 E:Option Addr
 f:Nat
def Loc.none_:Loc:=⟨none,0,none,0,none,0,none,0⟩
def stC (x:St)(p:Loc):List Value:= [.int .u8 x.k,.string x.nm,.slice p.A x.args.len p.c,.slice p.B x.cond.len p.q,.slice p.D x.body.len p.e,.slice p.E x.els.len p.f,.int .i64 x.at_]
structure StS (w:World)(S:Nat->Prop)(x:St)(p:Loc):Prop where
 k:in8 x.k
 at_:in64 x.at_
 args:SlR (ExR w S False x.args) x.args.len 64 p.A p.c
 cond:SlR (CdR w S False x.cond) x.cond.len 64 p.B p.q
 body:SlR (StR w S False x.body) x.body.len 128 p.D p.e
 els:SlR (StR w S False x.els) x.els.len 128 p.E p.f
theorem StS.imp {w w':World}{S S':Nat->Prop}{x:St}{p:Loc}(h:StS w S x p)(hf:SameS S w w')(hs:∀b,S b->S' b):StS w' S' x p:=
 ⟨h.k,h.at_,h.args.imp λ_ _ h=>ExR.more hs (ExR.keep hf h),h.cond.imp λ_ _ h=>CdR.more hs (CdR.keep hf h),h.body.imp λ_ _ h=>StR.more hs (StR.keep hf h),h.els.imp λ_ _ h=>StR.more hs (StR.keep hf h)⟩
theorem StS.zero {w:World}{S:Nat->Prop}{k a:Int}{nm:ByteArray}(hk:in8 k)(ha:in64 a):StS w S ⟨k,nm,.nil,.nil,.nil,.nil,a⟩ Loc.none_:=
 ⟨hk,ha,⟨aL 0,sl0,λh=>absurd h (by exact Nat.lt_irrefl 0)⟩,⟨aL 0,sl0,λh=>absurd h (by exact Nat.lt_irrefl 0)⟩,⟨aL 0,⟨by decide,by exact Nat.zero_le _⟩,λh=>absurd h (by exact Nat.lt_irrefl 0)⟩,⟨aL 0,⟨by decide,by exact Nat.zero_le _⟩,λh=>absurd h (by exact Nat.lt_irrefl 0)⟩⟩
def StAt (w:World)(sb L:Nat)(x:St):Prop:=∃p,Bk w sb 51 (stC x p).toArray /\StS w (λb=>L<=b/\b < w.heap.size/\b≠sb) x p
def MetP (C:Pcx)(sb L d:Nat)(r:PR St)(W:World)(e:Ending)(w':World):Prop:=
 match r with
 | .err c a=>e=zaf c a/\Fr (PT C sb) W w'
 | .ok x l=>e= .returned (.tuple #[])/\StAt w' sb L x/\PaAt C w' l d/\Fr (PT C sb) W w'
theorem StAt.fr {C:Pcx}{w w':World}{sb L:Nat}{x:St}(h:StAt w sb L x)(hf:Fr C.T w w')(h1:sb≠C.P)(h2:C.P < L):StAt w' sb L x:=by
 obtain⟨p,hb,hs⟩:=h;exact⟨p,hb.fr hf h1,hs.imp (hf.same λb hb=>⟨hb.2.1,λe=>by have e:b=C.P:=e;have:=hb.1;omega⟩) λb hb=>⟨hb.1,by have:=hb.2.1;have:=hf.size;omega,hb.2.2⟩⟩
theorem zmH (C:Pcx)(sb L:Nat)(x:St)(l:List Tk)(d:Nat)(w:World)(hk:C.Ok)(h:PaAt C w l d)(Gu:StAt w sb L x)(F0:sb≠C.P)(hL:C.P < L):
  Calls Tryz.prog 277 #[.pointer (some ⟨C.P,0,none⟩),.pointer (some ⟨sb,0,none⟩)] w (MetP C sb L d (endS x l) w):=by
 obtain⟨R,hR⟩:=aF (endS x l);rw[<-hR];unfold endS at hR;have HR:=aA hR;have HT:=aA (zau C [59] l d w.heap.size _ hk (h.alloc (.cells #[.string ⟨#[59]⟩] 9)) (by decide) (by simp));have HA:=aA (show Fr C.T w (w.alloc (.cells #[.string ⟨#[59]⟩] 9))from aH.alloc _);have Gb:=aA Gu;clear hR h Gu;go_enter Tryz.func277,Tryz.ntmps277;go_wp2_with fail;refine HT.mono ?_;intro e w2 hE;rcases hE with⟨ht,rfl,hp,hf⟩|⟨ht,rfl,hf⟩;rotate_left
 ·go_wp2_with fail;exact⟨rfl,by rw[HR.out,ht];exact⟨rfl,PT.l (HA.trans hf)⟩⟩
 have GU:=aA ht;have Nq:=aA hp;have Hu:=aA (HA.trans hf);clear ht hp hf;go_wp2_with fail;go_end0;rw[HR.out,GU.out];exact⟨rfl,Gb.fr Hu.out F0 hL,Nq.out,PT.l Hu.out⟩
theorem StAt.name {C:Pcx}{w:World}{sb L:Nat}{x:St}(h:StAt w sb L x)(nm:ByteArray):StAt (w.setCell ⟨sb,1,none⟩ (.string nm)) sb L {x with nm:=nm}:=by
 obtain⟨p,hb,hs⟩:=h;refine⟨p,by simpa[stC]using hb.set_ 1 (.string nm),?_⟩;have hf:Fr (λb=>b=sb) w (w.setCell ⟨sb,1,none⟩ (.string nm)):=aJ aH;have:=hs.imp (S':=λb=>L<=b/\b < (w.setCell ⟨sb,1,none⟩ (.string nm)).heap.size /\b≠sb) (hf.same λb hb=>⟨hb.2.1,hb.2.2⟩) λb hb=>⟨hb.1,by simpa using hb.2.1,hb.2.2⟩;exact⟨this.k,this.at_,this.args,this.cond,this.body,this.els⟩
theorem zku (C:Pcx)(sb L:Nat)(x:St)(l:List Tk)(d:Nat)(w:World)(hk:C.Ok)(h:PaAt C w l d)(Gu:StAt w sb L x)(F0:sb≠C.P)(hL:C.P < L)(hT:sb≠C.TB)(h0:C.W0.heap.size<=sb):
  Calls Tryz.prog 278 #[.pointer (some ⟨C.P,0,none⟩),.pointer (some ⟨sb,0,none⟩)] w (MetP C sb L d ((zaZ l).then λv r=>endS {x with nm:=v.nm} r) w):=by
 obtain⟨R,hR⟩:=aF ((zaZ l).then λv r=>endS {x with nm:=v.nm} r);rw[<-hR];have HR:=aA hR;have HK:=aA hk;have HN:=aA (zbs C l d w hk h);have Gb:=aA Gu;clear hR h Gu hk;go_enter Tryz.func278,Tryz.ntmps278;go_wp2_with fail;refine HN.mono ?_;intro e w2 hE;rcases hE.ways with⟨v,r,hx,rfl,FC,hp,hf⟩|⟨c,a,hx,rfl,hf⟩;rotate_left
 ·go_wp2_with fail;exact⟨rfl,by rw[HR.out,hx];exact⟨rfl,PT.l hf⟩⟩
 have QC:=Gb.fr hf F0 hL;obtain⟨p,hb,hs⟩:=QC;have b1:=hb.cell 1;have g1:=hb.frozen 1;simp only[stC,List.getElem?_toArray,List.getElem?_cons_succ,List.getElem?_cons_zero]at b1;obtain⟨w3,GR⟩:=aF (w2.setCell ⟨sb,1,none⟩ (.string v.nm));have Gg:Fr (λb=>b=sb) w2 w3:=by rw[GR];exact aJ aH
 have Kr:StAt w3 sb L {x with nm:=v.nm}:=by rw[GR];exact StAt.name (C:=C) ⟨p,hb,hs⟩ _
 have QD:PaAt C w3 r d:=hp.fr Gg (λe=>F0 (by have e:C.P=sb:=e;exact e.symm)) (λe=>hT (by have e:C.TB=sb:=e;exact e.symm)) (λi hi e=>by have e:i=sb:=e;omega);have hz:w3.heap.size=w2.heap.size:=by rw[GR];simp
 have ht:=zau C [59] r d w3.heap.size _ HK.out (QD.alloc (.cells #[.string ⟨#[59]⟩] 9)) (by decide) (by simp);rw[hz]at ht;have HX:=aA hx;have LT:=aA GR;have Gi:=aA ((PT.l hf (rb:=sb)).trans ((Gg.mono λi _ h=>Or.inr h).alloc (.cells #[.string ⟨#[59]⟩] 9)));have Lr:=aA Kr;have Lh:Fr C.T w3 (w3.alloc (.cells #[.string ⟨#[59]⟩] 9)):=aH.alloc _;have V8:=aA Lh;rw[GR]at ht;have HT:=aA ht;clear hx FC hp hf hb hs GR Gg Kr QD hz ht Lh;go_wp2_with fail;refine HT.mono ?_;intro e w4 hE;rw[<-LT.out]at hE;have GJ:=HR.out;rw[HX.out]at GJ;replace GJ:R=endS {x with nm:=v.nm} r:=GJ;have GF:=aA GJ;clear GJ;rcases hE with⟨ht,rfl,hp,hf⟩|⟨ht,rfl,hf⟩;rotate_left
 ·go_wp2_with fail;exact⟨rfl,by rw[GF.out,endS,ht];exact⟨rfl,Gi.trans (PT.l hf)⟩⟩
 have GU:=aA ht;have Nq:=aA hp;have Hu:=aA hf;clear ht hp hf;go_wp2_with fail;go_end0;rw[GF.out,endS,GU.out];exact⟨rfl,Lr.fr (V8.trans Hu.out) F0 hL,Nq.out,Gi.trans (PT.l Hu.out)⟩
theorem StAt.ask {w:World}{sb L L':Nat}{x:St}(h:StAt w sb L x){xs:Cds}{B:Option Addr}{q:Nat}(hv:SlR (CdR w (New L' w) False xs) xs.len 64 B q)(hl:L<=L')(F0:sb < L'):StAt (w.setCell ⟨sb,3,none⟩ (.slice B xs.len q)) sb L {x with cond:=xs}:=by
 obtain⟨p,hb,hs⟩:=h;refine⟨{p with B:=B,q:=q},by simpa[stC]using hb.set_ 3 (.slice B xs.len q),?_⟩;have hf:Fr (λb=>b=sb) w (w.setCell ⟨sb,3,none⟩ (.slice B xs.len q)):=aJ aH;have:=hs.imp (S':=λb=>L<=b/\b < (w.setCell ⟨sb,3,none⟩ (.slice B xs.len q)).heap.size /\b≠sb) (hf.same λb hb=>⟨hb.2.1,hb.2.2⟩) λb hb=>⟨hb.1,by simpa using hb.2.1,hb.2.2⟩;refine⟨this.k,this.at_,this.args,hv.imp λ_ _ h=>CdR.more (λb hb=>?_) (CdR.keep (hf.same λb hb=>⟨hb.2,λe=>?_⟩) h),this.body,this.els⟩
 ·have h1:=hb.1;have h2:=hb.2;exact⟨by omega,by simpa using h2,by omega⟩
 ·have e:b=sb:=e;have h1:=hb.1;omega
theorem zkv (C:Pcx)(n:Nat)(sb L:Nat)(x:St)(l:List Tk)(d:Nat)(w:World)(Ga:d+n=24)(hk:C.Ok)(h:PaAt C w l d)(Gu:StAt w sb L x)(F0:sb≠C.P)(hL:C.P < L)(hT:sb≠C.TB)(h0:C.W0.heap.size<=sb)(Pm:L<=w.heap.size):
  Calls Tryz.prog 279 #[.pointer (some ⟨C.P,0,none⟩),.pointer (some ⟨sb,0,none⟩)] w (MetP C sb L d ((askP n l).then λv r=>endS {x with cond:=v} r) w):=by
 obtain⟨R,hR⟩:=aF ((askP n l).then λv r=>endS {x with cond:=v} r);rw[<-hR];have HR:=aA hR;have HK:=aA hk;have HN:=aA (zek C n l d w Ga hk h);have Gb:=aA Gu;clear hR h Gu hk;go_enter Tryz.func279,Tryz.ntmps279;go_wp2_with fail;refine HN.mono ?_;intro e w2 hE;have jG:L<=w.heap.size/\sb < w.heap.size:=by
  obtain⟨p,hb,hs⟩:=Gb.out;exact⟨Pm,hb.lt⟩
 unfold EndV at hE;cases hx:askP n l with
 |err c a=>
  rw[hx]at hE;obtain⟨rfl,hf⟩:=hE;unfold zaf;go_wp2_with fail;exact⟨rfl,by rw[HR.out,hx];exact⟨rfl,PT.l hf⟩⟩
 |ok xs r=>
 rw[hx]at hE;obtain⟨_,rfl,⟨B,q,rfl,FC⟩,hp,hf⟩:=hE;have QC:=Gb.fr hf F0 hL;obtain⟨p,hb,hs⟩:=QC;have b1:=hb.cell 3;have g1:=hb.frozen 3;simp only[stC,List.getElem?_toArray,List.getElem?_cons_succ,List.getElem?_cons_zero]at b1;obtain⟨w3,GR⟩:=aF (w2.setCell ⟨sb,3,none⟩ (.slice B xs.len q));have Gg:Fr (λb=>b=sb) w2 w3:=by rw[GR];exact aJ aH
 have Kr:StAt w3 sb L {x with cond:=xs}:=by rw[GR];exact StAt.ask ⟨p,hb,hs⟩ FC jG.1 jG.2
 have QD:PaAt C w3 r d:=hp.fr Gg (λe=>F0 (by have e:C.P=sb:=e;exact e.symm)) (λe=>hT (by have e:C.TB=sb:=e;exact e.symm)) (λi hi e=>by have e:i=sb:=e;omega);have hz:w3.heap.size=w2.heap.size:=by rw[GR];simp
 have ht:=zau C [59] r d w3.heap.size _ HK.out (QD.alloc (.cells #[.string ⟨#[59]⟩] 9)) (by decide) (by simp);rw[hz]at ht;have HX:=aA hx;have LT:=aA GR;have Gi:=aA ((PT.l hf (rb:=sb)).trans ((Gg.mono λi _ h=>Or.inr h).alloc (.cells #[.string ⟨#[59]⟩] 9)));have Lr:=aA Kr;have Lh:Fr C.T w3 (w3.alloc (.cells #[.string ⟨#[59]⟩] 9)):=aH.alloc _;have V8:=aA Lh;rw[GR]at ht;have HT:=aA ht;clear hx FC hp hf hb hs GR Gg Kr QD hz ht Lh;go_wp2_with fail;refine HT.mono ?_;intro e w4 hE;rw[<-LT.out]at hE;have GJ:=HR.out;rw[HX.out]at GJ;replace GJ:R=endS {x with cond:=xs} r:=GJ;have GF:=aA GJ;clear GJ;rcases hE with⟨ht,rfl,hp,hf⟩|⟨ht,rfl,hf⟩;rotate_left
 ·go_wp2_with fail;exact⟨rfl,by rw[GF.out,endS,ht];exact⟨rfl,Gi.trans (PT.l hf)⟩⟩
 have GU:=aA ht;have Nq:=aA hp;have Hu:=aA hf;clear ht hp hf;go_wp2_with fail;go_end0;rw[GF.out,endS,GU.out];exact⟨rfl,Lr.fr (V8.trans Hu.out) F0 hL,Nq.out,Gi.trans (PT.l Hu.out)⟩
def StlV (w:World)(L:Nat)(v:Value)(xs:List St):Prop:=∃A c,v= .slice A (zai xs).len c/\SlR (StR w (New L w) False (zai xs)) (zai xs).len 128 A c
def BlkC (C:Pcx)(n:Nat):Prop:=∀(l:List Tk)(d:Nat)(w:World),d+n=24->PaAt C w l d->Calls Tryz.prog 136 #[.pointer (some ⟨C.P,0,none⟩)] w (EndV C d StlV (zag n l) w)
theorem StlV.fr {w w':World}{L:Nat}{T:Nat->Prop}{v:Value}{xs:List St}(h:StlV w L v xs)(hf:Fr T w w')(ht:∀b,L<=b->b < w.heap.size->¬T b):StlV w' L v xs:=by
 obtain⟨A,c,e,hs⟩:=h;exact⟨A,c,e,hs.imp λ_ _ hx=>StR.more (λb hb=>⟨hb.1,aM hb.2 hf.size⟩) (StR.keep (hf.same λb hb=>⟨hb.2,ht b hb.1 hb.2⟩) hx)⟩
theorem StAt.body {w:World}{sb L L':Nat}{x:St}(h:StAt w sb L x){xs:Sts}{B:Option Addr}{q:Nat}(hv:SlR (StR w (New L' w) False xs) xs.len 128 B q)(hl:L<=L')(F0:sb < L'):StAt (w.setCell ⟨sb,4,none⟩ (.slice B xs.len q)) sb L {x with body:=xs}:=by
 obtain⟨p,hb,hs⟩:=h;refine⟨{p with D:=B,e:=q},by simpa[stC]using hb.set_ 4 (.slice B xs.len q),?_⟩;have hf:Fr (λb=>b=sb) w (w.setCell ⟨sb,4,none⟩ (.slice B xs.len q)):=aJ aH;have:=hs.imp (S':=λb=>L<=b/\b < (w.setCell ⟨sb,4,none⟩ (.slice B xs.len q)).heap.size /\b≠sb) (hf.same λb hb=>⟨hb.2.1,hb.2.2⟩) λb hb=>⟨hb.1,by simpa using hb.2.1,hb.2.2⟩;refine⟨this.k,this.at_,this.args,this.cond,hv.imp λ_ _ h=>StR.more (λb hb=>?_) (StR.keep (hf.same λb hb=>⟨hb.2,λe=>?_⟩) h),this.els⟩
 ·have h1:=hb.1;have h2:=hb.2;exact⟨by omega,by simpa using h2,by omega⟩
 ·have e:b=sb:=e;have h1:=hb.1;omega
theorem StAt.els {w:World}{sb L L':Nat}{x:St}(h:StAt w sb L x){xs:Sts}{B:Option Addr}{q:Nat}(hv:SlR (StR w (New L' w) False xs) xs.len 128 B q)(hl:L<=L')(F0:sb < L'):StAt (w.setCell ⟨sb,5,none⟩ (.slice B xs.len q)) sb L {x with els:=xs}:=by
 obtain⟨p,hb,hs⟩:=h;refine⟨{p with E:=B,f:=q},by simpa[stC]using hb.set_ 5 (.slice B xs.len q),?_⟩;have hf:Fr (λb=>b=sb) w (w.setCell ⟨sb,5,none⟩ (.slice B xs.len q)):=aJ aH;have:=hs.imp (S':=λb=>L<=b/\b < (w.setCell ⟨sb,5,none⟩ (.slice B xs.len q)).heap.size /\b≠sb) (hf.same λb hb=>⟨hb.2.1,hb.2.2⟩) λb hb=>⟨hb.1,by simpa using hb.2.1,hb.2.2⟩;refine⟨this.k,this.at_,this.args,this.cond,this.body,hv.imp λ_ _ h=>StR.more (λb hb=>?_) (StR.keep (hf.same λb hb=>⟨hb.2,λe=>?_⟩) h)⟩
 ·have h1:=hb.1;have h2:=hb.2;exact⟨by omega,by simpa using h2,by omega⟩
 ·have e:b=sb:=e;have h1:=hb.1;omega
theorem StAt.args {w:World}{sb L L':Nat}{x:St}(h:StAt w sb L x){xs:Exs}{B:Option Addr}{q:Nat}(hv:SlR (ExR w (New L' w) False xs) xs.len 64 B q)(hl:L<=L')(F0:sb < L'):StAt (w.setCell ⟨sb,2,none⟩ (.slice B xs.len q)) sb L {x with args:=xs}:=by
 obtain⟨p,hb,hs⟩:=h;refine⟨{p with A:=B,c:=q},by simpa[stC]using hb.set_ 2 (.slice B xs.len q),?_⟩;have hf:Fr (λb=>b=sb) w (w.setCell ⟨sb,2,none⟩ (.slice B xs.len q)):=aJ aH;have:=hs.imp (S':=λb=>L<=b/\b < (w.setCell ⟨sb,2,none⟩ (.slice B xs.len q)).heap.size /\b≠sb) (hf.same λb hb=>⟨hb.2.1,hb.2.2⟩) λb hb=>⟨hb.1,by simpa using hb.2.1,hb.2.2⟩;refine⟨this.k,this.at_,hv.imp λ_ _ h=>ExR.more (λb hb=>?_) (ExR.keep (hf.same λb hb=>⟨hb.2,λe=>?_⟩) h),this.cond,this.body,this.els⟩
 ·have h1:=hb.1;have h2:=hb.2;exact⟨by omega,by simpa using h2,by omega⟩
 ·have e:b=sb:=e;have h1:=hb.1;omega
theorem zmI (C:Pcx)(n:Nat)(Hr:BlkC C n)(sb L:Nat)(x:St)(l:List Tk)(d:Nat)(w:World)(Ga:d+n=24)(hk:C.Ok)(h:PaAt C w l d)(Gu:StAt w sb L x)(F0:sb≠C.P)(hL:C.P < L)(hT:sb≠C.TB)(h0:C.W0.heap.size<=sb)(Pm:L<=w.heap.size):
  Calls Tryz.prog 281 #[.pointer (some ⟨C.P,0,none⟩),.pointer (some ⟨sb,0,none⟩)] w (MetP C sb L d ((askP n l).then λc r=>(zag n r).then λb r=> .ok {x with cond:=c,body:=zai b} r) w):=by
 obtain⟨R,hR⟩:=aF ((askP n l).then λc r=>(zag n r).then λb r=>PR.ok {x with cond:=c,body:=zai b} r);rw[<-hR];have HR:=aA hR;have HN:=aA (zek C n l d w Ga hk h);have Gb:=aA Gu;have HL:=aA h.lts;have Gq:sb < w.heap.size:=by
  obtain⟨p,hb,hs⟩:=Gu;exact hb.lt
 have F4:=aA Hr;clear hR h Gu hk Hr;go_enter Tryz.func281,Tryz.ntmps281;go_wp2_with fail;refine HN.mono ?_;intro e w2 hE;unfold EndV at hE;cases hx:askP n l with
 |err c a=>
  rw[hx]at hE;obtain⟨rfl,hf⟩:=hE;unfold zaf;go_wp2_with fail;exact⟨rfl,by rw[HR.out,hx];exact⟨rfl,PT.l hf⟩⟩
 |ok xs r=>
 rw[hx]at hE;obtain⟨_,rfl,⟨B,q,rfl,FC⟩,hp,hf⟩:=hE;have GJ:=HR.out;rw[hx]at GJ;replace GJ:R=(zag n r).then λb r=>PR.ok {x with cond:=xs,body:=zai b} r:=GJ;have GF:=aA GJ;have HB:=aA (F4 r d w2 Ga hp);have LZ:=aA (Gb.fr hf F0 hL);have Ni:=aA FC;have HF:=aA hf;have GH:w.heap.size<=w2.heap.size:=hf.size;clear hx FC hp hf GJ;go_wp2_with fail;refine HB.mono ?_;intro e w3 hE;unfold EndV at hE;cases hx:zag n r with
 |err c a=>
  rw[hx]at hE;obtain⟨rfl,hf⟩:=hE;unfold zaf;go_wp2_with fail;exact⟨rfl,by rw[GF.out,hx];exact⟨rfl,PT.l (HF.trans hf)⟩⟩
 |ok b r2=>
 rw[hx]at hE;obtain⟨_,rfl,⟨D,m,rfl,FC⟩,hp,hf⟩:=hE;have Kr:=LZ.fr hf F0 hL;have V9:SlR (CdR w3 (New w.heap.size w3) False xs) xs.len 64 B q:=Ni.imp λ_ _ h=>CdR.more (λb hb=>⟨hb.1,aM hb.2 hf.size⟩) (CdR.keep (hf.same λb hb=>⟨hb.2,λe=>by have e:b=C.P:=e;have:=hb.1;have:=HL.1;omega⟩) h);have KT:=hf.size;have QE:=StAt.ask Kr V9 Pm Gq;have MR:=StAt.body QE (L':=w2.heap.size) (xs:=zai b) (B:=D) (q:=m) (FC.imp λ_ _ h=>StR.more (λb hb=>⟨hb.1,by simpa using hb.2⟩) (StR.keep ((Fr.own (g:=sb) aH _ _).same λb hb=>⟨hb.2,λe=>by have e:b=sb:=e;have:=hb.1;omega⟩) h)) (by omega) (by omega);obtain⟨p,hb,hs⟩:=Kr;have b3:=hb.cell 3;have g3:=hb.frozen 3;have b4:=hb.cell 4;have g4:=hb.frozen 4;simp only[stC,List.getElem?_toArray,List.getElem?_cons_succ,List.getElem?_cons_zero]at b3 b4;have HX:=aA hx;have HP:=aA hp;have Gi:=aA (HF.trans hf);have H5:=aA MR;clear hx FC hp hf hb hs QE MR V9;go_wp2_with fail;go_end0;rw[GF.out,HX.out];have Fl:Fr (λb=>b=sb) w3 ((w3.setCell ⟨sb,3,none⟩ (.slice B xs.len q)).setCell ⟨sb,4,none⟩ (.slice D (zai b).len m)):=aJ (aJ aH);exact⟨rfl,H5.out,HP.fr Fl (λe=>F0 (by have e:C.P=sb:=e;exact e.symm)) (λe=>hT (by have e:C.TB=sb:=e;exact e.symm)) (λi hi e=>by have e:i=sb:=e;omega),(PT.l Gi.out).trans (Fl.mono λi _ h=>Or.inr h)⟩
theorem zi6 (C:Pcx)(n:Nat)(Hr:BlkC C n)(sb L:Nat)(x:St)(l:List Tk)(d:Nat)(w:World)(Ga:d+n=24)(hk:C.Ok)(h:PaAt C w l d)(Gu:StAt w sb L x)(F0:sb≠C.P)(hL:C.P < L)(hT:sb≠C.TB)(h0:C.W0.heap.size<=sb)(Pm:L<=w.heap.size):
  Calls Tryz.prog 280 #[.pointer (some ⟨C.P,0,none⟩),.pointer (some ⟨sb,0,none⟩)] w (MetP C sb L d ((askP n l).then λc r=>(zag n r).then λb r=>if mayB [101,108,115,101] r then(zag n r.tail).then λe r=> .ok {x with cond:=c,body:=zai b,els:=zai e} r else .ok {x with cond:=c,body:=zai b} r) w):=by
 obtain⟨R,hR⟩:=aF ((askP n l).then λc r=>(zag n r).then λb r=>if mayB [101,108,115,101] r then(zag n r.tail).then λe r=>PR.ok {x with cond:=c,body:=zai b,els:=zai e} r else PR.ok {x with cond:=c,body:=zai b} r);rw[<-hR];have HR:=aA hR;have HN:=aA (zek C n l d w Ga hk h);have Gb:=aA Gu;have HL:=aA h.lts;have Gq:sb < w.heap.size:=by
  obtain⟨p,hb,hs⟩:=Gu;exact hb.lt
 have F4:=aA Hr;have HK:=aA hk;clear hR h Gu hk Hr;go_enter Tryz.func280,Tryz.ntmps280;go_wp2_with fail;refine HN.mono ?_;intro e w2 hE;unfold EndV at hE;cases hx:askP n l with
 |err c a=>
  rw[hx]at hE;obtain⟨rfl,hf⟩:=hE;unfold zaf;go_wp2_with fail;exact⟨rfl,by rw[HR.out,hx];exact⟨rfl,PT.l hf⟩⟩
 |ok xs r=>
 rw[hx]at hE;obtain⟨_,rfl,⟨B,q,rfl,FC⟩,hp,hf⟩:=hE;have GJ:=HR.out;rw[hx]at GJ;replace GJ:R=(zag n r).then λb r=>if mayB [101,108,115,101] r then(zag n r.tail).then λe r=>PR.ok {x with cond:=xs,body:=zai b,els:=zai e} r else PR.ok {x with cond:=xs,body:=zai b} r:=GJ
 have GF:=aA GJ;have HB:=aA (F4 r d w2 Ga hp);have LZ:=aA (Gb.fr hf F0 hL);have Ni:=aA FC;have HF:=aA hf;have GH:w.heap.size<=w2.heap.size:=hf.size;clear hx FC hp hf GJ;go_wp2_with fail;refine HB.mono ?_;intro e w3 hE;unfold EndV at hE;cases hx:zag n r with
 |err c a=>
  rw[hx]at hE;obtain⟨rfl,hf⟩:=hE;unfold zaf;go_wp2_with fail;exact⟨rfl,by rw[GF.out,hx];exact⟨rfl,PT.l (HF.trans hf)⟩⟩
 |ok b r2=>
 rw[hx]at hE;obtain⟨_,rfl,⟨D,m,rfl,FC⟩,hp,hf⟩:=hE;have Kr:=LZ.fr hf F0 hL;have V9:SlR (CdR w3 (New w.heap.size w3) False xs) xs.len 64 B q:=Ni.imp λ_ _ h=>CdR.more (λb hb=>⟨hb.1,aM hb.2 hf.size⟩) (CdR.keep (hf.same λb hb=>⟨hb.2,λe=>by have e:b=C.P:=e;have:=hb.1;have:=HL.1;omega⟩) h);have KT:=hf.size;have QE:=StAt.ask Kr V9 Pm Gq;have MR:=StAt.body QE (L':=w2.heap.size) (xs:=zai b) (B:=D) (q:=m) (FC.imp λ_ _ h=>StR.more (λb hb=>⟨hb.1,by simpa using hb.2⟩) (StR.keep ((Fr.own (g:=sb) aH _ _).same λb hb=>⟨hb.2,λe=>by have e:b=sb:=e;have:=hb.1;omega⟩) h)) (by omega) (by omega);obtain⟨p,hb,hs⟩:=Kr;have b3:=hb.cell 3;have g3:=hb.frozen 3;have b4:=hb.cell 4;have g4:=hb.frozen 4;simp only[stC,List.getElem?_toArray,List.getElem?_cons_succ,List.getElem?_cons_zero]at b3 b4;have GM:=GF.out;rw[hx]at GM;replace GM:R=if mayB [101,108,115,101] r2 then(zag n r2.tail).then λe r=>PR.ok {x with cond:=xs,body:=zai b,els:=zai e} r else PR.ok {x with cond:=xs,body:=zai b} r2:=GM
 have Fe:=aA GM;have Fl:Fr (λb=>b=sb) w3 ((w3.setCell ⟨sb,3,none⟩ (.slice B xs.len q)).setCell ⟨sb,4,none⟩ (.slice D (zai b).len m)):=aJ (aJ aH);obtain⟨w5,Jd⟩:=aF ((w3.setCell ⟨sb,3,none⟩ (.slice B xs.len q)).setCell ⟨sb,4,none⟩ (.slice D (zai b).len m));rw[<-Jd]at Fl MR;have RV:PaAt C w5 r2 d:=hp.fr Fl (λe=>F0 (by have e:C.P=sb:=e;exact e.symm)) (λe=>hT (by have e:C.TB=sb:=e;exact e.symm)) (λi hi e=>by have e:i=sb:=e;omega);have Zk:Fr (PT C sb) w w5:=(PT.l (HF.trans hf)).trans (Fl.mono λi _ h=>Or.inr h);have HM:=aA (za1 C [101,108,115,101] r2 d w5 HK.out RV (by decide));have Gk:=aA Zk;have H5:=aA MR;have X8:=aA Jd;have RL:w.heap.size<=w5.heap.size:=Zk.size;clear hx FC hp hf hb hs QE MR V9 GM Fl Jd RV Zk;go_wp2_with fail;rw[<-X8.out];refine HM.mono ?_;rintro _ w6 ⟨rfl,Pn,GA⟩;have Pr:=aA (H5.fr GA F0 hL);have G1:=aA (Gk.trans (PT.l GA));cases hm:mayB [101,108,115,101] r2
 ·rw[hm]at Pn;have vi:=aA (show PaAt C w6 r2 d from Pn);have Kf:=Fe.out;rw[hm]at Kf;have K6:=aA (show R=PR.ok {x with cond:=xs,body:=zai b} r2 from Kf);clear Kf Pn GA hm;go_wp2_with fail;go_end0;rw[K6.out];exact⟨rfl,Pr.out,vi.out,G1.out⟩
 ·rw[hm]at Pn;have Kf:=Fe.out;rw[hm]at Kf;have K6:=aA (show R=(zag n r2.tail).then λe r=>PR.ok {x with cond:=xs,body:=zai b,els:=zai e} r from Kf);have RW:=aA (F4 r2.tail d w6 Ga Pn);have Mz:w5.heap.size<=w6.heap.size:=GA.size;clear Kf Pn GA hm;go_wp2_with fail;refine RW.mono ?_;intro e w7 hE;unfold EndV at hE;cases hx:zag n r2.tail with
  |err c a=>
   rw[hx]at hE;obtain⟨rfl,hf⟩:=hE;unfold zaf;go_wp2_with fail;exact⟨rfl,by rw[K6.out,hx];exact⟨rfl,G1.trans (PT.l hf)⟩⟩
  |ok b2 r3=>
  rw[hx]at hE;obtain⟨_,rfl,⟨D2,m2,rfl,FC⟩,hp,hf⟩:=hE;have QF:=Pr.fr hf F0 hL;have H8:=aA (StAt.els QF FC (by omega) (by omega));obtain⟨p,hb,hs⟩:=QF;have b5:=hb.cell 5;have g5:=hb.frozen 5;simp only[stC,List.getElem?_toArray,List.getElem?_cons_succ,List.getElem?_cons_zero]at b5;have HX:=aA hx;have HP:=aA hp;have Fp:=aA (G1.trans (PT.l hf));clear hx FC hp hf hb hs;go_wp2_with fail;go_end0;rw[K6.out,HX.out];have Fl:Fr (λb=>b=sb) w7 (w7.setCell ⟨sb,5,none⟩ (.slice D2 (zai b2).len m2)):=aJ aH;exact⟨rfl,H8.out,HP.fr Fl (λe=>F0 (by have e:C.P=sb:=e;exact e.symm)) (λe=>hT (by have e:C.TB=sb:=e;exact e.symm)) (λi hi e=>by have e:i=sb:=e;omega),Fp.trans (Fl.mono λi _ h=>Or.inr h)⟩
theorem zmJ (C:Pcx)(n:Nat)(sb L:Nat)(x:St)(l:List Tk)(d:Nat)(w:World)(Ga:d+n=24)(hk:C.Ok)(h:PaAt C w l d)(Gu:StAt w sb L x)(F0:sb≠C.P)(hL:C.P < L)(hT:sb≠C.TB)(h0:C.W0.heap.size<=sb)(Pm:L<=w.heap.size):
  Calls Tryz.prog 282 #[.pointer (some ⟨C.P,0,none⟩),.pointer (some ⟨sb,0,none⟩)] w (MetP C sb L d ((zaZ l).then λv r=>(zal [40] r).then λ_ r=>(zaS (zaO n) [41] true r).then λxs r=>endS {x with nm:=v.nm,args:=za0 xs} r) w):=by
 have JI:= @makeF Tryz.prog;obtain⟨R,hR⟩:=aF ((zaZ l).then λv r=>(zal [40] r).then λ_ r=>(zaS (zaO n) [41] true r).then λxs r=>endS {x with nm:=v.nm,args:=za0 xs} r);rw[<-hR];have HR:=aA hR;have HK:=aA hk;have HN:=aA (zbs C l d w hk h);have Gb:=aA Gu;have Gq:sb < w.heap.size:=by
  obtain⟨p,hb,hs⟩:=Gu;exact hb.lt
 clear hR h Gu hk;go_enter Tryz.func282,Tryz.ntmps282;go_wp2_with fail;refine HN.mono ?_;intro e w2 hE;rcases hE.ways with⟨v,r,hx,rfl,FC,hp,hf⟩|⟨c,a,hx,rfl,hf⟩;rotate_left
 ·go_wp2_with fail;exact⟨rfl,by rw[HR.out,hx];exact⟨rfl,PT.l hf⟩⟩
 have QC:=Gb.fr hf F0 hL;have GH:w.heap.size<=w2.heap.size:=hf.size;obtain⟨p,hb,hs⟩:=QC;have b1:=hb.cell 1;have g1:=hb.frozen 1;simp only[stC,List.getElem?_toArray,List.getElem?_cons_succ,List.getElem?_cons_zero]at b1;obtain⟨w3,GR⟩:=aF (w2.setCell ⟨sb,1,none⟩ (.string v.nm));have Gg:Fr (λb=>b=sb) w2 w3:=by rw[GR];exact aJ aH
 have Kr:StAt w3 sb L {x with nm:=v.nm}:=by rw[GR];exact StAt.name (C:=C) ⟨p,hb,hs⟩ _
 have QD:PaAt C w3 r d:=hp.fr Gg (λe=>F0 (by have e:C.P=sb:=e;exact e.symm)) (λe=>hT (by have e:C.TB=sb:=e;exact e.symm)) (λi hi e=>by have e:i=sb:=e;omega);have hz:w3.heap.size=w2.heap.size:=by rw[GR];simp
 have ht:=zau C [40] r d w3.heap.size _ HK.out (QD.alloc (.cells #[.string ⟨#[40]⟩] 9)) (by decide) (by simp);rw[hz]at ht;have HX:=aA hx;have LT:=aA GR;have Lh:Fr C.T w3 (w3.alloc (.cells #[.string ⟨#[40]⟩] 9)):=aH.alloc _;have Gi:=aA ((PT.l hf (rb:=sb)).trans ((Gg.mono λi _ h=>Or.inr h).alloc (.cells #[.string ⟨#[40]⟩] 9)));have Lr:=aA (Kr.fr Lh F0 hL);rw[GR]at ht;have HT:=aA ht;clear hx FC hp hf hb hs GR Gg Kr QD hz ht Lh;go_wp2_with fail;refine HT.mono ?_;intro e w4 hE;rw[<-LT.out]at hE;have GJ:=HR.out;rw[HX.out]at GJ;replace GJ:R=(zal [40] r).then λ_ r=>(zaS (zaO n) [41] true r).then λxs r=>endS {x with nm:=v.nm,args:=za0 xs} r:=GJ;have L0:=aA GJ;clear GJ;rcases hE with⟨ht,rfl,hp,hf⟩|⟨ht,rfl,hf⟩;rotate_left
 ·go_wp2_with fail;exact⟨rfl,by rw[L0.out,ht];exact⟨rfl,Gi.trans (PT.l hf)⟩⟩
 have GJ:=L0.out;rw[ht]at GJ;replace GJ:R=(zaS (zaO n) [41] true r.tail).then λxs r=>endS {x with nm:=v.nm,args:=za0 xs} r:=GJ;have GF:=aA GJ;have GG:=aA (Gi.trans (PT.l hf));have Zl:=aA (Lr.fr hf F0 hL);have Mt:w.heap.size<=w4.heap.size:=GG.size;have Fx:=zkq C (zaO n) [41] true 247 #[.pointer (some ⟨C.P,0,none⟩)] #[] r.tail d w4 HK.out hp (zd8 n) (by decide) (enters_of Tryz.func247 (by kernel_rfl) rfl) λW _ l' LU=>by
  simpa using zb5 C n l' d W Ga HK.out LU
 have MS:=aA Fx;clear GJ ht hp hf Fx;go_wp2_with fail;refine MS.mono ?_;intro e w5 hE;unfold EndV at hE;cases hx:zaS (zaO n) [41] true r.tail with
 |err c a=>
  rw[hx]at hE;obtain⟨rfl,hf⟩:=hE;unfold zaf;go_wp2_with fail;exact⟨rfl,by rw[GF.out,hx];exact⟨rfl,GG.trans (PT.l hf)⟩⟩
 |ok xs r2=>
 rw[hx]at hE;obtain⟨_,rfl,⟨B,q,rfl,FC⟩,hp,hf⟩:=hE;have GM:=GF.out;rw[hx]at GM;replace GM:R=endS {x with nm:=v.nm,args:=za0 xs} r2:=GM;have Fe:=aA GM;have MR:=Zl.fr hf F0 hL;obtain⟨p5,hb,hs⟩:=MR;have b2:=hb.cell 2;have g2:=hb.frozen 2;simp only[stC,List.getElem?_toArray,List.getElem?_cons_succ,List.getElem?_cons_zero]at b2;obtain⟨w6,FO⟩:=aF (w5.setCell ⟨sb,2,none⟩ (.slice B (za0 xs).len q));have GA:Fr (λb=>b=sb) w5 w6:=by rw[FO];exact aJ aH
 have Wa:StAt w6 sb L {x with nm:=v.nm,args:=za0 xs}:=by rw[FO];exact StAt.args ⟨p5,hb,hs⟩ FC (by omega) (by omega)
 have Pn:PaAt C w6 r2 d:=hp.fr GA (λe=>F0 (by have e:C.P=sb:=e;exact e.symm)) (λe=>hT (by have e:C.TB=sb:=e;exact e.symm)) (λi hi e=>by have e:i=sb:=e;omega);have hz:w6.heap.size=w5.heap.size:=by rw[FO];simp
 have ht:=zau C [59] r2 d w6.heap.size _ HK.out (Pn.alloc (.cells #[.string ⟨#[59]⟩] 9)) (by decide) (by simp);rw[hz]at ht;have RD:=aA FO;have Lh:Fr C.T w6 (w6.alloc (.cells #[.string ⟨#[59]⟩] 9)):=aH.alloc _;have G1:=aA (((GG.trans (PT.l hf)).trans (GA.mono λi _ h=>Or.inr h)).alloc (.cells #[.string ⟨#[59]⟩] 9));have Pr:=aA (Wa.fr Lh F0 hL);rw[FO]at ht;have Zm:=aA ht;clear hx FC hp hf hb hs FO GA Wa Pn hz ht Lh GM;go_wp2_with fail;refine Zm.mono ?_;intro e w7 hE;rw[<-RD.out]at hE;rcases hE with⟨ht,rfl,hp,hf⟩|⟨ht,rfl,hf⟩;rotate_left
 ·go_wp2_with fail;exact⟨rfl,by rw[Fe.out,endS,ht];exact⟨rfl,G1.trans (PT.l hf)⟩⟩
 have vj:=aA ht;have Le:=aA hp;have Fp:=aA hf;clear ht hp hf;go_wp2_with fail;go_end0;rw[Fe.out,endS,vj.out];exact⟨rfl,Pr.fr Fp.out F0 hL,Le.out,G1.trans (PT.l Fp.out)⟩
def kwF (k:Int):Nat:=if k=1 then 277 else if k=4 then 278 else if k=5\/k=6 then 279 else if k=7 then 280 else if k=8 then 281 else 282
theorem zfe (t:List UInt8):keyK t=0\/keyK t=1\/keyK t=4\/keyK t=5\/keyK t=6\/keyK t=7\/keyK t=8\/keyK t=9:=by
 unfold keyK
 repeat' split
 all_goals simp
theorem StAt.kind {w:World}{sb L:Nat}{x:St}(h:StAt w sb L x){k:Int}(hk:in8 k):StAt (w.setCell ⟨sb,0,none⟩ (.int .u8 k)) sb L {x with k:=k}:=by
 obtain⟨p,hb,hs⟩:=h;refine⟨p,by simpa[stC]using hb.set_ 0 (.int .u8 k),?_⟩;have hf:Fr (λb=>b=sb) w (w.setCell ⟨sb,0,none⟩ (.int .u8 k)):=aJ aH;have:=hs.imp (S':=λb=>L<=b/\b < (w.setCell ⟨sb,0,none⟩ (.int .u8 k)).heap.size /\b≠sb) (hf.same λb hb=>⟨hb.2.1,hb.2.2⟩) λb hb=>⟨hb.1,by simpa using hb.2.1,hb.2.2⟩;exact⟨hk,this.at_,this.args,this.cond,this.body,this.els⟩
theorem StAt.new {w:World}{sb L:Nat}{k a:Int}(hk:in8 k)(ha:in64 a)(hb:Bk w sb 51 #[.int .u8 k,.string ⟨#[]⟩,.slice none 0 0,.slice none 0 0,.slice none 0 0,.slice none 0 0,.int .i64 a]):StAt w sb L ⟨k,noB,.nil,.nil,.nil,.nil,a⟩:=
 ⟨Loc.none_,hb,StS.zero hk ha⟩
theorem zkw (k:Int):Enters Tryz.prog (kwF k):=by
 unfold kwF;split
 ·exact enters_of Tryz.func277 (by kernel_rfl) rfl
 split
 ·exact enters_of Tryz.func278 (by kernel_rfl) rfl
 split
 ·exact enters_of Tryz.func279 (by kernel_rfl) rfl
 split
 ·exact enters_of Tryz.func280 (by kernel_rfl) rfl
 split
 ·exact enters_of Tryz.func281 (by kernel_rfl) rfl
 ·exact enters_of Tryz.func282 (by kernel_rfl) rfl
theorem zmK (C:Pcx)(n:Nat)(Hr:BlkC C n)(sb L:Nat)(l:List Tk)(d:Nat)(w:World)(k a:Int)(KV:k=keyK (hdT l).text)(GI:k≠0)(ha:a=((hdT l).at_ :Int))(Ga:d+n=24)(hk:C.Ok)(h:PaAt C w l.tail d)(Gu:StAt w sb L ⟨k,noB,.nil,.nil,.nil,.nil,a⟩)(F0:sb≠C.P)(hL:C.P < L)(hT:sb≠C.TB)(h0:C.W0.heap.size<=sb)(Pm:L<=w.heap.size):
  Calls Tryz.prog (kwF k) #[.pointer (some ⟨C.P,0,none⟩),.pointer (some ⟨sb,0,none⟩)] w (MetP C sb L d (zaz (zag n) n l) w):=by
 subst KV;subst ha;have hc:=zfe (hdT l).text;unfold zaz;obtain⟨k,KV⟩:=aF (keyK (hdT l).text );simp only[<-KV]at hc GI Gu ⊢;clear KV;rcases hc with rfl|rfl|rfl|rfl|rfl|rfl|rfl|rfl
 ·exact absurd rfl GI
 ·exact zmH C sb L _ _ d w hk h Gu F0 hL
 ·exact zku C sb L _ _ d w hk h Gu F0 hL hT h0
 ·exact zkv C n sb L _ _ d w Ga hk h Gu F0 hL hT h0 Pm
 ·exact zkv C n sb L _ _ d w Ga hk h Gu F0 hL hT h0 Pm
 ·exact zi6 C n Hr sb L _ _ d w Ga hk h Gu F0 hL hT h0 Pm
 ·exact zmI C n Hr sb L _ _ d w Ga hk h Gu F0 hL hT h0 Pm
 ·exact zmJ C n sb L _ _ d w Ga hk h Gu F0 hL hT h0 Pm
