/- parse: asked: a condition in parentheses. -/
import Derived.Test.YtfomomaomggpbaaGreatDoorJnPcN
import Derived.Test.YtfomomaomggpbaaGreatDoorJgSrS
set_option linter.all false
set_option maxHeartbeats 1600000
set_option maxRecDepth 100000
namespace Go.Proofs.YtfomomaomggpbaaGreatDoor
open Go.RowKit Go.Shelf
def ExsV (w:World)(L:Nat)(v:Value)(xs:Exs):Prop:=∃A c,v= .slice A xs.len c/\SlR (ExR w (New L w) False xs) xs.len 64 A c
def CdsV (w:World)(L:Nat)(v:Value)(xs:Cds):Prop:=∃A c,v= .slice A xs.len c/\SlR (CdR w (New L w) False xs) xs.len 64 A c
def EndV {α:Type}(C:Pcx)(d:Nat)(V:World->Nat->Value->α->Prop)(r:PR α)(W:World)(e:Ending)(w':World):Prop:=
 match r with
 | .err c a=>e=zae c a/\Fr C.T W w'
 | .ok x l=>∃v,e= .returned v/\V w' W.heap.size v x/\PaAt C w' l d/\Fr C.T W w'
def askP (n:Nat)(l:List Tk):PR Cds:=(zal [40] l).then λ_ r=>(zdX n r).then λx r=>(zal [41] r).then λ_ r=> .ok (x.cons .nil) r
theorem zas (C:Pcx)(s:List UInt8)(l:List Tk)(d b:Nat)(w:World)(hk:C.Ok)(h:PaAt C w l d)(hs:s≠ [])(hc:w.cell? ⟨b,0,none⟩=some (.string ⟨s.toArray⟩)):
  Calls Tryz.prog 135 #[.pointer (some ⟨C.P,0,none⟩),.slice (some ⟨b,0,none⟩) 1 1] w λe w'=>
   (zal s l= .ok () l.tail/\e= .returned (.tuple #[])/\PaAt C w' l.tail d/\Fr C.T w w')\/(zal s l= .err 90 (hdT l).at_ /\e= .panicked [{v:= .iface 161 (.agg #[.int .i64 90,.int .i64 (hdT l).at_]),recovered:=false}]/\Fr C.T w w'):=by
 cases hm:mayB s l
 ·refine(zdR C s l d b w h hm hc).mono λe w' hE=> .inr ⟨by unfold zal;rw[hm];rfl,hE.1,hE.2⟩
 ·refine(zcb C s l d b w hk h hs hm hc).mono λe w' hE=> .inl ⟨by unfold zal;rw[hm];rfl,hE.1,hE.2.1,hE.2.2⟩
theorem zef (C:Pcx)(n:Nat)(l:List Tk)(d:Nat)(w:World)(Gd:d+n=24)(hk:C.Ok)(h:PaAt C w l d):
  Calls Tryz.prog 301 #[.pointer (some ⟨C.P,0,none⟩)] w (EndV C d CdsV (askP n l) w):=by
 obtain⟨R,hR⟩:=nmq (askP n l);rw[<-hR];have HR:=hdq hR;have HK:=hdq hk;have hL:=h.lts;have HL:=hdq hL;have h1:=h.alloc (.cells #[.string ⟨#[40]⟩] 9);have HT:=hdq (zas C [40] l d w.heap.size _ hk h1 (by decide) (by simp));have KT:Fr C.T w (w.alloc (.cells #[.string ⟨#[40]⟩] 9)):=(Fr.refl _ _).alloc _;have HA:=hdq KT;clear hR hL h h1 KT hk;go_enter Tryz.func301,Tryz.ntmps301;go_wp2_with fail;refine HT.mono ?_;intro e w2 hE;rcases hE with⟨ht,rfl,hp,hf⟩|⟨ht,rfl,hf⟩;rotate_left
 ·go_wp2_with fail;exact⟨rfl,by rw[HR.out,askP,ht];exact⟨rfl,HA.trans hf⟩⟩
 have HC:=hdq (zjr C n l.tail d w2 Gd HK.out hp);have Vw:=hdq ht;have Hv:=hdq (HA.trans hf);clear ht hp hf;go_wp2_with fail;refine HC.mono ?_;intro e w3 hE;rcases hE.ways with⟨x,r,A,c,B,q,hx,rfl,hv,hp,hf⟩|⟨c,a,hx,rfl,hf⟩;rotate_left
 ·go_wp2_with fail;exact⟨rfl,by rw[HR.out,askP,Vw.out];show EndV C d CdsV ((zdX n l.tail).then _) w _ _;rw[hx];exact⟨rfl,Hv.trans hf⟩⟩
 have HX:=hdq hx;have h4:=(hp.alloc (.cells #[.int .u8 x.k,.slice A x.args.len c,.slice B x.of_.len q,.int .i64 x.at_] 179)).alloc (.cells #[.string ⟨#[41]⟩] 9);have kK:=hdq (zas C [41] r d (w3.heap.size+1) _ HK.out h4 (by decide) (by simp));have Gm:=(Bk.new w3 179 #[.int .u8 x.k,.slice A x.args.len c,.slice B x.of_.len q,.int .i64 x.at_]).alloc (.cells #[.string ⟨#[41]⟩] 9);have J2:=hdq Gm;have Hx:Fr NoT w3 ((w3.alloc (.cells #[.int .u8 x.k,.slice A x.args.len c,.slice B x.of_.len q,.int .i64 x.at_] 179)).alloc (.cells #[.string ⟨#[41]⟩] 9)):=((Fr.refl _ _).alloc _).alloc _;have GN:=hdq Hx;have HV:=hdq hv;have Ge:=hdq (Hv.trans hf);have GR:w.heap.size<=w2.heap.size:=Hv.size;have Md:w.heap.size<=w3.heap.size:=Ge.size;clear hx h4 Gm Hx hv hf hp;go_wp2_with fail;refine kK.mono ?_;intro e w5 hE;rcases hE with⟨ht,rfl,hp,hf⟩|⟨ht,rfl,hf⟩;rotate_left
 ·go_wp2_with fail;refine⟨rfl,?_⟩;rw[HR.out,askP,Vw.out];show EndV C d CdsV ((zdX n l.tail).then _) w _ _
  rw[HX.out];show EndV C d CdsV ((zal [41] r).then _) w _ _
  rw[ht];exact⟨rfl,(Ge.trans GN.any).trans hf⟩
 have J0:¬C.T w3.heap.size:=λe=>by have e:w3.heap.size=C.P:=e;have:=HL.out;omega
 have FT:=J2.fr hf J0;have q0:=FT.cell 0;have q1:=FT.cell 1;have q2:=FT.cell 2;have q3:=FT.cell 3;simp only[getsL]at q0 q1 q2 q3;have Yy:=hdq ht;have Rd:=hdq hp;have L6:=hdq (GN.any.trans hf);have N0:=FT.lt;clear ht hp hf FT;go_wp2_with fail;go_ret;have GA:R= .ok (x.cons .nil) r.tail:=by
  rw[HR.out,askP,Vw.out];show(zdX n l.tail).then _=_
  rw[HX.out];show(zal [41] r).then _=_
  rw[Yy.out];rfl
 rw[GA];obtain⟨x1,x3,Ax,cx,Bx,qx,ex,Ju,Vb⟩:=HV.out;simp only[cdV,Value.agg.injEq,Array.mk.injEq,List.cons.injEq,Value.slice.injEq,true_and,and_true]at ex;obtain⟨⟨rfl,rfl⟩,rfl,rfl⟩:=ex;have Rc:w3.heap.size<=w5.heap.size:=L6.size;have hF:Fr C.T w3 (w5.alloc (.cells #[.int .u8 x.k,.slice A x.args.len c,.slice B x.of_.len q,.int .i64 x.at_] 179)):=L6.alloc _;have hX:∀b,New w2.heap.size w3 b->(b < w3.heap.size/\¬C.T b)/\New w.heap.size (w5.alloc (.cells #[.int .u8 x.k,.slice A x.args.len c,.slice B x.of_.len q,.int .i64 x.at_] 179)) b:=λb hb=>by
  have h1:w2.heap.size<=b:=hb.1;have h2:b < w3.heap.size:=hb.2;have h3:=hF.size;exact⟨⟨h2,λe=>by have e:b=C.P:=e;have:=HL.out;omega⟩,by omega,by omega⟩
 refine⟨_,rfl,⟨some ⟨w5.heap.size,0,none⟩,1,rfl,lrq 1,sl1,λ_=>⟨w5.heap.size,0,rfl,?_⟩⟩,Rd.alloc _,Ge.trans hF⟩;refine zjl (Bk.new w5 _ _) ⟨by omega,by simp⟩ ⟨x1,x3⟩ (Ju.imp λ_ _ h=>?_) (Vb.imp λ_ _ h=>?_)
 ·exact ExR.more (λb hb=>(hX b hb).2) (ExR.keep (hF.same λb hb=>(hX b hb).1) h)
 ·exact CdR.more (λb hb=>(hX b hb).2) (CdR.keep (hF.same λb hb=>(hX b hb).1) h)
/-! expressions in a row -/
def exC (x:Ex)(A:Option Addr)(c:Nat):List Value:= [.int .u8 x.k,.string x.nm,.int .i64 x.n,.slice A x.args.len c,.int .i64 x.at_]
def ExRow (w:World)(S:Nat->Prop):List Ex->List Value->Prop
 | [],cs=>cs= []
 |x::xs,cs=>∃A c yf,cs=exC x A c++yf/\in8 x.k/\in64 x.n/\in64 x.at_/\SlR (ExR w S False x.args) x.args.len 64 A c/\ExRow w S xs yf
theorem ExRow.imp {w w':World}{S S':Nat->Prop}(hf:SameS S w w')(hs:∀b,S b->S' b):∀ {xs:List Ex} {cs:List Value},ExRow w S xs cs->ExRow w' S' xs cs
 | [],_,h=>h
 |x::xs,cs,h=>by
  obtain⟨A,c,yf,e,h1,h2,h3,h4,h5⟩:=h;exact⟨A,c,yf,e,h1,h2,h3,h4.imp λ_ _ h=>ExR.more hs (ExR.keep hf h),ExRow.imp hf hs h5⟩
theorem ExRow.snoc {w:World}{S:Nat->Prop}{y:Ex}{A:Option Addr}{c:Nat}(hy:in8 y.k/\in64 y.n/\in64 y.at_/\SlR (ExR w S False y.args) y.args.len 64 A c):∀ {xs:List Ex} {cs:List Value},ExRow w S xs cs->ExRow w S (xs++ [y]) (cs++exC y A c)
 | [],cs,h=>by
  have h:cs= []:=h;subst h;exact⟨A,c, [],by simp,hy.1,hy.2.1,hy.2.2.1,hy.2.2.2,rfl⟩
 |x::xs,cs,h=>by
  obtain⟨B,q,yf,e,h1,h2,h3,h4,h5⟩:=h;exact⟨B,q,yf++exC y A c,by rw[e,List.append_assoc],h1,h2,h3,h4,ExRow.snoc hy h5⟩
theorem ExRow.exR {w:World}{S:Nat->Prop}{g:Nat}(hg:S g):∀ {xs:List Ex} {cs:List Value} {o:Nat},ExRow w S xs cs->(∀j u,cs[j]?=some u->w.cell? ⟨g,o+j,none⟩=some u)->ExR w S False (zbi xs) g o
 | [],_,_,_,_=>trivial
 |x::xs,cs,o,h,hc=>by
  obtain⟨A,c,yf,e,h1,h2,h3,h4,h5⟩:=h;subst e;refine⟨⟨hg,λh=>absurd h id,h1,h2,h3,?_,?_,?_,?_⟩,⟨A,c,?_,h4⟩,?_⟩
  ·exact hc 0 _ rfl
  ·exact hc 1 _ rfl
  ·exact hc 2 _ rfl
  ·exact hc 4 _ rfl
  ·exact hc 3 _ rfl
  ·refine ExRow.exR hg h5 λj u hj=>?_;have:=hc (5+j) u (by rw[List.getElem?_append_right (by simp[exC])];simpa[exC]using hj);rw[Nat.add_assoc];exact this
def zaF {α:Type}(one:List Tk->PR α)(s:List UInt8):Nat->List α->List Tk->PR (List α)
 |0,acc,l=> .ok acc l
 |f+1,acc,l=>(one l).then λx r=>if mayB [44] r then zaF one s f (acc++ [x]) r.tail else(zal s r).then λ_ r=> .ok (acc++ [x]) r
def zaR {α:Type}(one:List Tk->PR α)(s:List UInt8)(no:Bool)(l:List Tk):PR (List α):=if no&&mayB s l then .ok [] l.tail else zaF one s l.length [] l
theorem za0 (C:Pcx)(s:List UInt8)(l:List Tk)(d:Nat)(w:World)(hk:C.Ok)(h:PaAt C w l d)(hs:s≠ []):Calls Tryz.prog 129 #[.pointer (some ⟨C.P,0,none⟩),.string ⟨s.toArray⟩] w λe w'=>
  e= .returned (.bool (mayB s l))/\PaAt C w' (if mayB s l then l.tail else l) d/\Fr C.T w w':=by
 cases hm:mayB s l
 ·exact zmE C s l d w h hm
 ·exact zjb C s l d w hk h hs hm
structure SomeX (C:Pcx)(w:World)(d:Nat)(R:PR (List Ex))(one:List Tk->PR Ex)(s:List UInt8)(v:Value)(wr:World)(acc:List Ex)(cs:List Value)(l:List Tk):Prop where
 eq:∃f,R=zaF one s f acc l/\l.length<=f
 row:wr.ownsRow w.heap.size 175 5 v acc.length cs
 rows:ExRow wr (NewR w.heap.size v wr) acc cs
 few:acc.length+l.length<=5000
 pa:PaAt C wr l d
 fr:Fr C.T w wr
def ExlV (w:World)(L:Nat)(v:Value)(xs:List Ex):Prop:=ExsV w L v (zbi xs)
theorem zeg {L:Nat}{w:World}{v:Value}{acc:List Ex}{cs:List Value}{S:Nat->Prop}(hr:w.ownsRow L 175 5 v acc.length cs)(hx:ExRow w S acc cs)(hs:∀b,S b->L<=b/\b < w.heap.size)(hf:acc.length<=5001):ExlV w L v acc:=by
 rcases hr.2 with⟨rfl,h0⟩|⟨g,cap,cur,rfl,hb,hg,hn,hc,Jk,ht⟩
 ·exact⟨none,0,by rw[zby,h0],by rw[zby,h0];exact⟨lrq _,sl0,λh=>absurd h (Nat.lt_irrefl 0)⟩⟩
 ·have hl:g < w.heap.size:=(Array.getElem?_eq_some_iff.1 hg).1;have Nj:cap<=9223372036854775807:=by unfold maxLen at hc;omega
  suffices GC:ExR w (New L w) False (zbi acc) g 0 by
   exact⟨some ⟨g,0,none⟩,cap,by rw[zby],by rw[zby];exact⟨hn,⟨Nj,by omega⟩,λ_=>⟨g,0,rfl,GC⟩⟩⟩
  refine ExRow.exR ⟨hb,hl⟩ (ExRow.imp (SameS.refl _ _) hs hx) λj u hj=>?_;have:=hr.cells (g:=g) rfl j u hj;have L7:(⟨g,0,none⟩:Addr).add j=⟨g,0+j,none⟩:=by
   rw[Nat.zero_add];unfold Addr.add;split<;>simp_all
  rw[L7]at this;exact this
theorem Fr.grownP {C:Pcx}{w w':World}(h:Fr C.T w w'):w.grownBy w' (some C.P):=
 ⟨h.os,h.tape,h.output,h.size,λk hk hn=>h.block k hk λe=>hn (by have e:k=C.P:=e;rw[e])⟩
theorem zah {C:Pcx}{w w':World}{L size n:Nat}{t:TypeId}{v:Value}{cs:List Value}(h:w.ownsRow L t size v n cs)(hf:Fr C.T w w')(hL:C.P < L):w'.ownsRow L t size v n cs:=
 h.kept hf.grownP (.inr λe=>by have:=(h.lt _ e).1;omega)
theorem zeS {C:Pcx}{w wr w7 w9:World}{x:Ex}{A:Option Addr}{c:Nat}{v v':Value}{acc:List Ex}{cs:List Value}{r2:List Tk}{d:Nat}{cell:Array Value}
  (hL:C.P < w.heap.size/\C.TB < w.heap.size/\C.W0.heap.size<=w.heap.size) (Hz:wr.ownsRow w.heap.size 175 5 v acc.length cs) (NM:ExRow wr (NewR w.heap.size v wr) acc cs) (hF:Fr C.T w wr)
  (hv:ExV w7 wr.heap.size (exV x.k x.nm x.n A x.args.len c x.at_) x) (hp:PaAt C w7 r2 d) (hf:Fr C.T wr w7) (Hb:w9.ownsRow w.heap.size 175 5 v' (acc.length+1) (cs++exC x A c))
  (hg:(w7.alloc (.cells cell 175)).grownBy w9 v.ownBlock) (GG:v'.ownBlock=v.ownBlock\/v'.ownBlock=some (w7.heap.size+1)):
  ExRow w9 (NewR w.heap.size v' w9) (acc++ [x]) (cs++exC x A c)/\PaAt C w9 r2 d/\Fr C.T w w9:=by
 have Hl:=Hz.lt;have UA:=hF.size;have Rv:=hf.size;have LJ:=hg.size;rw[World.size_alloc]at LJ;have NO:Fr (λb=>v.ownBlock=some b) w7 w9:=((Fr.refl _ _).alloc _).trans (Fr.grown hg λg e _=>e);have K2:Fr (λb=>b=C.P\/v.ownBlock=some b) wr w9:=(hf.mono λi _ h=>Or.inl h).trans (NO.mono λi _ h=>Or.inr h);obtain⟨x1,x2,x3,Ax,cx,ex,Ju⟩:=hv;simp only[exV,Value.agg.injEq,Array.mk.injEq,List.cons.injEq,Value.slice.injEq,true_and,and_true]at ex;obtain⟨rfl,rfl⟩:=ex;have Rw:∀b,b < w7.heap.size->v.ownBlock≠some b->v'.ownBlock≠some b:=λb hb hn e=>by
  rcases GG with h|h
  ·exact hn (h▸e)
  ·rw[h]at e;have:=Option.some.inj e;omega
 refine⟨ExRow.snoc ⟨x1,x2,x3,Ju.imp λ_ _ h=>ExR.more (λb hb=>?_) (ExR.keep (NO.same λb hb=>⟨hb.2,λe=>?_⟩) h)⟩ (ExRow.imp (K2.same λb hb=>⟨hb.2.1,λe=>?_⟩) (λb hb=>⟨hb.1,by have:=hb.2.1;omega,Rw b (by have:=hb.2.1;omega) hb.2.2⟩) NM),?_,?_⟩
 ·have h1:=hb.1;have h2:=hb.2;refine⟨by omega,by omega,Rw b h2 λe=>?_⟩;have:=(Hl _ e).2;omega
 ·have h1:=hb.1;have:=(Hl _ e).2;omega
 ·rcases e with e|e
  ·have:=hb.1;omega
  ·exact hb.2.2 e
 ·refine hp.fr NO (λe=>?_) (λe=>?_) (λi hi e=>?_)
  ·have:=(Hl _ e).1;omega
  ·have:=(Hl _ e).1;omega
  ·have:=(Hl _ e).1;omega
 ·have h:=(hF.mono (T':=λb=>b=C.P\/v.ownBlock=some b) λi _ h=>Or.inl h).trans K2;refine h.mono λi hi e=>?_;rcases e with e|e
  ·exact e
  ·have:=(Hl _ e).1;omega
theorem zke (C:Pcx)(one:List Tk->PR Ex)(s:List UInt8)(no:Bool)(g:Nat)(fst cap:Array Value)(l:List Tk)(d:Nat)(w:World)(hk:C.Ok)(h:PaAt C w l d)(Jm:Shr one)(hs:s≠ [])
  (hent:Enters Tryz.prog g) (GM:∀W,Fr C.T w W->∀l',PaAt C W l' d->Calls Tryz.prog g (fst++cap) W (ExP C d (one l') W)):
  Calls Tryz.prog 302 #[.pointer (some ⟨C.P,0,none⟩),.string ⟨s.toArray⟩,.bool no,.func (.func g) fst cap] w (EndV C d ExlV (zaR one s no l) w):=by
 obtain⟨i0,hi,Jb,Hy,FR⟩:=info_parts zmT;obtain⟨R,hR⟩:=nmq (zaR one s no l);rw[<-hR];have hL:=h.lts;have FB:l.length<=5000:=by
  obtain⟨j,q,e,_⟩:=h.at_;have:=hk.few;rw[e,List.length_drop];omega
 have JF:=hdq GM;have HK:=hdq hk;have HL:=hdq hL;have HS:=hdq hs;unfold Enters at hent;have P8:=za0 C s l d w hk h hs;have HM:=hdq P8;have key:∀(v:Value)(wr:World)(acc:List Ex)(cs:List Value)(r:List Tk),no=no:=λ_ _ _ _ _=>rfl;by_cases hn:no=true/\mayB s l=true
 ·obtain⟨rfl,hm⟩:=hn;have GA:R= .ok [] l.tail:=by rw[hR];unfold zaR;rw[hm];rfl
  have GB:=hdq GA;rw[hm]at HM;clear hR h GM hk hs hL P8 GA key hm FB;go_enter Tryz.func302,Tryz.ntmps302;go_wp2_with fail;refine HM.mono ?_;rintro _ w1 ⟨rfl,hp,hf⟩;have HP:=hdq hp;have HF:=hdq hf;clear hp hf;go_wp2_with fail;go_ret;rw[GB.out];exact⟨_,rfl,⟨none,0,rfl,lrq 0,sl0,λh=>absurd h (Nat.lt_irrefl 0)⟩,HP.out,HF.out⟩
 ·have GA:R=zaF one s l.length [] l:=by
   rw[hR];unfold zaR;cases no
   ·rfl
   ·rw[if_neg (by intro h;exact hn ⟨rfl,by simpa using h⟩)]
  have N6:=hdq GA;have Jt:no=true->mayB s l=false:=λe=>by
   cases hm:mayB s l
   ·rfl
   ·exact absurd ⟨e,hm⟩ hn
  have P9:=hdq Jt;have H:=hdq h;have HI:=hdq (aiq hi (aiq Jb (aiq Hy FR)));clear hR GM hk hs hL P8 GA key hn Jt h;cases no
  ·have Ms:=hdq H.out;have Hs:=hdq (Fr.refl C.T w);clear HM P9;go_enter Tryz.func302,Tryz.ntmps302;go_wp2_with fail;go_loopw [8] (λv wr=>∃(acc:List Ex)(cs:List Value)(r:List Tk),Hid (SomeX C w d R one s v wr acc cs r)) (λ_ wr=>lenP C wr);case atStart=>exact⟨[], [],l,hdq ⟨⟨_,N6.out,lrq _⟩,World.ownsRow_nil _ _ _ _,rfl,by simpa using FB,Ms.out,Hs.out⟩⟩
   case round=>
    obtain⟨acc,cs,r,hx⟩:=hrel;have HQ:=hdq (JF _ hx.fr r hx.pa);go_wp2_with fail;try simp only[Array.append_empty]
    refine HQ.mono ?_;intro e w7 hE;obtain⟨f,Gp,GU⟩:=hx.eq;have FO:0 < r.length:=List.length_pos_iff.2 hx.pa.ne;obtain⟨f,rfl⟩:∃f',f=f'+1:=⟨f - 1,by omega⟩;unfold zaF at Gp;rcases hE.ways with⟨x,r2,A,c,ho,rfl,hv,hp,hf⟩|⟨c,a,ho,rfl,hf⟩;rotate_left
    ·go_wp2_with fail;exact⟨rfl,by rw[Gp,ho];exact⟨rfl,hx.fr.trans hf⟩⟩
    rw[ho]at Gp;have Gp:R=if mayB [44] r2 then zaF one s f (acc++ [x]) r2.tail else(zal s r2).then λ_ r=> .ok (acc++ [x]) r:=Gp
    have Jo:=hdq Gp;have Qa:=hdq (Jm _ _ _ ho);have KJ:=hdq GU;have Qb:=hdq (zah hx.row hf HL.1);have M7:=hdq hv;have KQ:=hdq hp;have GV:=hdq hf;have GX:(acc.length+1)*64<=140737488355328:=by have:=hx.few;omega
    have NF:w.heap.size<=w7.heap.size:=leq9 hx.fr.size hf.size;clear Gp ho hv hp hf GU FO;go_wp2_with (at_builtin;refine zau _ rfl _ _ 48 rfl w.heap.size 175 i0 (.agg #[.int .u8 0,.string ⟨#[]⟩,.int .i64 0,.slice none 0 0,.int .i64 0]) 5 64 Tryz.underlying48 HI.1 HI.2.1 HI.2.2.1 HI.2.2.2 rfl (by decide) _ _ _ rfl (Qb.alloc _) ⟨w7.heap.size,0,none⟩ 1 1 (exC x A c) rfl rfl ?c1 ?c2 (by decide) ?c3 ?c4 ?c5 ?_);case c1=>
     intro j u hj
     match j,hj with
     |0,hj=>simp[exC]at hj;subst hj;simp[Addr.add]
     |1,hj=>simp[exC]at hj;subst hj;simp[Addr.add]
     |2,hj=>simp[exC]at hj;subst hj;simp[Addr.add]
     |3,hj=>simp[exC]at hj;subst hj;simp[Addr.add]
     |4,hj=>simp[exC]at hj;subst hj;simp[Addr.add]
    case c2=>
     intro u hu;simp only[exC,List.mem_cons,List.not_mem_nil,or_false]at hu;rcases hu with rfl|rfl|rfl|rfl|rfl<;>rfl
    case c3=>unfold maxLen;omega
    case c4=>exact GX
    case c5=>simp;omega
    intro v' w9 Hb Hd F3;obtain⟨K3,Kp,Gk⟩:=zeS HL.out hx.row hx.rows hx.fr M7.out KQ.out GV.out Hb Hd F3;have Qc:=hdq Hb;have No:=hdq K3;have KV:=hdq Gk;have MG:=hdq (za0 C [44] r2 d w9 HK.out Kp (by decide));clear Hb Hd F3 K3 Kp Gk GX;go_wp2_with fail;refine MG.mono ?_;rintro _ w10 ⟨rfl,Hi,Gf⟩;have Jy:=hdq (zah Qc.out Gf HL.1);have Qd:=hdq (ExRow.imp (S':=NewR w.heap.size v' w10) (Gf.same λb hb=>⟨hb.2.1,λe=>by have e:b=C.P:=e;have:=hb.1;have:=HL.1;omega⟩) (λb hb=>⟨hb.1,by have:=hb.2.1;have:=Gf.size;omega,hb.2.2⟩) No.out);have GQ:=hdq (KV.trans Gf);have Fw:=hdq Hi;clear Hi Gf;cases hm:mayB [44] r2
    ·have Hi:=Fw.out;rw[hm]at Hi;have Hi:PaAt C w10 r2 d:=Hi;have HT:=hdq (zas C s r2 d w10.heap.size _ HK.out (Hi.alloc (.cells #[.string ⟨s.toArray⟩] 9)) HS.out (by simp));have GE:R=(zal s r2).then λ_ r=> .ok (acc++ [x]) r:=by rw[Jo.out,hm];rfl
     have G8:=hdq GE;clear Hi hm GE;go_wp2_with fail;refine HT.mono ?_;intro e w11 hE;rcases hE with⟨ht,rfl,hp,hf⟩|⟨ht,rfl,hf⟩;rotate_left
     ·go_wp2_with fail;exact⟨rfl,by rw[G8.out,ht];exact⟨rfl,(GQ.alloc _).trans hf⟩⟩
     have K4:=((Fr.refl C.T w10).alloc (.cells #[.string ⟨s.toArray⟩] 9)).trans hf;have Kq:=hdq ht;have K5:=hdq hp;have Kc:=hdq K4;clear ht hp hf K4;go_wp2_with fail;go_ret;rw[G8.out,Kq.out];refine⟨_,rfl,zeg (S:=NewR w.heap.size v' w10) (by simpa using zah Jy.out Kc.out HL.1) (ExRow.imp (Kc.same λb hb=>⟨hb.2.1,λe=>by have e:b=C.P:=e;have:=hb.1;have:=HL.1;omega⟩) (λb hb=>hb) Qd.out) (λb hb=>⟨hb.1,by have:=hb.2.1;have:=Kc.size;omega⟩) ?_,K5.out,GQ.trans Kc.out⟩;have:=hx.few;simp;omega
    ·have Hi:=Fw.out;rw[hm]at Hi;have Hi:PaAt C w10 r2.tail d:=Hi;have GE:R=zaF one s f (acc++ [x]) r2.tail:=by rw[Jo.out,hm];rfl
     have Fu:r2.tail.length < r.length:=by
      have h1:=Qa.out;have h2:=List.length_pos_iff.2 KQ.ne;rw[List.length_tail];omega
     have J0:SomeX C w d R one s v' w10 (acc++ [x]) (cs++exC x A c) r2.tail:=⟨⟨f,GE,by have:=KJ.out;omega⟩,by simpa using Jy.out,Qd.out,by have:=hx.few;simp only[List.length_append,List.length_cons,List.length_nil];omega,Hi,GQ.out⟩;have Qe:=hdq J0;have L8:=hdq (show lenP C w10 < lenP C wr from by rw[J0.pa.lenP,hx.pa.lenP];exact Fu);clear Hi hm GE Fu J0;go_wp2_with fail;go_roundw;case rel=>exact⟨_,_,_,Qe⟩
     case measure=>exact L8.out
  ·have LS:=P9 rfl;rw[LS]at HM;clear LS P9;go_enter Tryz.func302,Tryz.ntmps302;go_wp2_with fail;refine HM.mono ?_;rintro _ w1 ⟨rfl,hp,hf⟩;have Ms:=hdq hp;have Hs:=hdq hf;clear hp hf;go_wp2_with fail;go_loopw [8] (λv wr=>∃(acc:List Ex)(cs:List Value)(r:List Tk),Hid (SomeX C w d R one s v wr acc cs r)) (λ_ wr=>lenP C wr);case atStart=>exact⟨[], [],l,hdq ⟨⟨_,N6.out,lrq _⟩,World.ownsRow_nil _ _ _ _,rfl,by simpa using FB,Ms.out,Hs.out⟩⟩
   case round=>
    obtain⟨acc,cs,r,hx⟩:=hrel;have HQ:=hdq (JF _ hx.fr r hx.pa);go_wp2_with fail;try simp only[Array.append_empty]
    refine HQ.mono ?_;intro e w7 hE;obtain⟨f,Gp,GU⟩:=hx.eq;have FO:0 < r.length:=List.length_pos_iff.2 hx.pa.ne;obtain⟨f,rfl⟩:∃f',f=f'+1:=⟨f - 1,by omega⟩;unfold zaF at Gp;rcases hE.ways with⟨x,r2,A,c,ho,rfl,hv,hp,hf⟩|⟨c,a,ho,rfl,hf⟩;rotate_left
    ·go_wp2_with fail;exact⟨rfl,by rw[Gp,ho];exact⟨rfl,hx.fr.trans hf⟩⟩
    rw[ho]at Gp;have Gp:R=if mayB [44] r2 then zaF one s f (acc++ [x]) r2.tail else(zal s r2).then λ_ r=> .ok (acc++ [x]) r:=Gp
    have Jo:=hdq Gp;have Qa:=hdq (Jm _ _ _ ho);have KJ:=hdq GU;have Qb:=hdq (zah hx.row hf HL.1);have M7:=hdq hv;have KQ:=hdq hp;have GV:=hdq hf;have GX:(acc.length+1)*64<=140737488355328:=by have:=hx.few;omega
    have NF:w.heap.size<=w7.heap.size:=leq9 hx.fr.size hf.size;clear Gp ho hv hp hf GU FO;go_wp2_with (at_builtin;refine zau _ rfl _ _ 48 rfl w.heap.size 175 i0 (.agg #[.int .u8 0,.string ⟨#[]⟩,.int .i64 0,.slice none 0 0,.int .i64 0]) 5 64 Tryz.underlying48 HI.1 HI.2.1 HI.2.2.1 HI.2.2.2 rfl (by decide) _ _ _ rfl (Qb.alloc _) ⟨w7.heap.size,0,none⟩ 1 1 (exC x A c) rfl rfl ?c1 ?c2 (by decide) ?c3 ?c4 ?c5 ?_);case c1=>
     intro j u hj
     match j,hj with
     |0,hj=>simp[exC]at hj;subst hj;simp[Addr.add]
     |1,hj=>simp[exC]at hj;subst hj;simp[Addr.add]
     |2,hj=>simp[exC]at hj;subst hj;simp[Addr.add]
     |3,hj=>simp[exC]at hj;subst hj;simp[Addr.add]
     |4,hj=>simp[exC]at hj;subst hj;simp[Addr.add]
    case c2=>
     intro u hu;simp only[exC,List.mem_cons,List.not_mem_nil,or_false]at hu;rcases hu with rfl|rfl|rfl|rfl|rfl<;>rfl
    case c3=>unfold maxLen;omega
    case c4=>exact GX
    case c5=>simp;omega
    intro v' w9 Hb Hd F3;obtain⟨K3,Kp,Gk⟩:=zeS HL.out hx.row hx.rows hx.fr M7.out KQ.out GV.out Hb Hd F3;have Qc:=hdq Hb;have No:=hdq K3;have KV:=hdq Gk;have MG:=hdq (za0 C [44] r2 d w9 HK.out Kp (by decide));clear Hb Hd F3 K3 Kp Gk GX;go_wp2_with fail;refine MG.mono ?_;rintro _ w10 ⟨rfl,Hi,Gf⟩;have Jy:=hdq (zah Qc.out Gf HL.1);have Qd:=hdq (ExRow.imp (S':=NewR w.heap.size v' w10) (Gf.same λb hb=>⟨hb.2.1,λe=>by have e:b=C.P:=e;have:=hb.1;have:=HL.1;omega⟩) (λb hb=>⟨hb.1,by have:=hb.2.1;have:=Gf.size;omega,hb.2.2⟩) No.out);have GQ:=hdq (KV.trans Gf);have Fw:=hdq Hi;clear Hi Gf;cases hm:mayB [44] r2
    ·have Hi:=Fw.out;rw[hm]at Hi;have Hi:PaAt C w10 r2 d:=Hi;have HT:=hdq (zas C s r2 d w10.heap.size _ HK.out (Hi.alloc (.cells #[.string ⟨s.toArray⟩] 9)) HS.out (by simp));have GE:R=(zal s r2).then λ_ r=> .ok (acc++ [x]) r:=by rw[Jo.out,hm];rfl
     have G8:=hdq GE;clear Hi hm GE;go_wp2_with fail;refine HT.mono ?_;intro e w11 hE;rcases hE with⟨ht,rfl,hp,hf⟩|⟨ht,rfl,hf⟩;rotate_left
     ·go_wp2_with fail;exact⟨rfl,by rw[G8.out,ht];exact⟨rfl,(GQ.alloc _).trans hf⟩⟩
     have K4:=((Fr.refl C.T w10).alloc (.cells #[.string ⟨s.toArray⟩] 9)).trans hf;have Kq:=hdq ht;have K5:=hdq hp;have Kc:=hdq K4;clear ht hp hf K4;go_wp2_with fail;go_ret;rw[G8.out,Kq.out];refine⟨_,rfl,zeg (S:=NewR w.heap.size v' w10) (by simpa using zah Jy.out Kc.out HL.1) (ExRow.imp (Kc.same λb hb=>⟨hb.2.1,λe=>by have e:b=C.P:=e;have:=hb.1;have:=HL.1;omega⟩) (λb hb=>hb) Qd.out) (λb hb=>⟨hb.1,by have:=hb.2.1;have:=Kc.size;omega⟩) ?_,K5.out,GQ.trans Kc.out⟩;have:=hx.few;simp;omega
    ·have Hi:=Fw.out;rw[hm]at Hi;have Hi:PaAt C w10 r2.tail d:=Hi;have GE:R=zaF one s f (acc++ [x]) r2.tail:=by rw[Jo.out,hm];rfl
     have Fu:r2.tail.length < r.length:=by
      have h1:=Qa.out;have h2:=List.length_pos_iff.2 KQ.ne;rw[List.length_tail];omega
     have J0:SomeX C w d R one s v' w10 (acc++ [x]) (cs++exC x A c) r2.tail:=⟨⟨f,GE,by have:=KJ.out;omega⟩,by simpa using Jy.out,Qd.out,by have:=hx.few;simp only[List.length_append,List.length_cons,List.length_nil];omega,Hi,GQ.out⟩;have Qe:=hdq J0;have L8:=hdq (show lenP C w10 < lenP C wr from by rw[J0.pa.lenP,hx.pa.lenP];exact Fu);clear Hi hm GE Fu J0;go_wp2_with fail;go_roundw;case rel=>exact⟨_,_,_,Qe⟩
     case measure=>exact L8.out
/-! Va -/
def cCVa (x:Va):List Value:= [.string x.nm,.int .i64 x.at_]
def zeh (x:Va):Prop:=in64 x.at_
def cVVa (x:Va):Value:= .agg #[.string x.nm,.int .i64 x.at_]
def cPVa (C:Pcx)(d:Nat)(r:PR Va)(W:World)(e:Ending)(w':World):Prop:=
 match r with
 | .err c a=>e=zae c a/\Fr C.T W w'
 | .ok x l=>e= .returned (cVVa x)/\zeh x/\PaAt C w' l d/\Fr C.T W w'
theorem cPVa.ways {C:Pcx}{d:Nat}{r:PR Va}{W w':World}{e:Ending}(h:cPVa C d r W e w'):
  (∃(x:Va)(l:List Tk),r= .ok x l/\e= .returned (.agg #[.string x.nm,.int .i64 x.at_])/\zeh x/\PaAt C w' l d/\Fr C.T W w')\/
   ∃c a,r= .err c a/\e= .panicked [{v:= .iface 161 (.agg #[.int .i64 c,.int .i64 a]),recovered:=false}]/\Fr C.T W w':=by
 unfold cPVa at h;cases r with
 |err c a=>exact .inr ⟨c,a,rfl,h⟩
 |ok x l=>exact .inl ⟨x,l,rfl,h.1,h.2⟩
def znH (w:World)(L:Nat)(v:Value)(xs:List Va):Prop:=∃A c,v= .slice A xs.length c/\SlR (VaR w (New L w) False xs) xs.length 24 A c
theorem cRVa {w:World}{S:Nat->Prop}{g:Nat}(hg:S g):∀ {xs:List Va} {o:Nat},(∀x∈xs,zeh x)->(∀j u,(xs.flatMap cCVa)[j]?=some u->w.cell? ⟨g,o+j,none⟩=some u)->VaR w S False xs g o
 | [],_,_,_=>trivial
 |x::xs,o,h,hc=>by
  refine⟨⟨hg,λh=>absurd h id,h x (by simp),hc 0 _ rfl,hc 1 _ rfl⟩,cRVa hg (λy hy=>h y (by simp[hy])) λj u hj=>?_⟩;have:=hc (2+j) u (by rw[List.flatMap_cons,List.getElem?_append_right (by simp[cCVa])];simpa[cCVa]using hj);rw[Nat.add_assoc];exact this
structure SomeVa (C:Pcx)(w:World)(d:Nat)(R:PR (List Va))(one:List Tk->PR Va)(s:List UInt8)(v:Value)(wr:World)(acc:List Va)(l:List Tk):Prop where
 eq:∃f,R=zaF one s f acc l/\l.length<=f
 row:wr.ownsRow w.heap.size 77 2 v acc.length (acc.flatMap cCVa)
 ok:∀x∈acc,zeh x
 few:acc.length+l.length<=5000
 pa:PaAt C wr l d
 fr:Fr C.T w wr
theorem zdd {L:Nat}{w:World}{v:Value}{acc:List Va}(hr:w.ownsRow L 77 2 v acc.length (acc.flatMap cCVa))(hx:∀x∈acc,zeh x)(hf:acc.length<=5001):znH w L v acc:=by
 rcases hr.2 with⟨rfl,h0⟩|⟨g,cap,cur,rfl,hb,hg,hn,hc,Jk,ht⟩
 ·exact⟨none,0,by rw[h0],by rw[h0];exact⟨lrq _,⟨by decide,by decide⟩,λh=>absurd h (Nat.lt_irrefl 0)⟩⟩
 ·have hl:g < w.heap.size:=(Array.getElem?_eq_some_iff.1 hg).1;have Nj:cap<=9223372036854775807:=by unfold maxLen at hc;omega
  suffices GC:VaR w (New L w) False acc g 0 by
   exact⟨some ⟨g,0,none⟩,cap,rfl,⟨hn,⟨Nj,by omega⟩,λ_=>⟨g,0,rfl,GC⟩⟩⟩
  refine cRVa ⟨hb,hl⟩ hx λj u hj=>?_;have:=hr.cells (g:=g) rfl j u hj;have L7:(⟨g,0,none⟩:Addr).add j=⟨g,0+j,none⟩:=by
   rw[Nat.zero_add];unfold Addr.add;split<;>simp_all
  rw[L7]at this;exact this
theorem zmW {C:Pcx}{w wr w7 w9:World}{v:Value}{acc:List Va}{r2:List Tk}{d:Nat}{cell:Array Value}
  (hL:C.P < w.heap.size/\C.TB < w.heap.size/\C.W0.heap.size<=w.heap.size) (Hz:wr.ownsRow w.heap.size 77 2 v acc.length (acc.flatMap cCVa)) (hF:Fr C.T w wr)
  (hp:PaAt C w7 r2 d) (hf:Fr C.T wr w7) (hg:(w7.alloc (.cells cell 77)).grownBy w9 v.ownBlock):PaAt C w9 r2 d/\Fr C.T w w9:=by
 have Hl:=Hz.lt;have UA:=hF.size;have Rv:=hf.size;have NO:Fr (λb=>v.ownBlock=some b) w7 w9:=((Fr.refl _ _).alloc _).trans (Fr.grown hg λg e _=>e);have K2:Fr (λb=>b=C.P\/v.ownBlock=some b) wr w9:=(hf.mono λi _ h=>Or.inl h).trans (NO.mono λi _ h=>Or.inr h);refine⟨hp.fr NO (λe=>?_) (λe=>?_) (λi hi e=>?_),?_⟩
 ·have:=(Hl _ e).1;omega
 ·have:=(Hl _ e).1;omega
 ·have:=(Hl _ e).1;omega
 ·have h:=(hF.mono (T':=λb=>b=C.P\/v.ownBlock=some b) λi _ h=>Or.inl h).trans K2;refine h.mono λi hi e=>?_;rcases e with e|e
  ·exact e
  ·have:=(Hl _ e).1;omega
theorem zeT (C:Pcx)(one:List Tk->PR Va)(s:List UInt8)(no:Bool)(g:Nat)(fst cap:Array Value)(l:List Tk)(d:Nat)(w:World)(hk:C.Ok)(h:PaAt C w l d)(Jm:Shr one)(hs:s≠ [])
  (hent:Enters Tryz.prog g) (GM:∀W,Fr C.T w W->∀l',PaAt C W l' d->Calls Tryz.prog g (fst++cap) W (cPVa C d (one l') W)):
  Calls Tryz.prog 130 #[.pointer (some ⟨C.P,0,none⟩),.string ⟨s.toArray⟩,.bool no,.func (.func g) fst cap] w (EndV C d znH (zaR one s no l) w):=by
 obtain⟨i0,hi,Jb,Hy,FR⟩:=info_parts zmU;obtain⟨R,hR⟩:=nmq (zaR one s no l);rw[<-hR];have hL:=h.lts;have FB:l.length<=5000:=by
  obtain⟨j,q,e,_⟩:=h.at_;have:=hk.few;rw[e,List.length_drop];omega
 have JF:=hdq GM;have HK:=hdq hk;have HL:=hdq hL;have HS:=hdq hs;unfold Enters at hent;have P8:=za0 C s l d w hk h hs;have HM:=hdq P8;have key:∀(v:Value)(wr:World)(acc:List Ex)(cs:List Value)(r:List Tk),no=no:=λ_ _ _ _ _=>rfl;by_cases hn:no=true/\mayB s l=true
 ·obtain⟨rfl,hm⟩:=hn;have GA:R= .ok [] l.tail:=by rw[hR];unfold zaR;rw[hm];rfl
  have GB:=hdq GA;rw[hm]at HM;clear hR h GM hk hs hL P8 GA key hm FB;go_enter Tryz.func130,Tryz.ntmps130;go_wp2_with fail;refine HM.mono ?_;rintro _ w1 ⟨rfl,hp,hf⟩;have HP:=hdq hp;have HF:=hdq hf;clear hp hf;go_wp2_with fail;go_ret;rw[GB.out];exact⟨_,rfl,⟨none,0,rfl,lrq 0,⟨by decide,by decide⟩,λh=>absurd h (Nat.lt_irrefl 0)⟩,HP.out,HF.out⟩
 ·have GA:R=zaF one s l.length [] l:=by
   rw[hR];unfold zaR;cases no
   ·rfl
   ·rw[if_neg (by intro h;exact hn ⟨rfl,by simpa using h⟩)]
  have N6:=hdq GA;have Jt:no=true->mayB s l=false:=λe=>by
   cases hm:mayB s l
   ·rfl
   ·exact absurd ⟨e,hm⟩ hn
  have P9:=hdq Jt;have H:=hdq h;have HI:=hdq (aiq hi (aiq Jb (aiq Hy FR)));clear hR GM hk hs hL P8 GA key hn Jt h;cases no
  ·have Ms:=hdq H.out;have Hs:=hdq (Fr.refl C.T w);clear HM P9;go_enter Tryz.func130,Tryz.ntmps130;go_wp2_with fail;go_loopw [8] (λv wr=>∃(acc:List Va)(r:List Tk),Hid (SomeVa C w d R one s v wr acc r)) (λ_ wr=>lenP C wr);case atStart=>exact⟨[],l,hdq ⟨⟨_,N6.out,lrq _⟩,World.ownsRow_nil _ _ _ _,λx hx=>by simp at hx,by simpa using FB,Ms.out,Hs.out⟩⟩
   case round=>
    obtain⟨acc,r,hx⟩:=hrel;have HQ:=hdq (JF _ hx.fr r hx.pa);go_wp2_with fail;try simp only[Array.append_empty]
    refine HQ.mono ?_;intro e w7 hE;obtain⟨f,Gp,GU⟩:=hx.eq;have FO:0 < r.length:=List.length_pos_iff.2 hx.pa.ne;obtain⟨f,rfl⟩:∃f',f=f'+1:=⟨f - 1,by omega⟩;unfold zaF at Gp;rcases hE.ways with⟨x,r2,ho,rfl,hv,hp,hf⟩|⟨c,a,ho,rfl,hf⟩;rotate_left
    ·go_wp2_with fail;exact⟨rfl,by rw[Gp,ho];exact⟨rfl,hx.fr.trans hf⟩⟩
    rw[ho]at Gp;have Gp:R=if mayB [44] r2 then zaF one s f (acc++ [x]) r2.tail else(zal s r2).then λ_ r=> .ok (acc++ [x]) r:=Gp
    have Jo:=hdq Gp;have Qa:=hdq (Jm _ _ _ ho);have KJ:=hdq GU;have Qb:=hdq (zah hx.row hf HL.1);have M7:=hdq hv;have KQ:=hdq hp;have GV:=hdq hf;have GX:(acc.length+1)*24<=140737488355328:=by have:=hx.few;omega
    have NF:w.heap.size<=w7.heap.size:=leq9 hx.fr.size hf.size;clear Gp ho hv hp hf GU FO;go_wp2_with (at_builtin;refine zau _ rfl _ _ 22 rfl w.heap.size 77 i0 (.agg #[.string ⟨#[]⟩,.int .i64 0]) 2 24 Tryz.underlying22 HI.1 HI.2.1 HI.2.2.1 HI.2.2.2 rfl (by decide) _ _ _ rfl (Qb.alloc _) ⟨w7.heap.size,0,none⟩ 1 1 (cCVa x) rfl rfl ?c1 ?c2 (by decide) ?c3 ?c4 ?c5 ?_);case c1=>
     intro j u hj
     match j,hj with
     |0,hj=>simp[cCVa]at hj;subst hj;simp[Addr.add]
     |1,hj=>simp[cCVa]at hj;subst hj;simp[Addr.add]
    case c2=>
     intro u hu;simp only[cCVa,List.mem_cons,List.not_mem_nil,or_false]at hu;rcases hu with rfl|rfl<;>rfl
    case c3=>unfold maxLen;omega
    case c4=>exact GX
    case c5=>simp;omega
    intro v' w9 Hb Hd F3;obtain⟨Kp,Gk⟩:=zmW HL.out hx.row hx.fr KQ.out GV.out Hd;have K6:∀y∈acc++ [x],zeh y:=λy hy=>by
     rcases List.mem_append.1 hy with h|h
     ·exact hx.ok y h
     ·rw[List.mem_singleton.1 h];exact M7.out
    have Qc:=hdq (show w9.ownsRow w.heap.size 77 2 v' (acc++ [x]).length ((acc++ [x]).flatMap cCVa)from by
     rw[List.flatMap_append,List.length_append,List.flatMap_cons,List.flatMap_nil,List.append_nil];exact Hb)
    have No:=hdq K6;have KV:=hdq Gk;have MG:=hdq (za0 C [44] r2 d w9 HK.out Kp (by decide));clear Hb Hd F3 K6 Kp Gk GX;go_wp2_with fail;refine MG.mono ?_;rintro _ w10 ⟨rfl,Hi,Gf⟩;have Jy:=hdq (zah Qc.out Gf HL.1);have GQ:=hdq (KV.trans Gf);have Fw:=hdq Hi;clear Hi Gf;cases hm:mayB [44] r2
    ·have Hi:=Fw.out;rw[hm]at Hi;have Hi:PaAt C w10 r2 d:=Hi;have HT:=hdq (zas C s r2 d w10.heap.size _ HK.out (Hi.alloc (.cells #[.string ⟨s.toArray⟩] 9)) HS.out (by simp));have GE:R=(zal s r2).then λ_ r=> .ok (acc++ [x]) r:=by rw[Jo.out,hm];rfl
     have G8:=hdq GE;clear Hi hm GE;go_wp2_with fail;refine HT.mono ?_;intro e w11 hE;rcases hE with⟨ht,rfl,hp,hf⟩|⟨ht,rfl,hf⟩;rotate_left
     ·go_wp2_with fail;exact⟨rfl,by rw[G8.out,ht];exact⟨rfl,(GQ.alloc _).trans hf⟩⟩
     have K4:=((Fr.refl C.T w10).alloc (.cells #[.string ⟨s.toArray⟩] 9)).trans hf;have Kq:=hdq ht;have K5:=hdq hp;have Kc:=hdq K4;clear ht hp hf K4;go_wp2_with fail;go_ret;rw[G8.out,Kq.out];refine⟨_,rfl,zdd (zah Jy.out Kc.out HL.1) No.out ?_,K5.out,GQ.trans Kc.out⟩;have:=hx.few;simp;omega
    ·have Hi:=Fw.out;rw[hm]at Hi;have Hi:PaAt C w10 r2.tail d:=Hi;have GE:R=zaF one s f (acc++ [x]) r2.tail:=by rw[Jo.out,hm];rfl
     have Fu:r2.tail.length < r.length:=by
      have h1:=Qa.out;have h2:=List.length_pos_iff.2 KQ.ne;rw[List.length_tail];omega
     have J0:SomeVa C w d R one s v' w10 (acc++ [x]) r2.tail:=⟨⟨f,GE,by have:=KJ.out;omega⟩,Jy.out,No.out,by have:=hx.few;simp only[List.length_append,List.length_cons,List.length_nil];omega,Hi,GQ.out⟩;have Qe:=hdq J0;have L8:=hdq (show lenP C w10 < lenP C wr from by rw[J0.pa.lenP,hx.pa.lenP];exact Fu);clear Hi hm GE Fu J0;go_wp2_with fail;go_roundw;case rel=>exact⟨_,_,Qe⟩
     case measure=>exact L8.out
  ·have LS:=P9 rfl;rw[LS]at HM;clear LS P9;go_enter Tryz.func130,Tryz.ntmps130;go_wp2_with fail;refine HM.mono ?_;rintro _ w1 ⟨rfl,hp,hf⟩;have Ms:=hdq hp;have Hs:=hdq hf;clear hp hf;go_wp2_with fail;go_loopw [8] (λv wr=>∃(acc:List Va)(r:List Tk),Hid (SomeVa C w d R one s v wr acc r)) (λ_ wr=>lenP C wr);case atStart=>exact⟨[],l,hdq ⟨⟨_,N6.out,lrq _⟩,World.ownsRow_nil _ _ _ _,λx hx=>by simp at hx,by simpa using FB,Ms.out,Hs.out⟩⟩
   case round=>
    obtain⟨acc,r,hx⟩:=hrel;have HQ:=hdq (JF _ hx.fr r hx.pa);go_wp2_with fail;try simp only[Array.append_empty]
    refine HQ.mono ?_;intro e w7 hE;obtain⟨f,Gp,GU⟩:=hx.eq;have FO:0 < r.length:=List.length_pos_iff.2 hx.pa.ne;obtain⟨f,rfl⟩:∃f',f=f'+1:=⟨f - 1,by omega⟩;unfold zaF at Gp;rcases hE.ways with⟨x,r2,ho,rfl,hv,hp,hf⟩|⟨c,a,ho,rfl,hf⟩;rotate_left
    ·go_wp2_with fail;exact⟨rfl,by rw[Gp,ho];exact⟨rfl,hx.fr.trans hf⟩⟩
    rw[ho]at Gp;have Gp:R=if mayB [44] r2 then zaF one s f (acc++ [x]) r2.tail else(zal s r2).then λ_ r=> .ok (acc++ [x]) r:=Gp
    have Jo:=hdq Gp;have Qa:=hdq (Jm _ _ _ ho);have KJ:=hdq GU;have Qb:=hdq (zah hx.row hf HL.1);have M7:=hdq hv;have KQ:=hdq hp;have GV:=hdq hf;have GX:(acc.length+1)*24<=140737488355328:=by have:=hx.few;omega
    have NF:w.heap.size<=w7.heap.size:=leq9 hx.fr.size hf.size;clear Gp ho hv hp hf GU FO;go_wp2_with (at_builtin;refine zau _ rfl _ _ 22 rfl w.heap.size 77 i0 (.agg #[.string ⟨#[]⟩,.int .i64 0]) 2 24 Tryz.underlying22 HI.1 HI.2.1 HI.2.2.1 HI.2.2.2 rfl (by decide) _ _ _ rfl (Qb.alloc _) ⟨w7.heap.size,0,none⟩ 1 1 (cCVa x) rfl rfl ?c1 ?c2 (by decide) ?c3 ?c4 ?c5 ?_);case c1=>
     intro j u hj
     match j,hj with
     |0,hj=>simp[cCVa]at hj;subst hj;simp[Addr.add]
     |1,hj=>simp[cCVa]at hj;subst hj;simp[Addr.add]
    case c2=>
     intro u hu;simp only[cCVa,List.mem_cons,List.not_mem_nil,or_false]at hu;rcases hu with rfl|rfl<;>rfl
    case c3=>unfold maxLen;omega
    case c4=>exact GX
    case c5=>simp;omega
    intro v' w9 Hb Hd F3;obtain⟨Kp,Gk⟩:=zmW HL.out hx.row hx.fr KQ.out GV.out Hd;have K6:∀y∈acc++ [x],zeh y:=λy hy=>by
     rcases List.mem_append.1 hy with h|h
     ·exact hx.ok y h
     ·rw[List.mem_singleton.1 h];exact M7.out
    have Qc:=hdq (show w9.ownsRow w.heap.size 77 2 v' (acc++ [x]).length ((acc++ [x]).flatMap cCVa)from by
     rw[List.flatMap_append,List.length_append,List.flatMap_cons,List.flatMap_nil,List.append_nil];exact Hb)
    have No:=hdq K6;have KV:=hdq Gk;have MG:=hdq (za0 C [44] r2 d w9 HK.out Kp (by decide));clear Hb Hd F3 K6 Kp Gk GX;go_wp2_with fail;refine MG.mono ?_;rintro _ w10 ⟨rfl,Hi,Gf⟩;have Jy:=hdq (zah Qc.out Gf HL.1);have GQ:=hdq (KV.trans Gf);have Fw:=hdq Hi;clear Hi Gf;cases hm:mayB [44] r2
    ·have Hi:=Fw.out;rw[hm]at Hi;have Hi:PaAt C w10 r2 d:=Hi;have HT:=hdq (zas C s r2 d w10.heap.size _ HK.out (Hi.alloc (.cells #[.string ⟨s.toArray⟩] 9)) HS.out (by simp));have GE:R=(zal s r2).then λ_ r=> .ok (acc++ [x]) r:=by rw[Jo.out,hm];rfl
     have G8:=hdq GE;clear Hi hm GE;go_wp2_with fail;refine HT.mono ?_;intro e w11 hE;rcases hE with⟨ht,rfl,hp,hf⟩|⟨ht,rfl,hf⟩;rotate_left
     ·go_wp2_with fail;exact⟨rfl,by rw[G8.out,ht];exact⟨rfl,(GQ.alloc _).trans hf⟩⟩
     have K4:=((Fr.refl C.T w10).alloc (.cells #[.string ⟨s.toArray⟩] 9)).trans hf;have Kq:=hdq ht;have K5:=hdq hp;have Kc:=hdq K4;clear ht hp hf K4;go_wp2_with fail;go_ret;rw[G8.out,Kq.out];refine⟨_,rfl,zdd (zah Jy.out Kc.out HL.1) No.out ?_,K5.out,GQ.trans Kc.out⟩;have:=hx.few;simp;omega
    ·have Hi:=Fw.out;rw[hm]at Hi;have Hi:PaAt C w10 r2.tail d:=Hi;have GE:R=zaF one s f (acc++ [x]) r2.tail:=by rw[Jo.out,hm];rfl
     have Fu:r2.tail.length < r.length:=by
      have h1:=Qa.out;have h2:=List.length_pos_iff.2 KQ.ne;rw[List.length_tail];omega
     have J0:SomeVa C w d R one s v' w10 (acc++ [x]) r2.tail:=⟨⟨f,GE,by have:=KJ.out;omega⟩,Jy.out,No.out,by have:=hx.few;simp only[List.length_append,List.length_cons,List.length_nil];omega,Hi,GQ.out⟩;have Qe:=hdq J0;have L8:=hdq (show lenP C w10 < lenP C wr from by rw[J0.pa.lenP,hx.pa.lenP];exact Fu);clear Hi hm GE Fu J0;go_wp2_with fail;go_roundw;case rel=>exact⟨_,_,Qe⟩
     case measure=>exact L8.out
/-! Arr -/
def cCAr (x:Arr):List Value:= [.string x.nm,.int .i64 x.size,.int .i64 x.at_]
def zev (x:Arr):Prop:=in64 x.size/\in64 x.at_
def cVAr (x:Arr):Value:= .agg #[.string x.nm,.int .i64 x.size,.int .i64 x.at_]
def cPAr (C:Pcx)(d:Nat)(r:PR Arr)(W:World)(e:Ending)(w':World):Prop:=
 match r with
 | .err c a=>e=zae c a/\Fr C.T W w'
 | .ok x l=>e= .returned (cVAr x)/\zev x/\PaAt C w' l d/\Fr C.T W w'
theorem cPAr.ways {C:Pcx}{d:Nat}{r:PR Arr}{W w':World}{e:Ending}(h:cPAr C d r W e w'):
  (∃(x:Arr)(l:List Tk),r= .ok x l/\e= .returned (.agg #[.string x.nm,.int .i64 x.size,.int .i64 x.at_])/\zev x/\PaAt C w' l d/\Fr C.T W w')\/
   ∃c a,r= .err c a/\e= .panicked [{v:= .iface 161 (.agg #[.int .i64 c,.int .i64 a]),recovered:=false}]/\Fr C.T W w':=by
 unfold cPAr at h;cases r with
 |err c a=>exact .inr ⟨c,a,rfl,h⟩
 |ok x l=>exact .inl ⟨x,l,rfl,h.1,h.2⟩
def znI (w:World)(L:Nat)(v:Value)(xs:List Arr):Prop:=∃A c,v= .slice A xs.length c/\SlR (ArR w (New L w) False xs) xs.length 32 A c
theorem cRAr {w:World}{S:Nat->Prop}{g:Nat}(hg:S g):∀ {xs:List Arr} {o:Nat},(∀x∈xs,zev x)->(∀j u,(xs.flatMap cCAr)[j]?=some u->w.cell? ⟨g,o+j,none⟩=some u)->ArR w S False xs g o
 | [],_,_,_=>trivial
 |x::xs,o,h,hc=>by
  refine⟨⟨hg,λh=>absurd h id,(h x (by simp)).1,(h x (by simp)).2,hc 0 _ rfl,hc 1 _ rfl,hc 2 _ rfl⟩,cRAr hg (λy hy=>h y (by simp[hy])) λj u hj=>?_⟩;have:=hc (3+j) u (by rw[List.flatMap_cons,List.getElem?_append_right (by simp[cCAr])];simpa[cCAr]using hj);rw[Nat.add_assoc];exact this
structure SomeAr (C:Pcx)(w:World)(d:Nat)(R:PR (List Arr))(one:List Tk->PR Arr)(s:List UInt8)(v:Value)(wr:World)(acc:List Arr)(l:List Tk):Prop where
 eq:∃f,R=zaF one s f acc l/\l.length<=f
 row:wr.ownsRow w.heap.size 61 3 v acc.length (acc.flatMap cCAr)
 ok:∀x∈acc,zev x
 few:acc.length+l.length<=5000
 pa:PaAt C wr l d
 fr:Fr C.T w wr
theorem zde {L:Nat}{w:World}{v:Value}{acc:List Arr}(hr:w.ownsRow L 61 3 v acc.length (acc.flatMap cCAr))(hx:∀x∈acc,zev x)(hf:acc.length<=5001):znI w L v acc:=by
 rcases hr.2 with⟨rfl,h0⟩|⟨g,cap,cur,rfl,hb,hg,hn,hc,Jk,ht⟩
 ·exact⟨none,0,by rw[h0],by rw[h0];exact⟨lrq _,⟨by decide,by decide⟩,λh=>absurd h (Nat.lt_irrefl 0)⟩⟩
 ·have hl:g < w.heap.size:=(Array.getElem?_eq_some_iff.1 hg).1;have Nj:cap<=9223372036854775807:=by unfold maxLen at hc;omega
  suffices GC:ArR w (New L w) False acc g 0 by
   exact⟨some ⟨g,0,none⟩,cap,rfl,⟨hn,⟨Nj,by omega⟩,λ_=>⟨g,0,rfl,GC⟩⟩⟩
  refine cRAr ⟨hb,hl⟩ hx λj u hj=>?_;have:=hr.cells (g:=g) rfl j u hj;have L7:(⟨g,0,none⟩:Addr).add j=⟨g,0+j,none⟩:=by
   rw[Nat.zero_add];unfold Addr.add;split<;>simp_all
  rw[L7]at this;exact this
theorem zmX {C:Pcx}{w wr w7 w9:World}{v:Value}{acc:List Arr}{r2:List Tk}{d:Nat}{cell:Array Value}
  (hL:C.P < w.heap.size/\C.TB < w.heap.size/\C.W0.heap.size<=w.heap.size) (Hz:wr.ownsRow w.heap.size 61 3 v acc.length (acc.flatMap cCAr)) (hF:Fr C.T w wr)
  (hp:PaAt C w7 r2 d) (hf:Fr C.T wr w7) (hg:(w7.alloc (.cells cell 61)).grownBy w9 v.ownBlock):PaAt C w9 r2 d/\Fr C.T w w9:=by
 have Hl:=Hz.lt;have UA:=hF.size;have Rv:=hf.size;have NO:Fr (λb=>v.ownBlock=some b) w7 w9:=((Fr.refl _ _).alloc _).trans (Fr.grown hg λg e _=>e);have K2:Fr (λb=>b=C.P\/v.ownBlock=some b) wr w9:=(hf.mono λi _ h=>Or.inl h).trans (NO.mono λi _ h=>Or.inr h);refine⟨hp.fr NO (λe=>?_) (λe=>?_) (λi hi e=>?_),?_⟩
 ·have:=(Hl _ e).1;omega
 ·have:=(Hl _ e).1;omega
 ·have:=(Hl _ e).1;omega
 ·have h:=(hF.mono (T':=λb=>b=C.P\/v.ownBlock=some b) λi _ h=>Or.inl h).trans K2;refine h.mono λi hi e=>?_;rcases e with e|e
  ·exact e
  ·have:=(Hl _ e).1;omega
theorem ziD (C:Pcx)(one:List Tk->PR Arr)(s:List UInt8)(no:Bool)(g:Nat)(fst cap:Array Value)(l:List Tk)(d:Nat)(w:World)(hk:C.Ok)(h:PaAt C w l d)(Jm:Shr one)(hs:s≠ [])
  (hent:Enters Tryz.prog g) (GM:∀W,Fr C.T w W->∀l',PaAt C W l' d->Calls Tryz.prog g (fst++cap) W (cPAr C d (one l') W)):
  Calls Tryz.prog 132 #[.pointer (some ⟨C.P,0,none⟩),.string ⟨s.toArray⟩,.bool no,.func (.func g) fst cap] w (EndV C d znI (zaR one s no l) w):=by
 obtain⟨i0,hi,Jb,Hy,FR⟩:=info_parts zmV;obtain⟨R,hR⟩:=nmq (zaR one s no l);rw[<-hR];have hL:=h.lts;have FB:l.length<=5000:=by
  obtain⟨j,q,e,_⟩:=h.at_;have:=hk.few;rw[e,List.length_drop];omega
 have JF:=hdq GM;have HK:=hdq hk;have HL:=hdq hL;have HS:=hdq hs;unfold Enters at hent;have P8:=za0 C s l d w hk h hs;have HM:=hdq P8;have key:∀(v:Value)(wr:World)(acc:List Ex)(cs:List Value)(r:List Tk),no=no:=λ_ _ _ _ _=>rfl;by_cases hn:no=true/\mayB s l=true
 ·obtain⟨rfl,hm⟩:=hn;have GA:R= .ok [] l.tail:=by rw[hR];unfold zaR;rw[hm];rfl
  have GB:=hdq GA;rw[hm]at HM;clear hR h GM hk hs hL P8 GA key hm FB;go_enter Tryz.func132,Tryz.ntmps132;go_wp2_with fail;refine HM.mono ?_;rintro _ w1 ⟨rfl,hp,hf⟩;have HP:=hdq hp;have HF:=hdq hf;clear hp hf;go_wp2_with fail;go_ret;rw[GB.out];exact⟨_,rfl,⟨none,0,rfl,lrq 0,⟨by decide,by decide⟩,λh=>absurd h (Nat.lt_irrefl 0)⟩,HP.out,HF.out⟩
 ·have GA:R=zaF one s l.length [] l:=by
   rw[hR];unfold zaR;cases no
   ·rfl
   ·rw[if_neg (by intro h;exact hn ⟨rfl,by simpa using h⟩)]
  have N6:=hdq GA;have Jt:no=true->mayB s l=false:=λe=>by
   cases hm:mayB s l
   ·rfl
   ·exact absurd ⟨e,hm⟩ hn
  have P9:=hdq Jt;have H:=hdq h;have HI:=hdq (aiq hi (aiq Jb (aiq Hy FR)));clear hR GM hk hs hL P8 GA key hn Jt h;cases no
  ·have Ms:=hdq H.out;have Hs:=hdq (Fr.refl C.T w);clear HM P9;go_enter Tryz.func132,Tryz.ntmps132;go_wp2_with fail;go_loopw [8] (λv wr=>∃(acc:List Arr)(r:List Tk),Hid (SomeAr C w d R one s v wr acc r)) (λ_ wr=>lenP C wr);case atStart=>exact⟨[],l,hdq ⟨⟨_,N6.out,lrq _⟩,World.ownsRow_nil _ _ _ _,λx hx=>by simp at hx,by simpa using FB,Ms.out,Hs.out⟩⟩
   case round=>
    obtain⟨acc,r,hx⟩:=hrel;have HQ:=hdq (JF _ hx.fr r hx.pa);go_wp2_with fail;try simp only[Array.append_empty]
    refine HQ.mono ?_;intro e w7 hE;obtain⟨f,Gp,GU⟩:=hx.eq;have FO:0 < r.length:=List.length_pos_iff.2 hx.pa.ne;obtain⟨f,rfl⟩:∃f',f=f'+1:=⟨f - 1,by omega⟩;unfold zaF at Gp;rcases hE.ways with⟨x,r2,ho,rfl,hv,hp,hf⟩|⟨c,a,ho,rfl,hf⟩;rotate_left
    ·go_wp2_with fail;exact⟨rfl,by rw[Gp,ho];exact⟨rfl,hx.fr.trans hf⟩⟩
    rw[ho]at Gp;have Gp:R=if mayB [44] r2 then zaF one s f (acc++ [x]) r2.tail else(zal s r2).then λ_ r=> .ok (acc++ [x]) r:=Gp
    have Jo:=hdq Gp;have Qa:=hdq (Jm _ _ _ ho);have KJ:=hdq GU;have Qb:=hdq (zah hx.row hf HL.1);have M7:=hdq hv;have KQ:=hdq hp;have GV:=hdq hf;have GX:(acc.length+1)*32<=140737488355328:=by have:=hx.few;omega
    have NF:w.heap.size<=w7.heap.size:=leq9 hx.fr.size hf.size;clear Gp ho hv hp hf GU FO;go_wp2_with (at_builtin;refine zau _ rfl _ _ 23 rfl w.heap.size 61 i0 (.agg #[.string ⟨#[]⟩,.int .i64 0,.int .i64 0]) 3 32 Tryz.underlying23 HI.1 HI.2.1 HI.2.2.1 HI.2.2.2 rfl (by decide) _ _ _ rfl (Qb.alloc _) ⟨w7.heap.size,0,none⟩ 1 1 (cCAr x) rfl rfl ?c1 ?c2 (by decide) ?c3 ?c4 ?c5 ?_);case c1=>
     intro j u hj
     match j,hj with
     |0,hj=>simp[cCAr]at hj;subst hj;simp[Addr.add]
     |1,hj=>simp[cCAr]at hj;subst hj;simp[Addr.add]
     |2,hj=>simp[cCAr]at hj;subst hj;simp[Addr.add]
    case c2=>
     intro u hu;simp only[cCAr,List.mem_cons,List.not_mem_nil,or_false]at hu;rcases hu with rfl|rfl|rfl<;>rfl
    case c3=>unfold maxLen;omega
    case c4=>exact GX
    case c5=>simp;omega
    intro v' w9 Hb Hd F3;obtain⟨Kp,Gk⟩:=zmX HL.out hx.row hx.fr KQ.out GV.out Hd;have K6:∀y∈acc++ [x],zev y:=λy hy=>by
     rcases List.mem_append.1 hy with h|h
     ·exact hx.ok y h
     ·rw[List.mem_singleton.1 h];exact M7.out
    have Qc:=hdq (show w9.ownsRow w.heap.size 61 3 v' (acc++ [x]).length ((acc++ [x]).flatMap cCAr)from by
     rw[List.flatMap_append,List.length_append,List.flatMap_cons,List.flatMap_nil,List.append_nil];exact Hb)
    have No:=hdq K6;have KV:=hdq Gk;have MG:=hdq (za0 C [44] r2 d w9 HK.out Kp (by decide));clear Hb Hd F3 K6 Kp Gk GX;go_wp2_with fail;refine MG.mono ?_;rintro _ w10 ⟨rfl,Hi,Gf⟩;have Jy:=hdq (zah Qc.out Gf HL.1);have GQ:=hdq (KV.trans Gf);have Fw:=hdq Hi;clear Hi Gf;cases hm:mayB [44] r2
    ·have Hi:=Fw.out;rw[hm]at Hi;have Hi:PaAt C w10 r2 d:=Hi;have HT:=hdq (zas C s r2 d w10.heap.size _ HK.out (Hi.alloc (.cells #[.string ⟨s.toArray⟩] 9)) HS.out (by simp));have GE:R=(zal s r2).then λ_ r=> .ok (acc++ [x]) r:=by rw[Jo.out,hm];rfl
     have G8:=hdq GE;clear Hi hm GE;go_wp2_with fail;refine HT.mono ?_;intro e w11 hE;rcases hE with⟨ht,rfl,hp,hf⟩|⟨ht,rfl,hf⟩;rotate_left
     ·go_wp2_with fail;exact⟨rfl,by rw[G8.out,ht];exact⟨rfl,(GQ.alloc _).trans hf⟩⟩
     have K4:=((Fr.refl C.T w10).alloc (.cells #[.string ⟨s.toArray⟩] 9)).trans hf;have Kq:=hdq ht;have K5:=hdq hp;have Kc:=hdq K4;clear ht hp hf K4;go_wp2_with fail;go_ret;rw[G8.out,Kq.out];refine⟨_,rfl,zde (zah Jy.out Kc.out HL.1) No.out ?_,K5.out,GQ.trans Kc.out⟩;have:=hx.few;simp;omega
    ·have Hi:=Fw.out;rw[hm]at Hi;have Hi:PaAt C w10 r2.tail d:=Hi;have GE:R=zaF one s f (acc++ [x]) r2.tail:=by rw[Jo.out,hm];rfl
     have Fu:r2.tail.length < r.length:=by
      have h1:=Qa.out;have h2:=List.length_pos_iff.2 KQ.ne;rw[List.length_tail];omega
     have J0:SomeAr C w d R one s v' w10 (acc++ [x]) r2.tail:=⟨⟨f,GE,by have:=KJ.out;omega⟩,Jy.out,No.out,by have:=hx.few;simp only[List.length_append,List.length_cons,List.length_nil];omega,Hi,GQ.out⟩;have Qe:=hdq J0;have L8:=hdq (show lenP C w10 < lenP C wr from by rw[J0.pa.lenP,hx.pa.lenP];exact Fu);clear Hi hm GE Fu J0;go_wp2_with fail;go_roundw;case rel=>exact⟨_,_,Qe⟩
     case measure=>exact L8.out
  ·have LS:=P9 rfl;rw[LS]at HM;clear LS P9;go_enter Tryz.func132,Tryz.ntmps132;go_wp2_with fail;refine HM.mono ?_;rintro _ w1 ⟨rfl,hp,hf⟩;have Ms:=hdq hp;have Hs:=hdq hf;clear hp hf;go_wp2_with fail;go_loopw [8] (λv wr=>∃(acc:List Arr)(r:List Tk),Hid (SomeAr C w d R one s v wr acc r)) (λ_ wr=>lenP C wr);case atStart=>exact⟨[],l,hdq ⟨⟨_,N6.out,lrq _⟩,World.ownsRow_nil _ _ _ _,λx hx=>by simp at hx,by simpa using FB,Ms.out,Hs.out⟩⟩
   case round=>
    obtain⟨acc,r,hx⟩:=hrel;have HQ:=hdq (JF _ hx.fr r hx.pa);go_wp2_with fail;try simp only[Array.append_empty]
    refine HQ.mono ?_;intro e w7 hE;obtain⟨f,Gp,GU⟩:=hx.eq;have FO:0 < r.length:=List.length_pos_iff.2 hx.pa.ne;obtain⟨f,rfl⟩:∃f',f=f'+1:=⟨f - 1,by omega⟩;unfold zaF at Gp;rcases hE.ways with⟨x,r2,ho,rfl,hv,hp,hf⟩|⟨c,a,ho,rfl,hf⟩;rotate_left
    ·go_wp2_with fail;exact⟨rfl,by rw[Gp,ho];exact⟨rfl,hx.fr.trans hf⟩⟩
    rw[ho]at Gp;have Gp:R=if mayB [44] r2 then zaF one s f (acc++ [x]) r2.tail else(zal s r2).then λ_ r=> .ok (acc++ [x]) r:=Gp
    have Jo:=hdq Gp;have Qa:=hdq (Jm _ _ _ ho);have KJ:=hdq GU;have Qb:=hdq (zah hx.row hf HL.1);have M7:=hdq hv;have KQ:=hdq hp;have GV:=hdq hf;have GX:(acc.length+1)*32<=140737488355328:=by have:=hx.few;omega
    have NF:w.heap.size<=w7.heap.size:=leq9 hx.fr.size hf.size;clear Gp ho hv hp hf GU FO;go_wp2_with (at_builtin;refine zau _ rfl _ _ 23 rfl w.heap.size 61 i0 (.agg #[.string ⟨#[]⟩,.int .i64 0,.int .i64 0]) 3 32 Tryz.underlying23 HI.1 HI.2.1 HI.2.2.1 HI.2.2.2 rfl (by decide) _ _ _ rfl (Qb.alloc _) ⟨w7.heap.size,0,none⟩ 1 1 (cCAr x) rfl rfl ?c1 ?c2 (by decide) ?c3 ?c4 ?c5 ?_);case c1=>
     intro j u hj
     match j,hj with
     |0,hj=>simp[cCAr]at hj;subst hj;simp[Addr.add]
     |1,hj=>simp[cCAr]at hj;subst hj;simp[Addr.add]
     |2,hj=>simp[cCAr]at hj;subst hj;simp[Addr.add]
    case c2=>
     intro u hu;simp only[cCAr,List.mem_cons,List.not_mem_nil,or_false]at hu;rcases hu with rfl|rfl|rfl<;>rfl
    case c3=>unfold maxLen;omega
    case c4=>exact GX
    case c5=>simp;omega
    intro v' w9 Hb Hd F3;obtain⟨Kp,Gk⟩:=zmX HL.out hx.row hx.fr KQ.out GV.out Hd;have K6:∀y∈acc++ [x],zev y:=λy hy=>by
     rcases List.mem_append.1 hy with h|h
     ·exact hx.ok y h
     ·rw[List.mem_singleton.1 h];exact M7.out
    have Qc:=hdq (show w9.ownsRow w.heap.size 61 3 v' (acc++ [x]).length ((acc++ [x]).flatMap cCAr)from by
     rw[List.flatMap_append,List.length_append,List.flatMap_cons,List.flatMap_nil,List.append_nil];exact Hb)
    have No:=hdq K6;have KV:=hdq Gk;have MG:=hdq (za0 C [44] r2 d w9 HK.out Kp (by decide));clear Hb Hd F3 K6 Kp Gk GX;go_wp2_with fail;refine MG.mono ?_;rintro _ w10 ⟨rfl,Hi,Gf⟩;have Jy:=hdq (zah Qc.out Gf HL.1);have GQ:=hdq (KV.trans Gf);have Fw:=hdq Hi;clear Hi Gf;cases hm:mayB [44] r2
    ·have Hi:=Fw.out;rw[hm]at Hi;have Hi:PaAt C w10 r2 d:=Hi;have HT:=hdq (zas C s r2 d w10.heap.size _ HK.out (Hi.alloc (.cells #[.string ⟨s.toArray⟩] 9)) HS.out (by simp));have GE:R=(zal s r2).then λ_ r=> .ok (acc++ [x]) r:=by rw[Jo.out,hm];rfl
     have G8:=hdq GE;clear Hi hm GE;go_wp2_with fail;refine HT.mono ?_;intro e w11 hE;rcases hE with⟨ht,rfl,hp,hf⟩|⟨ht,rfl,hf⟩;rotate_left
     ·go_wp2_with fail;exact⟨rfl,by rw[G8.out,ht];exact⟨rfl,(GQ.alloc _).trans hf⟩⟩
     have K4:=((Fr.refl C.T w10).alloc (.cells #[.string ⟨s.toArray⟩] 9)).trans hf;have Kq:=hdq ht;have K5:=hdq hp;have Kc:=hdq K4;clear ht hp hf K4;go_wp2_with fail;go_ret;rw[G8.out,Kq.out];refine⟨_,rfl,zde (zah Jy.out Kc.out HL.1) No.out ?_,K5.out,GQ.trans Kc.out⟩;have:=hx.few;simp;omega
    ·have Hi:=Fw.out;rw[hm]at Hi;have Hi:PaAt C w10 r2.tail d:=Hi;have GE:R=zaF one s f (acc++ [x]) r2.tail:=by rw[Jo.out,hm];rfl
     have Fu:r2.tail.length < r.length:=by
      have h1:=Qa.out;have h2:=List.length_pos_iff.2 KQ.ne;rw[List.length_tail];omega
     have J0:SomeAr C w d R one s v' w10 (acc++ [x]) r2.tail:=⟨⟨f,GE,by have:=KJ.out;omega⟩,Jy.out,No.out,by have:=hx.few;simp only[List.length_append,List.length_cons,List.length_nil];omega,Hi,GQ.out⟩;have Qe:=hdq J0;have L8:=hdq (show lenP C w10 < lenP C wr from by rw[J0.pa.lenP,hx.pa.lenP];exact Fu);clear Hi hm GE Fu J0;go_wp2_with fail;go_roundw;case rel=>exact⟨_,_,Qe⟩
     case measure=>exact L8.out
