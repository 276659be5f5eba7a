/- parse. -/
import Derived.Test.YtfomomaomggpbaaGreatDoorJnPcN
import Derived.Test.YtfomomaomggpbaaGreatDoorJnRw
set_option linter.all false
set_option maxHeartbeats 1600000
set_option maxRecDepth 100000
namespace Go.Proofs.YtfomomaomggpbaaGreatDoor
open Go.RowKit Go.Shelf
def ExsV (w:World)(L:Nat)(v:Value)(xs:Exs):Prop:=∃A c,v= .slice A xs.len c/\SlR (ExR w (New L w) False xs) xs.len 64 A c
def CdsV (w:World)(L:Nat)(v:Value)(xs:Cds):Prop:=∃A c,v= .slice A xs.len c/\SlR (CdR w (New L w) False xs) xs.len 64 A c
def EndV {α:Type}(C:Pcx)(d:Nat)(V:World->Nat->Value->α->Prop)(r:PR α)(W:World)(e:Ending)(w':World):Prop:=
 match r with
 | .err c a=>e=zaf c a/\Fr C.T W w'
 | .ok x l=>∃v,e= .returned v/\V w' W.heap.size v x/\PaAt C w' l d/\Fr C.T W w'
def askP (n:Nat)(l:List Tk):PR Cds:=(zal [40] l).then λ_ r=>(zec n r).then λx r=>(zal [41] r).then λ_ r=> .ok (x.cons .nil) r
theorem zau (C:Pcx)(s:List UInt8)(l:List Tk)(d b:Nat)(w:World)(hk:C.Ok)(h:PaAt C w l d)(hs:s≠ [])(hc:w.cell? ⟨b,0,none⟩=some (.string ⟨s.toArray⟩)):
  Calls Tryz.prog 135 #[.pointer (some ⟨C.P,0,none⟩),.slice (some ⟨b,0,none⟩) 1 1] w λe w'=>
   (zal s l= .ok () l.tail/\e= .returned (.tuple #[])/\PaAt C w' l.tail d/\Fr C.T w w')\/(zal s l= .err 90 (hdT l).at_ /\e= .panicked [{v:= .iface 161 (.agg #[.int .i64 90,.int .i64 (hdT l).at_]),recovered:=false}]/\Fr C.T w w'):=by
 cases hm:mayB s l
 ·refine(zd6 C s l d b w h hm hc).mono λe w' hE=> .inr ⟨by unfold zal;rw[hm];rfl,hE.1,hE.2⟩
 ·refine(zch C s l d b w hk h hs hm hc).mono λe w' hE=> .inl ⟨by unfold zal;rw[hm];rfl,hE.1,hE.2.1,hE.2.2⟩
theorem zek (C:Pcx)(n:Nat)(l:List Tk)(d:Nat)(w:World)(Ga:d+n=24)(hk:C.Ok)(h:PaAt C w l d):
  Calls Tryz.prog 301 #[.pointer (some ⟨C.P,0,none⟩)] w (EndV C d CdsV (askP n l) w):=by
 obtain⟨R,hR⟩:=aF (askP n l);rw[<-hR];have HR:=aA hR;have HK:=aA hk;have hL:=h.lts;have HL:=aA hL;have h1:=h.alloc (.cells #[.string ⟨#[40]⟩] 9);have HT:=aA (zau C [40] l d w.heap.size _ hk h1 (by decide) (by simp));have Lh:Fr C.T w (w.alloc (.cells #[.string ⟨#[40]⟩] 9)):=aH.alloc _;have HA:=aA Lh;clear hR hL h h1 Lh hk;go_enter Tryz.func301,Tryz.ntmps301;go_wp2_with fail;refine HT.mono ?_;intro e w2 hE;rcases hE with⟨ht,rfl,hp,hf⟩|⟨ht,rfl,hf⟩;rotate_left
 ·go_wp2_with fail;exact⟨rfl,by rw[HR.out,askP,ht];exact⟨rfl,HA.trans hf⟩⟩
 have HC:=aA (zkl C n l.tail d w2 Ga HK.out hp);have V4:=aA ht;have Hu:=aA (HA.trans hf);clear ht hp hf;go_wp2_with fail;refine HC.mono ?_;intro e w3 hE;rcases hE.ways with⟨x,r,A,c,B,q,hx,rfl,hv,hp,hf⟩|⟨c,a,hx,rfl,hf⟩;rotate_left
 ·go_wp2_with fail;exact⟨rfl,by rw[HR.out,askP,V4.out];show EndV C d CdsV ((zec n l.tail).then _) w _ _;rw[hx];exact⟨rfl,Hu.trans hf⟩⟩
 have HX:=aA hx;have h4:=(hp.alloc (.cells #[.int .u8 x.k,.slice A x.args.len c,.slice B x.of_.len q,.int .i64 x.at_] 179)).alloc (.cells #[.string ⟨#[41]⟩] 9);have vf:=aA (zau C [41] r d (w3.heap.size+1) _ HK.out h4 (by decide) (by simp));have Hr:=(Bk.new w3 179 #[.int .u8 x.k,.slice A x.args.len c,.slice B x.of_.len q,.int .i64 x.at_]).alloc (.cells #[.string ⟨#[41]⟩] 9);have F4:=aA Hr;have HJ:Fr NoT w3 ((w3.alloc (.cells #[.int .u8 x.k,.slice A x.args.len c,.slice B x.of_.len q,.int .i64 x.at_] 179)).alloc (.cells #[.string ⟨#[41]⟩] 9)):=(aH.alloc _).alloc _;have GG:=aA HJ;have HV:=aA hv;have Gi:=aA (Hu.trans hf);have GH:w.heap.size<=w2.heap.size:=Hu.size;have KT:w.heap.size<=w3.heap.size:=Gi.size;clear hx h4 Hr HJ hv hf hp;go_wp2_with fail;refine vf.mono ?_;intro e w5 hE;rcases hE with⟨ht,rfl,hp,hf⟩|⟨ht,rfl,hf⟩;rotate_left
 ·go_wp2_with fail;refine⟨rfl,?_⟩;rw[HR.out,askP,V4.out];show EndV C d CdsV ((zec n l.tail).then _) w _ _
  rw[HX.out];show EndV C d CdsV ((zal [41] r).then _) w _ _
  rw[ht];exact⟨rfl,(Gi.trans GG.any).trans hf⟩
 have Kk:¬C.T w3.heap.size:=λe=>by have e:w3.heap.size=C.P:=e;have:=HL.out;omega
 have Ja:=F4.fr hf Kk;have q0:=Ja.cell 0;have q1:=Ja.cell 1;have q2:=Ja.cell 2;have q3:=Ja.cell 3;simp only[aD]at q0 q1 q2 q3;have Zi:=aA ht;have RM:=aA hp;have Mm:=aA (GG.any.trans hf);have Pl:=Ja.lt;clear ht hp hf Ja;go_wp2_with fail;go_ret;have GJ:R= .ok (x.cons .nil) r.tail:=by
  rw[HR.out,askP,V4.out];show(zec n l.tail).then _=_
  rw[HX.out];show(zal [41] r).then _=_
  rw[Zi.out];rfl
 rw[GJ];obtain⟨x1,x3,Ax,cx,Bx,qx,ex,JJ,VW⟩:=HV.out;simp only[cdV,Value.agg.injEq,Array.mk.injEq,List.cons.injEq,Value.slice.injEq,true_and,and_true]at ex;obtain⟨⟨rfl,rfl⟩,rfl,rfl⟩:=ex;have RL:w3.heap.size<=w5.heap.size:=Mm.size;have hF:Fr C.T w3 (w5.alloc (.cells #[.int .u8 x.k,.slice A x.args.len c,.slice B x.of_.len q,.int .i64 x.at_] 179)):=Mm.alloc _;have hX:∀b,New w2.heap.size w3 b->(b < w3.heap.size/\¬C.T b)/\New w.heap.size (w5.alloc (.cells #[.int .u8 x.k,.slice A x.args.len c,.slice B x.of_.len q,.int .i64 x.at_] 179)) b:=λb hb=>by
  have h1:w2.heap.size<=b:=hb.1;have h2:b < w3.heap.size:=hb.2;have h3:=hF.size;exact⟨⟨h2,λe=>by have e:b=C.P:=e;have:=HL.out;omega⟩,by omega,by omega⟩
 refine⟨_,rfl,⟨some ⟨w5.heap.size,0,none⟩,1,rfl,aL 1,sl1,λ_=>⟨w5.heap.size,0,rfl,?_⟩⟩,RM.alloc _,Gi.trans hF⟩;refine zkf (Bk.new w5 _ _) ⟨by omega,by simp⟩ ⟨x1,x3⟩ (JJ.imp λ_ _ h=>?_) (VW.imp λ_ _ h=>?_)
 ·exact ExR.more (λb hb=>(hX b hb).2) (ExR.keep (hF.same λb hb=>(hX b hb).1) h)
 ·exact CdR.more (λb hb=>(hX b hb).2) (CdR.keep (hF.same λb hb=>(hX b hb).1) h)
/-! expressions in a row -/
def exC (x:Ex)(A:Option Addr)(c:Nat):List Value:= [.int .u8 x.k,.string x.nm,.int .i64 x.n,.slice A x.args.len c,.int .i64 x.at_]
def ExRow (w:World)(S:Nat->Prop):List Ex->List Value->Prop
 | [],cs=>cs= []
 |x::xs,cs=>∃A c xh,cs=exC x A c++xh/\in8 x.k/\in64 x.n/\in64 x.at_/\SlR (ExR w S False x.args) x.args.len 64 A c/\ExRow w S xs xh
theorem ExRow.imp {w w':World}{S S':Nat->Prop}(hf:SameS S w w')(hs:∀b,S b->S' b):∀ {xs:List Ex} {cs:List Value},ExRow w S xs cs->ExRow w' S' xs cs
 | [],_,h=>h
 |x::xs,cs,h=>by
  obtain⟨A,c,xh,e,h1,h2,h3,h4,h5⟩:=h;exact⟨A,c,xh,e,h1,h2,h3,h4.imp λ_ _ h=>ExR.more hs (ExR.keep hf h),ExRow.imp hf hs h5⟩
theorem ExRow.snoc {w:World}{S:Nat->Prop}{y:Ex}{A:Option Addr}{c:Nat}(hy:in8 y.k/\in64 y.n/\in64 y.at_/\SlR (ExR w S False y.args) y.args.len 64 A c):∀ {xs:List Ex} {cs:List Value},ExRow w S xs cs->ExRow w S (xs++ [y]) (cs++exC y A c)
 | [],cs,h=>by
  have h:cs= []:=h;subst h;exact⟨A,c, [],by simp,hy.1,hy.2.1,hy.2.2.1,hy.2.2.2,rfl⟩
 |x::xs,cs,h=>by
  obtain⟨B,q,xh,e,h1,h2,h3,h4,h5⟩:=h;exact⟨B,q,xh++exC y A c,by rw[e,List.append_assoc],h1,h2,h3,h4,ExRow.snoc hy h5⟩
theorem ExRow.exR {w:World}{S:Nat->Prop}{g:Nat}(hg:S g):∀ {xs:List Ex} {cs:List Value} {o:Nat},ExRow w S xs cs->(∀j u,cs[j]?=some u->w.cell? ⟨g,o+j,none⟩=some u)->ExR w S False (za0 xs) g o
 | [],_,_,_,_=>trivial
 |x::xs,cs,o,h,hc=>by
  obtain⟨A,c,xh,e,h1,h2,h3,h4,h5⟩:=h;subst e;refine⟨⟨hg,λh=>absurd h id,h1,h2,h3,?_,?_,?_,?_⟩,⟨A,c,?_,h4⟩,?_⟩
  ·exact hc 0 _ rfl
  ·exact hc 1 _ rfl
  ·exact hc 2 _ rfl
  ·exact hc 4 _ rfl
  ·exact hc 3 _ rfl
  ·refine ExRow.exR hg h5 λj u hj=>?_;have:=hc (5+j) u (by rw[List.getElem?_append_right (by simp[exC])];simpa[exC]using hj);rw[Nat.add_assoc];exact this
def zaE {α:Type}(one:List Tk->PR α)(s:List UInt8):Nat->List α->List Tk->PR (List α)
 |0,acc,l=> .ok acc l
 |f+1,acc,l=>(one l).then λx r=>if mayB [44] r then zaE one s f (acc++ [x]) r.tail else(zal s r).then λ_ r=> .ok (acc++ [x]) r
def zaS {α:Type}(one:List Tk->PR α)(s:List UInt8)(no:Bool)(l:List Tk):PR (List α):=if no&&mayB s l then .ok [] l.tail else zaE one s l.length [] l
theorem za1 (C:Pcx)(s:List UInt8)(l:List Tk)(d:Nat)(w:World)(hk:C.Ok)(h:PaAt C w l d)(hs:s≠ []):Calls Tryz.prog 129 #[.pointer (some ⟨C.P,0,none⟩),.string ⟨s.toArray⟩] w λe w'=>
  e= .returned (.bool (mayB s l))/\PaAt C w' (if mayB s l then l.tail else l) d/\Fr C.T w w':=by
 cases hm:mayB s l
 ·exact znR C s l d w h hm
 ·exact zj5 C s l d w hk h hs hm
structure SomeX (C:Pcx)(w:World)(d:Nat)(R:PR (List Ex))(one:List Tk->PR Ex)(s:List UInt8)(v:Value)(wr:World)(acc:List Ex)(cs:List Value)(l:List Tk):Prop where
 eq:∃f,R=zaE one s f acc l/\l.length<=f
 row:wr.ownsRow w.heap.size 175 5 v acc.length cs
 rows:ExRow wr (NewR w.heap.size v wr) acc cs
 few:acc.length+l.length<=5000
 pa:PaAt C wr l d
 fr:Fr C.T w wr
def ExlV (w:World)(L:Nat)(v:Value)(xs:List Ex):Prop:=ExsV w L v (za0 xs)
theorem zel {L:Nat}{w:World}{v:Value}{acc:List Ex}{cs:List Value}{S:Nat->Prop}(hr:w.ownsRow L 175 5 v acc.length cs)(hx:ExRow w S acc cs)(hs:∀b,S b->L<=b/\b < w.heap.size)(hf:acc.length<=5001):ExlV w L v acc:=by
 rcases hr.2 with⟨rfl,h0⟩|⟨g,cap,cur,rfl,hb,hg,hn,hc,Gp,ht⟩
 ·exact⟨none,0,by rw[zbD,h0],by rw[zbD,h0];exact⟨aL _,sl0,λh=>absurd h (Nat.lt_irrefl 0)⟩⟩
 ·have hl:g < w.heap.size:=(Array.getElem?_eq_some_iff.1 hg).1;have Nv:cap<=9223372036854775807:=by unfold maxLen at hc;omega
  suffices GK:ExR w (New L w) False (za0 acc) g 0 by
   exact⟨some ⟨g,0,none⟩,cap,by rw[zbD],by rw[zbD];exact⟨hn,⟨Nv,by omega⟩,λ_=>⟨g,0,rfl,GK⟩⟩⟩
  refine ExRow.exR ⟨hb,hl⟩ (ExRow.imp (SameS.refl _ _) hs hx) λj u hj=>?_;have:=hr.cells (g:=g) rfl j u hj;have Ll:(⟨g,0,none⟩:Addr).add j=⟨g,0+j,none⟩:=by
   rw[Nat.zero_add];unfold Addr.add;split<;>simp_all
  rw[Ll]at this;exact this
theorem Fr.grownP {C:Pcx}{w w':World}(h:Fr C.T w w'):w.grownBy w' (some C.P):=
 ⟨h.os,h.tape,h.output,h.size,λk hk hn=>h.block k hk λe=>hn (by have e:k=C.P:=e;rw[e])⟩
theorem zah {C:Pcx}{w w':World}{L size n:Nat}{t:TypeId}{v:Value}{cs:List Value}(h:w.ownsRow L t size v n cs)(hf:Fr C.T w w')(hL:C.P < L):w'.ownsRow L t size v n cs:=
 h.kept hf.grownP (.inr λe=>by have:=(h.lt _ e).1;omega)
theorem ze6 {C:Pcx}{w wr w7 w9:World}{x:Ex}{A:Option Addr}{c:Nat}{v v':Value}{acc:List Ex}{cs:List Value}{r2:List Tk}{d:Nat}{cell:Array Value}
  (hL:C.P < w.heap.size/\C.TB < w.heap.size/\C.W0.heap.size<=w.heap.size) (Hi:wr.ownsRow w.heap.size 175 5 v acc.length cs) (N5:ExRow wr (NewR w.heap.size v wr) acc cs) (hF:Fr C.T w wr)
  (hv:ExV w7 wr.heap.size (exV x.k x.nm x.n A x.args.len c x.at_) x) (hp:PaAt C w7 r2 d) (hf:Fr C.T wr w7) (Ha:w9.ownsRow w.heap.size 175 5 v' (acc.length+1) (cs++exC x A c))
  (hg:(w7.alloc (.cells cell 175)).grownBy w9 v.ownBlock) (GN:v'.ownBlock=v.ownBlock\/v'.ownBlock=some (w7.heap.size+1)):
  ExRow w9 (NewR w.heap.size v' w9) (acc++ [x]) (cs++exC x A c)/\PaAt C w9 r2 d/\Fr C.T w w9:=by
 have Hk:=Hi.lt;have Vf:=hF.size;have RT:=hf.size;have L6:=hg.size;rw[World.size_alloc]at L6;have N6:Fr (λb=>v.ownBlock=some b) w7 w9:=(aH.alloc _).trans (Fr.grown hg λg e _=>e);have Lm:Fr (λb=>b=C.P\/v.ownBlock=some b) wr w9:=(hf.mono λi _ h=>Or.inl h).trans (N6.mono λi _ h=>Or.inr h);obtain⟨x1,x2,x3,Ax,cx,ex,JJ⟩:=hv;simp only[exV,Value.agg.injEq,Array.mk.injEq,List.cons.injEq,Value.slice.injEq,true_and,and_true]at ex;obtain⟨rfl,rfl⟩:=ex;have RU:∀b,b < w7.heap.size->v.ownBlock≠some b->v'.ownBlock≠some b:=λb hb hn e=>by
  rcases GN with h|h
  ·exact hn (h▸e)
  ·rw[h]at e;have:=Option.some.inj e;omega
 refine⟨ExRow.snoc ⟨x1,x2,x3,JJ.imp λ_ _ h=>ExR.more (λb hb=>?_) (ExR.keep (N6.same λb hb=>⟨hb.2,λe=>?_⟩) h)⟩ (ExRow.imp (Lm.same λb hb=>⟨hb.2.1,λe=>?_⟩) (λb hb=>⟨hb.1,by have:=hb.2.1;omega,RU b (by have:=hb.2.1;omega) hb.2.2⟩) N5),?_,?_⟩
 ·have h1:=hb.1;have h2:=hb.2;refine⟨by omega,by omega,RU b h2 λe=>?_⟩;have:=(Hk _ e).2;omega
 ·have h1:=hb.1;have:=(Hk _ e).2;omega
 ·rcases e with e|e
  ·have:=hb.1;omega
  ·exact hb.2.2 e
 ·refine hp.fr N6 (λe=>?_) (λe=>?_) (λi hi e=>?_)
  ·have:=(Hk _ e).1;omega
  ·have:=(Hk _ e).1;omega
  ·have:=(Hk _ e).1;omega
 ·have h:=(hF.mono (T':=λb=>b=C.P\/v.ownBlock=some b) λi _ h=>Or.inl h).trans Lm;refine h.mono λi hi e=>?_;rcases e with e|e
  ·exact e
  ·have:=(Hk _ e).1;omega
theorem zkq (C:Pcx)(one:List Tk->PR Ex)(s:List UInt8)(no:Bool)(g:Nat)(fst cap:Array Value)(l:List Tk)(d:Nat)(w:World)(hk:C.Ok)(h:PaAt C w l d)(Jy:Shr one)(hs:s≠ [])
  (hent:Enters Tryz.prog g) (Hp:∀W,Fr C.T w W->∀l',PaAt C W l' d->Calls Tryz.prog g (fst++cap) W (ExP C d (one l') W)):
  Calls Tryz.prog 302 #[.pointer (some ⟨C.P,0,none⟩),.string ⟨s.toArray⟩,.bool no,.func (.func g) fst cap] w (EndV C d ExlV (zaS one s no l) w):=by
 obtain⟨i0,hi,Fg,Hw,G5⟩:=info_parts zkm;obtain⟨R,hR⟩:=aF (zaS one s no l);rw[<-hR];have hL:=h.lts;have FR:l.length<=5000:=by
  obtain⟨j,q,e,_⟩:=h.at_;have:=hk.few;rw[e,List.length_drop];omega
 have JZ:=aA Hp;have HK:=aA hk;have HL:=aA hL;have HS:=aA hs;unfold Enters at hent;have Qv:=za1 C s l d w hk h hs;have HM:=aA Qv;have key:∀(v:Value)(wr:World)(acc:List Ex)(cs:List Value)(r:List Tk),no=no:=λ_ _ _ _ _=>rfl;by_cases hn:no=true/\mayB s l=true
 ·obtain⟨rfl,hm⟩:=hn;have GJ:R= .ok [] l.tail:=by rw[hR];unfold zaS;rw[hm];rfl
  have GF:=aA GJ;rw[hm]at HM;clear hR h Hp hk hs hL Qv GJ key hm FR;go_enter Tryz.func302,Tryz.ntmps302;go_wp2_with fail;refine HM.mono ?_;rintro _ w1 ⟨rfl,hp,hf⟩;have HP:=aA hp;have HF:=aA hf;clear hp hf;go_wp2_with fail;go_ret;rw[GF.out];exact⟨_,rfl,⟨none,0,rfl,aL 0,sl0,λh=>absurd h (Nat.lt_irrefl 0)⟩,HP.out,HF.out⟩
 ·have GJ:R=zaE one s l.length [] l:=by
   rw[hR];unfold zaS;cases no
   ·rfl
   ·rw[if_neg (by intro h;exact hn ⟨rfl,by simpa using h⟩)]
  have Pq:=aA GJ;have JI:no=true->mayB s l=false:=λe=>by
   cases hm:mayB s l
   ·rfl
   ·exact absurd ⟨e,hm⟩ hn
  have Qw:=aA JI;have H:=aA h;have HI:=aA (aG hi (aG Fg (aG Hw G5)));clear hR Hp hk hs hL Qv GJ key hn JI h;cases no
  ·have MH:=aA H.out;have Hl:=aA (Fr.refl C.T w);clear HM Qw;go_enter Tryz.func302,Tryz.ntmps302;go_wp2_with fail;go_loopw [8] (λv wr=>∃(acc:List Ex)(cs:List Value)(r:List Tk),Hid (SomeX C w d R one s v wr acc cs r)) (λ_ wr=>lenP C wr);case atStart=>exact⟨[], [],l,aA ⟨⟨_,Pq.out,aL _⟩,World.ownsRow_nil _ _ _ _,rfl,by simpa using FR,MH.out,Hl.out⟩⟩
   case round=>
    obtain⟨acc,cs,r,hx⟩:=hrel;have HQ:=aA (JZ _ hx.fr r hx.pa);go_wp2_with fail;try simp only[Array.append_empty]
    refine HQ.mono ?_;intro e w7 hE;obtain⟨f,Gs,G6⟩:=hx.eq;have F6:0 < r.length:=List.length_pos_iff.2 hx.pa.ne;obtain⟨f,rfl⟩:∃f',f=f'+1:=⟨f - 1,by omega⟩;unfold zaE at Gs;rcases hE.ways with⟨x,r2,A,c,ho,rfl,hv,hp,hf⟩|⟨c,a,ho,rfl,hf⟩;rotate_left
    ·go_wp2_with fail;exact⟨rfl,by rw[Gs,ho];exact⟨rfl,hx.fr.trans hf⟩⟩
    rw[ho]at Gs;have Gs:R=if mayB [44] r2 then zaE one s f (acc++ [x]) r2.tail else(zal s r2).then λ_ r=> .ok (acc++ [x]) r:=Gs
    have Jz:=aA Gs;have Qx:=aA (Jy _ _ _ ho);have K5:=aA G6;have Qy:=aA (zah hx.row hf HL.1);have Nr:=aA hv;have Le:=aA hp;have Fp:=aA hf;have GX:(acc.length+1)*64<=140737488355328:=by have:=hx.few;omega
    have N1:w.heap.size<=w7.heap.size:=aK hx.fr.size hf.size;clear Gs ho hv hp hf G6 F6;go_wp2_with (at_builtin;refine zav _ rfl _ _ 48 rfl w.heap.size 175 i0 (.agg #[.int .u8 0,.string ⟨#[]⟩,.int .i64 0,.slice none 0 0,.int .i64 0]) 5 64 Tryz.underlying48 HI.1 HI.2.1 HI.2.2.1 HI.2.2.2 rfl (by decide) _ _ _ rfl (Qy.alloc _) ⟨w7.heap.size,0,none⟩ 1 1 (exC x A c) rfl rfl ?c1 ?c2 (by decide) ?c3 ?c4 ?c5 ?_);case c1=>
     intro j u hj
     match j,hj with
     |0,hj=>simp[exC]at hj;subst hj;simp[Addr.add]
     |1,hj=>simp[exC]at hj;subst hj;simp[Addr.add]
     |2,hj=>simp[exC]at hj;subst hj;simp[Addr.add]
     |3,hj=>simp[exC]at hj;subst hj;simp[Addr.add]
     |4,hj=>simp[exC]at hj;subst hj;simp[Addr.add]
    case c2=>
     intro u hu;simp only[exC,List.mem_cons,List.not_mem_nil,or_false]at hu;rcases hu with rfl|rfl|rfl|rfl|rfl<;>rfl
    case c3=>unfold maxLen;omega
    case c4=>exact GX
    case c5=>simp;omega
    intro v' w9 Ha Hf Je;obtain⟨Ln,KF,Gl⟩:=ze6 HL.out hx.row hx.rows hx.fr Nr.out Le.out Fp.out Ha Hf Je;have Qz:=aA Ha;have Nw:=aA Ln;have Lj:=aA Gl;have MO:=aA (za1 C [44] r2 d w9 HK.out KF (by decide));clear Ha Hf Je Ln KF Gl GX;go_wp2_with fail;refine MO.mono ?_;rintro _ w10 ⟨rfl,Hj,Gm⟩;have JM:=aA (zah Qz.out Gm HL.1);have QA:=aA (ExRow.imp (S':=NewR w.heap.size v' w10) (Gm.same λb hb=>⟨hb.2.1,λe=>by have e:b=C.P:=e;have:=hb.1;have:=HL.1;omega⟩) (λb hb=>⟨hb.1,by have:=hb.2.1;have:=Gm.size;omega,hb.2.2⟩) Nw.out);have G4:=aA (Lj.trans Gm);have FN:=aA Hj;clear Hj Gm;cases hm:mayB [44] r2
    ·have Hj:=FN.out;rw[hm]at Hj;have Hj:PaAt C w10 r2 d:=Hj;have HT:=aA (zau C s r2 d w10.heap.size _ HK.out (Hj.alloc (.cells #[.string ⟨s.toArray⟩] 9)) HS.out (by simp));have GM:R=(zal s r2).then λ_ r=> .ok (acc++ [x]) r:=by rw[Jz.out,hm];rfl
     have Fe:=aA GM;clear Hj hm GM;go_wp2_with fail;refine HT.mono ?_;intro e w11 hE;rcases hE with⟨ht,rfl,hp,hf⟩|⟨ht,rfl,hf⟩;rotate_left
     ·go_wp2_with fail;exact⟨rfl,by rw[Fe.out,ht];exact⟨rfl,(G4.alloc _).trans hf⟩⟩
     have JD:=((Fr.refl C.T w10).alloc (.cells #[.string ⟨s.toArray⟩] 9)).trans hf;have KG:=aA ht;have Lo:=aA hp;have Ke:=aA JD;clear ht hp hf JD;go_wp2_with fail;go_ret;rw[Fe.out,KG.out];refine⟨_,rfl,zel (S:=NewR w.heap.size v' w10) (by simpa using zah JM.out Ke.out HL.1) (ExRow.imp (Ke.same λb hb=>⟨hb.2.1,λe=>by have e:b=C.P:=e;have:=hb.1;have:=HL.1;omega⟩) (λb hb=>hb) QA.out) (λb hb=>⟨hb.1,by have:=hb.2.1;have:=Ke.size;omega⟩) ?_,Lo.out,G4.trans Ke.out⟩;have:=hx.few;simp;omega
    ·have Hj:=FN.out;rw[hm]at Hj;have Hj:PaAt C w10 r2.tail d:=Hj;have GM:R=zaE one s f (acc++ [x]) r2.tail:=by rw[Jz.out,hm];rfl
     have Gq:r2.tail.length < r.length:=by
      have h1:=Qx.out;have h2:=List.length_pos_iff.2 Le.ne;rw[List.length_tail];omega
     have Kk:SomeX C w d R one s v' w10 (acc++ [x]) (cs++exC x A c) r2.tail:=⟨⟨f,GM,by have:=K5.out;omega⟩,by simpa using JM.out,QA.out,by have:=hx.few;simp only[List.length_append,List.length_cons,List.length_nil];omega,Hj,G4.out⟩;have Lp:=aA Kk;have Mn:=aA (show lenP C w10 < lenP C wr from by rw[Kk.pa.lenP,hx.pa.lenP];exact Gq);clear Hj hm GM Gq Kk;go_wp2_with fail;go_roundw;case rel=>exact⟨_,_,_,Lp⟩
     case measure=>exact Mn.out
  ·have KN:=Qw rfl;rw[KN]at HM;clear KN Qw;go_enter Tryz.func302,Tryz.ntmps302;go_wp2_with fail;refine HM.mono ?_;rintro _ w1 ⟨rfl,hp,hf⟩;have MH:=aA hp;have Hl:=aA hf;clear hp hf;go_wp2_with fail;go_loopw [8] (λv wr=>∃(acc:List Ex)(cs:List Value)(r:List Tk),Hid (SomeX C w d R one s v wr acc cs r)) (λ_ wr=>lenP C wr);case atStart=>exact⟨[], [],l,aA ⟨⟨_,Pq.out,aL _⟩,World.ownsRow_nil _ _ _ _,rfl,by simpa using FR,MH.out,Hl.out⟩⟩
   case round=>
    obtain⟨acc,cs,r,hx⟩:=hrel;have HQ:=aA (JZ _ hx.fr r hx.pa);go_wp2_with fail;try simp only[Array.append_empty]
    refine HQ.mono ?_;intro e w7 hE;obtain⟨f,Gs,G6⟩:=hx.eq;have F6:0 < r.length:=List.length_pos_iff.2 hx.pa.ne;obtain⟨f,rfl⟩:∃f',f=f'+1:=⟨f - 1,by omega⟩;unfold zaE at Gs;rcases hE.ways with⟨x,r2,A,c,ho,rfl,hv,hp,hf⟩|⟨c,a,ho,rfl,hf⟩;rotate_left
    ·go_wp2_with fail;exact⟨rfl,by rw[Gs,ho];exact⟨rfl,hx.fr.trans hf⟩⟩
    rw[ho]at Gs;have Gs:R=if mayB [44] r2 then zaE one s f (acc++ [x]) r2.tail else(zal s r2).then λ_ r=> .ok (acc++ [x]) r:=Gs
    have Jz:=aA Gs;have Qx:=aA (Jy _ _ _ ho);have K5:=aA G6;have Qy:=aA (zah hx.row hf HL.1);have Nr:=aA hv;have Le:=aA hp;have Fp:=aA hf;have GX:(acc.length+1)*64<=140737488355328:=by have:=hx.few;omega
    have N1:w.heap.size<=w7.heap.size:=aK hx.fr.size hf.size;clear Gs ho hv hp hf G6 F6;go_wp2_with (at_builtin;refine zav _ rfl _ _ 48 rfl w.heap.size 175 i0 (.agg #[.int .u8 0,.string ⟨#[]⟩,.int .i64 0,.slice none 0 0,.int .i64 0]) 5 64 Tryz.underlying48 HI.1 HI.2.1 HI.2.2.1 HI.2.2.2 rfl (by decide) _ _ _ rfl (Qy.alloc _) ⟨w7.heap.size,0,none⟩ 1 1 (exC x A c) rfl rfl ?c1 ?c2 (by decide) ?c3 ?c4 ?c5 ?_);case c1=>
     intro j u hj
     match j,hj with
     |0,hj=>simp[exC]at hj;subst hj;simp[Addr.add]
     |1,hj=>simp[exC]at hj;subst hj;simp[Addr.add]
     |2,hj=>simp[exC]at hj;subst hj;simp[Addr.add]
     |3,hj=>simp[exC]at hj;subst hj;simp[Addr.add]
     |4,hj=>simp[exC]at hj;subst hj;simp[Addr.add]
    case c2=>
     intro u hu;simp only[exC,List.mem_cons,List.not_mem_nil,or_false]at hu;rcases hu with rfl|rfl|rfl|rfl|rfl<;>rfl
    case c3=>unfold maxLen;omega
    case c4=>exact GX
    case c5=>simp;omega
    intro v' w9 Ha Hf Je;obtain⟨Ln,KF,Gl⟩:=ze6 HL.out hx.row hx.rows hx.fr Nr.out Le.out Fp.out Ha Hf Je;have Qz:=aA Ha;have Nw:=aA Ln;have Lj:=aA Gl;have MO:=aA (za1 C [44] r2 d w9 HK.out KF (by decide));clear Ha Hf Je Ln KF Gl GX;go_wp2_with fail;refine MO.mono ?_;rintro _ w10 ⟨rfl,Hj,Gm⟩;have JM:=aA (zah Qz.out Gm HL.1);have QA:=aA (ExRow.imp (S':=NewR w.heap.size v' w10) (Gm.same λb hb=>⟨hb.2.1,λe=>by have e:b=C.P:=e;have:=hb.1;have:=HL.1;omega⟩) (λb hb=>⟨hb.1,by have:=hb.2.1;have:=Gm.size;omega,hb.2.2⟩) Nw.out);have G4:=aA (Lj.trans Gm);have FN:=aA Hj;clear Hj Gm;cases hm:mayB [44] r2
    ·have Hj:=FN.out;rw[hm]at Hj;have Hj:PaAt C w10 r2 d:=Hj;have HT:=aA (zau C s r2 d w10.heap.size _ HK.out (Hj.alloc (.cells #[.string ⟨s.toArray⟩] 9)) HS.out (by simp));have GM:R=(zal s r2).then λ_ r=> .ok (acc++ [x]) r:=by rw[Jz.out,hm];rfl
     have Fe:=aA GM;clear Hj hm GM;go_wp2_with fail;refine HT.mono ?_;intro e w11 hE;rcases hE with⟨ht,rfl,hp,hf⟩|⟨ht,rfl,hf⟩;rotate_left
     ·go_wp2_with fail;exact⟨rfl,by rw[Fe.out,ht];exact⟨rfl,(G4.alloc _).trans hf⟩⟩
     have JD:=((Fr.refl C.T w10).alloc (.cells #[.string ⟨s.toArray⟩] 9)).trans hf;have KG:=aA ht;have Lo:=aA hp;have Ke:=aA JD;clear ht hp hf JD;go_wp2_with fail;go_ret;rw[Fe.out,KG.out];refine⟨_,rfl,zel (S:=NewR w.heap.size v' w10) (by simpa using zah JM.out Ke.out HL.1) (ExRow.imp (Ke.same λb hb=>⟨hb.2.1,λe=>by have e:b=C.P:=e;have:=hb.1;have:=HL.1;omega⟩) (λb hb=>hb) QA.out) (λb hb=>⟨hb.1,by have:=hb.2.1;have:=Ke.size;omega⟩) ?_,Lo.out,G4.trans Ke.out⟩;have:=hx.few;simp;omega
    ·have Hj:=FN.out;rw[hm]at Hj;have Hj:PaAt C w10 r2.tail d:=Hj;have GM:R=zaE one s f (acc++ [x]) r2.tail:=by rw[Jz.out,hm];rfl
     have Gq:r2.tail.length < r.length:=by
      have h1:=Qx.out;have h2:=List.length_pos_iff.2 Le.ne;rw[List.length_tail];omega
     have Kk:SomeX C w d R one s v' w10 (acc++ [x]) (cs++exC x A c) r2.tail:=⟨⟨f,GM,by have:=K5.out;omega⟩,by simpa using JM.out,QA.out,by have:=hx.few;simp only[List.length_append,List.length_cons,List.length_nil];omega,Hj,G4.out⟩;have Lp:=aA Kk;have Mn:=aA (show lenP C w10 < lenP C wr from by rw[Kk.pa.lenP,hx.pa.lenP];exact Gq);clear Hj hm GM Gq Kk;go_wp2_with fail;go_roundw;case rel=>exact⟨_,_,_,Lp⟩
     case measure=>exact Mn.out
/-! Va -/
def cCVa (x:Va):List Value:= [.string x.nm,.int .i64 x.at_]
def zem (x:Va):Prop:=in64 x.at_
def cVVa (x:Va):Value:= .agg #[.string x.nm,.int .i64 x.at_]
def cPVa (C:Pcx)(d:Nat)(r:PR Va)(W:World)(e:Ending)(w':World):Prop:=
 match r with
 | .err c a=>e=zaf c a/\Fr C.T W w'
 | .ok x l=>e= .returned (cVVa x)/\zem x/\PaAt C w' l d/\Fr C.T W w'
theorem cPVa.ways {C:Pcx}{d:Nat}{r:PR Va}{W w':World}{e:Ending}(h:cPVa C d r W e w'):
  (∃(x:Va)(l:List Tk),r= .ok x l/\e= .returned (.agg #[.string x.nm,.int .i64 x.at_])/\zem x/\PaAt C w' l d/\Fr C.T W w')\/
   ∃c a,r= .err c a/\e= .panicked [{v:= .iface 161 (.agg #[.int .i64 c,.int .i64 a]),recovered:=false}]/\Fr C.T W w':=by
 unfold cPVa at h;cases r with
 |err c a=>exact .inr ⟨c,a,rfl,h⟩
 |ok x l=>exact .inl ⟨x,l,rfl,h.1,h.2⟩
def zoL (w:World)(L:Nat)(v:Value)(xs:List Va):Prop:=∃A c,v= .slice A xs.length c/\SlR (VaR w (New L w) False xs) xs.length 24 A c
theorem cRVa {w:World}{S:Nat->Prop}{g:Nat}(hg:S g):∀ {xs:List Va} {o:Nat},(∀x∈xs,zem x)->(∀j u,(xs.flatMap cCVa)[j]?=some u->w.cell? ⟨g,o+j,none⟩=some u)->VaR w S False xs g o
 | [],_,_,_=>trivial
 |x::xs,o,h,hc=>by
  refine⟨⟨hg,λh=>absurd h id,h x (by simp),hc 0 _ rfl,hc 1 _ rfl⟩,cRVa hg (λy hy=>h y (by simp[hy])) λj u hj=>?_⟩;have:=hc (2+j) u (by rw[List.flatMap_cons,List.getElem?_append_right (by simp[cCVa])];simpa[cCVa]using hj);rw[Nat.add_assoc];exact this
structure SomeVa (C:Pcx)(w:World)(d:Nat)(R:PR (List Va))(one:List Tk->PR Va)(s:List UInt8)(v:Value)(wr:World)(acc:List Va)(l:List Tk):Prop where
 eq:∃f,R=zaE one s f acc l/\l.length<=f
 row:wr.ownsRow w.heap.size 77 2 v acc.length (acc.flatMap cCVa)
 ok:∀x∈acc,zem x
 few:acc.length+l.length<=5000
 pa:PaAt C wr l d
 fr:Fr C.T w wr
theorem zdh {L:Nat}{w:World}{v:Value}{acc:List Va}(hr:w.ownsRow L 77 2 v acc.length (acc.flatMap cCVa))(hx:∀x∈acc,zem x)(hf:acc.length<=5001):zoL w L v acc:=by
 rcases hr.2 with⟨rfl,h0⟩|⟨g,cap,cur,rfl,hb,hg,hn,hc,Gp,ht⟩
 ·exact⟨none,0,by rw[h0],by rw[h0];exact⟨aL _,⟨by decide,by decide⟩,λh=>absurd h (Nat.lt_irrefl 0)⟩⟩
 ·have hl:g < w.heap.size:=(Array.getElem?_eq_some_iff.1 hg).1;have Nv:cap<=9223372036854775807:=by unfold maxLen at hc;omega
  suffices GK:VaR w (New L w) False acc g 0 by
   exact⟨some ⟨g,0,none⟩,cap,rfl,⟨hn,⟨Nv,by omega⟩,λ_=>⟨g,0,rfl,GK⟩⟩⟩
  refine cRVa ⟨hb,hl⟩ hx λj u hj=>?_;have:=hr.cells (g:=g) rfl j u hj;have Ll:(⟨g,0,none⟩:Addr).add j=⟨g,0+j,none⟩:=by
   rw[Nat.zero_add];unfold Addr.add;split<;>simp_all
  rw[Ll]at this;exact this
theorem znX {C:Pcx}{w wr w7 w9:World}{v:Value}{acc:List Va}{r2:List Tk}{d:Nat}{cell:Array Value}
  (hL:C.P < w.heap.size/\C.TB < w.heap.size/\C.W0.heap.size<=w.heap.size) (Hi:wr.ownsRow w.heap.size 77 2 v acc.length (acc.flatMap cCVa)) (hF:Fr C.T w wr)
  (hp:PaAt C w7 r2 d) (hf:Fr C.T wr w7) (hg:(w7.alloc (.cells cell 77)).grownBy w9 v.ownBlock):PaAt C w9 r2 d/\Fr C.T w w9:=by
 have Hk:=Hi.lt;have Vf:=hF.size;have RT:=hf.size;have N6:Fr (λb=>v.ownBlock=some b) w7 w9:=(aH.alloc _).trans (Fr.grown hg λg e _=>e);have Lm:Fr (λb=>b=C.P\/v.ownBlock=some b) wr w9:=(hf.mono λi _ h=>Or.inl h).trans (N6.mono λi _ h=>Or.inr h);refine⟨hp.fr N6 (λe=>?_) (λe=>?_) (λi hi e=>?_),?_⟩
 ·have:=(Hk _ e).1;omega
 ·have:=(Hk _ e).1;omega
 ·have:=(Hk _ e).1;omega
 ·have h:=(hF.mono (T':=λb=>b=C.P\/v.ownBlock=some b) λi _ h=>Or.inl h).trans Lm;refine h.mono λi hi e=>?_;rcases e with e|e
  ·exact e
  ·have:=(Hk _ e).1;omega
theorem ze7 (C:Pcx)(one:List Tk->PR Va)(s:List UInt8)(no:Bool)(g:Nat)(fst cap:Array Value)(l:List Tk)(d:Nat)(w:World)(hk:C.Ok)(h:PaAt C w l d)(Jy:Shr one)(hs:s≠ [])
  (hent:Enters Tryz.prog g) (Hp:∀W,Fr C.T w W->∀l',PaAt C W l' d->Calls Tryz.prog g (fst++cap) W (cPVa C d (one l') W)):
  Calls Tryz.prog 130 #[.pointer (some ⟨C.P,0,none⟩),.string ⟨s.toArray⟩,.bool no,.func (.func g) fst cap] w (EndV C d zoL (zaS one s no l) w):=by
 obtain⟨i0,hi,Fg,Hw,G5⟩:=info_parts zkn;obtain⟨R,hR⟩:=aF (zaS one s no l);rw[<-hR];have hL:=h.lts;have FR:l.length<=5000:=by
  obtain⟨j,q,e,_⟩:=h.at_;have:=hk.few;rw[e,List.length_drop];omega
 have JZ:=aA Hp;have HK:=aA hk;have HL:=aA hL;have HS:=aA hs;unfold Enters at hent;have Qv:=za1 C s l d w hk h hs;have HM:=aA Qv;have key:∀(v:Value)(wr:World)(acc:List Ex)(cs:List Value)(r:List Tk),no=no:=λ_ _ _ _ _=>rfl;by_cases hn:no=true/\mayB s l=true
 ·obtain⟨rfl,hm⟩:=hn;have GJ:R= .ok [] l.tail:=by rw[hR];unfold zaS;rw[hm];rfl
  have GF:=aA GJ;rw[hm]at HM;clear hR h Hp hk hs hL Qv GJ key hm FR;go_enter Tryz.func130,Tryz.ntmps130;go_wp2_with fail;refine HM.mono ?_;rintro _ w1 ⟨rfl,hp,hf⟩;have HP:=aA hp;have HF:=aA hf;clear hp hf;go_wp2_with fail;go_ret;rw[GF.out];exact⟨_,rfl,⟨none,0,rfl,aL 0,⟨by decide,by decide⟩,λh=>absurd h (Nat.lt_irrefl 0)⟩,HP.out,HF.out⟩
 ·have GJ:R=zaE one s l.length [] l:=by
   rw[hR];unfold zaS;cases no
   ·rfl
   ·rw[if_neg (by intro h;exact hn ⟨rfl,by simpa using h⟩)]
  have Pq:=aA GJ;have JI:no=true->mayB s l=false:=λe=>by
   cases hm:mayB s l
   ·rfl
   ·exact absurd ⟨e,hm⟩ hn
  have Qw:=aA JI;have H:=aA h;have HI:=aA (aG hi (aG Fg (aG Hw G5)));clear hR Hp hk hs hL Qv GJ key hn JI h;cases no
  ·have MH:=aA H.out;have Hl:=aA (Fr.refl C.T w);clear HM Qw;go_enter Tryz.func130,Tryz.ntmps130;go_wp2_with fail;go_loopw [8] (λv wr=>∃(acc:List Va)(r:List Tk),Hid (SomeVa C w d R one s v wr acc r)) (λ_ wr=>lenP C wr);case atStart=>exact⟨[],l,aA ⟨⟨_,Pq.out,aL _⟩,World.ownsRow_nil _ _ _ _,λx hx=>by simp at hx,by simpa using FR,MH.out,Hl.out⟩⟩
   case round=>
    obtain⟨acc,r,hx⟩:=hrel;have HQ:=aA (JZ _ hx.fr r hx.pa);go_wp2_with fail;try simp only[Array.append_empty]
    refine HQ.mono ?_;intro e w7 hE;obtain⟨f,Gs,G6⟩:=hx.eq;have F6:0 < r.length:=List.length_pos_iff.2 hx.pa.ne;obtain⟨f,rfl⟩:∃f',f=f'+1:=⟨f - 1,by omega⟩;unfold zaE at Gs;rcases hE.ways with⟨x,r2,ho,rfl,hv,hp,hf⟩|⟨c,a,ho,rfl,hf⟩;rotate_left
    ·go_wp2_with fail;exact⟨rfl,by rw[Gs,ho];exact⟨rfl,hx.fr.trans hf⟩⟩
    rw[ho]at Gs;have Gs:R=if mayB [44] r2 then zaE one s f (acc++ [x]) r2.tail else(zal s r2).then λ_ r=> .ok (acc++ [x]) r:=Gs
    have Jz:=aA Gs;have Qx:=aA (Jy _ _ _ ho);have K5:=aA G6;have Qy:=aA (zah hx.row hf HL.1);have Nr:=aA hv;have Le:=aA hp;have Fp:=aA hf;have GX:(acc.length+1)*24<=140737488355328:=by have:=hx.few;omega
    have N1:w.heap.size<=w7.heap.size:=aK hx.fr.size hf.size;clear Gs ho hv hp hf G6 F6;go_wp2_with (at_builtin;refine zav _ rfl _ _ 22 rfl w.heap.size 77 i0 (.agg #[.string ⟨#[]⟩,.int .i64 0]) 2 24 Tryz.underlying22 HI.1 HI.2.1 HI.2.2.1 HI.2.2.2 rfl (by decide) _ _ _ rfl (Qy.alloc _) ⟨w7.heap.size,0,none⟩ 1 1 (cCVa x) rfl rfl ?c1 ?c2 (by decide) ?c3 ?c4 ?c5 ?_);case c1=>
     intro j u hj
     match j,hj with
     |0,hj=>simp[cCVa]at hj;subst hj;simp[Addr.add]
     |1,hj=>simp[cCVa]at hj;subst hj;simp[Addr.add]
    case c2=>
     intro u hu;simp only[cCVa,List.mem_cons,List.not_mem_nil,or_false]at hu;rcases hu with rfl|rfl<;>rfl
    case c3=>unfold maxLen;omega
    case c4=>exact GX
    case c5=>simp;omega
    intro v' w9 Ha Hf Je;obtain⟨KF,Gl⟩:=znX HL.out hx.row hx.fr Le.out Fp.out Hf;have Lq:∀y∈acc++ [x],zem y:=λy hy=>by
     rcases List.mem_append.1 hy with h|h
     ·exact hx.ok y h
     ·rw[List.mem_singleton.1 h];exact Nr.out
    have Qz:=aA (show w9.ownsRow w.heap.size 77 2 v' (acc++ [x]).length ((acc++ [x]).flatMap cCVa)from by
     rw[List.flatMap_append,List.length_append,List.flatMap_cons,List.flatMap_nil,List.append_nil];exact Ha)
    have Nw:=aA Lq;have Lj:=aA Gl;have MO:=aA (za1 C [44] r2 d w9 HK.out KF (by decide));clear Ha Hf Je Lq KF Gl GX;go_wp2_with fail;refine MO.mono ?_;rintro _ w10 ⟨rfl,Hj,Gm⟩;have JM:=aA (zah Qz.out Gm HL.1);have G4:=aA (Lj.trans Gm);have FN:=aA Hj;clear Hj Gm;cases hm:mayB [44] r2
    ·have Hj:=FN.out;rw[hm]at Hj;have Hj:PaAt C w10 r2 d:=Hj;have HT:=aA (zau C s r2 d w10.heap.size _ HK.out (Hj.alloc (.cells #[.string ⟨s.toArray⟩] 9)) HS.out (by simp));have GM:R=(zal s r2).then λ_ r=> .ok (acc++ [x]) r:=by rw[Jz.out,hm];rfl
     have Fe:=aA GM;clear Hj hm GM;go_wp2_with fail;refine HT.mono ?_;intro e w11 hE;rcases hE with⟨ht,rfl,hp,hf⟩|⟨ht,rfl,hf⟩;rotate_left
     ·go_wp2_with fail;exact⟨rfl,by rw[Fe.out,ht];exact⟨rfl,(G4.alloc _).trans hf⟩⟩
     have JD:=((Fr.refl C.T w10).alloc (.cells #[.string ⟨s.toArray⟩] 9)).trans hf;have KG:=aA ht;have Lo:=aA hp;have Ke:=aA JD;clear ht hp hf JD;go_wp2_with fail;go_ret;rw[Fe.out,KG.out];refine⟨_,rfl,zdh (zah JM.out Ke.out HL.1) Nw.out ?_,Lo.out,G4.trans Ke.out⟩;have:=hx.few;simp;omega
    ·have Hj:=FN.out;rw[hm]at Hj;have Hj:PaAt C w10 r2.tail d:=Hj;have GM:R=zaE one s f (acc++ [x]) r2.tail:=by rw[Jz.out,hm];rfl
     have Gq:r2.tail.length < r.length:=by
      have h1:=Qx.out;have h2:=List.length_pos_iff.2 Le.ne;rw[List.length_tail];omega
     have Kk:SomeVa C w d R one s v' w10 (acc++ [x]) r2.tail:=⟨⟨f,GM,by have:=K5.out;omega⟩,JM.out,Nw.out,by have:=hx.few;simp only[List.length_append,List.length_cons,List.length_nil];omega,Hj,G4.out⟩;have Lp:=aA Kk;have Mn:=aA (show lenP C w10 < lenP C wr from by rw[Kk.pa.lenP,hx.pa.lenP];exact Gq);clear Hj hm GM Gq Kk;go_wp2_with fail;go_roundw;case rel=>exact⟨_,_,Lp⟩
     case measure=>exact Mn.out
  ·have KN:=Qw rfl;rw[KN]at HM;clear KN Qw;go_enter Tryz.func130,Tryz.ntmps130;go_wp2_with fail;refine HM.mono ?_;rintro _ w1 ⟨rfl,hp,hf⟩;have MH:=aA hp;have Hl:=aA hf;clear hp hf;go_wp2_with fail;go_loopw [8] (λv wr=>∃(acc:List Va)(r:List Tk),Hid (SomeVa C w d R one s v wr acc r)) (λ_ wr=>lenP C wr);case atStart=>exact⟨[],l,aA ⟨⟨_,Pq.out,aL _⟩,World.ownsRow_nil _ _ _ _,λx hx=>by simp at hx,by simpa using FR,MH.out,Hl.out⟩⟩
   case round=>
    obtain⟨acc,r,hx⟩:=hrel;have HQ:=aA (JZ _ hx.fr r hx.pa);go_wp2_with fail;try simp only[Array.append_empty]
    refine HQ.mono ?_;intro e w7 hE;obtain⟨f,Gs,G6⟩:=hx.eq;have F6:0 < r.length:=List.length_pos_iff.2 hx.pa.ne;obtain⟨f,rfl⟩:∃f',f=f'+1:=⟨f - 1,by omega⟩;unfold zaE at Gs;rcases hE.ways with⟨x,r2,ho,rfl,hv,hp,hf⟩|⟨c,a,ho,rfl,hf⟩;rotate_left
    ·go_wp2_with fail;exact⟨rfl,by rw[Gs,ho];exact⟨rfl,hx.fr.trans hf⟩⟩
    rw[ho]at Gs;have Gs:R=if mayB [44] r2 then zaE one s f (acc++ [x]) r2.tail else(zal s r2).then λ_ r=> .ok (acc++ [x]) r:=Gs
    have Jz:=aA Gs;have Qx:=aA (Jy _ _ _ ho);have K5:=aA G6;have Qy:=aA (zah hx.row hf HL.1);have Nr:=aA hv;have Le:=aA hp;have Fp:=aA hf;have GX:(acc.length+1)*24<=140737488355328:=by have:=hx.few;omega
    have N1:w.heap.size<=w7.heap.size:=aK hx.fr.size hf.size;clear Gs ho hv hp hf G6 F6;go_wp2_with (at_builtin;refine zav _ rfl _ _ 22 rfl w.heap.size 77 i0 (.agg #[.string ⟨#[]⟩,.int .i64 0]) 2 24 Tryz.underlying22 HI.1 HI.2.1 HI.2.2.1 HI.2.2.2 rfl (by decide) _ _ _ rfl (Qy.alloc _) ⟨w7.heap.size,0,none⟩ 1 1 (cCVa x) rfl rfl ?c1 ?c2 (by decide) ?c3 ?c4 ?c5 ?_);case c1=>
     intro j u hj
     match j,hj with
     |0,hj=>simp[cCVa]at hj;subst hj;simp[Addr.add]
     |1,hj=>simp[cCVa]at hj;subst hj;simp[Addr.add]
    case c2=>
     intro u hu;simp only[cCVa,List.mem_cons,List.not_mem_nil,or_false]at hu;rcases hu with rfl|rfl<;>rfl
    case c3=>unfold maxLen;omega
    case c4=>exact GX
    case c5=>simp;omega
    intro v' w9 Ha Hf Je;obtain⟨KF,Gl⟩:=znX HL.out hx.row hx.fr Le.out Fp.out Hf;have Lq:∀y∈acc++ [x],zem y:=λy hy=>by
     rcases List.mem_append.1 hy with h|h
     ·exact hx.ok y h
     ·rw[List.mem_singleton.1 h];exact Nr.out
    have Qz:=aA (show w9.ownsRow w.heap.size 77 2 v' (acc++ [x]).length ((acc++ [x]).flatMap cCVa)from by
     rw[List.flatMap_append,List.length_append,List.flatMap_cons,List.flatMap_nil,List.append_nil];exact Ha)
    have Nw:=aA Lq;have Lj:=aA Gl;have MO:=aA (za1 C [44] r2 d w9 HK.out KF (by decide));clear Ha Hf Je Lq KF Gl GX;go_wp2_with fail;refine MO.mono ?_;rintro _ w10 ⟨rfl,Hj,Gm⟩;have JM:=aA (zah Qz.out Gm HL.1);have G4:=aA (Lj.trans Gm);have FN:=aA Hj;clear Hj Gm;cases hm:mayB [44] r2
    ·have Hj:=FN.out;rw[hm]at Hj;have Hj:PaAt C w10 r2 d:=Hj;have HT:=aA (zau C s r2 d w10.heap.size _ HK.out (Hj.alloc (.cells #[.string ⟨s.toArray⟩] 9)) HS.out (by simp));have GM:R=(zal s r2).then λ_ r=> .ok (acc++ [x]) r:=by rw[Jz.out,hm];rfl
     have Fe:=aA GM;clear Hj hm GM;go_wp2_with fail;refine HT.mono ?_;intro e w11 hE;rcases hE with⟨ht,rfl,hp,hf⟩|⟨ht,rfl,hf⟩;rotate_left
     ·go_wp2_with fail;exact⟨rfl,by rw[Fe.out,ht];exact⟨rfl,(G4.alloc _).trans hf⟩⟩
     have JD:=((Fr.refl C.T w10).alloc (.cells #[.string ⟨s.toArray⟩] 9)).trans hf;have KG:=aA ht;have Lo:=aA hp;have Ke:=aA JD;clear ht hp hf JD;go_wp2_with fail;go_ret;rw[Fe.out,KG.out];refine⟨_,rfl,zdh (zah JM.out Ke.out HL.1) Nw.out ?_,Lo.out,G4.trans Ke.out⟩;have:=hx.few;simp;omega
    ·have Hj:=FN.out;rw[hm]at Hj;have Hj:PaAt C w10 r2.tail d:=Hj;have GM:R=zaE one s f (acc++ [x]) r2.tail:=by rw[Jz.out,hm];rfl
     have Gq:r2.tail.length < r.length:=by
      have h1:=Qx.out;have h2:=List.length_pos_iff.2 Le.ne;rw[List.length_tail];omega
     have Kk:SomeVa C w d R one s v' w10 (acc++ [x]) r2.tail:=⟨⟨f,GM,by have:=K5.out;omega⟩,JM.out,Nw.out,by have:=hx.few;simp only[List.length_append,List.length_cons,List.length_nil];omega,Hj,G4.out⟩;have Lp:=aA Kk;have Mn:=aA (show lenP C w10 < lenP C wr from by rw[Kk.pa.lenP,hx.pa.lenP];exact Gq);clear Hj hm GM Gq Kk;go_wp2_with fail;go_roundw;case rel=>exact⟨_,_,Lp⟩
     case measure=>exact Mn.out
/-! Arr -/
def cCAr (x:Arr):List Value:= [.string x.nm,.int .i64 x.size,.int .i64 x.at_]
def zeT (x:Arr):Prop:=in64 x.size/\in64 x.at_
def cVAr (x:Arr):Value:= .agg #[.string x.nm,.int .i64 x.size,.int .i64 x.at_]
def cPAr (C:Pcx)(d:Nat)(r:PR Arr)(W:World)(e:Ending)(w':World):Prop:=
 match r with
 | .err c a=>e=zaf c a/\Fr C.T W w'
 | .ok x l=>e= .returned (cVAr x)/\zeT x/\PaAt C w' l d/\Fr C.T W w'
theorem cPAr.ways {C:Pcx}{d:Nat}{r:PR Arr}{W w':World}{e:Ending}(h:cPAr C d r W e w'):
  (∃(x:Arr)(l:List Tk),r= .ok x l/\e= .returned (.agg #[.string x.nm,.int .i64 x.size,.int .i64 x.at_])/\zeT x/\PaAt C w' l d/\Fr C.T W w')\/
   ∃c a,r= .err c a/\e= .panicked [{v:= .iface 161 (.agg #[.int .i64 c,.int .i64 a]),recovered:=false}]/\Fr C.T W w':=by
 unfold cPAr at h;cases r with
 |err c a=>exact .inr ⟨c,a,rfl,h⟩
 |ok x l=>exact .inl ⟨x,l,rfl,h.1,h.2⟩
def zoM (w:World)(L:Nat)(v:Value)(xs:List Arr):Prop:=∃A c,v= .slice A xs.length c/\SlR (ArR w (New L w) False xs) xs.length 32 A c
theorem cRAr {w:World}{S:Nat->Prop}{g:Nat}(hg:S g):∀ {xs:List Arr} {o:Nat},(∀x∈xs,zeT x)->(∀j u,(xs.flatMap cCAr)[j]?=some u->w.cell? ⟨g,o+j,none⟩=some u)->ArR w S False xs g o
 | [],_,_,_=>trivial
 |x::xs,o,h,hc=>by
  refine⟨⟨hg,λh=>absurd h id,(h x (by simp)).1,(h x (by simp)).2,hc 0 _ rfl,hc 1 _ rfl,hc 2 _ rfl⟩,cRAr hg (λy hy=>h y (by simp[hy])) λj u hj=>?_⟩;have:=hc (3+j) u (by rw[List.flatMap_cons,List.getElem?_append_right (by simp[cCAr])];simpa[cCAr]using hj);rw[Nat.add_assoc];exact this
structure SomeAr (C:Pcx)(w:World)(d:Nat)(R:PR (List Arr))(one:List Tk->PR Arr)(s:List UInt8)(v:Value)(wr:World)(acc:List Arr)(l:List Tk):Prop where
 eq:∃f,R=zaE one s f acc l/\l.length<=f
 row:wr.ownsRow w.heap.size 61 3 v acc.length (acc.flatMap cCAr)
 ok:∀x∈acc,zeT x
 few:acc.length+l.length<=5000
 pa:PaAt C wr l d
 fr:Fr C.T w wr
theorem zdi {L:Nat}{w:World}{v:Value}{acc:List Arr}(hr:w.ownsRow L 61 3 v acc.length (acc.flatMap cCAr))(hx:∀x∈acc,zeT x)(hf:acc.length<=5001):zoM w L v acc:=by
 rcases hr.2 with⟨rfl,h0⟩|⟨g,cap,cur,rfl,hb,hg,hn,hc,Gp,ht⟩
 ·exact⟨none,0,by rw[h0],by rw[h0];exact⟨aL _,⟨by decide,by decide⟩,λh=>absurd h (Nat.lt_irrefl 0)⟩⟩
 ·have hl:g < w.heap.size:=(Array.getElem?_eq_some_iff.1 hg).1;have Nv:cap<=9223372036854775807:=by unfold maxLen at hc;omega
  suffices GK:ArR w (New L w) False acc g 0 by
   exact⟨some ⟨g,0,none⟩,cap,rfl,⟨hn,⟨Nv,by omega⟩,λ_=>⟨g,0,rfl,GK⟩⟩⟩
  refine cRAr ⟨hb,hl⟩ hx λj u hj=>?_;have:=hr.cells (g:=g) rfl j u hj;have Ll:(⟨g,0,none⟩:Addr).add j=⟨g,0+j,none⟩:=by
   rw[Nat.zero_add];unfold Addr.add;split<;>simp_all
  rw[Ll]at this;exact this
theorem znY {C:Pcx}{w wr w7 w9:World}{v:Value}{acc:List Arr}{r2:List Tk}{d:Nat}{cell:Array Value}
  (hL:C.P < w.heap.size/\C.TB < w.heap.size/\C.W0.heap.size<=w.heap.size) (Hi:wr.ownsRow w.heap.size 61 3 v acc.length (acc.flatMap cCAr)) (hF:Fr C.T w wr)
  (hp:PaAt C w7 r2 d) (hf:Fr C.T wr w7) (hg:(w7.alloc (.cells cell 61)).grownBy w9 v.ownBlock):PaAt C w9 r2 d/\Fr C.T w w9:=by
 have Hk:=Hi.lt;have Vf:=hF.size;have RT:=hf.size;have N6:Fr (λb=>v.ownBlock=some b) w7 w9:=(aH.alloc _).trans (Fr.grown hg λg e _=>e);have Lm:Fr (λb=>b=C.P\/v.ownBlock=some b) wr w9:=(hf.mono λi _ h=>Or.inl h).trans (N6.mono λi _ h=>Or.inr h);refine⟨hp.fr N6 (λe=>?_) (λe=>?_) (λi hi e=>?_),?_⟩
 ·have:=(Hk _ e).1;omega
 ·have:=(Hk _ e).1;omega
 ·have:=(Hk _ e).1;omega
 ·have h:=(hF.mono (T':=λb=>b=C.P\/v.ownBlock=some b) λi _ h=>Or.inl h).trans Lm;refine h.mono λi hi e=>?_;rcases e with e|e
  ·exact e
  ·have:=(Hk _ e).1;omega
theorem zi3 (C:Pcx)(one:List Tk->PR Arr)(s:List UInt8)(no:Bool)(g:Nat)(fst cap:Array Value)(l:List Tk)(d:Nat)(w:World)(hk:C.Ok)(h:PaAt C w l d)(Jy:Shr one)(hs:s≠ [])
  (hent:Enters Tryz.prog g) (Hp:∀W,Fr C.T w W->∀l',PaAt C W l' d->Calls Tryz.prog g (fst++cap) W (cPAr C d (one l') W)):
  Calls Tryz.prog 132 #[.pointer (some ⟨C.P,0,none⟩),.string ⟨s.toArray⟩,.bool no,.func (.func g) fst cap] w (EndV C d zoM (zaS one s no l) w):=by
 obtain⟨i0,hi,Fg,Hw,G5⟩:=info_parts zko;obtain⟨R,hR⟩:=aF (zaS one s no l);rw[<-hR];have hL:=h.lts;have FR:l.length<=5000:=by
  obtain⟨j,q,e,_⟩:=h.at_;have:=hk.few;rw[e,List.length_drop];omega
 have JZ:=aA Hp;have HK:=aA hk;have HL:=aA hL;have HS:=aA hs;unfold Enters at hent;have Qv:=za1 C s l d w hk h hs;have HM:=aA Qv;have key:∀(v:Value)(wr:World)(acc:List Ex)(cs:List Value)(r:List Tk),no=no:=λ_ _ _ _ _=>rfl;by_cases hn:no=true/\mayB s l=true
 ·obtain⟨rfl,hm⟩:=hn;have GJ:R= .ok [] l.tail:=by rw[hR];unfold zaS;rw[hm];rfl
  have GF:=aA GJ;rw[hm]at HM;clear hR h Hp hk hs hL Qv GJ key hm FR;go_enter Tryz.func132,Tryz.ntmps132;go_wp2_with fail;refine HM.mono ?_;rintro _ w1 ⟨rfl,hp,hf⟩;have HP:=aA hp;have HF:=aA hf;clear hp hf;go_wp2_with fail;go_ret;rw[GF.out];exact⟨_,rfl,⟨none,0,rfl,aL 0,⟨by decide,by decide⟩,λh=>absurd h (Nat.lt_irrefl 0)⟩,HP.out,HF.out⟩
 ·have GJ:R=zaE one s l.length [] l:=by
   rw[hR];unfold zaS;cases no
   ·rfl
   ·rw[if_neg (by intro h;exact hn ⟨rfl,by simpa using h⟩)]
  have Pq:=aA GJ;have JI:no=true->mayB s l=false:=λe=>by
   cases hm:mayB s l
   ·rfl
   ·exact absurd ⟨e,hm⟩ hn
  have Qw:=aA JI;have H:=aA h;have HI:=aA (aG hi (aG Fg (aG Hw G5)));clear hR Hp hk hs hL Qv GJ key hn JI h;cases no
  ·have MH:=aA H.out;have Hl:=aA (Fr.refl C.T w);clear HM Qw;go_enter Tryz.func132,Tryz.ntmps132;go_wp2_with fail;go_loopw [8] (λv wr=>∃(acc:List Arr)(r:List Tk),Hid (SomeAr C w d R one s v wr acc r)) (λ_ wr=>lenP C wr);case atStart=>exact⟨[],l,aA ⟨⟨_,Pq.out,aL _⟩,World.ownsRow_nil _ _ _ _,λx hx=>by simp at hx,by simpa using FR,MH.out,Hl.out⟩⟩
   case round=>
    obtain⟨acc,r,hx⟩:=hrel;have HQ:=aA (JZ _ hx.fr r hx.pa);go_wp2_with fail;try simp only[Array.append_empty]
    refine HQ.mono ?_;intro e w7 hE;obtain⟨f,Gs,G6⟩:=hx.eq;have F6:0 < r.length:=List.length_pos_iff.2 hx.pa.ne;obtain⟨f,rfl⟩:∃f',f=f'+1:=⟨f - 1,by omega⟩;unfold zaE at Gs;rcases hE.ways with⟨x,r2,ho,rfl,hv,hp,hf⟩|⟨c,a,ho,rfl,hf⟩;rotate_left
    ·go_wp2_with fail;exact⟨rfl,by rw[Gs,ho];exact⟨rfl,hx.fr.trans hf⟩⟩
    rw[ho]at Gs;have Gs:R=if mayB [44] r2 then zaE one s f (acc++ [x]) r2.tail else(zal s r2).then λ_ r=> .ok (acc++ [x]) r:=Gs
    have Jz:=aA Gs;have Qx:=aA (Jy _ _ _ ho);have K5:=aA G6;have Qy:=aA (zah hx.row hf HL.1);have Nr:=aA hv;have Le:=aA hp;have Fp:=aA hf;have GX:(acc.length+1)*32<=140737488355328:=by have:=hx.few;omega
    have N1:w.heap.size<=w7.heap.size:=aK hx.fr.size hf.size;clear Gs ho hv hp hf G6 F6;go_wp2_with (at_builtin;refine zav _ rfl _ _ 23 rfl w.heap.size 61 i0 (.agg #[.string ⟨#[]⟩,.int .i64 0,.int .i64 0]) 3 32 Tryz.underlying23 HI.1 HI.2.1 HI.2.2.1 HI.2.2.2 rfl (by decide) _ _ _ rfl (Qy.alloc _) ⟨w7.heap.size,0,none⟩ 1 1 (cCAr x) rfl rfl ?c1 ?c2 (by decide) ?c3 ?c4 ?c5 ?_);case c1=>
     intro j u hj
     match j,hj with
     |0,hj=>simp[cCAr]at hj;subst hj;simp[Addr.add]
     |1,hj=>simp[cCAr]at hj;subst hj;simp[Addr.add]
     |2,hj=>simp[cCAr]at hj;subst hj;simp[Addr.add]
    case c2=>
     intro u hu;simp only[cCAr,List.mem_cons,List.not_mem_nil,or_false]at hu;rcases hu with rfl|rfl|rfl<;>rfl
    case c3=>unfold maxLen;omega
    case c4=>exact GX
    case c5=>simp;omega
    intro v' w9 Ha Hf Je;obtain⟨KF,Gl⟩:=znY HL.out hx.row hx.fr Le.out Fp.out Hf;have Lq:∀y∈acc++ [x],zeT y:=λy hy=>by
     rcases List.mem_append.1 hy with h|h
     ·exact hx.ok y h
     ·rw[List.mem_singleton.1 h];exact Nr.out
    have Qz:=aA (show w9.ownsRow w.heap.size 61 3 v' (acc++ [x]).length ((acc++ [x]).flatMap cCAr)from by
     rw[List.flatMap_append,List.length_append,List.flatMap_cons,List.flatMap_nil,List.append_nil];exact Ha)
    have Nw:=aA Lq;have Lj:=aA Gl;have MO:=aA (za1 C [44] r2 d w9 HK.out KF (by decide));clear Ha Hf Je Lq KF Gl GX;go_wp2_with fail;refine MO.mono ?_;rintro _ w10 ⟨rfl,Hj,Gm⟩;have JM:=aA (zah Qz.out Gm HL.1);have G4:=aA (Lj.trans Gm);have FN:=aA Hj;clear Hj Gm;cases hm:mayB [44] r2
    ·have Hj:=FN.out;rw[hm]at Hj;have Hj:PaAt C w10 r2 d:=Hj;have HT:=aA (zau C s r2 d w10.heap.size _ HK.out (Hj.alloc (.cells #[.string ⟨s.toArray⟩] 9)) HS.out (by simp));have GM:R=(zal s r2).then λ_ r=> .ok (acc++ [x]) r:=by rw[Jz.out,hm];rfl
     have Fe:=aA GM;clear Hj hm GM;go_wp2_with fail;refine HT.mono ?_;intro e w11 hE;rcases hE with⟨ht,rfl,hp,hf⟩|⟨ht,rfl,hf⟩;rotate_left
     ·go_wp2_with fail;exact⟨rfl,by rw[Fe.out,ht];exact⟨rfl,(G4.alloc _).trans hf⟩⟩
     have JD:=((Fr.refl C.T w10).alloc (.cells #[.string ⟨s.toArray⟩] 9)).trans hf;have KG:=aA ht;have Lo:=aA hp;have Ke:=aA JD;clear ht hp hf JD;go_wp2_with fail;go_ret;rw[Fe.out,KG.out];refine⟨_,rfl,zdi (zah JM.out Ke.out HL.1) Nw.out ?_,Lo.out,G4.trans Ke.out⟩;have:=hx.few;simp;omega
    ·have Hj:=FN.out;rw[hm]at Hj;have Hj:PaAt C w10 r2.tail d:=Hj;have GM:R=zaE one s f (acc++ [x]) r2.tail:=by rw[Jz.out,hm];rfl
     have Gq:r2.tail.length < r.length:=by
      have h1:=Qx.out;have h2:=List.length_pos_iff.2 Le.ne;rw[List.length_tail];omega
     have Kk:SomeAr C w d R one s v' w10 (acc++ [x]) r2.tail:=⟨⟨f,GM,by have:=K5.out;omega⟩,JM.out,Nw.out,by have:=hx.few;simp only[List.length_append,List.length_cons,List.length_nil];omega,Hj,G4.out⟩;have Lp:=aA Kk;have Mn:=aA (show lenP C w10 < lenP C wr from by rw[Kk.pa.lenP,hx.pa.lenP];exact Gq);clear Hj hm GM Gq Kk;go_wp2_with fail;go_roundw;case rel=>exact⟨_,_,Lp⟩
     case measure=>exact Mn.out
  ·have KN:=Qw rfl;rw[KN]at HM;clear KN Qw;go_enter Tryz.func132,Tryz.ntmps132;go_wp2_with fail;refine HM.mono ?_;rintro _ w1 ⟨rfl,hp,hf⟩;have MH:=aA hp;have Hl:=aA hf;clear hp hf;go_wp2_with fail;go_loopw [8] (λv wr=>∃(acc:List Arr)(r:List Tk),Hid (SomeAr C w d R one s v wr acc r)) (λ_ wr=>lenP C wr);case atStart=>exact⟨[],l,aA ⟨⟨_,Pq.out,aL _⟩,World.ownsRow_nil _ _ _ _,λx hx=>by simp at hx,by simpa using FR,MH.out,Hl.out⟩⟩
   case round=>
    obtain⟨acc,r,hx⟩:=hrel;have HQ:=aA (JZ _ hx.fr r hx.pa);go_wp2_with fail;try simp only[Array.append_empty]
    refine HQ.mono ?_;intro e w7 hE;obtain⟨f,Gs,G6⟩:=hx.eq;have F6:0 < r.length:=List.length_pos_iff.2 hx.pa.ne;obtain⟨f,rfl⟩:∃f',f=f'+1:=⟨f - 1,by omega⟩;unfold zaE at Gs;rcases hE.ways with⟨x,r2,ho,rfl,hv,hp,hf⟩|⟨c,a,ho,rfl,hf⟩;rotate_left
    ·go_wp2_with fail;exact⟨rfl,by rw[Gs,ho];exact⟨rfl,hx.fr.trans hf⟩⟩
    rw[ho]at Gs;have Gs:R=if mayB [44] r2 then zaE one s f (acc++ [x]) r2.tail else(zal s r2).then λ_ r=> .ok (acc++ [x]) r:=Gs
    have Jz:=aA Gs;have Qx:=aA (Jy _ _ _ ho);have K5:=aA G6;have Qy:=aA (zah hx.row hf HL.1);have Nr:=aA hv;have Le:=aA hp;have Fp:=aA hf;have GX:(acc.length+1)*32<=140737488355328:=by have:=hx.few;omega
    have N1:w.heap.size<=w7.heap.size:=aK hx.fr.size hf.size;clear Gs ho hv hp hf G6 F6;go_wp2_with (at_builtin;refine zav _ rfl _ _ 23 rfl w.heap.size 61 i0 (.agg #[.string ⟨#[]⟩,.int .i64 0,.int .i64 0]) 3 32 Tryz.underlying23 HI.1 HI.2.1 HI.2.2.1 HI.2.2.2 rfl (by decide) _ _ _ rfl (Qy.alloc _) ⟨w7.heap.size,0,none⟩ 1 1 (cCAr x) rfl rfl ?c1 ?c2 (by decide) ?c3 ?c4 ?c5 ?_);case c1=>
     intro j u hj
     match j,hj with
     |0,hj=>simp[cCAr]at hj;subst hj;simp[Addr.add]
     |1,hj=>simp[cCAr]at hj;subst hj;simp[Addr.add]
     |2,hj=>simp[cCAr]at hj;subst hj;simp[Addr.add]
    case c2=>
     intro u hu;simp only[cCAr,List.mem_cons,List.not_mem_nil,or_false]at hu;rcases hu with rfl|rfl|rfl<;>rfl
    case c3=>unfold maxLen;omega
    case c4=>exact GX
    case c5=>simp;omega
    intro v' w9 Ha Hf Je;obtain⟨KF,Gl⟩:=znY HL.out hx.row hx.fr Le.out Fp.out Hf;have Lq:∀y∈acc++ [x],zeT y:=λy hy=>by
     rcases List.mem_append.1 hy with h|h
     ·exact hx.ok y h
     ·rw[List.mem_singleton.1 h];exact Nr.out
    have Qz:=aA (show w9.ownsRow w.heap.size 61 3 v' (acc++ [x]).length ((acc++ [x]).flatMap cCAr)from by
     rw[List.flatMap_append,List.length_append,List.flatMap_cons,List.flatMap_nil,List.append_nil];exact Ha)
    have Nw:=aA Lq;have Lj:=aA Gl;have MO:=aA (za1 C [44] r2 d w9 HK.out KF (by decide));clear Ha Hf Je Lq KF Gl GX;go_wp2_with fail;refine MO.mono ?_;rintro _ w10 ⟨rfl,Hj,Gm⟩;have JM:=aA (zah Qz.out Gm HL.1);have G4:=aA (Lj.trans Gm);have FN:=aA Hj;clear Hj Gm;cases hm:mayB [44] r2
    ·have Hj:=FN.out;rw[hm]at Hj;have Hj:PaAt C w10 r2 d:=Hj;have HT:=aA (zau C s r2 d w10.heap.size _ HK.out (Hj.alloc (.cells #[.string ⟨s.toArray⟩] 9)) HS.out (by simp));have GM:R=(zal s r2).then λ_ r=> .ok (acc++ [x]) r:=by rw[Jz.out,hm];rfl
     have Fe:=aA GM;clear Hj hm GM;go_wp2_with fail;refine HT.mono ?_;intro e w11 hE;rcases hE with⟨ht,rfl,hp,hf⟩|⟨ht,rfl,hf⟩;rotate_left
     ·go_wp2_with fail;exact⟨rfl,by rw[Fe.out,ht];exact⟨rfl,(G4.alloc _).trans hf⟩⟩
     have JD:=((Fr.refl C.T w10).alloc (.cells #[.string ⟨s.toArray⟩] 9)).trans hf;have KG:=aA ht;have Lo:=aA hp;have Ke:=aA JD;clear ht hp hf JD;go_wp2_with fail;go_ret;rw[Fe.out,KG.out];refine⟨_,rfl,zdi (zah JM.out Ke.out HL.1) Nw.out ?_,Lo.out,G4.trans Ke.out⟩;have:=hx.few;simp;omega
    ·have Hj:=FN.out;rw[hm]at Hj;have Hj:PaAt C w10 r2.tail d:=Hj;have GM:R=zaE one s f (acc++ [x]) r2.tail:=by rw[Jz.out,hm];rfl
     have Gq:r2.tail.length < r.length:=by
      have h1:=Qx.out;have h2:=List.length_pos_iff.2 Le.ne;rw[List.length_tail];omega
     have Kk:SomeAr C w d R one s v' w10 (acc++ [x]) r2.tail:=⟨⟨f,GM,by have:=K5.out;omega⟩,JM.out,Nw.out,by have:=hx.few;simp only[List.length_append,List.length_cons,List.length_nil];omega,Hj,G4.out⟩;have Lp:=aA Kk;have Mn:=aA (show lenP C w10 < lenP C wr from by rw[Kk.pa.lenP,hx.pa.lenP];exact Gq);clear Hj hm GM Gq Kk;go_wp2_with fail;go_roundw;case rel=>exact⟨_,_,Lp⟩
     case measure=>exact Mn.out
