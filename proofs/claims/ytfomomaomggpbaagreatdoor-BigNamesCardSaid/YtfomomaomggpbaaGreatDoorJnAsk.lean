/-
  parse: asked: a condition in parentheses.
-/
import Derived.Test.YtfomomaomggpbaaGreatDoorJnPcN
set_option linter.unusedVariables false
set_option linter.unusedSimpArgs false
set_option maxHeartbeats 1600000
set_option maxRecDepth 100000
namespace Go.Proofs.YtfomomaomggpbaaGreatDoor
open Go.RowKit Go.Shelf

def ExsV (w:World) (L:Nat) (v:Value) (xs:Exs):Prop:=∃A c,v= .slice A xs.len c∧SlR (ExR w (New L w) False xs) xs.len 64 A c
def CdsV (w:World) (L:Nat) (v:Value) (xs:Cds):Prop:=∃A c,v= .slice A xs.len c∧SlR (CdR w (New L w) False xs) xs.len 64 A c
def EndV {α:Type} (C:Pcx) (d:Nat) (V:World→Nat→Value→α→Prop) (r:PR α) (W:World) (e:Ending) (w':World):Prop:=
 match r with
 | .err c a=>e=wrongE c a∧Fr C.T W w'
 | .ok x l=>∃v,e= .returned v∧V w' W.heap.size v x∧PaAt C w' l d∧Fr C.T W w'
def askP (n:Nat) (l:List Tk):PR Cds:=(takeP [40] l).then fun _ r=>(condP n r).then fun x r=>(takeP [41] r).then fun _ r=> .ok (x.cons .nil) r
theorem take_any (C:Pcx) (s:List UInt8) (l:List Tk) (d b:Nat) (w:World) (hk:C.Ok) (h:PaAt C w l d) (hs:s≠ []) (hc:w.cell? ⟨b,0,none⟩=some (.string ⟨s.toArray⟩)):
  Calls Tryz.prog 135 #[.pointer (some ⟨C.P,0,none⟩),.slice (some ⟨b,0,none⟩) 1 1] w fun e w'=>
   (takeP s l= .ok () l.tail∧e= .returned (.tuple #[])∧PaAt C w' l.tail d∧Fr C.T w w')∨(takeP s l= .err 90 (hdT l).at_ ∧e= .panicked [{v:= .iface 161 (.agg #[.int .i64 90,.int .i64 (hdT l).at_]),recovered:=false}]∧Fr C.T w w'):=by
 cases hm:mayB s l
 ·refine(take_no C s l d b w h hm hc).mono fun e w' hE=> .inr ⟨by unfold takeP;rw[hm];rfl,hE.1,hE.2⟩
 ·refine(take_yes C s l d b w hk h hs hm hc).mono fun e w' hE=> .inl ⟨by unfold takeP;rw[hm];rfl,hE.1,hE.2.1,hE.2.2⟩

theorem asked_any (C:Pcx) (n:Nat) (l:List Tk) (d:Nat) (w:World) (hdn:d+n=24) (hk:C.Ok) (h:PaAt C w l d):
  Calls Tryz.prog 301 #[.pointer (some ⟨C.P,0,none⟩)] w (EndV C d CdsV (askP n l) w):=by
 obtain⟨R,hR⟩:=nmq (askP n l)
 rw[←hR]
 have HR:=hdq hR
 have HK:=hdq hk
 have hL:=h.lts
 have HL:=hdq hL
 have h1:=h.alloc (.cells #[.string ⟨#[40]⟩] 9)
 have HT:=hdq (take_any C [40] l d w.heap.size _ hk h1 (by decide) (by simp))
 have hal:Fr C.T w (w.alloc (.cells #[.string ⟨#[40]⟩] 9)):=(Fr.refl _ _).alloc _
 have HA:=hdq hal
 clear hR hL h h1 hal hk
 go_enter Tryz.func301,Tryz.ntmps301
 go_wp2_with fail
 refine HT.out.mono ?_
 intro e w2 hE
 rcases hE with⟨ht,rfl,hp,hf⟩|⟨ht,rfl,hf⟩
 rotate_left
 ·go_wp2_with fail
  exact⟨rfl,by rw[HR.out,askP,ht];exact⟨rfl,HA.out.trans hf⟩⟩
 have HC:=hdq (pcond_any C n l.tail d w2 hdn HK.out hp)
 have HT1:=hdq ht
 have HF2:=hdq (HA.out.trans hf)
 clear ht hp hf
 go_wp2_with fail
 refine HC.out.mono ?_
 intro e w3 hE
 rcases hE.ways with⟨x,r,A,c,B,q,hx,rfl,hv,hp,hf⟩|⟨c,a,hx,rfl,hf⟩
 rotate_left
 ·go_wp2_with fail
  exact⟨rfl,by rw[HR.out,askP,HT1.out];show EndV C d CdsV ((condP n l.tail).then _) w _ _;rw[hx];exact⟨rfl,HF2.out.trans hf⟩⟩
 have HX:=hdq hx
 have h4:=(hp.alloc (.cells #[.int .u8 x.k,.slice A x.args.len c,.slice B x.of_.len q,.int .i64 x.at_] 179)).alloc (.cells #[.string ⟨#[41]⟩] 9)
 have HT4:=hdq (take_any C [41] r d (w3.heap.size+1) _ HK.out h4 (by decide) (by simp))
 have hbk:=(Bk.new w3 179 #[.int .u8 x.k,.slice A x.args.len c,.slice B x.of_.len q,.int .i64 x.at_]).alloc (.cells #[.string ⟨#[41]⟩] 9)
 have HBK:=hdq hbk
 have hf4:Fr NoT w3 ((w3.alloc (.cells #[.int .u8 x.k,.slice A x.args.len c,.slice B x.of_.len q,.int .i64 x.at_] 179)).alloc (.cells #[.string ⟨#[41]⟩] 9)):=((Fr.refl _ _).alloc _).alloc _
 have HF4:=hdq hf4
 have HV:=hdq hv
 have HF3:=hdq (HF2.out.trans hf)
 have hs2:w.heap.size≤w2.heap.size:=HF2.out.size
 have hs3:w.heap.size≤w3.heap.size:=HF3.out.size
 clear hx h4 hbk hf4 hv hf hp
 go_wp2_with fail
 refine HT4.out.mono ?_
 intro e w5 hE
 rcases hE with⟨ht,rfl,hp,hf⟩|⟨ht,rfl,hf⟩
 rotate_left
 ·go_wp2_with fail
  refine⟨rfl,?_⟩
  rw[HR.out,askP,HT1.out]
  show EndV C d CdsV ((condP n l.tail).then _) w _ _
  rw[HX.out]
  show EndV C d CdsV ((takeP [41] r).then _) w _ _
  rw[ht]
  exact⟨rfl,(HF3.out.trans HF4.out.any).trans hf⟩
 have hnx:¬C.T w3.heap.size:=fun e=>by have e:w3.heap.size=C.P:=e;have:=HL.out;omega
 have hbk5:=HBK.out.fr hf hnx
 have q0:=hbk5.cell 0
 have q1:=hbk5.cell 1
 have q2:=hbk5.cell 2
 have q3:=hbk5.cell 3
 simp only[getsL]at q0 q1 q2 q3
 have HT5:=hdq ht
 have HP5:=hdq hp
 have HF45:=hdq (HF4.out.any.trans hf)
 have hlt5:=hbk5.lt
 clear ht hp hf hbk5
 go_wp2_with fail
 go_ret
 have hR2:R= .ok (x.cons .nil) r.tail:=by
  rw[HR.out,askP,HT1.out]
  show(condP n l.tail).then _=_
  rw[HX.out]
  show(takeP [41] r).then _=_
  rw[HT5.out]
  rfl
 rw[hR2]
 obtain⟨x1,x3,Ax,cx,Bx,qx,ex,hsx,hox⟩:=HV.out
 simp only[cdV,Value.agg.injEq,Array.mk.injEq,List.cons.injEq,Value.slice.injEq,true_and,and_true]at ex
 obtain⟨⟨rfl,rfl⟩,rfl,rfl⟩:=ex
 have hs5:w3.heap.size≤w5.heap.size:=HF45.out.size
 have hF:Fr C.T w3 (w5.alloc (.cells #[.int .u8 x.k,.slice A x.args.len c,.slice B x.of_.len q,.int .i64 x.at_] 179)):=HF45.out.alloc _
 have hX:∀b,New w2.heap.size w3 b→(b < w3.heap.size∧¬C.T b)∧New w.heap.size (w5.alloc (.cells #[.int .u8 x.k,.slice A x.args.len c,.slice B x.of_.len q,.int .i64 x.at_] 179)) b:=fun b hb=>by
  have h1:w2.heap.size≤b:=hb.1
  have h2:b < w3.heap.size:=hb.2
  have h3:=hF.size
  exact⟨⟨h2,fun e=>by have e:b=C.P:=e;have:=HL.out;omega⟩,by omega,by omega⟩
 refine⟨_,rfl,⟨some ⟨w5.heap.size,0,none⟩,1,rfl,lrq 1,sl1,fun _=>⟨w5.heap.size,0,rfl,?_⟩⟩,HP5.out.alloc _,HF3.out.trans hF⟩
 refine cdR_one (Bk.new w5 _ _) ⟨by omega,by simp⟩ ⟨x1,x3⟩ (hsx.imp fun _ _ h=>?_) (hox.imp fun _ _ h=>?_)
 ·exact ExR.more (fun b hb=>(hX b hb).2) (ExR.keep (hF.same fun b hb=>(hX b hb).1) h)
 ·exact CdR.more (fun b hb=>(hX b hb).2) (CdR.keep (hF.same fun b hb=>(hX b hb).1) h)

/-! expressions in a row -/
def exC (x:Ex) (A:Option Addr) (c:Nat):List Value:= [.int .u8 x.k,.string x.nm,.int .i64 x.n,.slice A x.args.len c,.int .i64 x.at_]
def ExRow (w:World) (S:Nat→Prop):List Ex→List Value→Prop
 | [],cs=>cs= []
 |x::xs,cs=>∃A c cs',cs=exC x A c++cs'∧in8 x.k∧in64 x.n∧in64 x.at_∧SlR (ExR w S False x.args) x.args.len 64 A c∧ExRow w S xs cs'
theorem ExRow.imp {w w':World} {S S':Nat→Prop} (hf:SameS S w w') (hs:∀b,S b→S' b):∀ {xs:List Ex} {cs:List Value},ExRow w S xs cs→ExRow w' S' xs cs
 | [],_,h=>h
 |x::xs,cs,h=>by
  obtain⟨A,c,cs',e,h1,h2,h3,h4,h5⟩:=h
  exact⟨A,c,cs',e,h1,h2,h3,h4.imp fun _ _ h=>ExR.more hs (ExR.keep hf h),ExRow.imp hf hs h5⟩
theorem ExRow.snoc {w:World} {S:Nat→Prop} {y:Ex} {A:Option Addr} {c:Nat} (hy:in8 y.k∧in64 y.n∧in64 y.at_∧SlR (ExR w S False y.args) y.args.len 64 A c):∀ {xs:List Ex} {cs:List Value},ExRow w S xs cs→ExRow w S (xs++ [y]) (cs++exC y A c)
 | [],cs,h=>by
  have h:cs= []:=h
  subst h
  exact⟨A,c, [],by simp,hy.1,hy.2.1,hy.2.2.1,hy.2.2.2,rfl⟩
 |x::xs,cs,h=>by
  obtain⟨B,q,cs',e,h1,h2,h3,h4,h5⟩:=h
  exact⟨B,q,cs'++exC y A c,by rw[e,List.append_assoc],h1,h2,h3,h4,ExRow.snoc hy h5⟩
theorem ExRow.exR {w:World} {S:Nat→Prop} {g:Nat} (hg:S g):∀ {xs:List Ex} {cs:List Value} {o:Nat},ExRow w S xs cs→(∀j u,cs[j]?=some u→w.cell? ⟨g,o+j,none⟩=some u)→ExR w S False (exsOf xs) g o
 | [],_,_,_,_=>trivial
 |x::xs,cs,o,h,hc=>by
  obtain⟨A,c,cs',e,h1,h2,h3,h4,h5⟩:=h
  subst e
  refine⟨⟨hg,fun h=>absurd h id,h1,h2,h3,?_,?_,?_,?_⟩,⟨A,c,?_,h4⟩,?_⟩
  ·exact hc 0 _ rfl
  ·exact hc 1 _ rfl
  ·exact hc 2 _ rfl
  ·exact hc 4 _ rfl
  ·exact hc 3 _ rfl
  ·refine ExRow.exR hg h5 fun j u hj=>?_
   have:=hc (5+j) u (by rw[List.getElem?_append_right (by simp[exC])];simpa[exC]using hj)
   rw[Nat.add_assoc]
   exact this

def someF {α:Type} (one:List Tk→PR α) (s:List UInt8):Nat→List α→List Tk→PR (List α)
 |0,acc,l=> .ok acc l
 |f+1,acc,l=>(one l).then fun x r=>if mayB [44] r then someF one s f (acc++ [x]) r.tail else(takeP s r).then fun _ r=> .ok (acc++ [x]) r
def someP {α:Type} (one:List Tk→PR α) (s:List UInt8) (no:Bool) (l:List Tk):PR (List α):=if no&&mayB s l then .ok [] l.tail else someF one s l.length [] l
theorem may_any (C:Pcx) (s:List UInt8) (l:List Tk) (d:Nat) (w:World) (hk:C.Ok) (h:PaAt C w l d) (hs:s≠ []):Calls Tryz.prog 129 #[.pointer (some ⟨C.P,0,none⟩),.string ⟨s.toArray⟩] w fun e w'=>
  e= .returned (.bool (mayB s l))∧PaAt C w' (if mayB s l then l.tail else l) d∧Fr C.T w w':=by
 cases hm:mayB s l
 ·exact may_no C s l d w h hm
 ·exact may_yes C s l d w hk h hs hm
structure SomeX (C:Pcx) (w:World) (d:Nat) (R:PR (List Ex)) (one:List Tk→PR Ex) (s:List UInt8) (v:Value) (wr:World) (acc:List Ex) (cs:List Value) (l:List Tk):Prop where
 eq:∃f,R=someF one s f acc l∧l.length≤f
 row:wr.ownsRow w.heap.size 175 5 v acc.length cs
 rows:ExRow wr (NewR w.heap.size v wr) acc cs
 few:acc.length+l.length≤5000
 pa:PaAt C wr l d
 fr:Fr C.T w wr
def ExlV (w:World) (L:Nat) (v:Value) (xs:List Ex):Prop:=ExsV w L v (exsOf xs)
theorem someX_end {L:Nat} {w:World} {v:Value} {acc:List Ex} {cs:List Value} {S:Nat→Prop} (hr:w.ownsRow L 175 5 v acc.length cs) (hx:ExRow w S acc cs) (hs:∀b,S b→L≤b∧b < w.heap.size) (hf:acc.length≤5001):ExlV w L v acc:=by
 rcases hr.2 with⟨rfl,h0⟩|⟨g,cap,cur,rfl,hb,hg,hn,hc,hcs,ht⟩
 ·exact⟨none,0,by rw[exsOf_len,h0],by rw[exsOf_len,h0];exact⟨lrq _,sl0,fun h=>absurd h (Nat.lt_irrefl 0)⟩⟩
 ·have hl:g < w.heap.size:=(Array.getElem?_eq_some_iff.1 hg).1
  have hcc:cap≤9223372036854775807:=by unfold maxLen at hc;omega
  suffices hx2:ExR w (New L w) False (exsOf acc) g 0 by
   exact⟨some ⟨g,0,none⟩,cap,by rw[exsOf_len],by rw[exsOf_len];exact⟨hn,⟨hcc,by omega⟩,fun _=>⟨g,0,rfl,hx2⟩⟩⟩
  refine ExRow.exR ⟨hb,hl⟩ (ExRow.imp (SameS.refl _ _) hs hx) fun j u hj=>?_
  have:=hr.cells (g:=g) rfl j u hj
  have hadd:(⟨g,0,none⟩:Addr).add j=⟨g,0+j,none⟩:=by
   rw[Nat.zero_add];unfold Addr.add;split<;>simp_all
  rw[hadd]at this
  exact this

theorem Fr.grownP {C:Pcx} {w w':World} (h:Fr C.T w w'):w.grownBy w' (some C.P):=
 ⟨h.os,h.tape,h.output,h.size,fun k hk hn=>h.block k hk fun e=>hn (by have e:k=C.P:=e;rw[e])⟩
theorem row_keep {C:Pcx} {w w':World} {L size n:Nat} {t:TypeId} {v:Value} {cs:List Value} (h:w.ownsRow L t size v n cs) (hf:Fr C.T w w') (hL:C.P < L):w'.ownsRow L t size v n cs:=
 h.kept hf.grownP (.inr fun e=>by have:=(h.lt _ e).1;omega)
theorem someX_step {C:Pcx} {w wr w7 w9:World} {x:Ex} {A:Option Addr} {c:Nat} {v v':Value} {acc:List Ex} {cs:List Value} {r2:List Tk} {d:Nat} {cell:Array Value}
  (hL:C.P < w.heap.size∧C.TB < w.heap.size∧C.W0.heap.size≤w.heap.size) (hrow:wr.ownsRow w.heap.size 175 5 v acc.length cs) (hrows:ExRow wr (NewR w.heap.size v wr) acc cs) (hF:Fr C.T w wr)
  (hv:ExV w7 wr.heap.size (exV x.k x.nm x.n A x.args.len c x.at_) x) (hp:PaAt C w7 r2 d) (hf:Fr C.T wr w7) (hown:w9.ownsRow w.heap.size 175 5 v' (acc.length+1) (cs++exC x A c))
  (hg:(w7.alloc (.cells cell 175)).grownBy w9 v.ownBlock) (hsp:v'.ownBlock=v.ownBlock∨v'.ownBlock=some (w7.heap.size+1)):
  ExRow w9 (NewR w.heap.size v' w9) (acc++ [x]) (cs++exC x A c)∧PaAt C w9 r2 d∧Fr C.T w w9:=by
 have hlt:=hrow.lt
 have hsF:=hF.size
 have hsf:=hf.size
 have hsg:=hg.size
 rw[World.size_alloc]at hsg
 have hgf:Fr (fun b=>v.ownBlock=some b) w7 w9:=((Fr.refl _ _).alloc _).trans (Fr.grown hg fun g e _=>e)
 have h79:Fr (fun b=>b=C.P∨v.ownBlock=some b) wr w9:=(hf.mono fun i _ h=>Or.inl h).trans (hgf.mono fun i _ h=>Or.inr h)
 obtain⟨x1,x2,x3,Ax,cx,ex,hsx⟩:=hv
 simp only[exV,Value.agg.injEq,Array.mk.injEq,List.cons.injEq,Value.slice.injEq,true_and,and_true]at ex
 obtain⟨rfl,rfl⟩:=ex
 have hnew:∀b,b < w7.heap.size→v.ownBlock≠some b→v'.ownBlock≠some b:=fun b hb hn e=>by
  rcases hsp with h|h
  ·exact hn (h▸e)
  ·rw[h]at e
   have:=Option.some.inj e
   omega
 refine⟨ExRow.snoc ⟨x1,x2,x3,hsx.imp fun _ _ h=>ExR.more (fun b hb=>?_) (ExR.keep (hgf.same fun b hb=>⟨hb.2,fun e=>?_⟩) h)⟩ (ExRow.imp (h79.same fun b hb=>⟨hb.2.1,fun e=>?_⟩) (fun b hb=>⟨hb.1,by have:=hb.2.1;omega,hnew b (by have:=hb.2.1;omega) hb.2.2⟩) hrows),?_,?_⟩
 ·have h1:=hb.1
  have h2:=hb.2
  refine⟨by omega,by omega,hnew b h2 fun e=>?_⟩
  have:=(hlt _ e).2
  omega
 ·have h1:=hb.1
  have:=(hlt _ e).2
  omega
 ·rcases e with e|e
  ·have:=hb.1
   omega
  ·exact hb.2.2 e
 ·refine hp.fr hgf (fun e=>?_) (fun e=>?_) (fun i hi e=>?_)
  ·have:=(hlt _ e).1
   omega
  ·have:=(hlt _ e).1
   omega
  ·have:=(hlt _ e).1
   omega
 ·have h:=(hF.mono (T':=fun b=>b=C.P∨v.ownBlock=some b) fun i _ h=>Or.inl h).trans h79
  refine h.mono fun i hi e=>?_
  rcases e with e|e
  ·exact e
  ·have:=(hlt _ e).1
   omega
theorem someX_any (C:Pcx) (one:List Tk→PR Ex) (s:List UInt8) (no:Bool) (g:Nat) (fst cap:Array Value) (l:List Tk) (d:Nat) (w:World) (hk:C.Ok) (h:PaAt C w l d) (hshr:Shr one) (hs:s≠ [])
  (hent:Enters Tryz.prog g) (hone:∀W,Fr C.T w W→∀l',PaAt C W l' d→Calls Tryz.prog g (fst++cap) W (ExP C d (one l') W)):
  Calls Tryz.prog 302 #[.pointer (some ⟨C.P,0,none⟩),.string ⟨s.toArray⟩,.bool no,.func (.func g) fst cap] w (EndV C d ExlV (someP one s no l) w):=by
 obtain⟨i0,hi,hz0,hz1,hz2⟩:=info_parts infoEx
 obtain⟨R,hR⟩:=nmq (someP one s no l)
 rw[←hR]
 have hL:=h.lts
 have hfl:l.length≤5000:=by
  obtain⟨j,q,e,_⟩:=h.at_
  have:=hk.few
  rw[e,List.length_drop];omega
 have HONE:=hdq hone
 have HK:=hdq hk
 have HL:=hdq hL
 have HS:=hdq hs
 unfold Enters at hent
 have hmy:=may_any C s l d w hk h hs
 have HM:=hdq hmy
 have key:∀(v:Value) (wr:World) (acc:List Ex) (cs:List Value) (r:List Tk),no=no:=fun _ _ _ _ _=>rfl
 by_cases hn:no=true∧mayB s l=true
 ·obtain⟨rfl,hm⟩:=hn
  have hR2:R= .ok [] l.tail:=by rw[hR];unfold someP;rw[hm];rfl
  have HR2:=hdq hR2
  rw[hm]at HM
  clear hR h hone hk hs hL hmy hR2 key hm hfl
  go_enter Tryz.func302,Tryz.ntmps302
  go_wp2_with fail
  refine HM.out.mono ?_
  rintro _ w1 ⟨rfl,hp,hf⟩
  have HP:=hdq hp
  have HF:=hdq hf
  clear hp hf
  go_wp2_with fail
  go_ret
  rw[HR2.out]
  exact⟨_,rfl,⟨none,0,rfl,lrq 0,sl0,fun h=>absurd h (Nat.lt_irrefl 0)⟩,HP.out,HF.out⟩
 ·have hR2:R=someF one s l.length [] l:=by
   rw[hR];unfold someP
   cases no
   ·rfl
   ·rw[if_neg (by intro h;exact hn ⟨rfl,by simpa using h⟩)]
  have HEQ:=hdq hR2
  have hmf:no=true→mayB s l=false:=fun e=>by
   cases hm:mayB s l
   ·rfl
   ·exact absurd ⟨e,hm⟩ hn
  have HMF:=hdq hmf
  have H:=hdq h
  have HI:=hdq (aiq hi (aiq hz0 (aiq hz1 hz2)))
  clear hR hone hk hs hL hmy hR2 key hn hmf h
  cases no
  ·have HP1:=hdq H.out
   have HF1:=hdq (Fr.refl C.T w)
   clear HM HMF
   go_enter Tryz.func302,Tryz.ntmps302
   go_wp2_with fail
   go_loopw [8] (fun v wr=>∃(acc:List Ex) (cs:List Value) (r:List Tk),Hid (SomeX C w d R one s v wr acc cs r)) (fun _ wr=>lenP C wr)
   case atStart=>exact⟨[], [],l,hdq ⟨⟨_,HEQ.out,lrq _⟩,World.ownsRow_nil _ _ _ _,rfl,by simpa using hfl,HP1.out,HF1.out⟩⟩
   case round=>
    obtain⟨acc,cs,r,hx⟩:=hrel
    have HQ:=hdq (HONE.out _ hx.out.fr r hx.out.pa)
    go_wp2_with fail
    try simp only[Array.append_empty]
    refine HQ.out.mono ?_
    intro e w7 hE
    obtain⟨f,hRf,hfr⟩:=hx.out.eq
    have hrl:0 < r.length:=List.length_pos_iff.2 hx.out.pa.ne
    obtain⟨f,rfl⟩:∃f',f=f'+1:=⟨f - 1,by omega⟩
    unfold someF at hRf
    rcases hE.ways with⟨x,r2,A,c,ho,rfl,hv,hp,hf⟩|⟨c,a,ho,rfl,hf⟩
    rotate_left
    ·go_wp2_with fail
     exact⟨rfl,by rw[hRf,ho];exact⟨rfl,hx.out.fr.trans hf⟩⟩
    rw[ho]at hRf
    have hRf:R=if mayB [44] r2 then someF one s f (acc++ [x]) r2.tail else(takeP s r2).then fun _ r=> .ok (acc++ [x]) r:=hRf
    have HRF:=hdq hRf
    have HSH:=hdq (hshr _ _ _ ho)
    have HFR:=hdq hfr
    have HO7:=hdq (row_keep hx.out.row hf HL.out.1)
    have HV7:=hdq hv
    have HP7:=hdq hp
    have HF7:=hdq hf
    have hbig:(acc.length+1)*64≤140737488355328:=by have:=hx.out.few;omega
    have hs7:w.heap.size≤w7.heap.size:=leq9 hx.out.fr.size hf.size
    clear hRf ho hv hp hf hfr hrl
    go_wp2_with (at_builtin;refine wpList_append_spot _ rfl _ _ 48 rfl w.heap.size 175 i0 (.agg #[.int .u8 0,.string ⟨#[]⟩,.int .i64 0,.slice none 0 0,.int .i64 0]) 5 64 Tryz.underlying48 HI.out.1 HI.out.2.1 HI.out.2.2.1 HI.out.2.2.2 rfl (by decide) _ _ _ rfl (HO7.out.alloc _) ⟨w7.heap.size,0,none⟩ 1 1 (exC x A c) rfl rfl ?c1 ?c2 (by decide) ?c3 ?c4 ?c5 ?_)
    case c1=>
     intro j u hj
     match j,hj with
     |0,hj=>simp[exC]at hj;subst hj;simp[Addr.add]
     |1,hj=>simp[exC]at hj;subst hj;simp[Addr.add]
     |2,hj=>simp[exC]at hj;subst hj;simp[Addr.add]
     |3,hj=>simp[exC]at hj;subst hj;simp[Addr.add]
     |4,hj=>simp[exC]at hj;subst hj;simp[Addr.add]
    case c2=>
     intro u hu
     simp only[exC,List.mem_cons,List.not_mem_nil,or_false]at hu
     rcases hu with rfl|rfl|rfl|rfl|rfl<;>rfl
    case c3=>unfold maxLen;omega
    case c4=>exact hbig
    case c5=>simp;omega
    intro v' w9 hown hgrow hspot
    obtain⟨hrows9,hp9,hf9⟩:=someX_step HL.out hx.out.row hx.out.rows hx.out.fr HV7.out HP7.out HF7.out hown hgrow hspot
    have HO9:=hdq hown
    have HR9:=hdq hrows9
    have HF9:=hdq hf9
    have HMM:=hdq (may_any C [44] r2 d w9 HK.out hp9 (by decide))
    clear hown hgrow hspot hrows9 hp9 hf9 hbig
    go_wp2_with fail
    refine HMM.out.mono ?_
    rintro _ w10 ⟨rfl,hp10,hf10⟩
    have HO10:=hdq (row_keep HO9.out hf10 HL.out.1)
    have HR10:=hdq (ExRow.imp (S':=NewR w.heap.size v' w10) (hf10.same fun b hb=>⟨hb.2.1,fun e=>by have e:b=C.P:=e;have:=hb.1;have:=HL.out.1;omega⟩) (fun b hb=>⟨hb.1,by have:=hb.2.1;have:=hf10.size;omega,hb.2.2⟩) HR9.out)
    have HF10:=hdq (HF9.out.trans hf10)
    have HP10:=hdq hp10
    clear hp10 hf10
    cases hm:mayB [44] r2
    ·have hp10:=HP10.out
     rw[hm]at hp10
     have hp10:PaAt C w10 r2 d:=hp10
     have HT:=hdq (take_any C s r2 d w10.heap.size _ HK.out (hp10.alloc (.cells #[.string ⟨s.toArray⟩] 9)) HS.out (by simp))
     have hR3:R=(takeP s r2).then fun _ r=> .ok (acc++ [x]) r:=by rw[HRF.out,hm];rfl
     have HR3:=hdq hR3
     clear hp10 hm hR3
     go_wp2_with fail
     refine HT.out.mono ?_
     intro e w11 hE
     rcases hE with⟨ht,rfl,hp,hf⟩|⟨ht,rfl,hf⟩
     rotate_left
     ·go_wp2_with fail
      exact⟨rfl,by rw[HR3.out,ht];exact⟨rfl,(HF10.out.alloc _).trans hf⟩⟩
     have hff:=((Fr.refl C.T w10).alloc (.cells #[.string ⟨s.toArray⟩] 9)).trans hf
     have HT11:=hdq ht
     have HP11:=hdq hp
     have HFF:=hdq hff
     clear ht hp hf hff
     go_wp2_with fail
     go_ret
     rw[HR3.out,HT11.out]
     refine⟨_,rfl,someX_end (S:=NewR w.heap.size v' w10) (by simpa using row_keep HO10.out HFF.out HL.out.1) (ExRow.imp (HFF.out.same fun b hb=>⟨hb.2.1,fun e=>by have e:b=C.P:=e;have:=hb.1;have:=HL.out.1;omega⟩) (fun b hb=>hb) HR10.out) (fun b hb=>⟨hb.1,by have:=hb.2.1;have:=HFF.out.size;omega⟩) ?_,HP11.out,HF10.out.trans HFF.out⟩
     have:=hx.out.few
     simp;omega
    ·have hp10:=HP10.out
     rw[hm]at hp10
     have hp10:PaAt C w10 r2.tail d:=hp10
     have hR3:R=someF one s f (acc++ [x]) r2.tail:=by rw[HRF.out,hm];rfl
     have hsl:r2.tail.length < r.length:=by
      have h1:=HSH.out
      have h2:=List.length_pos_iff.2 HP7.out.ne
      rw[List.length_tail];omega
     have hnx:SomeX C w d R one s v' w10 (acc++ [x]) (cs++exC x A c) r2.tail:=⟨⟨f,hR3,by have:=HFR.out;omega⟩,by simpa using HO10.out,HR10.out,by have:=hx.out.few;simp only[List.length_append,List.length_cons,List.length_nil];omega,hp10,HF10.out⟩
     have HNX:=hdq hnx
     have HLN:=hdq (show lenP C w10 < lenP C wr from by rw[hnx.pa.lenP,hx.out.pa.lenP];exact hsl)
     clear hp10 hm hR3 hsl hnx
     go_wp2_with fail
     go_roundw
     case rel=>exact⟨_,_,_,HNX⟩
     case measure=>exact HLN.out
  ·have hmm:=HMF.out rfl
   rw[hmm]at HM
   clear hmm HMF
   go_enter Tryz.func302,Tryz.ntmps302
   go_wp2_with fail
   refine HM.out.mono ?_
   rintro _ w1 ⟨rfl,hp,hf⟩
   have HP1:=hdq hp
   have HF1:=hdq hf
   clear hp hf
   go_wp2_with fail
   go_loopw [8] (fun v wr=>∃(acc:List Ex) (cs:List Value) (r:List Tk),Hid (SomeX C w d R one s v wr acc cs r)) (fun _ wr=>lenP C wr)
   case atStart=>exact⟨[], [],l,hdq ⟨⟨_,HEQ.out,lrq _⟩,World.ownsRow_nil _ _ _ _,rfl,by simpa using hfl,HP1.out,HF1.out⟩⟩
   case round=>
    obtain⟨acc,cs,r,hx⟩:=hrel
    have HQ:=hdq (HONE.out _ hx.out.fr r hx.out.pa)
    go_wp2_with fail
    try simp only[Array.append_empty]
    refine HQ.out.mono ?_
    intro e w7 hE
    obtain⟨f,hRf,hfr⟩:=hx.out.eq
    have hrl:0 < r.length:=List.length_pos_iff.2 hx.out.pa.ne
    obtain⟨f,rfl⟩:∃f',f=f'+1:=⟨f - 1,by omega⟩
    unfold someF at hRf
    rcases hE.ways with⟨x,r2,A,c,ho,rfl,hv,hp,hf⟩|⟨c,a,ho,rfl,hf⟩
    rotate_left
    ·go_wp2_with fail
     exact⟨rfl,by rw[hRf,ho];exact⟨rfl,hx.out.fr.trans hf⟩⟩
    rw[ho]at hRf
    have hRf:R=if mayB [44] r2 then someF one s f (acc++ [x]) r2.tail else(takeP s r2).then fun _ r=> .ok (acc++ [x]) r:=hRf
    have HRF:=hdq hRf
    have HSH:=hdq (hshr _ _ _ ho)
    have HFR:=hdq hfr
    have HO7:=hdq (row_keep hx.out.row hf HL.out.1)
    have HV7:=hdq hv
    have HP7:=hdq hp
    have HF7:=hdq hf
    have hbig:(acc.length+1)*64≤140737488355328:=by have:=hx.out.few;omega
    have hs7:w.heap.size≤w7.heap.size:=leq9 hx.out.fr.size hf.size
    clear hRf ho hv hp hf hfr hrl
    go_wp2_with (at_builtin;refine wpList_append_spot _ rfl _ _ 48 rfl w.heap.size 175 i0 (.agg #[.int .u8 0,.string ⟨#[]⟩,.int .i64 0,.slice none 0 0,.int .i64 0]) 5 64 Tryz.underlying48 HI.out.1 HI.out.2.1 HI.out.2.2.1 HI.out.2.2.2 rfl (by decide) _ _ _ rfl (HO7.out.alloc _) ⟨w7.heap.size,0,none⟩ 1 1 (exC x A c) rfl rfl ?c1 ?c2 (by decide) ?c3 ?c4 ?c5 ?_)
    case c1=>
     intro j u hj
     match j,hj with
     |0,hj=>simp[exC]at hj;subst hj;simp[Addr.add]
     |1,hj=>simp[exC]at hj;subst hj;simp[Addr.add]
     |2,hj=>simp[exC]at hj;subst hj;simp[Addr.add]
     |3,hj=>simp[exC]at hj;subst hj;simp[Addr.add]
     |4,hj=>simp[exC]at hj;subst hj;simp[Addr.add]
    case c2=>
     intro u hu
     simp only[exC,List.mem_cons,List.not_mem_nil,or_false]at hu
     rcases hu with rfl|rfl|rfl|rfl|rfl<;>rfl
    case c3=>unfold maxLen;omega
    case c4=>exact hbig
    case c5=>simp;omega
    intro v' w9 hown hgrow hspot
    obtain⟨hrows9,hp9,hf9⟩:=someX_step HL.out hx.out.row hx.out.rows hx.out.fr HV7.out HP7.out HF7.out hown hgrow hspot
    have HO9:=hdq hown
    have HR9:=hdq hrows9
    have HF9:=hdq hf9
    have HMM:=hdq (may_any C [44] r2 d w9 HK.out hp9 (by decide))
    clear hown hgrow hspot hrows9 hp9 hf9 hbig
    go_wp2_with fail
    refine HMM.out.mono ?_
    rintro _ w10 ⟨rfl,hp10,hf10⟩
    have HO10:=hdq (row_keep HO9.out hf10 HL.out.1)
    have HR10:=hdq (ExRow.imp (S':=NewR w.heap.size v' w10) (hf10.same fun b hb=>⟨hb.2.1,fun e=>by have e:b=C.P:=e;have:=hb.1;have:=HL.out.1;omega⟩) (fun b hb=>⟨hb.1,by have:=hb.2.1;have:=hf10.size;omega,hb.2.2⟩) HR9.out)
    have HF10:=hdq (HF9.out.trans hf10)
    have HP10:=hdq hp10
    clear hp10 hf10
    cases hm:mayB [44] r2
    ·have hp10:=HP10.out
     rw[hm]at hp10
     have hp10:PaAt C w10 r2 d:=hp10
     have HT:=hdq (take_any C s r2 d w10.heap.size _ HK.out (hp10.alloc (.cells #[.string ⟨s.toArray⟩] 9)) HS.out (by simp))
     have hR3:R=(takeP s r2).then fun _ r=> .ok (acc++ [x]) r:=by rw[HRF.out,hm];rfl
     have HR3:=hdq hR3
     clear hp10 hm hR3
     go_wp2_with fail
     refine HT.out.mono ?_
     intro e w11 hE
     rcases hE with⟨ht,rfl,hp,hf⟩|⟨ht,rfl,hf⟩
     rotate_left
     ·go_wp2_with fail
      exact⟨rfl,by rw[HR3.out,ht];exact⟨rfl,(HF10.out.alloc _).trans hf⟩⟩
     have hff:=((Fr.refl C.T w10).alloc (.cells #[.string ⟨s.toArray⟩] 9)).trans hf
     have HT11:=hdq ht
     have HP11:=hdq hp
     have HFF:=hdq hff
     clear ht hp hf hff
     go_wp2_with fail
     go_ret
     rw[HR3.out,HT11.out]
     refine⟨_,rfl,someX_end (S:=NewR w.heap.size v' w10) (by simpa using row_keep HO10.out HFF.out HL.out.1) (ExRow.imp (HFF.out.same fun b hb=>⟨hb.2.1,fun e=>by have e:b=C.P:=e;have:=hb.1;have:=HL.out.1;omega⟩) (fun b hb=>hb) HR10.out) (fun b hb=>⟨hb.1,by have:=hb.2.1;have:=HFF.out.size;omega⟩) ?_,HP11.out,HF10.out.trans HFF.out⟩
     have:=hx.out.few
     simp;omega
    ·have hp10:=HP10.out
     rw[hm]at hp10
     have hp10:PaAt C w10 r2.tail d:=hp10
     have hR3:R=someF one s f (acc++ [x]) r2.tail:=by rw[HRF.out,hm];rfl
     have hsl:r2.tail.length < r.length:=by
      have h1:=HSH.out
      have h2:=List.length_pos_iff.2 HP7.out.ne
      rw[List.length_tail];omega
     have hnx:SomeX C w d R one s v' w10 (acc++ [x]) (cs++exC x A c) r2.tail:=⟨⟨f,hR3,by have:=HFR.out;omega⟩,by simpa using HO10.out,HR10.out,by have:=hx.out.few;simp only[List.length_append,List.length_cons,List.length_nil];omega,hp10,HF10.out⟩
     have HNX:=hdq hnx
     have HLN:=hdq (show lenP C w10 < lenP C wr from by rw[hnx.pa.lenP,hx.out.pa.lenP];exact hsl)
     clear hp10 hm hR3 hsl hnx
     go_wp2_with fail
     go_roundw
     case rel=>exact⟨_,_,_,HNX⟩
     case measure=>exact HLN.out
end Go.Proofs.YtfomomaomggpbaaGreatDoor
