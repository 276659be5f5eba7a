/-
  A run of ref14 in memory; ref14's ends. 
-/
import Derived.WalkKit
import Derived.Test.YtobegfbdedgmpaaGreatDoorRows
import Derived.WalkSpells
import Derived.WalkLawsBesides
import Derived.Lib.Hide
import Derived.Deep.QuietTactic
import Derived.BigQuiet
import Derived.Laws.EntriesVeiled
import Derived.Test.YtobegfbdedgmpaaGreatDoorShelf
import Derived.Shelf.Abstract
import Derived.Outline
import Derived.Test.YtobegfbdedgmpaaGreatDoorJnData
import Derived.Deep.RegionHeld2
import Derived.Test.YtobegfbdedgmpaaGreatDoorJnRw
import Derived.OrdersHeld
import Derived.StillTail
import Derived.RegionTactic
import Derived.Deep.RegionHeld
import Derived.Laws.MakeOwn
import Derived.Deep.AppendLies
import Derived.Deep.RegionWith
import Derived.Laws.OwnMore
import Derived.StillTailTactics
import Derived.Test.YtobegfbdedgmpaaGreatDoorJnBase
import Derived.Test.YtobegfbdedgmpaaGreatDoorFgLessP
import Derived.Test.YtobegfbdedgmpaaGreatDoorJnCk3
import Derived.Test.YtobegfbdedgmpaaGreatDoorJnFg2
set_option linter.unusedVariables false
set_option linter.unusedSimpArgs false
namespace Go.Proofs.YtobegfbdedgmpaaGreatDoor
open Go.RowKit Go.Shelf

theorem Same.of_fr {T:Nat→Prop} {L:Nat} {w w':World} (hf:Fr T w w') (hL:L≤w.heap.size) (hT:∀b,T b→L≤b):Same L w w':=fun p hp=>hf.cell (Nat.lt_of_lt_of_le hp hL) fun ht=>absurd hp (Nat.not_lt.2 (hT _ ht))

theorem EdAt.up {w:World} {B B':Nat} (hB:B≤B'):∀ {l:List Ed} {b o:Nat},EdAt w B l b o→EdAt w B' l b o
 | [],_,_,_=>trivial
 |e::r,b,o,hx=>by
  obtain⟨hb,h0,h1,h2,h3,h4,⟨A,c,h5,hs⟩,h6,hok,hr⟩:=hx
  exact⟨Nat.lt_of_lt_of_le hb hB,h0,h1,h2,h3,h4,⟨A,c,h5,hs.more hB⟩,h6,hok,EdAt.up hB hr⟩
theorem EdSl.up {w:World} {B B':Nat} (hB:B≤B') {l:List Ed} {A:Option Addr} {c:Nat} (hx:EdSl w B l A c):EdSl w B' l A c:=
 ⟨hx.1,hx.2.1,fun hp=>by obtain⟨b,o,e,hh⟩:=hx.2.2 hp;exact⟨b,o,e,hh.up hB⟩⟩
theorem IsSl.up {w:World} {B B':Nat} {l:List Int} {A:Option Addr} {c:Nat} (h:B≤B') (hx:IsSl w B l A c):IsSl w B' l A c:=
 ⟨hx.1,hx.2.1,fun hp=>by obtain⟨b,o,e,hh⟩:=hx.2.2 hp;exact⟨b,o,e,Nat.lt_of_lt_of_le hh.1 h,hh.2⟩⟩

open Go.RowKit Go.Shelf Go.Maps

def oneG (w0:World) (B:Nat) (_:World) (_:Nat→Prop) (e:Ed) (ys:List Value):Prop:=∃A c,ys= [.int .i64 e.from_,.int .i64 e.to_,.int .u8 e.kind,.int .i64 e.n,.int .u8 e.cmp,.slice A e.args.len c,.int .i64 e.at_]∧e.ok∧ExSl w0 B e.args A c
def RowG (w0:World) (B:Nat) (l:List Ed) (cs:List Value):Prop:=RowR (oneG w0 B) w0 (fun _=>True) l cs
theorem RowG.at_ {w0 w:World} {B B' g:Nat} (hs:Same B w0 w) (hB:B≤B') (hg:g < B'):∀ {l:List Ed} {cs:List Value} {o:Nat},RowG w0 B l cs→(∀j u,cs[j]?=some u→w.cell? ⟨g,o+j,none⟩=some u)→EdAt w B' l g o
 | [],_,_,_,_=>trivial
 |x::xs,cs,o,h,hc=>by
  obtain⟨ys,cs',e,⟨A,c,e2,h1,h2⟩,h5⟩:=h
  subst e2
  subst e
  refine⟨hg,hc 0 _ rfl,hc 1 _ rfl,hc 2 _ rfl,hc 3 _ rfl,hc 4 _ rfl,⟨A,c,hc 5 _ rfl,(h2.keep hs).more hB⟩,hc 6 _ rfl,h1,RowG.at_ hs hB hg h5 fun j u hj=>?_⟩
  have:=hc (7+j) u (by rw[List.getElem?_append_right (by simp)];simpa using hj)
  rw[Nat.add_assoc]
  exact this
structure LsS (w0:World) (B L p q:Nat) (x0 x1 x2 x3 x4 y0 y1 y2 y3 y4 v u:Value) (l m:List Ed) (wr:World):Prop where
 fr:Fr NoT w0 wr
 bp:Bk wr p 40 #[x0,x1,x2,x3,x4,v]
 bq:Bk wr q 40 #[y0,y1,y2,y3,y4,u]
 lo:w0.heap.size≤p∧w0.heap.size≤q∧p < L∧q < L∧p≠q
 r1:∃cs,wr.ownsRow L 47 7 v l.length cs∧RowG w0 B l cs
 r2:∃cs,wr.ownsRow L 47 7 u m.length cs∧RowG w0 B m cs
 ne:∀g,v.ownBlock=some g→u.ownBlock≠some g
section
variable {w0:World} {B L p q:Nat} {x0 x1 x2 x3 x4 y0 y1 y2 y3 y4 v u:Value} {l m:List Ed} {wr:World}
theorem LsS.swap (h:LsS w0 B L p q x0 x1 x2 x3 x4 y0 y1 y2 y3 y4 v u l m wr):LsS w0 B L q p y0 y1 y2 y3 y4 x0 x1 x2 x3 x4 u v m l wr:=
 ⟨h.fr,h.bq,h.bp,⟨h.lo.2.1,h.lo.1,h.lo.2.2.2.1,h.lo.2.2.1,fun e=>h.lo.2.2.2.2 e.symm⟩,h.r2,h.r1,fun g e1 e2=>h.ne g e2 e1⟩
theorem LsS.fr0 {w':World} (h:LsS w0 B L p q x0 x1 x2 x3 x4 y0 y1 y2 y3 y4 v u l m wr) (hf:Fr NoT wr w'):LsS w0 B L p q x0 x1 x2 x3 x4 y0 y1 y2 y3 y4 v u l m w':=by
 obtain⟨cs,h1,h2⟩:=h.r1
 obtain⟨ds,h3,h4⟩:=h.r2
 exact⟨h.fr.trans hf,h.bp.fr0 hf,h.bq.fr0 hf,h.lo,⟨cs,ownsRow_frF h1 hf,h2⟩,⟨ds,ownsRow_frF h3 hf,h4⟩,h.ne⟩
theorem LsS.off {w':World} (h:LsS w0 B L p q x0 x1 x2 x3 x4 y0 y1 y2 y3 y4 v u l m wr) {b:Nat} (hf:Fr (fun i=>i=b) wr w') (hb:w0.heap.size≤b) (h1:b≠p) (h2:b≠q) (h3:v.ownBlock≠some b) (h4:u.ownBlock≠some b):LsS w0 B L p q x0 x1 x2 x3 x4 y0 y1 y2 y3 y4 v u l m w':=by
 obtain⟨cs,k1,k2⟩:=h.r1
 obtain⟨ds,k3,k4⟩:=h.r2
 have hg:wr.grownBy w' (some b):=⟨hf.os,hf.tape,hf.output,hf.size,fun k hk hn=>hf.block k hk fun e=>hn (by rw[e])⟩
 refine⟨h.fr.back1 (hf.mono fun i _ e=>(show w0.heap.size≤i from by have e:i=b:=e;omega)) (Nat.le_refl _),h.bp.fr hf (fun e=>h1 e.symm),h.bq.fr hf (fun e=>h2 e.symm),h.lo,⟨cs,?_,k2⟩,⟨ds,?_,k4⟩,h.ne⟩
 ·exact k1.kept hg (.inr fun e=>h3 e)
 ·exact k3.kept hg (.inr fun e=>h4 e)
theorem LsS.push {w7 w9:World} {v':Value} {cs zs:List Value} {e:Ed} (h:LsS w0 B L p q x0 x1 x2 x3 x4 y0 y1 y2 y3 y4 v u l m wr) (hrow:wr.ownsRow L 47 7 v l.length cs) (hrows:RowG w0 B l cs) (hf:Fr NoT wr w7)
  (hy:∀W S,oneG w0 B W S e zs) (hown:w9.ownsRow L 47 7 v' (l.length+1) (cs++zs)) (hg:w7.grownBy w9 v.ownBlock) (hsp:v'.ownBlock=v.ownBlock∨v'.ownBlock=some w7.heap.size):
  LsS w0 B L p q x0 x1 x2 x3 x4 y0 y1 y2 y3 y4 v' u (l++ [e]) m (w9.setCell ⟨p,5,none⟩ v'):=by
 obtain⟨ds,k3,k4⟩:=h.r2
 have hpl:p < wr.heap.size:=h.bp.lt
 have hql:q < wr.heap.size:=h.bq.lt
 have hnp:some p≠v.ownBlock:=fun e=>by have:=(hrow.lt p e.symm).1;have:=h.lo.2.2.1;omega
 have hnq:some q≠v.ownBlock:=fun e=>by have:=(hrow.lt q e.symm).1;have:=h.lo.2.2.2.1;omega
 have hlow:∀g,v.ownBlock=some g→L≤g:=fun g e=>(hrow.lt g e).1
 have hL0:w0.heap.size≤L:=Nat.le_trans h.lo.1 (Nat.le_of_lt h.lo.2.2.1)
 have hgf:Fr (fun i=>w0.heap.size≤i) w7 w9:=Fr.grown hg fun g e _=>Nat.le_trans hL0 (hlow g e)
 have hset:Fr (fun i=>w0.heap.size≤i) w9 (w9.setCell ⟨p,5,none⟩ v'):=(Fr.refl _ _).setCell (p:=⟨p,5,none⟩) (.inl h.lo.1) _
 have hset':Fr (fun i=>i=p) w9 (w9.setCell ⟨p,5,none⟩ v'):=Fr.own (Fr.refl _ _) _ _
 have hk9:Bk w9 p 40 #[x0,x1,x2,x3,x4,v]:=(hg.block p (Nat.lt_of_lt_of_le hpl hf.size) hnp).trans (h.bp.fr0 hf)
 have hq9:Bk w9 q 40 #[y0,y1,y2,y3,y4,u]:=(hg.block q (Nat.lt_of_lt_of_le hql hf.size) hnq).trans (h.bq.fr0 hf)
 refine⟨((h.fr.trans hf).back1 hgf (Nat.le_refl _)).back1 hset (Nat.le_refl _),?_,hq9.fr hset' (fun e=>h.lo.2.2.2.2 e.symm),h.lo,⟨cs++zs,?_,RowR.snoc (hy _ _) hrows⟩,⟨ds,?_,k4⟩,fun g e1 e2=>?_⟩
 ·have:=hk9.set_ 5 v'
  simpa using this
 ·rw[List.length_append]
  exact ownsRow_set hown h.lo.2.2.1 _
 ·have k5:=(ownsRow_frF k3 hf).kept hg (by
   cases hu:u.ownBlock with
   |none=>exact .inl rfl
   |some g=>exact .inr fun e=>h.ne g e.symm hu)
  exact ownsRow_set k5 h.lo.2.2.1 _
 ·rcases hsp with e3|e3
  ·exact h.ne g (e3▸e1) e2
  ·rw[e3]at e1
   have:=Option.some.inj e1
   have:=(k3.lt g e2).2
   have:=hf.size
   omega
theorem LsS.slice (h:LsS w0 B L p q x0 x1 x2 x3 x4 y0 y1 y2 y3 y4 v u l m wr) (hB:B≤w0.heap.size) (hl:l.length≤2048):∃A c,v= .slice A l.length c∧EdSl wr wr.heap.size l A c:=by
 obtain⟨cs,hr,hx⟩:=h.r1
 have hs:Same B w0 wr:=Same.of_fr h.fr hB fun _ h=>h.elim
 rcases hr.2 with⟨rfl,h0⟩|⟨g,cap,cur,rfl,hb,hg,hn,hc,hcs,ht⟩
 ·exact⟨none,0,by rw[h0],by rw[h0];exact Nat.le_refl _,by decide,fun hp=>absurd h0 (Nat.ne_of_gt hp)⟩
 ·have hgl:g < wr.heap.size:=(Array.getElem?_eq_some_iff.1 hg).1
  refine⟨some ⟨g,0,none⟩,cap,rfl,hn,by unfold maxLen at hc;omega,fun _=>⟨g,0,rfl,RowG.at_ hs (Nat.le_trans hB h.fr.size) hgl hx fun j u hj=>?_⟩⟩
  have:=hr.cells (g:=g) rfl j u hj
  have hadd:(⟨g,0,none⟩:Addr).add j=⟨g,j,none⟩:=by
   unfold Addr.add;split<;>simp_all
  rw[hadd]at this
  simpa using this
end
end Go.Proofs.YtobegfbdedgmpaaGreatDoor
