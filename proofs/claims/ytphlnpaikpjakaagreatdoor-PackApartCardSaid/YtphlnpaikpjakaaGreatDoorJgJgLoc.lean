/-
  parse: asked: a condition in parentheses.
-/
import Derived.Test.YtphlnpaikpjakaaGreatDoorJgPcS
import Derived.Test.YtphlnpaikpjakaaGreatDoorJnRw
set_option linter.unusedVariables false
set_option linter.unusedSimpArgs false
set_option maxHeartbeats 1600000
set_option maxRecDepth 100000
namespace Go.Proofs.YtphlnpaikpjakaaGreatDoor
open Go.RowKit Go.Shelf

def ExsV (w:World) (L:Nat) (v:Value) (xs:Exs):Prop:=∃A c,v= .slice A xs.len c∧SlR (ExR w (New L w) False xs) xs.len 64 A c
def CdsV (w:World) (L:Nat) (v:Value) (xs:Cds):Prop:=∃A c,v= .slice A xs.len c∧SlR (CdR w (New L w) False xs) xs.len 64 A c
def EndV {α:Type} (C:Pcx) (d:Nat) (V:World→Nat→Value→α→Prop) (r:PR α) (W:World) (e:Ending) (w':World):Prop:=
 match r with
 | .err c a=>e=wrongE c a∧Fr C.T W w'
 | .ok x l=>∃v,e= .returned v∧V w' W.heap.size v x∧PaAt C w' l d∧Fr C.T W w'
def askP (n:Nat) (l:List Tk):PR Cds:=(takeP [40] l).then fun _ r=>(condP n r).then fun x r=>(takeP [41] r).then fun _ r=> .ok (x.cons .nil) r
theorem take_any (C:Pcx) (s:List UInt8) (l:List Tk) (d b:Nat) (w:World) (hk:C.Ok) (h:PaAt C w l d) (hs:s≠ []) (hc:w.cell? ⟨b,0,none⟩=some (.string ⟨s.toArray⟩)):
  Calls Tryz.prog 53 #[.pointer (some ⟨C.P,0,none⟩),.slice (some ⟨b,0,none⟩) 1 1] w fun e w'=>
   (takeP s l= .ok () l.tail∧e= .returned (.tuple #[])∧PaAt C w' l.tail d∧Fr C.T w w')∨(takeP s l= .err 90 (hdT l).at_ ∧e= .panicked [{v:= .iface 73 (.agg #[.int .i64 90,.int .i64 (hdT l).at_]),recovered:=false}]∧Fr C.T w w'):=by
 cases hm:mayB s l
 ·refine(take_no C s l d b w h hm hc).mono fun e w' hE=> .inr ⟨by unfold takeP;rw[hm];rfl,hE.1,hE.2⟩
 ·refine(take_yes C s l d b w hk h hs hm hc).mono fun e w' hE=> .inl ⟨by unfold takeP;rw[hm];rfl,hE.1,hE.2.1,hE.2.2⟩

/-! expressions in a row -/
def exC (x:Ex) (A:Option Addr) (c:Nat):List Value:= [.int .u8 x.k,.string x.nm,.int .i64 x.n,.slice A x.args.len c,.int .i64 x.at_]
def ExRow (w:World) (S:Nat→Prop):List Ex→List Value→Prop
 | [],cs=>cs= []
 |x::xs,cs=>∃A c cs',cs=exC x A c++cs'∧in8 x.k∧in64 x.n∧in64 x.at_∧SlR (ExR w S False x.args) x.args.len 64 A c∧ExRow w S xs cs'
theorem ExRow.imp {w w':World} {S S':Nat→Prop} (hf:SameS S w w') (hs:∀b,S b→S' b):∀ {xs:List Ex} {cs:List Value},ExRow w S xs cs→ExRow w' S' xs cs
 | [],_,h=>h
 |x::xs,cs,h=>by
  obtain⟨A,c,cs',e,h1,h2,h3,h4,h5⟩:=h
  exact⟨A,c,cs',e,h1,h2,h3,h4.imp fun _ _ h=>ExR.more hs (ExR.keep hf h),ExRow.imp hf hs h5⟩
theorem ExRow.snoc {w:World} {S:Nat→Prop} {y:Ex} {A:Option Addr} {c:Nat} (hy:in8 y.k∧in64 y.n∧in64 y.at_∧SlR (ExR w S False y.args) y.args.len 64 A c):∀ {xs:List Ex} {cs:List Value},ExRow w S xs cs→ExRow w S (xs++ [y]) (cs++exC y A c)
 | [],cs,h=>by
  have h:cs= []:=h
  subst h
  exact⟨A,c, [],by simp,hy.1,hy.2.1,hy.2.2.1,hy.2.2.2,rfl⟩
 |x::xs,cs,h=>by
  obtain⟨B,q,cs',e,h1,h2,h3,h4,h5⟩:=h
  exact⟨B,q,cs'++exC y A c,by rw[e,List.append_assoc],h1,h2,h3,h4,ExRow.snoc hy h5⟩
theorem ExRow.exR {w:World} {S:Nat→Prop} {g:Nat} (hg:S g):∀ {xs:List Ex} {cs:List Value} {o:Nat},ExRow w S xs cs→(∀j u,cs[j]?=some u→w.cell? ⟨g,o+j,none⟩=some u)→ExR w S False (exsOf xs) g o
 | [],_,_,_,_=>trivial
 |x::xs,cs,o,h,hc=>by
  obtain⟨A,c,cs',e,h1,h2,h3,h4,h5⟩:=h
  subst e
  refine⟨⟨hg,fun h=>absurd h id,h1,h2,h3,?_,?_,?_,?_⟩,⟨A,c,?_,h4⟩,?_⟩
  ·exact hc 0 _ rfl
  ·exact hc 1 _ rfl
  ·exact hc 2 _ rfl
  ·exact hc 4 _ rfl
  ·exact hc 3 _ rfl
  ·refine ExRow.exR hg h5 fun j u hj=>?_
   have:=hc (5+j) u (by rw[List.getElem?_append_right (by simp[exC])];simpa[exC]using hj)
   rw[Nat.add_assoc]
   exact this

def someF {α:Type} (one:List Tk→PR α) (s:List UInt8):Nat→List α→List Tk→PR (List α)
 |0,acc,l=> .ok acc l
 |f+1,acc,l=>(one l).then fun x r=>if mayB [44] r then someF one s f (acc++ [x]) r.tail else(takeP s r).then fun _ r=> .ok (acc++ [x]) r
def someP {α:Type} (one:List Tk→PR α) (s:List UInt8) (no:Bool) (l:List Tk):PR (List α):=if no&&mayB s l then .ok [] l.tail else someF one s l.length [] l
theorem may_any (C:Pcx) (s:List UInt8) (l:List Tk) (d:Nat) (w:World) (hk:C.Ok) (h:PaAt C w l d) (hs:s≠ []):Calls Tryz.prog 47 #[.pointer (some ⟨C.P,0,none⟩),.string ⟨s.toArray⟩] w fun e w'=>
  e= .returned (.bool (mayB s l))∧PaAt C w' (if mayB s l then l.tail else l) d∧Fr C.T w w':=by
 cases hm:mayB s l
 ·exact may_no C s l d w h hm
 ·exact may_yes C s l d w hk h hs hm
def ExlV (w:World) (L:Nat) (v:Value) (xs:List Ex):Prop:=ExsV w L v (exsOf xs)
theorem someX_end {L:Nat} {w:World} {v:Value} {acc:List Ex} {cs:List Value} {S:Nat→Prop} (hr:w.ownsRow L 68 5 v acc.length cs) (hx:ExRow w S acc cs) (hs:∀b,S b→L≤b∧b < w.heap.size) (hf:acc.length≤5001):ExlV w L v acc:=by
 rcases hr.2 with⟨rfl,h0⟩|⟨g,cap,cur,rfl,hb,hg,hn,hc,hcs,ht⟩
 ·exact⟨none,0,by rw[exsOf_len,h0],by rw[exsOf_len,h0];exact⟨lrq _,sl0,fun h=>absurd h (Nat.lt_irrefl 0)⟩⟩
 ·have hl:g < w.heap.size:=(Array.getElem?_eq_some_iff.1 hg).1
  have hcc:cap≤9223372036854775807:=by unfold maxLen at hc;omega
  suffices hx2:ExR w (New L w) False (exsOf acc) g 0 by
   exact⟨some ⟨g,0,none⟩,cap,by rw[exsOf_len],by rw[exsOf_len];exact⟨hn,⟨hcc,by omega⟩,fun _=>⟨g,0,rfl,hx2⟩⟩⟩
  refine ExRow.exR ⟨hb,hl⟩ (ExRow.imp (SameS.refl _ _) hs hx) fun j u hj=>?_
  have:=hr.cells (g:=g) rfl j u hj
  have hadd:(⟨g,0,none⟩:Addr).add j=⟨g,0+j,none⟩:=by
   rw[Nat.zero_add];unfold Addr.add;split<;>simp_all
  rw[hadd]at this
  exact this

theorem Fr.grownP {C:Pcx} {w w':World} (h:Fr C.T w w'):w.grownBy w' (some C.P):=
 ⟨h.os,h.tape,h.output,h.size,fun k hk hn=>h.block k hk fun e=>hn (by have e:k=C.P:=e;rw[e])⟩
theorem row_keep {C:Pcx} {w w':World} {L size n:Nat} {t:TypeId} {v:Value} {cs:List Value} (h:w.ownsRow L t size v n cs) (hf:Fr C.T w w') (hL:C.P < L):w'.ownsRow L t size v n cs:=
 h.kept hf.grownP (.inr fun e=>by have:=(h.lt _ e).1;omega)

/-! Va -/
def cCVa (x:Va):List Value:= [.string x.nm,.int .i64 x.at_]
def okCVa (x:Va):Prop:=in64 x.at_
def cVVa (x:Va):Value:= .agg #[.string x.nm,.int .i64 x.at_]
def cPVa (C:Pcx) (d:Nat) (r:PR Va) (W:World) (e:Ending) (w':World):Prop:=
 match r with
 | .err c a=>e=wrongE c a∧Fr C.T W w'
 | .ok x l=>e= .returned (cVVa x)∧okCVa x∧PaAt C w' l d∧Fr C.T W w'
theorem cPVa.ways {C:Pcx} {d:Nat} {r:PR Va} {W w':World} {e:Ending} (h:cPVa C d r W e w'):
  (∃(x:Va) (l:List Tk),r= .ok x l∧e= .returned (.agg #[.string x.nm,.int .i64 x.at_])∧okCVa x∧PaAt C w' l d∧Fr C.T W w')∨
   ∃c a,r= .err c a∧e= .panicked [{v:= .iface 73 (.agg #[.int .i64 c,.int .i64 a]),recovered:=false}]∧Fr C.T W w':=by
 unfold cPVa at h
 cases r with
 |err c a=>exact .inr ⟨c,a,rfl,h⟩
 |ok x l=>exact .inl ⟨x,l,rfl,h.1,h.2⟩
def lsVVa (w:World) (L:Nat) (v:Value) (xs:List Va):Prop:=∃A c,v= .slice A xs.length c∧SlR (VaR w (New L w) False xs) xs.length 24 A c
theorem cRVa {w:World} {S:Nat→Prop} {g:Nat} (hg:S g):∀ {xs:List Va} {o:Nat},(∀x∈xs,okCVa x)→(∀j u,(xs.flatMap cCVa)[j]?=some u→w.cell? ⟨g,o+j,none⟩=some u)→VaR w S False xs g o
 | [],_,_,_=>trivial
 |x::xs,o,h,hc=>by
  refine⟨⟨hg,fun h=>absurd h id,h x (by simp),hc 0 _ rfl,hc 1 _ rfl⟩,cRVa hg (fun y hy=>h y (by simp[hy])) fun j u hj=>?_⟩
  have:=hc (2+j) u (by rw[List.flatMap_cons,List.getElem?_append_right (by simp[cCVa])];simpa[cCVa]using hj)
  rw[Nat.add_assoc]
  exact this
structure SomeVa (C:Pcx) (w:World) (d:Nat) (R:PR (List Va)) (one:List Tk→PR Va) (s:List UInt8) (v:Value) (wr:World) (acc:List Va) (l:List Tk):Prop where
 eq:∃f,R=someF one s f acc l∧l.length≤f
 row:wr.ownsRow w.heap.size 87 2 v acc.length (acc.flatMap cCVa)
 ok:∀x∈acc,okCVa x
 few:acc.length+l.length≤5000
 pa:PaAt C wr l d
 fr:Fr C.T w wr
theorem someVa_end {L:Nat} {w:World} {v:Value} {acc:List Va} (hr:w.ownsRow L 87 2 v acc.length (acc.flatMap cCVa)) (hx:∀x∈acc,okCVa x) (hf:acc.length≤5001):lsVVa w L v acc:=by
 rcases hr.2 with⟨rfl,h0⟩|⟨g,cap,cur,rfl,hb,hg,hn,hc,hcs,ht⟩
 ·exact⟨none,0,by rw[h0],by rw[h0];exact⟨lrq _,⟨by decide,by decide⟩,fun h=>absurd h (Nat.lt_irrefl 0)⟩⟩
 ·have hl:g < w.heap.size:=(Array.getElem?_eq_some_iff.1 hg).1
  have hcc:cap≤9223372036854775807:=by unfold maxLen at hc;omega
  suffices hx2:VaR w (New L w) False acc g 0 by
   exact⟨some ⟨g,0,none⟩,cap,rfl,⟨hn,⟨hcc,by omega⟩,fun _=>⟨g,0,rfl,hx2⟩⟩⟩
  refine cRVa ⟨hb,hl⟩ hx fun j u hj=>?_
  have:=hr.cells (g:=g) rfl j u hj
  have hadd:(⟨g,0,none⟩:Addr).add j=⟨g,0+j,none⟩:=by
   rw[Nat.zero_add];unfold Addr.add;split<;>simp_all
  rw[hadd]at this
  exact this
theorem stepVa {C:Pcx} {w wr w7 w9:World} {v:Value} {acc:List Va} {r2:List Tk} {d:Nat} {cell:Array Value}
  (hL:C.P < w.heap.size∧C.TB < w.heap.size∧C.W0.heap.size≤w.heap.size) (hrow:wr.ownsRow w.heap.size 87 2 v acc.length (acc.flatMap cCVa)) (hF:Fr C.T w wr)
  (hp:PaAt C w7 r2 d) (hf:Fr C.T wr w7) (hg:(w7.alloc (.cells cell 87)).grownBy w9 v.ownBlock):PaAt C w9 r2 d∧Fr C.T w w9:=by
 have hlt:=hrow.lt
 have hsF:=hF.size
 have hsf:=hf.size
 have hgf:Fr (fun b=>v.ownBlock=some b) w7 w9:=((Fr.refl _ _).alloc _).trans (Fr.grown hg fun g e _=>e)
 have h79:Fr (fun b=>b=C.P∨v.ownBlock=some b) wr w9:=(hf.mono fun i _ h=>Or.inl h).trans (hgf.mono fun i _ h=>Or.inr h)
 refine⟨hp.fr hgf (fun e=>?_) (fun e=>?_) (fun i hi e=>?_),?_⟩
 ·have:=(hlt _ e).1
  omega
 ·have:=(hlt _ e).1
  omega
 ·have:=(hlt _ e).1
  omega
 ·have h:=(hF.mono (T':=fun b=>b=C.P∨v.ownBlock=some b) fun i _ h=>Or.inl h).trans h79
  refine h.mono fun i hi e=>?_
  rcases e with e|e
  ·exact e
  ·have:=(hlt _ e).1
   omega
theorem someVa_any (C:Pcx) (one:List Tk→PR Va) (s:List UInt8) (no:Bool) (g:Nat) (fst cap:Array Value) (l:List Tk) (d:Nat) (w:World) (hk:C.Ok) (h:PaAt C w l d) (hshr:Shr one) (hs:s≠ [])
  (hent:Enters Tryz.prog g) (hone:∀W,Fr C.T w W→∀l',PaAt C W l' d→Calls Tryz.prog g (fst++cap) W (cPVa C d (one l') W)):
  Calls Tryz.prog 48 #[.pointer (some ⟨C.P,0,none⟩),.string ⟨s.toArray⟩,.bool no,.func (.func g) fst cap] w (EndV C d lsVVa (someP one s no l) w):=by
 obtain⟨i0,hi,hz0,hz1,hz2⟩:=info_parts infoVa
 obtain⟨R,hR⟩:=nmq (someP one s no l)
 rw[←hR]
 have hL:=h.lts
 have hfl:l.length≤5000:=by
  obtain⟨j,q,e,_⟩:=h.at_
  have:=hk.few
  rw[e,List.length_drop];omega
 have HONE:=hdq hone
 have HK:=hdq hk
 have HL:=hdq hL
 have HS:=hdq hs
 unfold Enters at hent
 have hmy:=may_any C s l d w hk h hs
 have HM:=hdq hmy
 have key:∀(v:Value) (wr:World) (acc:List Ex) (cs:List Value) (r:List Tk),no=no:=fun _ _ _ _ _=>rfl
 by_cases hn:no=true∧mayB s l=true
 ·obtain⟨rfl,hm⟩:=hn
  have hR2:R= .ok [] l.tail:=by rw[hR];unfold someP;rw[hm];rfl
  have HR2:=hdq hR2
  rw[hm]at HM
  clear hR h hone hk hs hL hmy hR2 key hm hfl
  go_enter Tryz.func48,Tryz.ntmps48
  go_wp2_with fail
  refine HM.out.mono ?_
  rintro _ w1 ⟨rfl,hp,hf⟩
  have HP:=hdq hp
  have HF:=hdq hf
  clear hp hf
  go_wp2_with fail
  go_ret
  rw[HR2.out]
  exact⟨_,rfl,⟨none,0,rfl,lrq 0,⟨by decide,by decide⟩,fun h=>absurd h (Nat.lt_irrefl 0)⟩,HP.out,HF.out⟩
 ·have hR2:R=someF one s l.length [] l:=by
   rw[hR];unfold someP
   cases no
   ·rfl
   ·rw[if_neg (by intro h;exact hn ⟨rfl,by simpa using h⟩)]
  have HEQ:=hdq hR2
  have hmf:no=true→mayB s l=false:=fun e=>by
   cases hm:mayB s l
   ·rfl
   ·exact absurd ⟨e,hm⟩ hn
  have HMF:=hdq hmf
  have H:=hdq h
  have HI:=hdq (aiq hi (aiq hz0 (aiq hz1 hz2)))
  clear hR hone hk hs hL hmy hR2 key hn hmf h
  cases no
  ·have HP1:=hdq H.out
   have HF1:=hdq (Fr.refl C.T w)
   clear HM HMF
   go_enter Tryz.func48,Tryz.ntmps48
   go_wp2_with fail
   go_loopw [8] (fun v wr=>∃(acc:List Va) (r:List Tk),Hid (SomeVa C w d R one s v wr acc r)) (fun _ wr=>lenP C wr)
   case atStart=>exact⟨[],l,hdq ⟨⟨_,HEQ.out,lrq _⟩,World.ownsRow_nil _ _ _ _,fun x hx=>by simp at hx,by simpa using hfl,HP1.out,HF1.out⟩⟩
   case round=>
    obtain⟨acc,r,hx⟩:=hrel
    have HQ:=hdq (HONE.out _ hx.out.fr r hx.out.pa)
    go_wp2_with fail
    try simp only[Array.append_empty]
    refine HQ.out.mono ?_
    intro e w7 hE
    obtain⟨f,hRf,hfr⟩:=hx.out.eq
    have hrl:0 < r.length:=List.length_pos_iff.2 hx.out.pa.ne
    obtain⟨f,rfl⟩:∃f',f=f'+1:=⟨f - 1,by omega⟩
    unfold someF at hRf
    rcases hE.ways with⟨x,r2,ho,rfl,hv,hp,hf⟩|⟨c,a,ho,rfl,hf⟩
    rotate_left
    ·go_wp2_with fail
     exact⟨rfl,by rw[hRf,ho];exact⟨rfl,hx.out.fr.trans hf⟩⟩
    rw[ho]at hRf
    have hRf:R=if mayB [44] r2 then someF one s f (acc++ [x]) r2.tail else(takeP s r2).then fun _ r=> .ok (acc++ [x]) r:=hRf
    have HRF:=hdq hRf
    have HSH:=hdq (hshr _ _ _ ho)
    have HFR:=hdq hfr
    have HO7:=hdq (row_keep hx.out.row hf HL.out.1)
    have HV7:=hdq hv
    have HP7:=hdq hp
    have HF7:=hdq hf
    have hbig:(acc.length+1)*24≤140737488355328:=by have:=hx.out.few;omega
    have hs7:w.heap.size≤w7.heap.size:=leq9 hx.out.fr.size hf.size
    clear hRf ho hv hp hf hfr hrl
    go_wp2_with (at_builtin;refine wpList_append_spot _ rfl _ _ 44 rfl w.heap.size 87 i0 (.agg #[.string ⟨#[]⟩,.int .i64 0]) 2 24 Tryz.underlying44 HI.out.1 HI.out.2.1 HI.out.2.2.1 HI.out.2.2.2 rfl (by decide) _ _ _ rfl (HO7.out.alloc _) ⟨w7.heap.size,0,none⟩ 1 1 (cCVa x) rfl rfl ?c1 ?c2 (by decide) ?c3 ?c4 ?c5 ?_)
    case c1=>
     intro j u hj
     match j,hj with
     |0,hj=>simp[cCVa]at hj;subst hj;simp[Addr.add]
     |1,hj=>simp[cCVa]at hj;subst hj;simp[Addr.add]
    case c2=>
     intro u hu
     simp only[cCVa,List.mem_cons,List.not_mem_nil,or_false]at hu
     rcases hu with rfl|rfl<;>rfl
    case c3=>unfold maxLen;omega
    case c4=>exact hbig
    case c5=>simp;omega
    intro v' w9 hown hgrow hspot
    obtain⟨hp9,hf9⟩:=stepVa HL.out hx.out.row hx.out.fr HP7.out HF7.out hgrow
    have hok9:∀y∈acc++ [x],okCVa y:=fun y hy=>by
     rcases List.mem_append.1 hy with h|h
     ·exact hx.out.ok y h
     ·rw[List.mem_singleton.1 h];exact HV7.out
    have HO9:=hdq (show w9.ownsRow w.heap.size 87 2 v' (acc++ [x]).length ((acc++ [x]).flatMap cCVa)from by
     rw[List.flatMap_append,List.length_append,List.flatMap_cons,List.flatMap_nil,List.append_nil]
     exact hown)
    have HR9:=hdq hok9
    have HF9:=hdq hf9
    have HMM:=hdq (may_any C [44] r2 d w9 HK.out hp9 (by decide))
    clear hown hgrow hspot hok9 hp9 hf9 hbig
    go_wp2_with fail
    refine HMM.out.mono ?_
    rintro _ w10 ⟨rfl,hp10,hf10⟩
    have HO10:=hdq (row_keep HO9.out hf10 HL.out.1)
    have HF10:=hdq (HF9.out.trans hf10)
    have HP10:=hdq hp10
    clear hp10 hf10
    cases hm:mayB [44] r2
    ·have hp10:=HP10.out
     rw[hm]at hp10
     have hp10:PaAt C w10 r2 d:=hp10
     have HT:=hdq (take_any C s r2 d w10.heap.size _ HK.out (hp10.alloc (.cells #[.string ⟨s.toArray⟩] 9)) HS.out (by simp))
     have hR3:R=(takeP s r2).then fun _ r=> .ok (acc++ [x]) r:=by rw[HRF.out,hm];rfl
     have HR3:=hdq hR3
     clear hp10 hm hR3
     go_wp2_with fail
     refine HT.out.mono ?_
     intro e w11 hE
     rcases hE with⟨ht,rfl,hp,hf⟩|⟨ht,rfl,hf⟩
     rotate_left
     ·go_wp2_with fail
      exact⟨rfl,by rw[HR3.out,ht];exact⟨rfl,(HF10.out.alloc _).trans hf⟩⟩
     have hff:=((Fr.refl C.T w10).alloc (.cells #[.string ⟨s.toArray⟩] 9)).trans hf
     have HT11:=hdq ht
     have HP11:=hdq hp
     have HFF:=hdq hff
     clear ht hp hf hff
     go_wp2_with fail
     go_ret
     rw[HR3.out,HT11.out]
     refine⟨_,rfl,someVa_end (row_keep HO10.out HFF.out HL.out.1) HR9.out ?_,HP11.out,HF10.out.trans HFF.out⟩
     have:=hx.out.few
     simp;omega
    ·have hp10:=HP10.out
     rw[hm]at hp10
     have hp10:PaAt C w10 r2.tail d:=hp10
     have hR3:R=someF one s f (acc++ [x]) r2.tail:=by rw[HRF.out,hm];rfl
     have hsl:r2.tail.length < r.length:=by
      have h1:=HSH.out
      have h2:=List.length_pos_iff.2 HP7.out.ne
      rw[List.length_tail];omega
     have hnx:SomeVa C w d R one s v' w10 (acc++ [x]) r2.tail:=⟨⟨f,hR3,by have:=HFR.out;omega⟩,HO10.out,HR9.out,by have:=hx.out.few;simp only[List.length_append,List.length_cons,List.length_nil];omega,hp10,HF10.out⟩
     have HNX:=hdq hnx
     have HLN:=hdq (show lenP C w10 < lenP C wr from by rw[hnx.pa.lenP,hx.out.pa.lenP];exact hsl)
     clear hp10 hm hR3 hsl hnx
     go_wp2_with fail
     go_roundw
     case rel=>exact⟨_,_,HNX⟩
     case measure=>exact HLN.out
  ·have hmm:=HMF.out rfl
   rw[hmm]at HM
   clear hmm HMF
   go_enter Tryz.func48,Tryz.ntmps48
   go_wp2_with fail
   refine HM.out.mono ?_
   rintro _ w1 ⟨rfl,hp,hf⟩
   have HP1:=hdq hp
   have HF1:=hdq hf
   clear hp hf
   go_wp2_with fail
   go_loopw [8] (fun v wr=>∃(acc:List Va) (r:List Tk),Hid (SomeVa C w d R one s v wr acc r)) (fun _ wr=>lenP C wr)
   case atStart=>exact⟨[],l,hdq ⟨⟨_,HEQ.out,lrq _⟩,World.ownsRow_nil _ _ _ _,fun x hx=>by simp at hx,by simpa using hfl,HP1.out,HF1.out⟩⟩
   case round=>
    obtain⟨acc,r,hx⟩:=hrel
    have HQ:=hdq (HONE.out _ hx.out.fr r hx.out.pa)
    go_wp2_with fail
    try simp only[Array.append_empty]
    refine HQ.out.mono ?_
    intro e w7 hE
    obtain⟨f,hRf,hfr⟩:=hx.out.eq
    have hrl:0 < r.length:=List.length_pos_iff.2 hx.out.pa.ne
    obtain⟨f,rfl⟩:∃f',f=f'+1:=⟨f - 1,by omega⟩
    unfold someF at hRf
    rcases hE.ways with⟨x,r2,ho,rfl,hv,hp,hf⟩|⟨c,a,ho,rfl,hf⟩
    rotate_left
    ·go_wp2_with fail
     exact⟨rfl,by rw[hRf,ho];exact⟨rfl,hx.out.fr.trans hf⟩⟩
    rw[ho]at hRf
    have hRf:R=if mayB [44] r2 then someF one s f (acc++ [x]) r2.tail else(takeP s r2).then fun _ r=> .ok (acc++ [x]) r:=hRf
    have HRF:=hdq hRf
    have HSH:=hdq (hshr _ _ _ ho)
    have HFR:=hdq hfr
    have HO7:=hdq (row_keep hx.out.row hf HL.out.1)
    have HV7:=hdq hv
    have HP7:=hdq hp
    have HF7:=hdq hf
    have hbig:(acc.length+1)*24≤140737488355328:=by have:=hx.out.few;omega
    have hs7:w.heap.size≤w7.heap.size:=leq9 hx.out.fr.size hf.size
    clear hRf ho hv hp hf hfr hrl
    go_wp2_with (at_builtin;refine wpList_append_spot _ rfl _ _ 44 rfl w.heap.size 87 i0 (.agg #[.string ⟨#[]⟩,.int .i64 0]) 2 24 Tryz.underlying44 HI.out.1 HI.out.2.1 HI.out.2.2.1 HI.out.2.2.2 rfl (by decide) _ _ _ rfl (HO7.out.alloc _) ⟨w7.heap.size,0,none⟩ 1 1 (cCVa x) rfl rfl ?c1 ?c2 (by decide) ?c3 ?c4 ?c5 ?_)
    case c1=>
     intro j u hj
     match j,hj with
     |0,hj=>simp[cCVa]at hj;subst hj;simp[Addr.add]
     |1,hj=>simp[cCVa]at hj;subst hj;simp[Addr.add]
    case c2=>
     intro u hu
     simp only[cCVa,List.mem_cons,List.not_mem_nil,or_false]at hu
     rcases hu with rfl|rfl<;>rfl
    case c3=>unfold maxLen;omega
    case c4=>exact hbig
    case c5=>simp;omega
    intro v' w9 hown hgrow hspot
    obtain⟨hp9,hf9⟩:=stepVa HL.out hx.out.row hx.out.fr HP7.out HF7.out hgrow
    have hok9:∀y∈acc++ [x],okCVa y:=fun y hy=>by
     rcases List.mem_append.1 hy with h|h
     ·exact hx.out.ok y h
     ·rw[List.mem_singleton.1 h];exact HV7.out
    have HO9:=hdq (show w9.ownsRow w.heap.size 87 2 v' (acc++ [x]).length ((acc++ [x]).flatMap cCVa)from by
     rw[List.flatMap_append,List.length_append,List.flatMap_cons,List.flatMap_nil,List.append_nil]
     exact hown)
    have HR9:=hdq hok9
    have HF9:=hdq hf9
    have HMM:=hdq (may_any C [44] r2 d w9 HK.out hp9 (by decide))
    clear hown hgrow hspot hok9 hp9 hf9 hbig
    go_wp2_with fail
    refine HMM.out.mono ?_
    rintro _ w10 ⟨rfl,hp10,hf10⟩
    have HO10:=hdq (row_keep HO9.out hf10 HL.out.1)
    have HF10:=hdq (HF9.out.trans hf10)
    have HP10:=hdq hp10
    clear hp10 hf10
    cases hm:mayB [44] r2
    ·have hp10:=HP10.out
     rw[hm]at hp10
     have hp10:PaAt C w10 r2 d:=hp10
     have HT:=hdq (take_any C s r2 d w10.heap.size _ HK.out (hp10.alloc (.cells #[.string ⟨s.toArray⟩] 9)) HS.out (by simp))
     have hR3:R=(takeP s r2).then fun _ r=> .ok (acc++ [x]) r:=by rw[HRF.out,hm];rfl
     have HR3:=hdq hR3
     clear hp10 hm hR3
     go_wp2_with fail
     refine HT.out.mono ?_
     intro e w11 hE
     rcases hE with⟨ht,rfl,hp,hf⟩|⟨ht,rfl,hf⟩
     rotate_left
     ·go_wp2_with fail
      exact⟨rfl,by rw[HR3.out,ht];exact⟨rfl,(HF10.out.alloc _).trans hf⟩⟩
     have hff:=((Fr.refl C.T w10).alloc (.cells #[.string ⟨s.toArray⟩] 9)).trans hf
     have HT11:=hdq ht
     have HP11:=hdq hp
     have HFF:=hdq hff
     clear ht hp hf hff
     go_wp2_with fail
     go_ret
     rw[HR3.out,HT11.out]
     refine⟨_,rfl,someVa_end (row_keep HO10.out HFF.out HL.out.1) HR9.out ?_,HP11.out,HF10.out.trans HFF.out⟩
     have:=hx.out.few
     simp;omega
    ·have hp10:=HP10.out
     rw[hm]at hp10
     have hp10:PaAt C w10 r2.tail d:=hp10
     have hR3:R=someF one s f (acc++ [x]) r2.tail:=by rw[HRF.out,hm];rfl
     have hsl:r2.tail.length < r.length:=by
      have h1:=HSH.out
      have h2:=List.length_pos_iff.2 HP7.out.ne
      rw[List.length_tail];omega
     have hnx:SomeVa C w d R one s v' w10 (acc++ [x]) r2.tail:=⟨⟨f,hR3,by have:=HFR.out;omega⟩,HO10.out,HR9.out,by have:=hx.out.few;simp only[List.length_append,List.length_cons,List.length_nil];omega,hp10,HF10.out⟩
     have HNX:=hdq hnx
     have HLN:=hdq (show lenP C w10 < lenP C wr from by rw[hnx.pa.lenP,hx.out.pa.lenP];exact hsl)
     clear hp10 hm hR3 hsl hnx
     go_wp2_with fail
     go_roundw
     case rel=>exact⟨_,_,HNX⟩
     case measure=>exact HLN.out
/-! Arr -/
def cCAr (x:Arr):List Value:= [.string x.nm,.int .i64 x.size,.int .i64 x.at_]
def okCAr (x:Arr):Prop:=in64 x.size∧in64 x.at_
def lsVAr (w:World) (L:Nat) (v:Value) (xs:List Arr):Prop:=∃A c,v= .slice A xs.length c∧SlR (ArR w (New L w) False xs) xs.length 32 A c
theorem cRAr {w:World} {S:Nat→Prop} {g:Nat} (hg:S g):∀ {xs:List Arr} {o:Nat},(∀x∈xs,okCAr x)→(∀j u,(xs.flatMap cCAr)[j]?=some u→w.cell? ⟨g,o+j,none⟩=some u)→ArR w S False xs g o
 | [],_,_,_=>trivial
 |x::xs,o,h,hc=>by
  refine⟨⟨hg,fun h=>absurd h id,(h x (by simp)).1,(h x (by simp)).2,hc 0 _ rfl,hc 1 _ rfl,hc 2 _ rfl⟩,cRAr hg (fun y hy=>h y (by simp[hy])) fun j u hj=>?_⟩
  have:=hc (3+j) u (by rw[List.flatMap_cons,List.getElem?_append_right (by simp[cCAr])];simpa[cCAr]using hj)
  rw[Nat.add_assoc]
  exact this
theorem someAr_end {L:Nat} {w:World} {v:Value} {acc:List Arr} (hr:w.ownsRow L 89 3 v acc.length (acc.flatMap cCAr)) (hx:∀x∈acc,okCAr x) (hf:acc.length≤5001):lsVAr w L v acc:=by
 rcases hr.2 with⟨rfl,h0⟩|⟨g,cap,cur,rfl,hb,hg,hn,hc,hcs,ht⟩
 ·exact⟨none,0,by rw[h0],by rw[h0];exact⟨lrq _,⟨by decide,by decide⟩,fun h=>absurd h (Nat.lt_irrefl 0)⟩⟩
 ·have hl:g < w.heap.size:=(Array.getElem?_eq_some_iff.1 hg).1
  have hcc:cap≤9223372036854775807:=by unfold maxLen at hc;omega
  suffices hx2:ArR w (New L w) False acc g 0 by
   exact⟨some ⟨g,0,none⟩,cap,rfl,⟨hn,⟨hcc,by omega⟩,fun _=>⟨g,0,rfl,hx2⟩⟩⟩
  refine cRAr ⟨hb,hl⟩ hx fun j u hj=>?_
  have:=hr.cells (g:=g) rfl j u hj
  have hadd:(⟨g,0,none⟩:Addr).add j=⟨g,0+j,none⟩:=by
   rw[Nat.zero_add];unfold Addr.add;split<;>simp_all
  rw[hadd]at this
  exact this

def keyK (t:List UInt8):Int:=
 if t= [115,107,105,112]then 1 else if t= [105,110,112,117,116]then 4 else if t= [97,115,115,117,109,101]then 5 else if t= [97,115,115,101,114,116]then 6
 else if t= [105,102]then 7 else if t= [119,104,105,108,101]then 8 else if t= [99,97,108,108]then 9 else 0
def endS (x:St) (l:List Tk):PR St:=(takeP [59] l).then fun _ r=> .ok x r
def stmtOf (blk:List Tk→PR (List St)) (n:Nat) (l:List Tk):PR St:=
 let a:=((hdT l).at_ :Int)
 let k:=keyK (hdT l).text
 if k=1 then endS ⟨1,noB,.nil,.nil,.nil,.nil,a⟩ l.tail
 else if k=4 then(nameP l.tail).then fun x r=>endS ⟨4,x.nm,.nil,.nil,.nil,.nil,a⟩ r
 else if k=5∨k=6 then(askP n l.tail).then fun c r=>endS ⟨k,noB,.nil,c,.nil,.nil,a⟩ r
 else if k=7 then(askP n l.tail).then fun c r=>(blk r).then fun b r=>
  if mayB [101,108,115,101] r then(blk r.tail).then fun e r=> .ok ⟨7,noB,.nil,c,stsOf b,stsOf e,a⟩ r else .ok ⟨7,noB,.nil,c,stsOf b,.nil,a⟩ r
 else if k=8 then(askP n l.tail).then fun c r=>(blk r).then fun b r=> .ok ⟨8,noB,.nil,c,stsOf b,.nil,a⟩ r
 else if k=9 then(nameP l.tail).then fun x r=>(takeP [40] r).then fun _ r=>(someP (exprP n) [41] true r).then fun xs r=>endS ⟨9,x.nm,exsOf xs,.nil,.nil,.nil,a⟩ r
 else(nameP l).then fun x r=>
  if mayB [91] r then(indexP n r).then fun i r=>(takeP [61] r).then fun _ r=>(exprP n r).then fun e r=>endS ⟨3,x.nm,i.cons (e.cons .nil),.nil,.nil,.nil,a⟩ r
  else(takeP [61] r).then fun _ r=>(exprP n r).then fun e r=>endS ⟨2,x.nm,e.cons .nil,.nil,.nil,.nil,a⟩ r
def stmtsF (one:List Tk→PR St):Nat→List St→List Tk→PR (List St)
 |0,acc,l=> .ok acc l
 |f+1,acc,l=>if mayB [125] l then .ok acc l.tail else(one l).then fun x r=>stmtsF one f (acc++ [x]) r
def blockP:Nat→List Tk→PR (List St)
 |n,l=>
  if mayB [123] l then(match n with
   |0=> .err 91 (hdT l).at_
   |n+1=>stmtsF (stmtOf (blockP n) n) l.tail.length [] l.tail)
  else .err 90 (hdT l).at_
def sizedP (l:List Tk):PR Arr:=(nameP l).then fun x r=>(takeP [91] r).then fun _ r=>(numberP r).then fun n r=>(takeP [93] r).then fun _ r=> .ok ⟨x.nm,n,x.at_⟩ r
def procP (l:List Tk):PR Prc:=(nameP l).then fun x r=>(takeP [40] r).then fun _ r=>(someP nameP [41] true r).then fun ps r=>(blockP 24 r).then fun b r=> .ok ⟨x.nm,ps,stsOf b,x.at_⟩ r
def headF:Nat→List Va→List Arr→List Tk→PR (List Va×List Arr)
 |0,vs,xs,l=> .ok (vs,xs) l
 |f+1,vs,xs,l=>
  if mayB [118,97,114] l then(someP nameP [59] false l.tail).then fun v r=>headF f (vs++v) xs r
  else if mayB [97,114,114,97,121] l then(someP sizedP [59] false l.tail).then fun x r=>headF f vs (xs++x) r
  else .ok (vs,xs) l
def procsF:Nat→List Prc→List Tk→PR (List Prc)
 |0,ps,l=> .ok ps l
 |f+1,ps,l=>if mayB [112,114,111,99] l then(procP l.tail).then fun p r=>procsF f (ps++ [p]) r else .ok ps l
def treeP (l:List Tk):PR Tre:=
 (headF l.length [] [] l).then fun vx r=>(procsF r.length [] r).then fun ps r=>(takeP [109,97,105,110] r).then fun _ r=>(blockP 24 r).then fun b r=>
  if 1 < r.length then .err 90 (hdT r).at_ else .ok ⟨vx.1,vx.2,ps,stsOf b⟩ r
def parseB (s:List UInt8):Tre×Int×Int:=
 let q:=toks s
 if q.2.2≠0 then(⟨[], [], [],.nil⟩,q.2.1,q.2.2)
 else match treeP (q.1++ [⟨0, [],s.length⟩])with
  | .ok t _=>(t,0,0)
  | .err e a=>(⟨[], [], [],.nil⟩,a,e)
theorem nameP_shr {l:List Tk} {x:Va} {r:List Tk} (h:nameP l= .ok x r):r=l.tail:=by
 unfold nameP at h
 split at h
 ·simp only[PR.ok.injEq]at h;exact h.2.symm
 ·simp at h

def Tk.live (t:Tk):Prop:=¬(t.text= []∧t.kind=0)
theorem mayB_live {s:List UInt8} {l:List Tk} (h:mayB s l=true) (hs:s≠ []):(hdT l).live :=fun ht=>by
 have:=(mayB_text h).1
 rw[ht.1]at this
 exact hs this.symm
theorem live_pos {l:List Tk} (h:(hdT l).live):0 < l.length:=by
 cases l with
 |nil=>exact absurd ⟨rfl,rfl⟩ h
 |cons a b=>simp
/-! things with signs between, however much fuel there is -/

/-! things with commas between -/
theorem keyK_live {l:List Tk} (h:keyK (hdT l).text ≠0):(hdT l).live :=fun ht=>h (by rw[ht.1];rfl)

/-! a tree's head -/

theorem pname_any (C:Pcx) (l:List Tk) (d:Nat) (w:World) (hk:C.Ok) (h:PaAt C w l d):Calls Tryz.prog 49 #[.pointer (some ⟨C.P,0,none⟩)] w (cPVa C d (nameP l) w):=by
 cases hn:namedB l
 ·refine(name_no C l d w hk h hn).mono fun e w' hE=>?_
  have e1:nameP l= .err 90 (hdT l).at_ :=by unfold nameP;rw[hn];rfl
  rw[e1]
  exact hE
 ·refine(name_yes C l d w hk h hn).mono fun e w' hE=>?_
  have e1:nameP l= .ok ⟨txt (hdT l),(hdT l).at_⟩ l.tail:=by unfold nameP;rw[hn];rfl
  rw[e1]
  exact⟨hE.1,in64_at hk h,hE.2.1,hE.2.2⟩

structure Loc where
 A:Option Addr
 c:Nat
 B:Option Addr
 q:Nat
 D:Option Addr
 e:Nat
 E:Option Addr
 f:Nat
def Loc.none_:Loc:=⟨none,0,none,0,none,0,none,0⟩
def stC (x:St) (p:Loc):List Value:= [.int .u8 x.k,.string x.nm,.slice p.A x.args.len p.c,.slice p.B x.cond.len p.q,.slice p.D x.body.len p.e,.slice p.E x.els.len p.f,.int .i64 x.at_]
structure StS (w:World) (S:Nat→Prop) (x:St) (p:Loc):Prop where
 k:in8 x.k
 at_:in64 x.at_
 args:SlR (ExR w S False x.args) x.args.len 64 p.A p.c
 cond:SlR (CdR w S False x.cond) x.cond.len 64 p.B p.q
 body:SlR (StR w S False x.body) x.body.len 128 p.D p.e
 els:SlR (StR w S False x.els) x.els.len 128 p.E p.f
theorem StS.imp {w w':World} {S S':Nat→Prop} {x:St} {p:Loc} (h:StS w S x p) (hf:SameS S w w') (hs:∀b,S b→S' b):StS w' S' x p:=
 ⟨h.k,h.at_,h.args.imp fun _ _ h=>ExR.more hs (ExR.keep hf h),h.cond.imp fun _ _ h=>CdR.more hs (CdR.keep hf h),h.body.imp fun _ _ h=>StR.more hs (StR.keep hf h),h.els.imp fun _ _ h=>StR.more hs (StR.keep hf h)⟩
theorem StS.zero {w:World} {S:Nat→Prop} {k a:Int} {nm:ByteArray} (hk:in8 k) (ha:in64 a):StS w S ⟨k,nm,.nil,.nil,.nil,.nil,a⟩ Loc.none_:=
 ⟨hk,ha,⟨lrq 0,sl0,fun h=>absurd h (by exact Nat.lt_irrefl 0)⟩,⟨lrq 0,sl0,fun h=>absurd h (by exact Nat.lt_irrefl 0)⟩,⟨lrq 0,⟨by decide,by exact Nat.zero_le _⟩,fun h=>absurd h (by exact Nat.lt_irrefl 0)⟩,⟨lrq 0,⟨by decide,by exact Nat.zero_le _⟩,fun h=>absurd h (by exact Nat.lt_irrefl 0)⟩⟩
def StAt (w:World) (sb L:Nat) (x:St):Prop:=∃p,Bk w sb 133 (stC x p).toArray ∧StS w (fun b=>L≤b∧b < w.heap.size∧b≠sb) x p

theorem StAt.fr {C:Pcx} {w w':World} {sb L:Nat} {x:St} (h:StAt w sb L x) (hf:Fr C.T w w') (h1:sb≠C.P) (h2:C.P < L):StAt w' sb L x:=by
 obtain⟨p,hb,hs⟩:=h
 exact⟨p,hb.fr hf h1,hs.imp (hf.same fun b hb=>⟨hb.2.1,fun e=>by have e:b=C.P:=e;have:=hb.1;omega⟩) fun b hb=>⟨hb.1,by have:=hb.2.1;have:=hf.size;omega,hb.2.2⟩⟩

theorem StAt.ask {w:World} {sb L L':Nat} {x:St} (h:StAt w sb L x) {xs:Cds} {B:Option Addr} {q:Nat} (hv:SlR (CdR w (New L' w) False xs) xs.len 64 B q) (hl:L≤L') (hsb:sb < L'):StAt (w.setCell ⟨sb,3,none⟩ (.slice B xs.len q)) sb L {x with cond:=xs}:=by
 obtain⟨p,hb,hs⟩:=h
 refine⟨{p with B:=B,q:=q},by simpa[stC]using hb.set_ 3 (.slice B xs.len q),?_⟩
 have hf:Fr (fun b=>b=sb) w (w.setCell ⟨sb,3,none⟩ (.slice B xs.len q)):=Fr.own (Fr.refl _ _) _ _
 have:=hs.imp (S':=fun b=>L≤b∧b < (w.setCell ⟨sb,3,none⟩ (.slice B xs.len q)).heap.size ∧b≠sb) (hf.same fun b hb=>⟨hb.2.1,hb.2.2⟩) fun b hb=>⟨hb.1,by simpa using hb.2.1,hb.2.2⟩
 refine⟨this.k,this.at_,this.args,hv.imp fun _ _ h=>CdR.more (fun b hb=>?_) (CdR.keep (hf.same fun b hb=>⟨hb.2,fun e=>?_⟩) h),this.body,this.els⟩
 ·have h1:=hb.1
  have h2:=hb.2
  exact⟨by omega,by simpa using h2,by omega⟩
 ·have e:b=sb:=e
  have h1:=hb.1
  omega

def StlV (w:World) (L:Nat) (v:Value) (xs:List St):Prop:=∃A c,v= .slice A (stsOf xs).len c∧SlR (StR w (New L w) False (stsOf xs)) (stsOf xs).len 128 A c
theorem StlV.fr {w w':World} {L:Nat} {T:Nat→Prop} {v:Value} {xs:List St} (h:StlV w L v xs) (hf:Fr T w w') (ht:∀b,L≤b→b < w.heap.size→¬T b):StlV w' L v xs:=by
 obtain⟨A,c,e,hs⟩:=h
 exact⟨A,c,e,hs.imp fun _ _ hx=>StR.more (fun b hb=>⟨hb.1,ltq hb.2 hf.size⟩) (StR.keep (hf.same fun b hb=>⟨hb.2,ht b hb.1 hb.2⟩) hx)⟩
theorem StAt.body {w:World} {sb L L':Nat} {x:St} (h:StAt w sb L x) {xs:Sts} {B:Option Addr} {q:Nat} (hv:SlR (StR w (New L' w) False xs) xs.len 128 B q) (hl:L≤L') (hsb:sb < L'):StAt (w.setCell ⟨sb,4,none⟩ (.slice B xs.len q)) sb L {x with body:=xs}:=by
 obtain⟨p,hb,hs⟩:=h
 refine⟨{p with D:=B,e:=q},by simpa[stC]using hb.set_ 4 (.slice B xs.len q),?_⟩
 have hf:Fr (fun b=>b=sb) w (w.setCell ⟨sb,4,none⟩ (.slice B xs.len q)):=Fr.own (Fr.refl _ _) _ _
 have:=hs.imp (S':=fun b=>L≤b∧b < (w.setCell ⟨sb,4,none⟩ (.slice B xs.len q)).heap.size ∧b≠sb) (hf.same fun b hb=>⟨hb.2.1,hb.2.2⟩) fun b hb=>⟨hb.1,by simpa using hb.2.1,hb.2.2⟩
 refine⟨this.k,this.at_,this.args,this.cond,hv.imp fun _ _ h=>StR.more (fun b hb=>?_) (StR.keep (hf.same fun b hb=>⟨hb.2,fun e=>?_⟩) h),this.els⟩
 ·have h1:=hb.1
  have h2:=hb.2
  exact⟨by omega,by simpa using h2,by omega⟩
 ·have e:b=sb:=e
  have h1:=hb.1
  omega

def kwF (k:Int):Nat:=if k=1 then 166 else if k=4 then 167 else if k=5∨k=6 then 168 else if k=7 then 169 else if k=8 then 170 else 171
theorem keyK_cases (t:List UInt8):keyK t=0∨keyK t=1∨keyK t=4∨keyK t=5∨keyK t=6∨keyK t=7∨keyK t=8∨keyK t=9:=by
 unfold keyK
 repeat' split
 all_goals simp
theorem StAt.kind {w:World} {sb L:Nat} {x:St} (h:StAt w sb L x) {k:Int} (hk:in8 k):StAt (w.setCell ⟨sb,0,none⟩ (.int .u8 k)) sb L {x with k:=k}:=by
 obtain⟨p,hb,hs⟩:=h
 refine⟨p,by simpa[stC]using hb.set_ 0 (.int .u8 k),?_⟩
 have hf:Fr (fun b=>b=sb) w (w.setCell ⟨sb,0,none⟩ (.int .u8 k)):=Fr.own (Fr.refl _ _) _ _
 have:=hs.imp (S':=fun b=>L≤b∧b < (w.setCell ⟨sb,0,none⟩ (.int .u8 k)).heap.size ∧b≠sb) (hf.same fun b hb=>⟨hb.2.1,hb.2.2⟩) fun b hb=>⟨hb.1,by simpa using hb.2.1,hb.2.2⟩
 exact⟨hk,this.at_,this.args,this.cond,this.body,this.els⟩
theorem StAt.new {w:World} {sb L:Nat} {k a:Int} (hk:in8 k) (ha:in64 a) (hb:Bk w sb 133 #[.int .u8 k,.string ⟨#[]⟩,.slice none 0 0,.slice none 0 0,.slice none 0 0,.slice none 0 0,.int .i64 a]):StAt w sb L ⟨k,noB,.nil,.nil,.nil,.nil,a⟩:=
 ⟨Loc.none_,hb,StS.zero hk ha⟩
theorem kw_enters (k:Int):Enters Tryz.prog (kwF k):=by
 unfold kwF
 split
 ·exact enters_of Tryz.func166 (by kernel_rfl) rfl
 split
 ·exact enters_of Tryz.func167 (by kernel_rfl) rfl
 split
 ·exact enters_of Tryz.func168 (by kernel_rfl) rfl
 split
 ·exact enters_of Tryz.func169 (by kernel_rfl) rfl
 split
 ·exact enters_of Tryz.func170 (by kernel_rfl) rfl
 ·exact enters_of Tryz.func171 (by kernel_rfl) rfl

def EndK {α:Type} (C:Pcx) (d:Nat) (V:World→Nat→Value→α→Prop) (x:α) (l:List Tk) (W:World) (e:Ending) (w':World):Prop:=∃v,e= .returned v∧V w' W.heap.size v x∧PaAt C w' l d∧Fr C.T W w'
def askQ (l:List Tk):PR Cds:=(takeP [40] l).then fun _ r=>(condQ r).then fun x r=>(takeP [41] r).then fun _ r=> .ok (x.cons .nil) r
theorem takeP_ok {s:List UInt8} {l r:List Tk} {u:Unit} (h:takeP s l= .ok u r):mayB s l=true∧r=l.tail:=by
 unfold takeP at h
 split at h
 ·rename_i h1
  simp only[PR.ok.injEq]at h
  exact⟨h1,h.2.symm⟩
 ·simp at h
theorem askQ_ok {l r:List Tk} {cs:Cds} (h:askQ l= .ok cs r):mayB [40] l=true∧∃x r1,condQ l.tail= .ok x r1∧mayB [41] r1=true∧cs=x.cons .nil ∧r=r1.tail:=by
 obtain⟨u,q,h1,h2⟩:=PR.then_ok h
 obtain⟨x,r1,h3,h4⟩:=PR.then_ok h2
 obtain⟨u2,q2,h5,h6⟩:=PR.then_ok h4
 simp only[PR.ok.injEq]at h6
 obtain⟨k1,rfl⟩:=takeP_ok h1
 obtain⟨k2,rfl⟩:=takeP_ok h5
 exact⟨k1,x,r1,h3,k2,h6.1.symm,h6.2.symm⟩
theorem asked_ok (C:Pcx) (l:List Tk) (d:Nat) (w:World) (cs:Cds) (Rr:List Tk) (hok:askQ l= .ok cs Rr) (hk:C.Ok) (h:PaAt C w l d):
  Calls Tryz.prog 202 #[.pointer (some ⟨C.P,0,none⟩)] w (EndK C d CdsV cs Rr w):=by
 obtain⟨k1,x,r,k2,k3,rfl,rfl⟩:=askQ_ok hok
 clear hok
 have HK:=hdq hk
 have hL:=h.lts
 have HL:=hdq hL
 have h1:=h.alloc (.cells #[.string ⟨#[40]⟩] 9)
 have ht:=take_yes C [40] l d w.heap.size _ hk h1 (by decide) k1 (by simp)
 unfold DoneP pP at ht
 have HT:=hdq ht
 have K2:=hdq (condQ_ok k2)
 have K3:=hdq k3
 have hal:Fr C.T w (w.alloc (.cells #[.string ⟨#[40]⟩] 9)):=(Fr.refl _ _).alloc _
 have HA:=hdq hal
 clear hL h h1 hal hk k1 k2 k3 ht
 go_enter Tryz.func202,Tryz.ntmps202
 go_wp2_with fail
 refine HT.out.mono ?_
 rintro _ w2 ⟨rfl,hp,hf⟩
 have hc:=cond_ok C l.tail d w2 x r K2.out.1 K2.out.2.1 K2.out.2.2 HK.out hp
 unfold CdK at hc
 have HC:=hdq hc
 have HF2:=hdq (HA.out.trans hf)
 clear hc hp hf
 go_wp2_with fail
 refine HC.out.mono ?_
 rintro _ w3 ⟨v3,rfl,hv,hp,hf⟩
 obtain⟨A,c,B,q,rfl⟩:=CdVS.parts hv
 unfold cdV
 have h4:=(hp.alloc (.cells #[.int .u8 x.k,.slice A x.args.len c,.slice B x.of_.len q,.int .i64 x.at_] 190)).alloc (.cells #[.string ⟨#[41]⟩] 9)
 have ht4:=take_yes C [41] r d (w3.heap.size+1) _ HK.out h4 (by decide) K3.out (by simp)
 unfold DoneP pP at ht4
 have HT4:=hdq ht4
 have hbk:=(Bk.new w3 190 #[.int .u8 x.k,.slice A x.args.len c,.slice B x.of_.len q,.int .i64 x.at_]).alloc (.cells #[.string ⟨#[41]⟩] 9)
 have HBK:=hdq hbk
 have hf4:Fr NoT w3 ((w3.alloc (.cells #[.int .u8 x.k,.slice A x.args.len c,.slice B x.of_.len q,.int .i64 x.at_] 190)).alloc (.cells #[.string ⟨#[41]⟩] 9)):=((Fr.refl _ _).alloc _).alloc _
 have HF4:=hdq hf4
 have HV:=hdq hv
 have HF3:=hdq (HF2.out.trans hf)
 have hs2:w.heap.size≤w2.heap.size:=HF2.out.size
 have hs3:w.heap.size≤w3.heap.size:=HF3.out.size
 clear h4 hbk hf4 hv hf hp ht4
 go_wp2_with fail
 refine HT4.out.mono ?_
 rintro _ w5 ⟨rfl,hp,hf⟩
 have hnx:¬C.T w3.heap.size:=fun e=>by have e:w3.heap.size=C.P:=e;have:=HL.out;omega
 have hbk5:=HBK.out.fr hf hnx
 have q0:=hbk5.cell 0
 have q1:=hbk5.cell 1
 have q2:=hbk5.cell 2
 have q3:=hbk5.cell 3
 simp only[getsL]at q0 q1 q2 q3
 have HP5:=hdq hp
 have HF45:=hdq (HF4.out.any.trans hf)
 have hlt5:=hbk5.lt
 clear hp hf hbk5
 go_wp2_with fail
 go_ret
 obtain⟨x1,x3,Ax,cx,Bx,qx,ex,hsx,hox⟩:=HV.out
 simp only[cdV,Value.agg.injEq,Array.mk.injEq,List.cons.injEq,Value.slice.injEq,true_and,and_true]at ex
 obtain⟨⟨rfl,rfl⟩,rfl,rfl⟩:=ex
 have hs5:w3.heap.size≤w5.heap.size:=HF45.out.size
 have hF:Fr C.T w3 (w5.alloc (.cells #[.int .u8 x.k,.slice A x.args.len c,.slice B x.of_.len q,.int .i64 x.at_] 190)):=HF45.out.alloc _
 have hX:∀b,New w2.heap.size w3 b→(b < w3.heap.size∧¬C.T b)∧New w.heap.size (w5.alloc (.cells #[.int .u8 x.k,.slice A x.args.len c,.slice B x.of_.len q,.int .i64 x.at_] 190)) b:=fun b hb=>by
  have h1:w2.heap.size≤b:=hb.1
  have h2:b < w3.heap.size:=hb.2
  have h3:=hF.size
  exact⟨⟨h2,fun e=>by have e:b=C.P:=e;have:=HL.out;omega⟩,by omega,by omega⟩
 refine⟨_,rfl,⟨some ⟨w5.heap.size,0,none⟩,1,rfl,lrq 1,sl1,fun _=>⟨w5.heap.size,0,rfl,?_⟩⟩,HP5.out.alloc _,HF3.out.trans hF⟩
 refine cdR_one (Bk.new w5 _ _) ⟨by omega,by simp⟩ ⟨x1,x3⟩ (hsx.imp fun _ _ h=>?_) (hox.imp fun _ _ h=>?_)
 ·exact ExR.more (fun b hb=>(hX b hb).2) (ExR.keep (hF.same fun b hb=>(hX b hb).1) h)
 ·exact CdR.more (fun b hb=>(hX b hb).2) (CdR.keep (hF.same fun b hb=>(hX b hb).1) h)
def MetK (C:Pcx) (sb L d:Nat) (x:St) (l:List Tk) (W:World) (e:Ending) (w':World):Prop:=e= .returned (.tuple #[])∧StAt w' sb L x∧PaAt C w' l d∧Fr (PT C sb) W w'
theorem loop_ok (C:Pcx) (sb L:Nat) (x:St) (l:List Tk) (d:Nat) (w:World) (xs:Cds) (r:List Tk) (b:List St) (r2:List Tk) (hok:askQ l= .ok xs r) (hbk:∀w,PaAt C w r d→Calls Tryz.prog 54 #[.pointer (some ⟨C.P,0,none⟩)] w (EndK C d StlV b r2 w)) (hk:C.Ok) (h:PaAt C w l d) (hst:StAt w sb L x) (hsb:sb≠C.P) (hL:C.P < L) (hT:sb≠C.TB) (h0:C.W0.heap.size≤sb) (hLw:L≤w.heap.size):
  Calls Tryz.prog 170 #[.pointer (some ⟨C.P,0,none⟩),.pointer (some ⟨sb,0,none⟩)] w (MetK C sb L d {x with cond:=xs,body:=stsOf b} r2 w):=by
 have hn:=asked_ok C l d w xs r hok hk h
 unfold EndK at hn hbk
 have HN:=hdq hn
 have HST:=hdq hst
 have HL:=hdq h.lts
 have hsl:sb < w.heap.size:=by
  obtain⟨p,hb,hs⟩:=hst
  exact hb.lt
 have HBK:=hdq hbk
 clear hn hok h hst hk hbk
 go_enter Tryz.func170,Tryz.ntmps170
 go_wp2_with fail
 refine HN.out.mono ?_
 rintro _ w2 ⟨_,rfl,⟨B,q,rfl,hok⟩,hp,hf⟩
 have HB:=hdq (HBK.out w2 hp)
 have HST2:=hdq (HST.out.fr hf hsb hL)
 have HOK:=hdq hok
 have HF:=hdq hf
 have hs2:w.heap.size≤w2.heap.size:=hf.size
 clear hok hp hf
 go_wp2_with fail
 refine HB.out.mono ?_
 rintro _ w3 ⟨_,rfl,⟨D,m,rfl,hok⟩,hp,hf⟩
 have hst3:=HST2.out.fr hf hsb hL
 have hc3:SlR (CdR w3 (New w.heap.size w3) False xs) xs.len 64 B q:=HOK.out.imp fun _ _ h=>CdR.more (fun b hb=>⟨hb.1,ltq hb.2 hf.size⟩) (CdR.keep (hf.same fun b hb=>⟨hb.2,fun e=>by have e:b=C.P:=e;have:=hb.1;have:=HL.out.1;omega⟩) h)
 have hs3:=hf.size
 have hst4:=StAt.ask hst3 hc3 hLw hsl
 have hst5:=StAt.body hst4 (L':=w2.heap.size) (xs:=stsOf b) (B:=D) (q:=m) (hok.imp fun _ _ h=>StR.more (fun b hb=>⟨hb.1,by simpa using hb.2⟩) (StR.keep ((Fr.own (g:=sb) (Fr.refl _ _) _ _).same fun b hb=>⟨hb.2,fun e=>by have e:b=sb:=e;have:=hb.1;omega⟩) h)) (by omega) (by omega)
 obtain⟨p,hb,hs⟩:=hst3
 have b3:=hb.cell 3
 have g3:=hb.frozen 3
 have b4:=hb.cell 4
 have g4:=hb.frozen 4
 simp only[stC,List.getElem?_toArray,List.getElem?_cons_succ,List.getElem?_cons_zero]at b3 b4
 have HP:=hdq hp
 have HF3:=hdq (HF.out.trans hf)
 have H5:=hdq hst5
 clear hok hp hf hb hs hst4 hst5 hc3
 go_wp2_with fail
 go_end0
 have hfw:Fr (fun b=>b=sb) w3 ((w3.setCell ⟨sb,3,none⟩ (.slice B xs.len q)).setCell ⟨sb,4,none⟩ (.slice D (stsOf b).len m)):=Fr.own (Fr.own (Fr.refl _ _) _ _) _ _
 exact⟨rfl,H5.out,HP.out.fr hfw (fun e=>hsb (by have e:C.P=sb:=e;exact e.symm)) (fun e=>hT (by have e:C.TB=sb:=e;exact e.symm)) (fun i hi e=>by have e:i=sb:=e;omega),(PT.l HF3.out).trans (hfw.mono fun i _ h=>Or.inr h)⟩
end Go.Proofs.YtphlnpaikpjakaaGreatDoor
