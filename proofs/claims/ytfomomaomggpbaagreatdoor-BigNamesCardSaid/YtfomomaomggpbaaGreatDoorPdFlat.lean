/-
  parse: some, of names and of arrays. Printed by wip/gen_pdflat.py.
-/
import Derived.Test.YtfomomaomggpbaaGreatDoorJnAsk
set_option linter.unusedVariables false
set_option linter.unusedSimpArgs false
set_option maxHeartbeats 1600000
set_option maxRecDepth 100000
namespace Go.Proofs.YtfomomaomggpbaaGreatDoor
open Go.RowKit Go.Shelf

/-! Va -/
def cCVa (x:Va):List Value:= [.string x.nm,.int .i64 x.at_]
def okCVa (x:Va):Prop:=in64 x.at_
def cVVa (x:Va):Value:= .agg #[.string x.nm,.int .i64 x.at_]
def cPVa (C:Pcx) (d:Nat) (r:PR Va) (W:World) (e:Ending) (w':World):Prop:=
 match r with
 | .err c a=>e=wrongE c a∧Fr C.T W w'
 | .ok x l=>e= .returned (cVVa x)∧okCVa x∧PaAt C w' l d∧Fr C.T W w'
theorem cPVa.ways {C:Pcx} {d:Nat} {r:PR Va} {W w':World} {e:Ending} (h:cPVa C d r W e w'):
  (∃(x:Va) (l:List Tk),r= .ok x l∧e= .returned (.agg #[.string x.nm,.int .i64 x.at_])∧okCVa x∧PaAt C w' l d∧Fr C.T W w')∨
   ∃c a,r= .err c a∧e= .panicked [{v:= .iface 161 (.agg #[.int .i64 c,.int .i64 a]),recovered:=false}]∧Fr C.T W w':=by
 unfold cPVa at h
 cases r with
 |err c a=>exact .inr ⟨c,a,rfl,h⟩
 |ok x l=>exact .inl ⟨x,l,rfl,h.1,h.2⟩
def lsVVa (w:World) (L:Nat) (v:Value) (xs:List Va):Prop:=∃A c,v= .slice A xs.length c∧SlR (VaR w (New L w) False xs) xs.length 24 A c
theorem cRVa {w:World} {S:Nat→Prop} {g:Nat} (hg:S g):∀ {xs:List Va} {o:Nat},(∀x∈xs,okCVa x)→(∀j u,(xs.flatMap cCVa)[j]?=some u→w.cell? ⟨g,o+j,none⟩=some u)→VaR w S False xs g o
 | [],_,_,_=>trivial
 |x::xs,o,h,hc=>by
  refine⟨⟨hg,fun h=>absurd h id,h x (by simp),hc 0 _ rfl,hc 1 _ rfl⟩,cRVa hg (fun y hy=>h y (by simp[hy])) fun j u hj=>?_⟩
  have:=hc (2+j) u (by rw[List.flatMap_cons,List.getElem?_append_right (by simp[cCVa])];simpa[cCVa]using hj)
  rw[Nat.add_assoc]
  exact this
structure SomeVa (C:Pcx) (w:World) (d:Nat) (R:PR (List Va)) (one:List Tk→PR Va) (s:List UInt8) (v:Value) (wr:World) (acc:List Va) (l:List Tk):Prop where
 eq:∃f,R=someF one s f acc l∧l.length≤f
 row:wr.ownsRow w.heap.size 77 2 v acc.length (acc.flatMap cCVa)
 ok:∀x∈acc,okCVa x
 few:acc.length+l.length≤5000
 pa:PaAt C wr l d
 fr:Fr C.T w wr
theorem someVa_end {L:Nat} {w:World} {v:Value} {acc:List Va} (hr:w.ownsRow L 77 2 v acc.length (acc.flatMap cCVa)) (hx:∀x∈acc,okCVa x) (hf:acc.length≤5001):lsVVa w L v acc:=by
 rcases hr.2 with⟨rfl,h0⟩|⟨g,cap,cur,rfl,hb,hg,hn,hc,hcs,ht⟩
 ·exact⟨none,0,by rw[h0],by rw[h0];exact⟨lrq _,⟨by decide,by decide⟩,fun h=>absurd h (Nat.lt_irrefl 0)⟩⟩
 ·have hl:g < w.heap.size:=(Array.getElem?_eq_some_iff.1 hg).1
  have hcc:cap≤9223372036854775807:=by unfold maxLen at hc;omega
  suffices hx2:VaR w (New L w) False acc g 0 by
   exact⟨some ⟨g,0,none⟩,cap,rfl,⟨hn,⟨hcc,by omega⟩,fun _=>⟨g,0,rfl,hx2⟩⟩⟩
  refine cRVa ⟨hb,hl⟩ hx fun j u hj=>?_
  have:=hr.cells (g:=g) rfl j u hj
  have hadd:(⟨g,0,none⟩:Addr).add j=⟨g,0+j,none⟩:=by
   rw[Nat.zero_add];unfold Addr.add;split<;>simp_all
  rw[hadd]at this
  exact this
theorem stepVa {C:Pcx} {w wr w7 w9:World} {v:Value} {acc:List Va} {r2:List Tk} {d:Nat} {cell:Array Value}
  (hL:C.P < w.heap.size∧C.TB < w.heap.size∧C.W0.heap.size≤w.heap.size) (hrow:wr.ownsRow w.heap.size 77 2 v acc.length (acc.flatMap cCVa)) (hF:Fr C.T w wr)
  (hp:PaAt C w7 r2 d) (hf:Fr C.T wr w7) (hg:(w7.alloc (.cells cell 77)).grownBy w9 v.ownBlock):PaAt C w9 r2 d∧Fr C.T w w9:=by
 have hlt:=hrow.lt
 have hsF:=hF.size
 have hsf:=hf.size
 have hgf:Fr (fun b=>v.ownBlock=some b) w7 w9:=((Fr.refl _ _).alloc _).trans (Fr.grown hg fun g e _=>e)
 have h79:Fr (fun b=>b=C.P∨v.ownBlock=some b) wr w9:=(hf.mono fun i _ h=>Or.inl h).trans (hgf.mono fun i _ h=>Or.inr h)
 refine⟨hp.fr hgf (fun e=>?_) (fun e=>?_) (fun i hi e=>?_),?_⟩
 ·have:=(hlt _ e).1
  omega
 ·have:=(hlt _ e).1
  omega
 ·have:=(hlt _ e).1
  omega
 ·have h:=(hF.mono (T':=fun b=>b=C.P∨v.ownBlock=some b) fun i _ h=>Or.inl h).trans h79
  refine h.mono fun i hi e=>?_
  rcases e with e|e
  ·exact e
  ·have:=(hlt _ e).1
   omega
theorem someVa_any (C:Pcx) (one:List Tk→PR Va) (s:List UInt8) (no:Bool) (g:Nat) (fst cap:Array Value) (l:List Tk) (d:Nat) (w:World) (hk:C.Ok) (h:PaAt C w l d) (hshr:Shr one) (hs:s≠ [])
  (hent:Enters Tryz.prog g) (hone:∀W,Fr C.T w W→∀l',PaAt C W l' d→Calls Tryz.prog g (fst++cap) W (cPVa C d (one l') W)):
  Calls Tryz.prog 130 #[.pointer (some ⟨C.P,0,none⟩),.string ⟨s.toArray⟩,.bool no,.func (.func g) fst cap] w (EndV C d lsVVa (someP one s no l) w):=by
 obtain⟨i0,hi,hz0,hz1,hz2⟩:=info_parts infoVa
 obtain⟨R,hR⟩:=nmq (someP one s no l)
 rw[←hR]
 have hL:=h.lts
 have hfl:l.length≤5000:=by
  obtain⟨j,q,e,_⟩:=h.at_
  have:=hk.few
  rw[e,List.length_drop];omega
 have HONE:=hdq hone
 have HK:=hdq hk
 have HL:=hdq hL
 have HS:=hdq hs
 unfold Enters at hent
 have hmy:=may_any C s l d w hk h hs
 have HM:=hdq hmy
 have key:∀(v:Value) (wr:World) (acc:List Ex) (cs:List Value) (r:List Tk),no=no:=fun _ _ _ _ _=>rfl
 by_cases hn:no=true∧mayB s l=true
 ·obtain⟨rfl,hm⟩:=hn
  have hR2:R= .ok [] l.tail:=by rw[hR];unfold someP;rw[hm];rfl
  have HR2:=hdq hR2
  rw[hm]at HM
  clear hR h hone hk hs hL hmy hR2 key hm hfl
  go_enter Tryz.func130,Tryz.ntmps130
  go_wp2_with fail
  refine HM.out.mono ?_
  rintro _ w1 ⟨rfl,hp,hf⟩
  have HP:=hdq hp
  have HF:=hdq hf
  clear hp hf
  go_wp2_with fail
  go_ret
  rw[HR2.out]
  exact⟨_,rfl,⟨none,0,rfl,lrq 0,⟨by decide,by decide⟩,fun h=>absurd h (Nat.lt_irrefl 0)⟩,HP.out,HF.out⟩
 ·have hR2:R=someF one s l.length [] l:=by
   rw[hR];unfold someP
   cases no
   ·rfl
   ·rw[if_neg (by intro h;exact hn ⟨rfl,by simpa using h⟩)]
  have HEQ:=hdq hR2
  have hmf:no=true→mayB s l=false:=fun e=>by
   cases hm:mayB s l
   ·rfl
   ·exact absurd ⟨e,hm⟩ hn
  have HMF:=hdq hmf
  have H:=hdq h
  have HI:=hdq (aiq hi (aiq hz0 (aiq hz1 hz2)))
  clear hR hone hk hs hL hmy hR2 key hn hmf h
  cases no
  ·have HP1:=hdq H.out
   have HF1:=hdq (Fr.refl C.T w)
   clear HM HMF
   go_enter Tryz.func130,Tryz.ntmps130
   go_wp2_with fail
   go_loopw [8] (fun v wr=>∃(acc:List Va) (r:List Tk),Hid (SomeVa C w d R one s v wr acc r)) (fun _ wr=>lenP C wr)
   case atStart=>exact⟨[],l,hdq ⟨⟨_,HEQ.out,lrq _⟩,World.ownsRow_nil _ _ _ _,fun x hx=>by simp at hx,by simpa using hfl,HP1.out,HF1.out⟩⟩
   case round=>
    obtain⟨acc,r,hx⟩:=hrel
    have HQ:=hdq (HONE.out _ hx.out.fr r hx.out.pa)
    go_wp2_with fail
    try simp only[Array.append_empty]
    refine HQ.out.mono ?_
    intro e w7 hE
    obtain⟨f,hRf,hfr⟩:=hx.out.eq
    have hrl:0 < r.length:=List.length_pos_iff.2 hx.out.pa.ne
    obtain⟨f,rfl⟩:∃f',f=f'+1:=⟨f - 1,by omega⟩
    unfold someF at hRf
    rcases hE.ways with⟨x,r2,ho,rfl,hv,hp,hf⟩|⟨c,a,ho,rfl,hf⟩
    rotate_left
    ·go_wp2_with fail
     exact⟨rfl,by rw[hRf,ho];exact⟨rfl,hx.out.fr.trans hf⟩⟩
    rw[ho]at hRf
    have hRf:R=if mayB [44] r2 then someF one s f (acc++ [x]) r2.tail else(takeP s r2).then fun _ r=> .ok (acc++ [x]) r:=hRf
    have HRF:=hdq hRf
    have HSH:=hdq (hshr _ _ _ ho)
    have HFR:=hdq hfr
    have HO7:=hdq (row_keep hx.out.row hf HL.out.1)
    have HV7:=hdq hv
    have HP7:=hdq hp
    have HF7:=hdq hf
    have hbig:(acc.length+1)*24≤140737488355328:=by have:=hx.out.few;omega
    have hs7:w.heap.size≤w7.heap.size:=leq9 hx.out.fr.size hf.size
    clear hRf ho hv hp hf hfr hrl
    go_wp2_with (at_builtin;refine wpList_append_spot _ rfl _ _ 22 rfl w.heap.size 77 i0 (.agg #[.string ⟨#[]⟩,.int .i64 0]) 2 24 Tryz.underlying22 HI.out.1 HI.out.2.1 HI.out.2.2.1 HI.out.2.2.2 rfl (by decide) _ _ _ rfl (HO7.out.alloc _) ⟨w7.heap.size,0,none⟩ 1 1 (cCVa x) rfl rfl ?c1 ?c2 (by decide) ?c3 ?c4 ?c5 ?_)
    case c1=>
     intro j u hj
     match j,hj with
     |0,hj=>simp[cCVa]at hj;subst hj;simp[Addr.add]
     |1,hj=>simp[cCVa]at hj;subst hj;simp[Addr.add]
    case c2=>
     intro u hu
     simp only[cCVa,List.mem_cons,List.not_mem_nil,or_false]at hu
     rcases hu with rfl|rfl<;>rfl
    case c3=>unfold maxLen;omega
    case c4=>exact hbig
    case c5=>simp;omega
    intro v' w9 hown hgrow hspot
    obtain⟨hp9,hf9⟩:=stepVa HL.out hx.out.row hx.out.fr HP7.out HF7.out hgrow
    have hok9:∀y∈acc++ [x],okCVa y:=fun y hy=>by
     rcases List.mem_append.1 hy with h|h
     ·exact hx.out.ok y h
     ·rw[List.mem_singleton.1 h];exact HV7.out
    have HO9:=hdq (show w9.ownsRow w.heap.size 77 2 v' (acc++ [x]).length ((acc++ [x]).flatMap cCVa)from by
     rw[List.flatMap_append,List.length_append,List.flatMap_cons,List.flatMap_nil,List.append_nil]
     exact hown)
    have HR9:=hdq hok9
    have HF9:=hdq hf9
    have HMM:=hdq (may_any C [44] r2 d w9 HK.out hp9 (by decide))
    clear hown hgrow hspot hok9 hp9 hf9 hbig
    go_wp2_with fail
    refine HMM.out.mono ?_
    rintro _ w10 ⟨rfl,hp10,hf10⟩
    have HO10:=hdq (row_keep HO9.out hf10 HL.out.1)
    have HF10:=hdq (HF9.out.trans hf10)
    have HP10:=hdq hp10
    clear hp10 hf10
    cases hm:mayB [44] r2
    ·have hp10:=HP10.out
     rw[hm]at hp10
     have hp10:PaAt C w10 r2 d:=hp10
     have HT:=hdq (take_any C s r2 d w10.heap.size _ HK.out (hp10.alloc (.cells #[.string ⟨s.toArray⟩] 9)) HS.out (by simp))
     have hR3:R=(takeP s r2).then fun _ r=> .ok (acc++ [x]) r:=by rw[HRF.out,hm];rfl
     have HR3:=hdq hR3
     clear hp10 hm hR3
     go_wp2_with fail
     refine HT.out.mono ?_
     intro e w11 hE
     rcases hE with⟨ht,rfl,hp,hf⟩|⟨ht,rfl,hf⟩
     rotate_left
     ·go_wp2_with fail
      exact⟨rfl,by rw[HR3.out,ht];exact⟨rfl,(HF10.out.alloc _).trans hf⟩⟩
     have hff:=((Fr.refl C.T w10).alloc (.cells #[.string ⟨s.toArray⟩] 9)).trans hf
     have HT11:=hdq ht
     have HP11:=hdq hp
     have HFF:=hdq hff
     clear ht hp hf hff
     go_wp2_with fail
     go_ret
     rw[HR3.out,HT11.out]
     refine⟨_,rfl,someVa_end (row_keep HO10.out HFF.out HL.out.1) HR9.out ?_,HP11.out,HF10.out.trans HFF.out⟩
     have:=hx.out.few
     simp;omega
    ·have hp10:=HP10.out
     rw[hm]at hp10
     have hp10:PaAt C w10 r2.tail d:=hp10
     have hR3:R=someF one s f (acc++ [x]) r2.tail:=by rw[HRF.out,hm];rfl
     have hsl:r2.tail.length < r.length:=by
      have h1:=HSH.out
      have h2:=List.length_pos_iff.2 HP7.out.ne
      rw[List.length_tail];omega
     have hnx:SomeVa C w d R one s v' w10 (acc++ [x]) r2.tail:=⟨⟨f,hR3,by have:=HFR.out;omega⟩,HO10.out,HR9.out,by have:=hx.out.few;simp only[List.length_append,List.length_cons,List.length_nil];omega,hp10,HF10.out⟩
     have HNX:=hdq hnx
     have HLN:=hdq (show lenP C w10 < lenP C wr from by rw[hnx.pa.lenP,hx.out.pa.lenP];exact hsl)
     clear hp10 hm hR3 hsl hnx
     go_wp2_with fail
     go_roundw
     case rel=>exact⟨_,_,HNX⟩
     case measure=>exact HLN.out
  ·have hmm:=HMF.out rfl
   rw[hmm]at HM
   clear hmm HMF
   go_enter Tryz.func130,Tryz.ntmps130
   go_wp2_with fail
   refine HM.out.mono ?_
   rintro _ w1 ⟨rfl,hp,hf⟩
   have HP1:=hdq hp
   have HF1:=hdq hf
   clear hp hf
   go_wp2_with fail
   go_loopw [8] (fun v wr=>∃(acc:List Va) (r:List Tk),Hid (SomeVa C w d R one s v wr acc r)) (fun _ wr=>lenP C wr)
   case atStart=>exact⟨[],l,hdq ⟨⟨_,HEQ.out,lrq _⟩,World.ownsRow_nil _ _ _ _,fun x hx=>by simp at hx,by simpa using hfl,HP1.out,HF1.out⟩⟩
   case round=>
    obtain⟨acc,r,hx⟩:=hrel
    have HQ:=hdq (HONE.out _ hx.out.fr r hx.out.pa)
    go_wp2_with fail
    try simp only[Array.append_empty]
    refine HQ.out.mono ?_
    intro e w7 hE
    obtain⟨f,hRf,hfr⟩:=hx.out.eq
    have hrl:0 < r.length:=List.length_pos_iff.2 hx.out.pa.ne
    obtain⟨f,rfl⟩:∃f',f=f'+1:=⟨f - 1,by omega⟩
    unfold someF at hRf
    rcases hE.ways with⟨x,r2,ho,rfl,hv,hp,hf⟩|⟨c,a,ho,rfl,hf⟩
    rotate_left
    ·go_wp2_with fail
     exact⟨rfl,by rw[hRf,ho];exact⟨rfl,hx.out.fr.trans hf⟩⟩
    rw[ho]at hRf
    have hRf:R=if mayB [44] r2 then someF one s f (acc++ [x]) r2.tail else(takeP s r2).then fun _ r=> .ok (acc++ [x]) r:=hRf
    have HRF:=hdq hRf
    have HSH:=hdq (hshr _ _ _ ho)
    have HFR:=hdq hfr
    have HO7:=hdq (row_keep hx.out.row hf HL.out.1)
    have HV7:=hdq hv
    have HP7:=hdq hp
    have HF7:=hdq hf
    have hbig:(acc.length+1)*24≤140737488355328:=by have:=hx.out.few;omega
    have hs7:w.heap.size≤w7.heap.size:=leq9 hx.out.fr.size hf.size
    clear hRf ho hv hp hf hfr hrl
    go_wp2_with (at_builtin;refine wpList_append_spot _ rfl _ _ 22 rfl w.heap.size 77 i0 (.agg #[.string ⟨#[]⟩,.int .i64 0]) 2 24 Tryz.underlying22 HI.out.1 HI.out.2.1 HI.out.2.2.1 HI.out.2.2.2 rfl (by decide) _ _ _ rfl (HO7.out.alloc _) ⟨w7.heap.size,0,none⟩ 1 1 (cCVa x) rfl rfl ?c1 ?c2 (by decide) ?c3 ?c4 ?c5 ?_)
    case c1=>
     intro j u hj
     match j,hj with
     |0,hj=>simp[cCVa]at hj;subst hj;simp[Addr.add]
     |1,hj=>simp[cCVa]at hj;subst hj;simp[Addr.add]
    case c2=>
     intro u hu
     simp only[cCVa,List.mem_cons,List.not_mem_nil,or_false]at hu
     rcases hu with rfl|rfl<;>rfl
    case c3=>unfold maxLen;omega
    case c4=>exact hbig
    case c5=>simp;omega
    intro v' w9 hown hgrow hspot
    obtain⟨hp9,hf9⟩:=stepVa HL.out hx.out.row hx.out.fr HP7.out HF7.out hgrow
    have hok9:∀y∈acc++ [x],okCVa y:=fun y hy=>by
     rcases List.mem_append.1 hy with h|h
     ·exact hx.out.ok y h
     ·rw[List.mem_singleton.1 h];exact HV7.out
    have HO9:=hdq (show w9.ownsRow w.heap.size 77 2 v' (acc++ [x]).length ((acc++ [x]).flatMap cCVa)from by
     rw[List.flatMap_append,List.length_append,List.flatMap_cons,List.flatMap_nil,List.append_nil]
     exact hown)
    have HR9:=hdq hok9
    have HF9:=hdq hf9
    have HMM:=hdq (may_any C [44] r2 d w9 HK.out hp9 (by decide))
    clear hown hgrow hspot hok9 hp9 hf9 hbig
    go_wp2_with fail
    refine HMM.out.mono ?_
    rintro _ w10 ⟨rfl,hp10,hf10⟩
    have HO10:=hdq (row_keep HO9.out hf10 HL.out.1)
    have HF10:=hdq (HF9.out.trans hf10)
    have HP10:=hdq hp10
    clear hp10 hf10
    cases hm:mayB [44] r2
    ·have hp10:=HP10.out
     rw[hm]at hp10
     have hp10:PaAt C w10 r2 d:=hp10
     have HT:=hdq (take_any C s r2 d w10.heap.size _ HK.out (hp10.alloc (.cells #[.string ⟨s.toArray⟩] 9)) HS.out (by simp))
     have hR3:R=(takeP s r2).then fun _ r=> .ok (acc++ [x]) r:=by rw[HRF.out,hm];rfl
     have HR3:=hdq hR3
     clear hp10 hm hR3
     go_wp2_with fail
     refine HT.out.mono ?_
     intro e w11 hE
     rcases hE with⟨ht,rfl,hp,hf⟩|⟨ht,rfl,hf⟩
     rotate_left
     ·go_wp2_with fail
      exact⟨rfl,by rw[HR3.out,ht];exact⟨rfl,(HF10.out.alloc _).trans hf⟩⟩
     have hff:=((Fr.refl C.T w10).alloc (.cells #[.string ⟨s.toArray⟩] 9)).trans hf
     have HT11:=hdq ht
     have HP11:=hdq hp
     have HFF:=hdq hff
     clear ht hp hf hff
     go_wp2_with fail
     go_ret
     rw[HR3.out,HT11.out]
     refine⟨_,rfl,someVa_end (row_keep HO10.out HFF.out HL.out.1) HR9.out ?_,HP11.out,HF10.out.trans HFF.out⟩
     have:=hx.out.few
     simp;omega
    ·have hp10:=HP10.out
     rw[hm]at hp10
     have hp10:PaAt C w10 r2.tail d:=hp10
     have hR3:R=someF one s f (acc++ [x]) r2.tail:=by rw[HRF.out,hm];rfl
     have hsl:r2.tail.length < r.length:=by
      have h1:=HSH.out
      have h2:=List.length_pos_iff.2 HP7.out.ne
      rw[List.length_tail];omega
     have hnx:SomeVa C w d R one s v' w10 (acc++ [x]) r2.tail:=⟨⟨f,hR3,by have:=HFR.out;omega⟩,HO10.out,HR9.out,by have:=hx.out.few;simp only[List.length_append,List.length_cons,List.length_nil];omega,hp10,HF10.out⟩
     have HNX:=hdq hnx
     have HLN:=hdq (show lenP C w10 < lenP C wr from by rw[hnx.pa.lenP,hx.out.pa.lenP];exact hsl)
     clear hp10 hm hR3 hsl hnx
     go_wp2_with fail
     go_roundw
     case rel=>exact⟨_,_,HNX⟩
     case measure=>exact HLN.out
/-! Arr -/
def cCAr (x:Arr):List Value:= [.string x.nm,.int .i64 x.size,.int .i64 x.at_]
def okCAr (x:Arr):Prop:=in64 x.size∧in64 x.at_
def cVAr (x:Arr):Value:= .agg #[.string x.nm,.int .i64 x.size,.int .i64 x.at_]
def cPAr (C:Pcx) (d:Nat) (r:PR Arr) (W:World) (e:Ending) (w':World):Prop:=
 match r with
 | .err c a=>e=wrongE c a∧Fr C.T W w'
 | .ok x l=>e= .returned (cVAr x)∧okCAr x∧PaAt C w' l d∧Fr C.T W w'
theorem cPAr.ways {C:Pcx} {d:Nat} {r:PR Arr} {W w':World} {e:Ending} (h:cPAr C d r W e w'):
  (∃(x:Arr) (l:List Tk),r= .ok x l∧e= .returned (.agg #[.string x.nm,.int .i64 x.size,.int .i64 x.at_])∧okCAr x∧PaAt C w' l d∧Fr C.T W w')∨
   ∃c a,r= .err c a∧e= .panicked [{v:= .iface 161 (.agg #[.int .i64 c,.int .i64 a]),recovered:=false}]∧Fr C.T W w':=by
 unfold cPAr at h
 cases r with
 |err c a=>exact .inr ⟨c,a,rfl,h⟩
 |ok x l=>exact .inl ⟨x,l,rfl,h.1,h.2⟩
def lsVAr (w:World) (L:Nat) (v:Value) (xs:List Arr):Prop:=∃A c,v= .slice A xs.length c∧SlR (ArR w (New L w) False xs) xs.length 32 A c
theorem cRAr {w:World} {S:Nat→Prop} {g:Nat} (hg:S g):∀ {xs:List Arr} {o:Nat},(∀x∈xs,okCAr x)→(∀j u,(xs.flatMap cCAr)[j]?=some u→w.cell? ⟨g,o+j,none⟩=some u)→ArR w S False xs g o
 | [],_,_,_=>trivial
 |x::xs,o,h,hc=>by
  refine⟨⟨hg,fun h=>absurd h id,(h x (by simp)).1,(h x (by simp)).2,hc 0 _ rfl,hc 1 _ rfl,hc 2 _ rfl⟩,cRAr hg (fun y hy=>h y (by simp[hy])) fun j u hj=>?_⟩
  have:=hc (3+j) u (by rw[List.flatMap_cons,List.getElem?_append_right (by simp[cCAr])];simpa[cCAr]using hj)
  rw[Nat.add_assoc]
  exact this
structure SomeAr (C:Pcx) (w:World) (d:Nat) (R:PR (List Arr)) (one:List Tk→PR Arr) (s:List UInt8) (v:Value) (wr:World) (acc:List Arr) (l:List Tk):Prop where
 eq:∃f,R=someF one s f acc l∧l.length≤f
 row:wr.ownsRow w.heap.size 61 3 v acc.length (acc.flatMap cCAr)
 ok:∀x∈acc,okCAr x
 few:acc.length+l.length≤5000
 pa:PaAt C wr l d
 fr:Fr C.T w wr
theorem someAr_end {L:Nat} {w:World} {v:Value} {acc:List Arr} (hr:w.ownsRow L 61 3 v acc.length (acc.flatMap cCAr)) (hx:∀x∈acc,okCAr x) (hf:acc.length≤5001):lsVAr w L v acc:=by
 rcases hr.2 with⟨rfl,h0⟩|⟨g,cap,cur,rfl,hb,hg,hn,hc,hcs,ht⟩
 ·exact⟨none,0,by rw[h0],by rw[h0];exact⟨lrq _,⟨by decide,by decide⟩,fun h=>absurd h (Nat.lt_irrefl 0)⟩⟩
 ·have hl:g < w.heap.size:=(Array.getElem?_eq_some_iff.1 hg).1
  have hcc:cap≤9223372036854775807:=by unfold maxLen at hc;omega
  suffices hx2:ArR w (New L w) False acc g 0 by
   exact⟨some ⟨g,0,none⟩,cap,rfl,⟨hn,⟨hcc,by omega⟩,fun _=>⟨g,0,rfl,hx2⟩⟩⟩
  refine cRAr ⟨hb,hl⟩ hx fun j u hj=>?_
  have:=hr.cells (g:=g) rfl j u hj
  have hadd:(⟨g,0,none⟩:Addr).add j=⟨g,0+j,none⟩:=by
   rw[Nat.zero_add];unfold Addr.add;split<;>simp_all
  rw[hadd]at this
  exact this
theorem stepAr {C:Pcx} {w wr w7 w9:World} {v:Value} {acc:List Arr} {r2:List Tk} {d:Nat} {cell:Array Value}
  (hL:C.P < w.heap.size∧C.TB < w.heap.size∧C.W0.heap.size≤w.heap.size) (hrow:wr.ownsRow w.heap.size 61 3 v acc.length (acc.flatMap cCAr)) (hF:Fr C.T w wr)
  (hp:PaAt C w7 r2 d) (hf:Fr C.T wr w7) (hg:(w7.alloc (.cells cell 61)).grownBy w9 v.ownBlock):PaAt C w9 r2 d∧Fr C.T w w9:=by
 have hlt:=hrow.lt
 have hsF:=hF.size
 have hsf:=hf.size
 have hgf:Fr (fun b=>v.ownBlock=some b) w7 w9:=((Fr.refl _ _).alloc _).trans (Fr.grown hg fun g e _=>e)
 have h79:Fr (fun b=>b=C.P∨v.ownBlock=some b) wr w9:=(hf.mono fun i _ h=>Or.inl h).trans (hgf.mono fun i _ h=>Or.inr h)
 refine⟨hp.fr hgf (fun e=>?_) (fun e=>?_) (fun i hi e=>?_),?_⟩
 ·have:=(hlt _ e).1
  omega
 ·have:=(hlt _ e).1
  omega
 ·have:=(hlt _ e).1
  omega
 ·have h:=(hF.mono (T':=fun b=>b=C.P∨v.ownBlock=some b) fun i _ h=>Or.inl h).trans h79
  refine h.mono fun i hi e=>?_
  rcases e with e|e
  ·exact e
  ·have:=(hlt _ e).1
   omega
theorem someAr_any (C:Pcx) (one:List Tk→PR Arr) (s:List UInt8) (no:Bool) (g:Nat) (fst cap:Array Value) (l:List Tk) (d:Nat) (w:World) (hk:C.Ok) (h:PaAt C w l d) (hshr:Shr one) (hs:s≠ [])
  (hent:Enters Tryz.prog g) (hone:∀W,Fr C.T w W→∀l',PaAt C W l' d→Calls Tryz.prog g (fst++cap) W (cPAr C d (one l') W)):
  Calls Tryz.prog 132 #[.pointer (some ⟨C.P,0,none⟩),.string ⟨s.toArray⟩,.bool no,.func (.func g) fst cap] w (EndV C d lsVAr (someP one s no l) w):=by
 obtain⟨i0,hi,hz0,hz1,hz2⟩:=info_parts infoAr
 obtain⟨R,hR⟩:=nmq (someP one s no l)
 rw[←hR]
 have hL:=h.lts
 have hfl:l.length≤5000:=by
  obtain⟨j,q,e,_⟩:=h.at_
  have:=hk.few
  rw[e,List.length_drop];omega
 have HONE:=hdq hone
 have HK:=hdq hk
 have HL:=hdq hL
 have HS:=hdq hs
 unfold Enters at hent
 have hmy:=may_any C s l d w hk h hs
 have HM:=hdq hmy
 have key:∀(v:Value) (wr:World) (acc:List Ex) (cs:List Value) (r:List Tk),no=no:=fun _ _ _ _ _=>rfl
 by_cases hn:no=true∧mayB s l=true
 ·obtain⟨rfl,hm⟩:=hn
  have hR2:R= .ok [] l.tail:=by rw[hR];unfold someP;rw[hm];rfl
  have HR2:=hdq hR2
  rw[hm]at HM
  clear hR h hone hk hs hL hmy hR2 key hm hfl
  go_enter Tryz.func132,Tryz.ntmps132
  go_wp2_with fail
  refine HM.out.mono ?_
  rintro _ w1 ⟨rfl,hp,hf⟩
  have HP:=hdq hp
  have HF:=hdq hf
  clear hp hf
  go_wp2_with fail
  go_ret
  rw[HR2.out]
  exact⟨_,rfl,⟨none,0,rfl,lrq 0,⟨by decide,by decide⟩,fun h=>absurd h (Nat.lt_irrefl 0)⟩,HP.out,HF.out⟩
 ·have hR2:R=someF one s l.length [] l:=by
   rw[hR];unfold someP
   cases no
   ·rfl
   ·rw[if_neg (by intro h;exact hn ⟨rfl,by simpa using h⟩)]
  have HEQ:=hdq hR2
  have hmf:no=true→mayB s l=false:=fun e=>by
   cases hm:mayB s l
   ·rfl
   ·exact absurd ⟨e,hm⟩ hn
  have HMF:=hdq hmf
  have H:=hdq h
  have HI:=hdq (aiq hi (aiq hz0 (aiq hz1 hz2)))
  clear hR hone hk hs hL hmy hR2 key hn hmf h
  cases no
  ·have HP1:=hdq H.out
   have HF1:=hdq (Fr.refl C.T w)
   clear HM HMF
   go_enter Tryz.func132,Tryz.ntmps132
   go_wp2_with fail
   go_loopw [8] (fun v wr=>∃(acc:List Arr) (r:List Tk),Hid (SomeAr C w d R one s v wr acc r)) (fun _ wr=>lenP C wr)
   case atStart=>exact⟨[],l,hdq ⟨⟨_,HEQ.out,lrq _⟩,World.ownsRow_nil _ _ _ _,fun x hx=>by simp at hx,by simpa using hfl,HP1.out,HF1.out⟩⟩
   case round=>
    obtain⟨acc,r,hx⟩:=hrel
    have HQ:=hdq (HONE.out _ hx.out.fr r hx.out.pa)
    go_wp2_with fail
    try simp only[Array.append_empty]
    refine HQ.out.mono ?_
    intro e w7 hE
    obtain⟨f,hRf,hfr⟩:=hx.out.eq
    have hrl:0 < r.length:=List.length_pos_iff.2 hx.out.pa.ne
    obtain⟨f,rfl⟩:∃f',f=f'+1:=⟨f - 1,by omega⟩
    unfold someF at hRf
    rcases hE.ways with⟨x,r2,ho,rfl,hv,hp,hf⟩|⟨c,a,ho,rfl,hf⟩
    rotate_left
    ·go_wp2_with fail
     exact⟨rfl,by rw[hRf,ho];exact⟨rfl,hx.out.fr.trans hf⟩⟩
    rw[ho]at hRf
    have hRf:R=if mayB [44] r2 then someF one s f (acc++ [x]) r2.tail else(takeP s r2).then fun _ r=> .ok (acc++ [x]) r:=hRf
    have HRF:=hdq hRf
    have HSH:=hdq (hshr _ _ _ ho)
    have HFR:=hdq hfr
    have HO7:=hdq (row_keep hx.out.row hf HL.out.1)
    have HV7:=hdq hv
    have HP7:=hdq hp
    have HF7:=hdq hf
    have hbig:(acc.length+1)*32≤140737488355328:=by have:=hx.out.few;omega
    have hs7:w.heap.size≤w7.heap.size:=leq9 hx.out.fr.size hf.size
    clear hRf ho hv hp hf hfr hrl
    go_wp2_with (at_builtin;refine wpList_append_spot _ rfl _ _ 23 rfl w.heap.size 61 i0 (.agg #[.string ⟨#[]⟩,.int .i64 0,.int .i64 0]) 3 32 Tryz.underlying23 HI.out.1 HI.out.2.1 HI.out.2.2.1 HI.out.2.2.2 rfl (by decide) _ _ _ rfl (HO7.out.alloc _) ⟨w7.heap.size,0,none⟩ 1 1 (cCAr x) rfl rfl ?c1 ?c2 (by decide) ?c3 ?c4 ?c5 ?_)
    case c1=>
     intro j u hj
     match j,hj with
     |0,hj=>simp[cCAr]at hj;subst hj;simp[Addr.add]
     |1,hj=>simp[cCAr]at hj;subst hj;simp[Addr.add]
     |2,hj=>simp[cCAr]at hj;subst hj;simp[Addr.add]
    case c2=>
     intro u hu
     simp only[cCAr,List.mem_cons,List.not_mem_nil,or_false]at hu
     rcases hu with rfl|rfl|rfl<;>rfl
    case c3=>unfold maxLen;omega
    case c4=>exact hbig
    case c5=>simp;omega
    intro v' w9 hown hgrow hspot
    obtain⟨hp9,hf9⟩:=stepAr HL.out hx.out.row hx.out.fr HP7.out HF7.out hgrow
    have hok9:∀y∈acc++ [x],okCAr y:=fun y hy=>by
     rcases List.mem_append.1 hy with h|h
     ·exact hx.out.ok y h
     ·rw[List.mem_singleton.1 h];exact HV7.out
    have HO9:=hdq (show w9.ownsRow w.heap.size 61 3 v' (acc++ [x]).length ((acc++ [x]).flatMap cCAr)from by
     rw[List.flatMap_append,List.length_append,List.flatMap_cons,List.flatMap_nil,List.append_nil]
     exact hown)
    have HR9:=hdq hok9
    have HF9:=hdq hf9
    have HMM:=hdq (may_any C [44] r2 d w9 HK.out hp9 (by decide))
    clear hown hgrow hspot hok9 hp9 hf9 hbig
    go_wp2_with fail
    refine HMM.out.mono ?_
    rintro _ w10 ⟨rfl,hp10,hf10⟩
    have HO10:=hdq (row_keep HO9.out hf10 HL.out.1)
    have HF10:=hdq (HF9.out.trans hf10)
    have HP10:=hdq hp10
    clear hp10 hf10
    cases hm:mayB [44] r2
    ·have hp10:=HP10.out
     rw[hm]at hp10
     have hp10:PaAt C w10 r2 d:=hp10
     have HT:=hdq (take_any C s r2 d w10.heap.size _ HK.out (hp10.alloc (.cells #[.string ⟨s.toArray⟩] 9)) HS.out (by simp))
     have hR3:R=(takeP s r2).then fun _ r=> .ok (acc++ [x]) r:=by rw[HRF.out,hm];rfl
     have HR3:=hdq hR3
     clear hp10 hm hR3
     go_wp2_with fail
     refine HT.out.mono ?_
     intro e w11 hE
     rcases hE with⟨ht,rfl,hp,hf⟩|⟨ht,rfl,hf⟩
     rotate_left
     ·go_wp2_with fail
      exact⟨rfl,by rw[HR3.out,ht];exact⟨rfl,(HF10.out.alloc _).trans hf⟩⟩
     have hff:=((Fr.refl C.T w10).alloc (.cells #[.string ⟨s.toArray⟩] 9)).trans hf
     have HT11:=hdq ht
     have HP11:=hdq hp
     have HFF:=hdq hff
     clear ht hp hf hff
     go_wp2_with fail
     go_ret
     rw[HR3.out,HT11.out]
     refine⟨_,rfl,someAr_end (row_keep HO10.out HFF.out HL.out.1) HR9.out ?_,HP11.out,HF10.out.trans HFF.out⟩
     have:=hx.out.few
     simp;omega
    ·have hp10:=HP10.out
     rw[hm]at hp10
     have hp10:PaAt C w10 r2.tail d:=hp10
     have hR3:R=someF one s f (acc++ [x]) r2.tail:=by rw[HRF.out,hm];rfl
     have hsl:r2.tail.length < r.length:=by
      have h1:=HSH.out
      have h2:=List.length_pos_iff.2 HP7.out.ne
      rw[List.length_tail];omega
     have hnx:SomeAr C w d R one s v' w10 (acc++ [x]) r2.tail:=⟨⟨f,hR3,by have:=HFR.out;omega⟩,HO10.out,HR9.out,by have:=hx.out.few;simp only[List.length_append,List.length_cons,List.length_nil];omega,hp10,HF10.out⟩
     have HNX:=hdq hnx
     have HLN:=hdq (show lenP C w10 < lenP C wr from by rw[hnx.pa.lenP,hx.out.pa.lenP];exact hsl)
     clear hp10 hm hR3 hsl hnx
     go_wp2_with fail
     go_roundw
     case rel=>exact⟨_,_,HNX⟩
     case measure=>exact HLN.out
  ·have hmm:=HMF.out rfl
   rw[hmm]at HM
   clear hmm HMF
   go_enter Tryz.func132,Tryz.ntmps132
   go_wp2_with fail
   refine HM.out.mono ?_
   rintro _ w1 ⟨rfl,hp,hf⟩
   have HP1:=hdq hp
   have HF1:=hdq hf
   clear hp hf
   go_wp2_with fail
   go_loopw [8] (fun v wr=>∃(acc:List Arr) (r:List Tk),Hid (SomeAr C w d R one s v wr acc r)) (fun _ wr=>lenP C wr)
   case atStart=>exact⟨[],l,hdq ⟨⟨_,HEQ.out,lrq _⟩,World.ownsRow_nil _ _ _ _,fun x hx=>by simp at hx,by simpa using hfl,HP1.out,HF1.out⟩⟩
   case round=>
    obtain⟨acc,r,hx⟩:=hrel
    have HQ:=hdq (HONE.out _ hx.out.fr r hx.out.pa)
    go_wp2_with fail
    try simp only[Array.append_empty]
    refine HQ.out.mono ?_
    intro e w7 hE
    obtain⟨f,hRf,hfr⟩:=hx.out.eq
    have hrl:0 < r.length:=List.length_pos_iff.2 hx.out.pa.ne
    obtain⟨f,rfl⟩:∃f',f=f'+1:=⟨f - 1,by omega⟩
    unfold someF at hRf
    rcases hE.ways with⟨x,r2,ho,rfl,hv,hp,hf⟩|⟨c,a,ho,rfl,hf⟩
    rotate_left
    ·go_wp2_with fail
     exact⟨rfl,by rw[hRf,ho];exact⟨rfl,hx.out.fr.trans hf⟩⟩
    rw[ho]at hRf
    have hRf:R=if mayB [44] r2 then someF one s f (acc++ [x]) r2.tail else(takeP s r2).then fun _ r=> .ok (acc++ [x]) r:=hRf
    have HRF:=hdq hRf
    have HSH:=hdq (hshr _ _ _ ho)
    have HFR:=hdq hfr
    have HO7:=hdq (row_keep hx.out.row hf HL.out.1)
    have HV7:=hdq hv
    have HP7:=hdq hp
    have HF7:=hdq hf
    have hbig:(acc.length+1)*32≤140737488355328:=by have:=hx.out.few;omega
    have hs7:w.heap.size≤w7.heap.size:=leq9 hx.out.fr.size hf.size
    clear hRf ho hv hp hf hfr hrl
    go_wp2_with (at_builtin;refine wpList_append_spot _ rfl _ _ 23 rfl w.heap.size 61 i0 (.agg #[.string ⟨#[]⟩,.int .i64 0,.int .i64 0]) 3 32 Tryz.underlying23 HI.out.1 HI.out.2.1 HI.out.2.2.1 HI.out.2.2.2 rfl (by decide) _ _ _ rfl (HO7.out.alloc _) ⟨w7.heap.size,0,none⟩ 1 1 (cCAr x) rfl rfl ?c1 ?c2 (by decide) ?c3 ?c4 ?c5 ?_)
    case c1=>
     intro j u hj
     match j,hj with
     |0,hj=>simp[cCAr]at hj;subst hj;simp[Addr.add]
     |1,hj=>simp[cCAr]at hj;subst hj;simp[Addr.add]
     |2,hj=>simp[cCAr]at hj;subst hj;simp[Addr.add]
    case c2=>
     intro u hu
     simp only[cCAr,List.mem_cons,List.not_mem_nil,or_false]at hu
     rcases hu with rfl|rfl|rfl<;>rfl
    case c3=>unfold maxLen;omega
    case c4=>exact hbig
    case c5=>simp;omega
    intro v' w9 hown hgrow hspot
    obtain⟨hp9,hf9⟩:=stepAr HL.out hx.out.row hx.out.fr HP7.out HF7.out hgrow
    have hok9:∀y∈acc++ [x],okCAr y:=fun y hy=>by
     rcases List.mem_append.1 hy with h|h
     ·exact hx.out.ok y h
     ·rw[List.mem_singleton.1 h];exact HV7.out
    have HO9:=hdq (show w9.ownsRow w.heap.size 61 3 v' (acc++ [x]).length ((acc++ [x]).flatMap cCAr)from by
     rw[List.flatMap_append,List.length_append,List.flatMap_cons,List.flatMap_nil,List.append_nil]
     exact hown)
    have HR9:=hdq hok9
    have HF9:=hdq hf9
    have HMM:=hdq (may_any C [44] r2 d w9 HK.out hp9 (by decide))
    clear hown hgrow hspot hok9 hp9 hf9 hbig
    go_wp2_with fail
    refine HMM.out.mono ?_
    rintro _ w10 ⟨rfl,hp10,hf10⟩
    have HO10:=hdq (row_keep HO9.out hf10 HL.out.1)
    have HF10:=hdq (HF9.out.trans hf10)
    have HP10:=hdq hp10
    clear hp10 hf10
    cases hm:mayB [44] r2
    ·have hp10:=HP10.out
     rw[hm]at hp10
     have hp10:PaAt C w10 r2 d:=hp10
     have HT:=hdq (take_any C s r2 d w10.heap.size _ HK.out (hp10.alloc (.cells #[.string ⟨s.toArray⟩] 9)) HS.out (by simp))
     have hR3:R=(takeP s r2).then fun _ r=> .ok (acc++ [x]) r:=by rw[HRF.out,hm];rfl
     have HR3:=hdq hR3
     clear hp10 hm hR3
     go_wp2_with fail
     refine HT.out.mono ?_
     intro e w11 hE
     rcases hE with⟨ht,rfl,hp,hf⟩|⟨ht,rfl,hf⟩
     rotate_left
     ·go_wp2_with fail
      exact⟨rfl,by rw[HR3.out,ht];exact⟨rfl,(HF10.out.alloc _).trans hf⟩⟩
     have hff:=((Fr.refl C.T w10).alloc (.cells #[.string ⟨s.toArray⟩] 9)).trans hf
     have HT11:=hdq ht
     have HP11:=hdq hp
     have HFF:=hdq hff
     clear ht hp hf hff
     go_wp2_with fail
     go_ret
     rw[HR3.out,HT11.out]
     refine⟨_,rfl,someAr_end (row_keep HO10.out HFF.out HL.out.1) HR9.out ?_,HP11.out,HF10.out.trans HFF.out⟩
     have:=hx.out.few
     simp;omega
    ·have hp10:=HP10.out
     rw[hm]at hp10
     have hp10:PaAt C w10 r2.tail d:=hp10
     have hR3:R=someF one s f (acc++ [x]) r2.tail:=by rw[HRF.out,hm];rfl
     have hsl:r2.tail.length < r.length:=by
      have h1:=HSH.out
      have h2:=List.length_pos_iff.2 HP7.out.ne
      rw[List.length_tail];omega
     have hnx:SomeAr C w d R one s v' w10 (acc++ [x]) r2.tail:=⟨⟨f,hR3,by have:=HFR.out;omega⟩,HO10.out,HR9.out,by have:=hx.out.few;simp only[List.length_append,List.length_cons,List.length_nil];omega,hp10,HF10.out⟩
     have HNX:=hdq hnx
     have HLN:=hdq (show lenP C w10 < lenP C wr from by rw[hnx.pa.lenP,hx.out.pa.lenP];exact hsl)
     clear hp10 hm hR3 hsl hnx
     go_wp2_with fail
     go_roundw
     case rel=>exact⟨_,_,HNX⟩
     case measure=>exact HLN.out
end Go.Proofs.YtfomomaomggpbaaGreatDoor
