/-
  parse: cond: chains of conditions. Printed by wip/gen_pcsum.py.
-/
import Derived.Test.YtobegfbdedgmpaaGreatDoorJnPc
set_option linter.unusedVariables false
set_option linter.unusedSimpArgs false
set_option maxHeartbeats 3200000
set_option maxRecDepth 100000
namespace Go.Proofs.YtobegfbdedgmpaaGreatDoor
open Go.RowKit Go.Shelf

theorem cdP_box {C:Pcx} {w WA w7 w9:World} {d rb:Nat} {x:Cn} {l:List Tk} {A:Option Addr} {c:Nat} {B:Option Addr} {pc:Nat} (hL:C.P < w.heap.size∧C.TB < w.heap.size∧C.W0.heap.size≤w.heap.size) (hA:Fr NoT w WA) (hr:w.heap.size≤rb) (hr2:rb < WA.heap.size)
  (hv:CdV w7 WA.heap.size (cdV x.k A x.args.len c B x.of_.len pc x.at_) x) (hp:PaAt C w7 l d) (hf:Fr C.T WA w7)
  (h9:w9=(((w7.setCell ⟨rb,0,none⟩ (.int .u8 x.k)).setCell ⟨rb,1,none⟩ (.slice A x.args.len c)).setCell ⟨rb,2,none⟩ (.slice B x.of_.len pc)).setCell ⟨rb,3,none⟩ (.int .i64 x.at_)):
  CdP C d (.ok x l) w (.returned (cdV x.k A x.args.len c B x.of_.len pc x.at_)) w9:=by
 have hf9:Fr (fun b=>b=rb) w7 w9:=by rw[h9];exact Fr.own (Fr.own (Fr.own (Fr.own (Fr.refl _ _) _ _) _ _) _ _) _ _
 have h1:=hA.size
 unfold CdP
 refine⟨_,rfl,(CdV.fr hv hf9 fun b h2 h3 e=>?_).low (by omega),hp.fr hf9 (fun e=>?_) (fun e=>?_) (fun i hi e=>?_),?_⟩
 ·have e:b=rb:=e
  omega
 ·have e:C.P=rb:=e
  omega
 ·have e:C.TB=rb:=e
  omega
 ·have e:i=rb:=e
  omega
 ·rw[h9]
  have:=hA.any.trans hf
  exact Fr.high (Fr.high (Fr.high (Fr.high this (by omega) _ _) (by omega) _ _) (by omega) _ _) (by omega) _ _
theorem chainC_of (C:Pcx) (one:List Tk→PR Cn) (first:Int) (signs:List (List UInt8)) (g:Nat) (fst cap:Array Value) (bt b m:Nat) (l:List Tk) (d:Nat) (w:World) (hk:C.Ok) (h:PaAt C w l d) (hshr:Shr one)
  (hm:m=signs.length) (hsg:∀s∈signs,s≠ []) (hsl:signs.length≤3) (hss:Bk w b 9 (strA signs)) (hbP:b≠C.P)
  (hbt:Bk w bt 5 #[.int .u8 first]) (hbtP:bt≠C.P) (hf0:0≤first) (hf1:first≤20)
  (hent:Enters Tryz.prog g) (hone:∀W,Fr C.T w W→∀l',PaAt C W l' d→Calls Tryz.prog g (fst++cap) W (CdP C d (one l') W)):
  Calls Tryz.prog 294 #[.pointer (some ⟨C.P,0,none⟩),.func (.func g) fst cap,.func (.func 292) #[] #[.pointer (some ⟨bt,0,none⟩)],.slice (some ⟨b,0,none⟩) m m] w (CdP C d (chainP one (joinX first) signs l) w):=by
 subst hm
 exact chainC_any C one first signs g fst cap bt b _ l d w hk h hshr hsg hsl (fun j hj=>by rw[hss.cell j];simp[strA,hj]) hss.lt hbP hbt hbtP hf0 hf1 hent hone

def NotC (C:Pcx) (n:Nat):Prop:=∀(l:List Tk) (d:Nat) (w:World),d+n=24→PaAt C w l d→Calls Tryz.prog 295 #[.pointer (some ⟨C.P,0,none⟩)] w (CdP C d (notP n l) w)
def andS:List (List UInt8):= [[38,38]]
def orS:List (List UInt8):= [[124,124]]
def allP (n:Nat) (l:List Tk):PR Cn:=chainP (notP n) (joinX 10) andS l
theorem allP_shr (n:Nat):Shr (allP n):=chainP_shr (notP_shr n)
theorem all_any (C:Pcx) (n:Nat) (hs:NotC C n) (l:List Tk) (d pb fb:Nat) (w:World) (hdn:d+n=24) (hk:C.Ok) (h:PaAt C w l d) (hpb:Bk w pb 124 #[.pointer (some ⟨C.P,0,none⟩)]) (hne:pb≠C.P) (hfb:Bk w fb 371 #[.func (.func 291) #[] #[]]) (hneF:fb≠C.P):
  Calls Tryz.prog 293 #[.pointer (some ⟨pb,0,none⟩),.pointer (some ⟨fb,0,none⟩)] w (CdP C d (allP n l) w):=by
 have hmf:= @makeF Tryz.prog
 have hL:=h.lts
 have hpl:=hpb.lt
 have hfl:=hfb.lt
 have hfP:fb≠C.P:=hneF
 have hc0:=hfb.cell 0
 have hpP:pb≠C.P:=hne
 have hp0:=hpb.cell 0
 simp only[List.getElem?_toArray,List.getElem?_cons_zero]at hp0 hc0
 obtain⟨w1,hw1⟩:∃w1,w1=w.alloc (.cells #[.int .u8 0,.slice none 0 0,.slice none 0 0,.int .i64 0] 199):=⟨_,rfl⟩
 have hz1:w1.heap.size=w.heap.size+1:=by rw[hw1];simp
 have hf1:Fr NoT w w1:=by rw[hw1];exact(Fr.refl _ _).alloc _
 have hbx:Bk w1 w.heap.size 199 #[.int .u8 0,.slice none 0 0,.slice none 0 0,.int .i64 0]:=by rw[hw1];exact Bk.new _ _ _
 obtain⟨a1,a2,a3⟩:=ordA w1 #[.int .u8 10] (strA andS) _ rfl
 obtain⟨b1,b2,b3⟩:=ordB w1 #[.int .u8 10] (strA andS) _ rfl
 rw[hz1]at a1 a2 b1 b2
 have key:∀(W:World) (bt b:Nat),Fr NoT w1 W→Bk W bt 5 #[.int .u8 10]→Bk W b 9 (strA andS)→w.heap.size < bt→w.heap.size < b→Calls Tryz.prog 294 #[.pointer (some ⟨C.P,0,none⟩),.func (.func 295) #[.pointer (some ⟨C.P,0,none⟩)] #[],.func (.func 292) #[] #[.pointer (some ⟨bt,0,none⟩)],.slice (some ⟨b,0,none⟩) 1 1] W (CdP C d (allP n l) W):=fun W bt b hf h1 h2 h3 h4=>
  chainC_of C (notP n) 10 andS 295 _ _ bt b 1 l d W hk (h.fr (hf1.trans hf) id id fun _ _=>id) (notP_shr n) rfl (by decide) (by decide) h2 (by omega) h1 (by omega) (by decide) (by decide) (enters_of Tryz.func295 (by kernel_rfl) rfl) fun W' hfw l' hp'=>by
   simpa using hs l' d W' hdn hp'
 have fin:∀(WA w7:World) (e:Ending),Fr NoT w1 WA→CdP C d (allP n l) WA e w7→Fr NoT w WA∧Bk WA w.heap.size 199 #[.int .u8 0,.slice none 0 0,.slice none 0 0,.int .i64 0]:=fun WA w7 e hf _=>⟨hf1.trans hf,hbx.fr0 hf⟩
 have HA:=Lib.hid (key _ _ _ a3 a1 a2 (by omega) (by omega))
 have HB:=Lib.hid (key _ _ _ b3 b1 b2 (by omega) (by omega))
 have HFA:=Lib.hid (And.intro (hf1.trans a3) (hbx.fr0 a3))
 have HFB:=Lib.hid (And.intro (hf1.trans b3) (hbx.fr0 b3))
 rw[hw1]at HA HB HFA HFB
 have HL:=Lib.hid hL
 have hne2:¬w.heap.size=C.P:=by omega
 have HNE:=Lib.hid hne2
 clear key fin hw1 hz1 hf1 hbx a1 a2 a3 b1 b2 b3 hL h hk hs hpb hne hne2 hfb hneF
 unfold strA andS at HA HB HFA HFB
 simp only[List.map_cons,List.map_nil]at HA HB HFA HFB
 go_enter Tryz.func293,Tryz.ntmps293
 go_wp2_with fail
 go_region_held2 (fun W'=>W'.cell? ⟨pb,0,none⟩=some (.pointer (some ⟨C.P,0,none⟩))∧W'.cell? ⟨fb,0,none⟩=some (.func (.func 291) #[] #[]))
  (first
   |(refine⟨?_,?_⟩<;>with_reducible assumption)
   |(with_reducible refine⟨(Fr.cell (T:=fun b=>b=w.heap.size) (w:=w7) (Fr.own (Fr.own (Fr.own (Fr.own (Fr.refl _ _) _ _) _ _) _ _) _ _) hpl7.1 hpl7.2).trans hp7,(Fr.cell (T:=fun b=>b=w.heap.size) (w:=w7) (Fr.own (Fr.own (Fr.own (Fr.own (Fr.refl _ _) _ _) _ _) _ _) _ _) hfl7.1 hfl7.2).trans hc7⟩)
   |(refine⟨(Fr.cell (T:=NoT) (w:=w) ?_ hpl id).trans hp0,(Fr.cell (T:=NoT) (w:=w) ?_ hfl id).trans hc0⟩<;>
     repeat(first|exact Fr.refl _ _|refine Fr.alloc ?_ _|refine Fr.drew ?_)))
  (first
   |(go_at_call 291
     refine(join_any _ _).mono ?_
     rintro _ wa ⟨rfl,rfl⟩)
   |(go_at_call 294
     with_reducible refine HA.out.mono ?_
     intro e w7 hE
     rcases hE.ways with⟨x,r,A,c,B,pc,hR,rfl,hv,hp,hf⟩|⟨c,a,hR,rfl,hf⟩
     rotate_left
     ·exact⟨rfl,by rw[hR];exact⟨rfl,(HFA.out.1.any).trans hf⟩⟩
     have hb7:=HFA.out.2.fr hf HNE.out
     have q0:=hb7.cell 0
     have q1:=hb7.cell 1
     have q2:=hb7.cell 2
     have q3:=hb7.cell 3
     have g0:=hb7.frozen 0
     have g1:=hb7.frozen 1
     have g2:=hb7.frozen 2
     have g3:=hb7.frozen 3
     have hlt7:=hb7.lt
     have hp7:=(hp0.symm.trans ((HFA.out.1.cell (p:=⟨pb,0,none⟩) hpl id).symm.trans (hf.cell (p:=⟨pb,0,none⟩) (Nat.lt_of_lt_of_le hpl HFA.out.1.size) hpP).symm)).symm
     have hc7:=(hc0.symm.trans ((HFA.out.1.cell (p:=⟨fb,0,none⟩) hfl id).symm.trans (hf.cell (p:=⟨fb,0,none⟩) (Nat.lt_of_lt_of_le hfl HFA.out.1.size) hfP).symm)).symm
     have hpl7:pb < w7.heap.size∧¬pb=w.heap.size:=⟨Nat.lt_of_lt_of_le hpl (Nat.le_trans HFA.out.1.size hf.size),by omega⟩
     have hfl7:fb < w7.heap.size∧¬fb=w.heap.size:=⟨Nat.lt_of_lt_of_le hfl (Nat.le_trans HFA.out.1.size hf.size),by omega⟩
     simp only[getsL]at q0 q1 q2 q3
     have HE:=Lib.hid (show ∀w9,w9=(((w7.setCell ⟨w.heap.size,0,none⟩ (.int .u8 x.k)).setCell ⟨w.heap.size,1,none⟩ (.slice A x.args.len c)).setCell ⟨w.heap.size,2,none⟩ (.slice B x.of_.len pc)).setCell ⟨w.heap.size,3,none⟩ (.int .i64 x.at_)→CdP C d (allP n l) w (.returned (cdV x.k A x.args.len c B x.of_.len pc x.at_)) w9 from fun w9 h9=>by
      rw[hR]
      exact cdP_box HL.out HFA.out.1 (Nat.le_refl _) HFA.out.2.lt hv hp hf h9)
     clear hR hv hp hf hb7)
   |(go_at_call 294
     with_reducible refine HB.out.mono ?_
     intro e w7 hE
     rcases hE.ways with⟨x,r,A,c,B,pc,hR,rfl,hv,hp,hf⟩|⟨c,a,hR,rfl,hf⟩
     rotate_left
     ·exact⟨rfl,by rw[hR];exact⟨rfl,(HFB.out.1.any).trans hf⟩⟩
     have hb7:=HFB.out.2.fr hf HNE.out
     have q0:=hb7.cell 0
     have q1:=hb7.cell 1
     have q2:=hb7.cell 2
     have q3:=hb7.cell 3
     have g0:=hb7.frozen 0
     have g1:=hb7.frozen 1
     have g2:=hb7.frozen 2
     have g3:=hb7.frozen 3
     have hlt7:=hb7.lt
     have hp7:=(hp0.symm.trans ((HFB.out.1.cell (p:=⟨pb,0,none⟩) hpl id).symm.trans (hf.cell (p:=⟨pb,0,none⟩) (Nat.lt_of_lt_of_le hpl HFB.out.1.size) hpP).symm)).symm
     have hc7:=(hc0.symm.trans ((HFB.out.1.cell (p:=⟨fb,0,none⟩) hfl id).symm.trans (hf.cell (p:=⟨fb,0,none⟩) (Nat.lt_of_lt_of_le hfl HFB.out.1.size) hfP).symm)).symm
     have hpl7:pb < w7.heap.size∧¬pb=w.heap.size:=⟨Nat.lt_of_lt_of_le hpl (Nat.le_trans HFB.out.1.size hf.size),by omega⟩
     have hfl7:fb < w7.heap.size∧¬fb=w.heap.size:=⟨Nat.lt_of_lt_of_le hfl (Nat.le_trans HFB.out.1.size hf.size),by omega⟩
     simp only[getsL]at q0 q1 q2 q3
     have HE:=Lib.hid (show ∀w9,w9=(((w7.setCell ⟨w.heap.size,0,none⟩ (.int .u8 x.k)).setCell ⟨w.heap.size,1,none⟩ (.slice A x.args.len c)).setCell ⟨w.heap.size,2,none⟩ (.slice B x.of_.len pc)).setCell ⟨w.heap.size,3,none⟩ (.int .i64 x.at_)→CdP C d (allP n l) w (.returned (cdV x.k A x.args.len c B x.of_.len pc x.at_)) w9 from fun w9 h9=>by
      rw[hR]
      exact cdP_box HL.out HFB.out.1 (Nat.le_refl _) HFB.out.2.lt hv hp hf h9)
     clear hR hv hp hf hb7))
 all_goals
  go_wp2_with fail
  exact bodyPost_ret (v:=cdV x.k A x.args.len c B x.of_.len pc x.at_) (by simp[results,Tryz.results293,go_sem,cdV,q0,q1,q2,q3,hlt7]) rfl (HE.out _ rfl)
-- cond
theorem cond_any (C:Pcx) (n:Nat) (hs:NotC C n) (l:List Tk) (d:Nat) (w:World) (hdn:d+n=24) (hk:C.Ok) (h:PaAt C w l d):
  Calls Tryz.prog 290 #[.pointer (some ⟨C.P,0,none⟩)] w (CdP C d (condP n l) w):=by
 have hmf:= @makeF Tryz.prog
 have hL:=h.lts
 obtain⟨w1,hw1⟩:∃w1,w1=((w.alloc (.cells #[.pointer (some ⟨C.P,0,none⟩)] 124)).alloc (.cells #[.int .u8 0,.slice none 0 0,.slice none 0 0,.int .i64 0] 199)).alloc (.cells #[.func (.func 291) #[] #[]] 371):=⟨_,rfl⟩
 have hz1:w1.heap.size=w.heap.size+3:=by rw[hw1];simp
 have hf1:Fr NoT w w1:=by rw[hw1];exact(((Fr.refl _ _).alloc _).alloc _).alloc _
 have hpx:Bk w1 w.heap.size 124 #[.pointer (some ⟨C.P,0,none⟩)]:=by rw[hw1];exact((Bk.new _ _ _).alloc _).alloc _
 have hbx:Bk w1 (w.heap.size+1) 199 #[.int .u8 0,.slice none 0 0,.slice none 0 0,.int .i64 0]:=by rw[hw1];exact(Bk.new_at _ _ _ (by simp)).alloc _
 have hfx:Bk w1 (w.heap.size+2) 371 #[.func (.func 291) #[] #[]]:=by rw[hw1];exact Bk.new_at _ _ _ (by simp)
 obtain⟨a1,a2,a3⟩:=ordA w1 #[.int .u8 11] (strA orS) _ rfl
 obtain⟨b1,b2,b3⟩:=ordB w1 #[.int .u8 11] (strA orS) _ rfl
 rw[hz1]at a1 a2 b1 b2
 have key:∀(W:World) (bt b:Nat),Fr NoT w1 W→Bk W bt 5 #[.int .u8 11]→Bk W b 9 (strA orS)→w.heap.size < bt→w.heap.size < b→Calls Tryz.prog 294 #[.pointer (some ⟨C.P,0,none⟩),.func (.func 293) #[] #[.pointer (some ⟨w.heap.size,0,none⟩),.pointer (some ⟨w.heap.size+1+1,0,none⟩)],.func (.func 292) #[] #[.pointer (some ⟨bt,0,none⟩)],.slice (some ⟨b,0,none⟩) 1 1] W (CdP C d (condP n l) W):=fun W bt b hf h1 h2 h3 h4=>
  chainC_of C (allP n) 11 orS 293 _ _ bt b 1 l d W hk (h.fr (hf1.trans hf) id id fun _ _=>id) (allP_shr n) rfl (by decide) (by decide) h2 (by omega) h1 (by omega) (by decide) (by decide) (enters_of Tryz.func293 (by kernel_rfl) rfl) fun W' hfw l' hp'=>by
   simpa using all_any C n hs l' d w.heap.size (w.heap.size+2) W' hdn hk hp' ((hpx.fr0 hf).fr hfw (fun e=>by have e:w.heap.size=C.P:=e;omega)) (by omega) ((hfx.fr0 hf).fr hfw (fun e=>by have e:w.heap.size+2=C.P:=e;omega)) (by omega)
 have HA:=Lib.hid (key _ _ _ a3 a1 a2 (by omega) (by omega))
 have HB:=Lib.hid (key _ _ _ b3 b1 b2 (by omega) (by omega))
 have HFA:=Lib.hid (And.intro (hf1.trans a3) (And.intro (hbx.fr0 a3) (And.intro (hpx.fr0 a3) (hfx.fr0 a3))))
 have HFB:=Lib.hid (And.intro (hf1.trans b3) (And.intro (hbx.fr0 b3) (And.intro (hpx.fr0 b3) (hfx.fr0 b3))))
 have hp0:=hpx.cell 0
 have hpl:=hpx.lt
 have hc0:=hfx.cell 0
 have hfl:=hfx.lt
 simp only[List.getElem?_toArray,List.getElem?_cons_zero]at hp0 hc0
 rw[hw1]at HA HB HFA HFB hp0 hpl hc0 hfl
 have HL:=Lib.hid hL
 have hne2:¬w.heap.size+1=C.P:=by omega
 have HNE:=Lib.hid hne2
 have hpP:¬w.heap.size=C.P:=by omega
 have hfP:¬w.heap.size+2=C.P:=by omega
 clear key hw1 hz1 hf1 hbx hpx hfx a1 a2 a3 b1 b2 b3 hL h hk hs hne2
 unfold strA orS at HA HB HFA HFB
 simp only[List.map_cons,List.map_nil]at HA HB HFA HFB
 go_enter Tryz.func290,Tryz.ntmps290
 go_wp2_with fail
 go_region_held2 (fun W'=>W'.cell? ⟨w.heap.size,0,none⟩=some (.pointer (some ⟨C.P,0,none⟩))∧W'.cell? ⟨w.heap.size+1+1,0,none⟩=some (.func (.func 291) #[] #[]))
  (first
   |(refine⟨?_,?_⟩<;>with_reducible assumption)
   |(with_reducible refine⟨(Fr.cell (T:=fun b=>b=w.heap.size+1) (w:=w7) (Fr.own (Fr.own (Fr.own (Fr.own (Fr.refl _ _) _ _) _ _) _ _) _ _) hpl7.1 hpl7.2).trans hp7,(Fr.cell (T:=fun b=>b=w.heap.size+1) (w:=w7) (Fr.own (Fr.own (Fr.own (Fr.own (Fr.refl _ _) _ _) _ _) _ _) _ _) hfl7.1 hfl7.2).trans hc7⟩)
   |(refine⟨(Fr.cell (T:=NoT) ?_ hpl id).trans hp0,(Fr.cell (T:=NoT) ?_ hfl id).trans hc0⟩<;>
     repeat(first|exact Fr.refl _ _|refine Fr.alloc ?_ _|refine Fr.drew ?_)))
  (first
   |(go_at_call 291
     refine(join_any _ _).mono ?_
     rintro _ wa ⟨rfl,rfl⟩)
   |(go_at_call 294
     with_reducible refine HA.out.mono ?_
     intro e w7 hE
     rcases hE.ways with⟨x,r,A,c,B,pc,hR,rfl,hv,hp,hf⟩|⟨c,a,hR,rfl,hf⟩
     rotate_left
     ·exact⟨rfl,by rw[hR];exact⟨rfl,(HFA.out.1.any).trans hf⟩⟩
     have hb7:=HFA.out.2.1.fr hf HNE.out
     have q0:=hb7.cell 0
     have q1:=hb7.cell 1
     have q2:=hb7.cell 2
     have q3:=hb7.cell 3
     have g0:=hb7.frozen 0
     have g1:=hb7.frozen 1
     have g2:=hb7.frozen 2
     have g3:=hb7.frozen 3
     have hlt7:=hb7.lt
     have hp7:=(HFA.out.2.2.1.fr hf hpP).cell 0
     simp only[List.getElem?_toArray,List.getElem?_cons_zero]at hp7
     have hpl7:w.heap.size < w7.heap.size∧¬w.heap.size=w.heap.size+1:=⟨(HFA.out.2.2.1.fr hf hpP).lt,by omega⟩
     have hc7:=(HFA.out.2.2.2.fr hf hfP).cell 0
     have hfl7:w.heap.size+1+1 < w7.heap.size∧¬w.heap.size+1+1=w.heap.size+1:=⟨(HFA.out.2.2.2.fr hf hfP).lt,by omega⟩
     simp only[List.getElem?_toArray,List.getElem?_cons_zero]at hc7
     simp only[getsL]at q0 q1 q2 q3
     have HE:=Lib.hid (show ∀w9,w9=(((w7.setCell ⟨w.heap.size+1,0,none⟩ (.int .u8 x.k)).setCell ⟨w.heap.size+1,1,none⟩ (.slice A x.args.len c)).setCell ⟨w.heap.size+1,2,none⟩ (.slice B x.of_.len pc)).setCell ⟨w.heap.size+1,3,none⟩ (.int .i64 x.at_)→CdP C d (condP n l) w (.returned (cdV x.k A x.args.len c B x.of_.len pc x.at_)) w9 from fun w9 h9=>by
      rw[hR]
      exact cdP_box HL.out HFA.out.1 (by omega) HFA.out.2.1.lt hv hp hf h9)
     clear hR hv hp hf hb7)
   |(go_at_call 294
     with_reducible refine HB.out.mono ?_
     intro e w7 hE
     rcases hE.ways with⟨x,r,A,c,B,pc,hR,rfl,hv,hp,hf⟩|⟨c,a,hR,rfl,hf⟩
     rotate_left
     ·exact⟨rfl,by rw[hR];exact⟨rfl,(HFB.out.1.any).trans hf⟩⟩
     have hb7:=HFB.out.2.1.fr hf HNE.out
     have q0:=hb7.cell 0
     have q1:=hb7.cell 1
     have q2:=hb7.cell 2
     have q3:=hb7.cell 3
     have g0:=hb7.frozen 0
     have g1:=hb7.frozen 1
     have g2:=hb7.frozen 2
     have g3:=hb7.frozen 3
     have hlt7:=hb7.lt
     have hp7:=(HFB.out.2.2.1.fr hf hpP).cell 0
     simp only[List.getElem?_toArray,List.getElem?_cons_zero]at hp7
     have hpl7:w.heap.size < w7.heap.size∧¬w.heap.size=w.heap.size+1:=⟨(HFB.out.2.2.1.fr hf hpP).lt,by omega⟩
     have hc7:=(HFB.out.2.2.2.fr hf hfP).cell 0
     have hfl7:w.heap.size+1+1 < w7.heap.size∧¬w.heap.size+1+1=w.heap.size+1:=⟨(HFB.out.2.2.2.fr hf hfP).lt,by omega⟩
     simp only[List.getElem?_toArray,List.getElem?_cons_zero]at hc7
     simp only[getsL]at q0 q1 q2 q3
     have HE:=Lib.hid (show ∀w9,w9=(((w7.setCell ⟨w.heap.size+1,0,none⟩ (.int .u8 x.k)).setCell ⟨w.heap.size+1,1,none⟩ (.slice A x.args.len c)).setCell ⟨w.heap.size+1,2,none⟩ (.slice B x.of_.len pc)).setCell ⟨w.heap.size+1,3,none⟩ (.int .i64 x.at_)→CdP C d (condP n l) w (.returned (cdV x.k A x.args.len c B x.of_.len pc x.at_)) w9 from fun w9 h9=>by
      rw[hR]
      exact cdP_box HL.out HFB.out.1 (by omega) HFB.out.2.1.lt hv hp hf h9)
     clear hR hv hp hf hb7))
 all_goals
  go_wp2_with fail
  exact bodyPost_ret (v:=cdV x.k A x.args.len c B x.of_.len pc x.at_) (by simp[results,Tryz.results290,go_sem,cdV,q0,q1,q2,q3,hlt7]) rfl (HE.out _ rfl)

def ResC (rb L:Nat) (w:World) (x:Cn):Prop:=∃A c B pc,Bk w rb 199 #[.int .u8 x.k,.slice A x.args.len c,.slice B x.of_.len pc,.int .i64 x.at_]∧CdV w L (cdV x.k A x.args.len c B x.of_.len pc x.at_) x
def ParC (C:Pcx) (rb d:Nat) (r:PR Cn) (W:World) (e:Ending) (w':World):Prop:=
 match r with
 | .err c a=>e=wrongE c a∧Fr (PT C rb) W w'
 | .ok x l=>e= .returned (.tuple #[])∧ResC rb W.heap.size w' x∧PaAt C w' l d∧Fr (PT C rb) W w'
theorem bk4C {w:World} {rb:Nat} {a b c d:Value} {A B D E:Value} (h:Bk w rb 199 #[a,b,c,d]):
  Bk ((((w.setCell ⟨rb,0,none⟩ A).setCell ⟨rb,1,none⟩ B).setCell ⟨rb,2,none⟩ D).setCell ⟨rb,3,none⟩ E) rb 199 #[A,B,D,E]:=by
 have:=(((h.set_ 0 A).set_ 1 B).set_ 2 D).set_ 3 E
 simpa using this
def endC (s:List UInt8) (n:Nat) (l:List Tk):PR Cn:=(condP n l).then fun x r=>(takeP s r).then fun _ r=> .ok x r

theorem brackC_any (C:Pcx) (n:Nat) (hs:NotC C n) (l:List Tk) (d pb rb:Nat) (w:World) (hdn:d+n=24) (hk:C.Ok) (h:PaAt C w l d) (hpb:Bk w pb 124 #[.pointer (some ⟨C.P,0,none⟩)]) (hne:pb≠C.P)
  (hrb:Bk w rb 199 #[.int .u8 0,.slice none 0 0,.slice none 0 0,.int .i64 0]) (hnr:rb≠C.P) (hrT:rb≠C.TB) (hr0:C.W0.heap.size≤rb) (hpr:pb≠rb):
  Calls Tryz.prog 297 #[.pointer (some ⟨pb,0,none⟩),.pointer (some ⟨rb,0,none⟩)] w (ParC C rb d (endC [93] n l) w):=by
 have hp0:=hpb.cell 0
 simp only[List.getElem?_toArray,List.getElem?_cons_zero]at hp0
 have HE:=Lib.hid (cond_any C n hs l d w hdn hk h)
 obtain⟨R,hR⟩:∃R,R=endC [93] n l:=⟨_,rfl⟩
 rw[←hR]
 have HR:=Lib.hid hR
 have HPB:=Lib.hid hpb
 have HRB:=Lib.hid hrb
 have HK:=Lib.hid hk
 have HL:=Lib.hid h.lts
 clear hR hpb hrb hs h hk
 go_enter Tryz.func297,Tryz.ntmps297
 go_wp2_with fail
 refine HE.out.mono ?_
 intro e w7 hE
 rcases hE.ways with⟨x,r,A,c,B,pc,hx,rfl,hv,hp,hf⟩|⟨c,a,hx,rfl,hf⟩
 rotate_left
 ·go_wp2_with fail
  exact⟨rfl,by rw[HR.out,endC,hx];exact⟨rfl,PT.l hf⟩⟩
 have hrl:=HRB.out.lt
 have hb7:=HRB.out.fr hf hnr
 have q0:=hb7.cell 0
 have q1:=hb7.cell 1
 have q2:=hb7.cell 2
 have q3:=hb7.cell 3
 have g0:=hb7.frozen 0
 have g1:=hb7.frozen 1
 have g2:=hb7.frozen 2
 have g3:=hb7.frozen 3
 have hp7:=(HPB.out.fr hf hne).cell 0
 simp only[getsL]at q0 q1 q2 q3 hp7
 obtain⟨w8,hw8⟩:∃w8,w8=(((w7.setCell ⟨rb,0,none⟩ (.int .u8 x.k)).setCell ⟨rb,1,none⟩ (.slice A x.args.len c)).setCell ⟨rb,2,none⟩ (.slice B x.of_.len pc)).setCell ⟨rb,3,none⟩ (.int .i64 x.at_):=⟨_,rfl⟩
 have hf8:Fr (fun b=>b=rb) w7 w8:=by rw[hw8];exact Fr.own (Fr.own (Fr.own (Fr.own (Fr.refl _ _) _ _) _ _) _ _) _ _
 have hbk8:Bk w8 rb 199 #[.int .u8 x.k,.slice A x.args.len c,.slice B x.of_.len pc,.int .i64 x.at_]:=by rw[hw8];exact bk4C hb7
 have hv8:CdV w8 w.heap.size (cdV x.k A x.args.len c B x.of_.len pc x.at_) x:=CdV.fr hv hf8 fun b h1 h2 e=>by
  have e:b=rb:=e
  omega
 have hp8:PaAt C w8 r d:=hp.fr hf8 (fun e=>hnr (by have e:C.P=rb:=e;exact e.symm)) (fun e=>hrT (by have e:C.TB=rb:=e;exact e.symm)) (fun i hi e=>by have e:i=rb:=e;omega)
 have hF8:Fr (PT C rb) w w8:=(PT.l hf).trans (hf8.mono fun i _ h=>Or.inr h)
 have hpc8:w8.cell? ⟨pb,0,none⟩=some (.pointer (some ⟨C.P,0,none⟩)):=(hf8.cell (p:=⟨pb,0,none⟩) (HPB.out.fr hf hne).lt hpr).trans hp7
 have hP9:=hp8.alloc (.cells #[.string ⟨#[93]⟩] 9)
 have HX:=Lib.hid hx
 have HBK:=Lib.hid hbk8
 have HV:=Lib.hid hv8
 have HF:=Lib.hid hF8
 have HP:=Lib.hid hP9
 have HW:=Lib.hid hw8
 have hz:w8.heap.size=w7.heap.size:=by rw[hw8];simp
 rw[hw8]at hpc8
 cases hm:mayB [93] r
 ·have ht:=take_no C [93] r d w8.heap.size _ hP9 hm (by simp)
  unfold ErrP wrongE pP at ht
  rw[hw8]at ht
  simp only[World.size_setCell]at ht
  have HT:=Lib.hid ht
  clear hx hbk8 hv8 hp8 hF8 hP9 hv hp hf hf8 hb7 hw8 ht hz
  go_wp2_with fail
  refine HT.out.mono ?_
  rintro _ w10 ⟨rfl,hf10⟩
  go_wp2_with fail
  refine⟨rfl,?_⟩
  rw[HR.out,endC,HX.out]
  simp only[PR.then,takeP,hm]
  refine⟨rfl,?_⟩
  rw[←HW.out]at hf10
  exact(HF.out.alloc _).trans (PT.l hf10)
 ·have ht:=take_yes C [93] r d w8.heap.size _ HK.out hP9 (by decide) hm (by simp)
  unfold DoneP pP at ht
  rw[hw8]at ht
  simp only[World.size_setCell]at ht
  have HT:=Lib.hid ht
  clear hx hbk8 hv8 hp8 hF8 hP9 hv hp hf hf8 hb7 hw8 ht hz
  go_wp2_with fail
  refine HT.out.mono ?_
  rintro _ w10 ⟨rfl,hp10,hf10⟩
  have HP10:=Lib.hid hp10
  rw[←HW.out]at hf10
  have HF10:=Lib.hid hf10
  clear hp10 hf10
  go_wp2_with fail
  go_end0
  rw[HR.out,endC,HX.out]
  simp only[PR.then,takeP,hm]
  have hfz:Fr C.T w8 w10:=((Fr.refl C.T w8).alloc _).trans HF10.out
  exact⟨rfl,⟨A,c,B,pc,HBK.out.fr hfz hnr,HV.out.fr hfz fun b h1 h2 e=>by have e:b=C.P:=e;have:=HL.out.1;omega⟩,HP10.out,HF.out.trans (PT.l hfz)⟩
theorem ResC.fr {C:Pcx} {rb L:Nat} {w w':World} {x:Cn} (h:ResC rb L w x) (hf:Fr C.T w w') (h1:rb≠C.P) (h2:C.P < L):ResC rb L w' x:=by
 obtain⟨A,c,B,pc,hb,hv⟩:=h
 exact⟨A,c,B,pc,hb.fr hf h1,hv.fr hf fun b h3 _ e=>by have e:b=C.P:=e;omega⟩
theorem ResC.low {rb L L':Nat} {w:World} {x:Cn} (h:ResC rb L w x) (hl:L'≤L):ResC rb L' w x:=by
 obtain⟨A,c,B,pc,hb,hv⟩:=h
 exact⟨A,c,B,pc,hb,hv.low hl⟩
def notB (n:Nat) (a:Int) (l:List Tk):PR Cn:=(notP n l).then fun x r=> .ok ⟨9,.nil,x.cons .nil,a⟩ r

theorem not_fin {C:Pcx} {w w7:World} {rb d:Nat} {at_:Int} {x:Cn} {r:List Tk} {A B:Option Addr} {c pc:Nat} {q0 q1 q2 q3:Value} (hL:C.P < w.heap.size∧C.TB < w.heap.size∧C.W0.heap.size≤w.heap.size) (hat:in64 at_)
  (hnr:rb≠C.P) (hrT:rb≠C.TB) (hr0:C.W0.heap.size≤rb) (hb:Bk w7 rb 199 #[q0,q1,q2,q3]) (hv:CdV w7 w.drew.heap.size (cdV x.k A x.args.len c B x.of_.len pc x.at_) x) (hp:PaAt C w7 r d) (hf:Fr C.T w w7) (w9:World)
  (h9:w9=(((((w7.setCell ⟨rb,0,none⟩ (.int .u8 9)).setCell ⟨rb,1,none⟩ (.slice none 0 0)).setCell ⟨rb,2,none⟩ (.slice (some ⟨w7.heap.size,0,none⟩) 1 1)).setCell ⟨rb,3,none⟩ (.int .i64 at_)).alloc (.cells #[.int .u8 x.k,.slice A x.args.len c,.slice B x.of_.len pc,.int .i64 x.at_] 199)))
  (hrw:rb < w.heap.size):
  ParC C rb d ((PR.ok x r).then fun x r=>PR.ok ⟨9,.nil,x.cons .nil,at_⟩ r) w (.returned (.tuple #[])) w9:=by
 obtain⟨w8,hw8⟩:∃w8,w8=((((w7.setCell ⟨rb,0,none⟩ (.int .u8 9)).setCell ⟨rb,1,none⟩ (.slice none 0 0)).setCell ⟨rb,2,none⟩ (.slice (some ⟨w7.heap.size,0,none⟩) 1 1)).setCell ⟨rb,3,none⟩ (.int .i64 at_)):=⟨_,rfl⟩
 rw[←hw8]at h9
 have hf8:Fr (fun b=>b=rb) w7 w8:=by rw[hw8];exact Fr.own (Fr.own (Fr.own (Fr.own (Fr.refl _ _) _ _) _ _) _ _) _ _
 have hbk8:Bk w8 rb 199 #[.int .u8 9,.slice none 0 0,.slice (some ⟨w7.heap.size,0,none⟩) 1 1,.int .i64 at_]:=by rw[hw8];exact bk4C hb
 have hz:w8.heap.size=w7.heap.size:=by rw[hw8];simp
 have hf9:Fr (fun b=>b=rb) w7 w9:=by rw[h9];exact hf8.alloc _
 have hs7:=hf.size
 have hs9:w9.heap.size=w7.heap.size+1:=by rw[h9];simp[hz]
 obtain⟨x1,x3,Ax,cx,Bx,qx,ex,hsx,hox⟩:=hv
 simp only[cdV,Value.agg.injEq,Array.mk.injEq,List.cons.injEq,Value.slice.injEq,true_and,and_true]at ex
 obtain⟨⟨rfl,rfl⟩,rfl,rfl⟩:=ex
 have hX:∀b,New w.drew.heap.size w7 b→(b < w7.heap.size∧¬b=rb)∧New w.heap.size w9 b:=fun b hb=>by
  have h1:w.heap.size≤b:=hb.1
  have h2:b < w7.heap.size:=hb.2
  exact⟨⟨h2,by omega⟩,h1,by omega⟩
 refine⟨rfl,⟨none,0,some ⟨w7.heap.size,0,none⟩,1,by rw[h9];exact hbk8.alloc _,by show in8 9;unfold in8;omega,hat,none,0,some ⟨w7.heap.size,0,none⟩,1,rfl,⟨Nat.le_refl 0,sl0,fun h=>absurd h (by exact Nat.lt_irrefl 0)⟩,Nat.le_refl 1,sl1,fun _=>⟨w7.heap.size,0,rfl,?_⟩⟩,?_,?_⟩
 ·refine cdR_one (by rw[h9];exact Bk.new_at _ _ _ hz) ⟨hs7,by omega⟩ ⟨x1,x3⟩ (hsx.imp fun _ _ h=>?_) (hox.imp fun _ _ h=>?_)
  ·exact ExR.more (fun b hb=>(hX b hb).2) (ExR.keep (hf9.same fun b hb=>(hX b hb).1) h)
  ·exact CdR.more (fun b hb=>(hX b hb).2) (CdR.keep (hf9.same fun b hb=>(hX b hb).1) h)
 ·exact hp.fr hf9 (fun e=>hnr (by have e:C.P=rb:=e;exact e.symm)) (fun e=>hrT (by have e:C.TB=rb:=e;exact e.symm)) (fun i hi e=>by have e:i=rb:=e;omega)
 ·exact(PT.l hf).trans (hf9.mono fun i _ h=>Or.inr h)
theorem notB_any (C:Pcx) (n:Nat) (hs:NotC C n) (l:List Tk) (d pb ab rb:Nat) (at_:Int) (w:World) (hat:in64 at_) (hdn:d+n=24) (hk:C.Ok) (h:PaAt C w l d) (hpb:Bk w pb 124 #[.pointer (some ⟨C.P,0,none⟩)]) (hne:pb≠C.P)
  (hab:Bk w ab 3 #[.int .i64 at_]) (hnea:ab≠C.P) (har:ab≠rb)
  (hrb:Bk w rb 199 #[.int .u8 0,.slice none 0 0,.slice none 0 0,.int .i64 0]) (hnr:rb≠C.P) (hrT:rb≠C.TB) (hr0:C.W0.heap.size≤rb) (hpr:pb≠rb):
  Calls Tryz.prog 296 #[.pointer (some ⟨pb,0,none⟩),.pointer (some ⟨ab,0,none⟩),.pointer (some ⟨rb,0,none⟩)] w (ParC C rb d (notB n at_ l) w):=by
 have hp0:=hpb.cell 0
 have ha0:=hab.cell 0
 simp only[List.getElem?_toArray,List.getElem?_cons_zero]at hp0 ha0
 have hpl:=hpb.lt
 have hal:=hab.lt
 have hrl:=hrb.lt
 have HE:=Lib.hid (hs l d w.drew hdn (h.fr (T:=NoT) (Fr.drew (Fr.refl _ _)) id id fun _ _=>id))
 obtain⟨R,hR⟩:∃R,R=notB n at_ l:=⟨_,rfl⟩
 rw[←hR]
 have HR:=Lib.hid hR
 have HPB:=Lib.hid hpb
 have HAB:=Lib.hid hab
 have HRB:=Lib.hid hrb
 have HK:=Lib.hid hk
 have HL:=Lib.hid h.lts
 have hpP:pb≠C.P:=hne
 have haP:ab≠C.P:=hnea
 clear hR hpb hab hrb hs h hk
 go_enter Tryz.func296,Tryz.ntmps296
 go_wp2_with fail
 go_region_held2 (fun W'=>W'.cell? ⟨pb,0,none⟩=some (.pointer (some ⟨C.P,0,none⟩))∧W'.cell? ⟨ab,0,none⟩=some (.int .i64 at_))
  (first
   |(refine⟨?_,?_⟩<;>with_reducible assumption)
   |(with_reducible refine⟨(Fr.cell (T:=fun b=>b=rb) (w:=w7) (Fr.alloc (Fr.own (Fr.own (Fr.own (Fr.own (Fr.refl _ _) _ _) _ _) _ _) _ _) _) hpl7 hpr).trans hp7,(Fr.cell (T:=fun b=>b=rb) (w:=w7) (Fr.alloc (Fr.own (Fr.own (Fr.own (Fr.own (Fr.refl _ _) _ _) _ _) _ _) _ _) _) hal7 har).trans ha7⟩)
   |(with_reducible refine⟨(Fr.cell (T:=NoT) (w:=w7) (Fr.alloc (Fr.refl _ _) _) hpl7 id).trans hp7,(Fr.cell (T:=NoT) (w:=w7) (Fr.alloc (Fr.refl _ _) _) hal7 id).trans ha7⟩)
   |(with_reducible refine⟨(Fr.cell (T:=NoT) (w:=w) (Fr.drew (Fr.refl _ _)) hpl id).trans hp0,(Fr.cell (T:=NoT) (w:=w) (Fr.drew (Fr.refl _ _)) hal id).trans ha0⟩))
  (first
   |(go_at_call 295
     with_reducible refine HE.out.mono ?_
     intro e w7 hE
     rcases hE.ways with⟨x,r,A,c,B,pc,hx,rfl,hv,hp,hf⟩|⟨c,a,hx,rfl,hf⟩
     rotate_left
     ·exact⟨rfl,by rw[HR.out,notB,hx];exact⟨rfl,PT.l ((Fr.drew (Fr.refl C.T w)).trans hf)⟩⟩
     have hfw:=(Fr.drew (Fr.refl C.T w)).trans hf
     have hb7:=HRB.out.fr hfw hnr
     have q0:=hb7.cell 0
     have q1:=hb7.cell 1
     have q2:=hb7.cell 2
     have q3:=hb7.cell 3
     have g0:=hb7.frozen 0
     have g1:=hb7.frozen 1
     have g2:=hb7.frozen 2
     have g3:=hb7.frozen 3
     have hpb7:=HPB.out.fr hfw hpP
     have hab7:=HAB.out.fr hfw haP
     have hp7:=hpb7.cell 0
     have ha7:=hab7.cell 0
     have hpl7:=hpb7.lt
     have hal7:=hab7.lt
     have hrl7:=hb7.lt
     simp only[getsL]at q0 q1 q2 q3 hp7 ha7
     have HX:=Lib.hid hx
     have HV:=Lib.hid hv
     have HP:=Lib.hid hp
     have HF:=Lib.hid hfw
     have HB:=Lib.hid hb7
     clear hx hv hp hf hfw hb7 hpb7 hab7))
 all_goals
  go_wp2_with fail
  go_end0
  rw[HR.out,notB,HX.out]
  exact not_fin HL.out hat hnr hrT hr0 HB.out HV.out HP.out HF.out _ rfl hrl
end Go.Proofs.YtobegfbdedgmpaaGreatDoor
