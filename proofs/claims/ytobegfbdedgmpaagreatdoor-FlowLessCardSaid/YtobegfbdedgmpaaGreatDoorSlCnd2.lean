/-
  parse, of what ends well: cond, of one comparison; asked. Printed by wip/gen_sl/cond2.py.
-/
import Derived.Test.YtobegfbdedgmpaaGreatDoorJgPcN
set_option linter.unusedVariables false
set_option linter.unusedSimpArgs false
set_option maxHeartbeats 3200000
set_option maxRecDepth 100000
namespace Go.Proofs.YtobegfbdedgmpaaGreatDoor
open Go.RowKit Go.Shelf

def BoxC (C:Pcx) (d:Nat) (X:Cn) (Rr:List Tk) (w:World) (rb:Nat) (K:World→Prop) (e:Ending) (w7:World):Prop:=
  ∃A c B q,e= .returned (.agg #[.int .u8 X.k,.slice A X.args.len c,.slice B X.of_.len q,.int .i64 X.at_])∧Bk w7 rb 199 #[.int .u8 0,.slice none 0 0,.slice none 0 0,.int .i64 0]∧K w7∧
    Hid (∀w9,w9=(((w7.setCell ⟨rb,0,none⟩ (.int .u8 X.k)).setCell ⟨rb,1,none⟩ (.slice A X.args.len c)).setCell ⟨rb,2,none⟩ (.slice B X.of_.len q)).setCell ⟨rb,3,none⟩ (.int .i64 X.at_)→CdK C d X Rr w (.returned (cdV X.k A X.args.len c B X.of_.len q X.at_)) w9)
theorem boxC {C:Pcx} {d:Nat} {X:Cn} {Rr:List Tk} {w WA:World} {rb f:Nat} {av:Array Value} {K:World→Prop} (hL:C.P < w.heap.size∧C.TB < w.heap.size∧C.W0.heap.size≤w.heap.size) (hA:Fr NoT w WA) (hr:w.heap.size≤rb)
    (hb:Bk WA rb 199 #[.int .u8 0,.slice none 0 0,.slice none 0 0,.int .i64 0]) (hK:∀W,Fr C.T WA W→K W) (h:Calls Tryz.prog f av WA (CdK C d X Rr WA)):Calls Tryz.prog f av WA (BoxC C d X Rr w rb K):=by
  refine h.mono ?_
  rintro e w7 ⟨v,rfl,hv,hp,hf⟩
  obtain⟨A,c,B,q,rfl⟩:=CdVS.parts hv
  exact⟨A,c,B,q,rfl,hb.fr hf (fun e=>by have e:rb=C.P:=e;omega),hK _ hf,fun w9 h9=>cdP_box hL hA hr hb.lt hv hp hf h9⟩
theorem chainC0_of (C:Pcx) (signs:List (List UInt8)) (g:Nat) (fst cap:Array Value) (F:Value) (b m:Nat) (l:List Tk) (d:Nat) (w:World) (X:Cn) (Rr:List Tk) (hk:C.Ok) (h:PaAt C w l d)
    (hm:m=signs.length) (hsl:signs.length≤3) (hss:Bk w b 9 (strA signs)) (hbP:b≠C.P) (hneg:isP signs Rr < 0)
    (hent:Enters Tryz.prog g) (hone:∀W,Fr NoT w W→Calls Tryz.prog g (fst++cap) W (CdK C d X Rr W)):
    Calls Tryz.prog 294 #[.pointer (some ⟨C.P,0,none⟩),.func (.func g) fst cap,F,.slice (some ⟨b,0,none⟩) m m] w (CdK C d X Rr w):=by
  subst hm
  exact chainC0 C signs g fst cap F b _ l d w X Rr hk h hsl (fun j hj=>by rw[hss.cell j];simp[strA,hj]) hss.lt hbP hneg hent hone
theorem all_ok (C:Pcx) (l:List Tk) (d:Nat) (pb fb:Nat) (w:World) (X:Cn) (Rr:List Tk) (hok:cmpQ l= .ok X Rr) (hn:isP andS Rr < 0) (hk:C.Ok) (h:PaAt C w l d) (hpb:Bk w pb 124 #[.pointer (some ⟨C.P,0,none⟩)]) (hnep:pb≠C.P) (hfb:Bk w fb 371 #[.func (.func 291) #[] #[]]) (hnef:fb≠C.P):
    Calls Tryz.prog 293 #[.pointer (some ⟨pb,0,none⟩),.pointer (some ⟨fb,0,none⟩)] w (CdK C d X Rr w):=by
  have hmf:= @makeF Tryz.prog
  have hL:=h.lts
  have hpl:=hpb.lt
  have hp0:=hpb.cell 0
  have hfl:=hfb.lt
  have hf0:=hfb.cell 0
  simp only[List.getElem?_toArray,List.getElem?_cons_zero]at hp0 hf0
  obtain⟨w1,hw1⟩:∃w1,w1=w.alloc (.cells #[.int .u8 0,.slice none 0 0,.slice none 0 0,.int .i64 0] 199):=⟨_,rfl⟩
  have hz1:w1.heap.size=w.heap.size+1:=by rw[hw1];simp
  have hf1:Fr NoT w w1:=by rw[hw1];exact(Fr.refl _ _).alloc _
  have hbx:Bk w1 w.heap.size 199 #[.int .u8 0,.slice none 0 0,.slice none 0 0,.int .i64 0]:=by rw[hw1];exact Bk.new _ _ _
  obtain⟨a1,a2,a3⟩:=ordA w1 #[.int .u8 10] (strA andS) _ rfl
  obtain⟨b1,b2,b3⟩:=ordB w1 #[.int .u8 10] (strA andS) _ rfl
  rw[hz1]at a1 a2 b1 b2
  have key:∀(W:World) (F:Value) (b:Nat),Fr NoT w1 W→Bk W b 9 (strA andS)→w.heap.size < b→Calls Tryz.prog 294 #[.pointer (some ⟨C.P,0,none⟩),.func (.func 295) #[.pointer (some ⟨C.P,0,none⟩)] #[],F,.slice (some ⟨b,0,none⟩) 1 1] W (BoxC C d X Rr w (w.heap.size) fun W'=>(W'.cell? ⟨pb,0,none⟩=some (.pointer (some ⟨C.P,0,none⟩))∧pb < W'.heap.size)∧(W'.cell? ⟨fb,0,none⟩=some (.func (.func 291) #[] #[])∧fb < W'.heap.size)):=fun W F b hf h2 h4=>
    boxC hL (hf1.trans hf) (by omega) (hbx.fr0 hf) (fun W' hW=>⟨⟨((hpb.fr0 (hf1.trans hf)).fr hW hnep).cell 0,((hpb.fr0 (hf1.trans hf)).fr hW hnep).lt⟩,⟨((hfb.fr0 (hf1.trans hf)).fr hW hnef).cell 0,((hfb.fr0 (hf1.trans hf)).fr hW hnef).lt⟩⟩) (chainC0_of C andS 295 _ _ F b 1 l d W X Rr hk (h.fr (hf1.trans hf) id id fun _ _=>id) rfl (by decide) h2 (by omega) hn (enters_of Tryz.func295 (by kernel_rfl) rfl) fun W' hfw=>by
      simpa using not_ok C l d W' X Rr hok hk (h.fr ((hf1.trans hf).trans hfw) id id fun _ _=>id))
  have HA:=Lib.hid (key _ (.func (.func 292) #[] #[.pointer (some ⟨w1.heap.size,0,none⟩)]) _ a3 a2 (by omega))
  have HB:=Lib.hid (key _ (.func (.func 292) #[] #[.pointer (some ⟨w1.heap.size+1,0,none⟩)]) _ b3 b2 (by omega))
  rw[hz1]at HA HB
  rw[hw1]at HA HB
  have hpr:¬pb=w.heap.size:=by omega
  have hfr:¬fb=w.heap.size:=by omega
  clear key hw1 hz1 hf1 hbx a1 a2 a3 b1 b2 b3 hL h hk hok hn hpb hnep hfb hnef
  unfold strA andS at HA HB
  simp only[List.map_cons,List.map_nil]at HA HB
  go_enter Tryz.func293,Tryz.ntmps293
  go_wp2_with fail
  go_region_held2 (fun W'=>W'.cell? ⟨pb,0,none⟩=some (.pointer (some ⟨C.P,0,none⟩))∧W'.cell? ⟨fb,0,none⟩=some (.func (.func 291) #[] #[]))
    (first
      |(refine⟨?_,?_⟩<;>with_reducible assumption)
      |(with_reducible refine⟨(Fr.cell (T:=fun b=>b=w.heap.size) (w:=w7) (Fr.own (Fr.own (Fr.own (Fr.own (Fr.refl _ _) _ _) _ _) _ _) _ _) hpl7 hpr).trans hp7,(Fr.cell (T:=fun b=>b=w.heap.size) (w:=w7) (Fr.own (Fr.own (Fr.own (Fr.own (Fr.refl _ _) _ _) _ _) _ _) _ _) hfl7 hfr).trans hf7⟩)
      | (refine⟨(Fr.cell (T:=NoT) (w:=w) ?_ hpl id).trans hp0,(Fr.cell (T:=NoT) (w:=w) ?_ hfl id).trans hf0⟩<;>
         repeat(first|exact Fr.refl _ _|refine Fr.alloc ?_ _|refine Fr.drew ?_)))
    (first
      | (go_at_call 291
         refine(join_any _ _).mono ?_
         rintro _ wa ⟨rfl,rfl⟩)
      | (go_at_call 294
         first
           |(with_reducible refine HA.out.mono ?_)
           |(with_reducible refine HB.out.mono ?_)
         rintro _ w7 ⟨A,c,B,q,rfl,hb7,⟨⟨hp7,hpl7⟩,⟨hf7,hfl7⟩⟩,HE⟩
         have q0:=hb7.cell 0
         have q1:=hb7.cell 1
         have q2:=hb7.cell 2
         have q3:=hb7.cell 3
         have g0:=hb7.frozen 0
         have g1:=hb7.frozen 1
         have g2:=hb7.frozen 2
         have g3:=hb7.frozen 3
         have hlt7:=hb7.lt
         simp only[getsL]at q0 q1 q2 q3
         clear hb7))
  all_goals
    go_wp2_with fail
    exact bodyPost_ret (v:=cdV X.k A X.args.len c B X.of_.len q X.at_) (by simp[results,Tryz.results293,go_sem,cdV,q0,q1,q2,q3,hlt7]) rfl (HE.out _ rfl)
theorem cond_ok (C:Pcx) (l:List Tk) (d:Nat) (w:World) (X:Cn) (Rr:List Tk) (hok:cmpQ l= .ok X Rr) (ha:isP andS Rr < 0) (hn:isP orS Rr < 0) (hk:C.Ok) (h:PaAt C w l d):
    Calls Tryz.prog 290 #[.pointer (some ⟨C.P,0,none⟩)] w (CdK C d X Rr w):=by
  have hmf:= @makeF Tryz.prog
  have hL:=h.lts
  obtain⟨w1,hw1⟩:∃w1,w1=((w.alloc (.cells #[.pointer (some ⟨C.P,0,none⟩)] 124)).alloc (.cells #[.int .u8 0,.slice none 0 0,.slice none 0 0,.int .i64 0] 199)).alloc (.cells #[.func (.func 291) #[] #[]] 371):=⟨_,rfl⟩
  have hz1:w1.heap.size=w.heap.size+3:=by rw[hw1];simp
  have hf1:Fr NoT w w1:=by rw[hw1];exact(((Fr.refl _ _).alloc _).alloc _).alloc _
  have hpx:Bk w1 w.heap.size 124 #[.pointer (some ⟨C.P,0,none⟩)]:=by rw[hw1];exact((Bk.new _ _ _).alloc _).alloc _
  have hbx:Bk w1 (w.heap.size+1) 199 #[.int .u8 0,.slice none 0 0,.slice none 0 0,.int .i64 0]:=by rw[hw1];exact(Bk.new_at _ _ _ (by simp)).alloc _
  have hfx:Bk w1 (w.heap.size+1+1) 371 #[.func (.func 291) #[] #[]]:=by rw[hw1];exact Bk.new_at _ _ _ (by simp)
  have hp0:=hpx.cell 0
  have hpl:=hpx.lt
  have hf0:=hfx.cell 0
  have hfl:=hfx.lt
  simp only[List.getElem?_toArray,List.getElem?_cons_zero]at hp0 hf0
  obtain⟨a1,a2,a3⟩:=ordA w1 #[.int .u8 11] (strA orS) _ rfl
  obtain⟨b1,b2,b3⟩:=ordB w1 #[.int .u8 11] (strA orS) _ rfl
  rw[hz1]at a1 a2 b1 b2
  have key:∀(W:World) (F:Value) (b:Nat),Fr NoT w1 W→Bk W b 9 (strA orS)→w.heap.size < b→Calls Tryz.prog 294 #[.pointer (some ⟨C.P,0,none⟩),.func (.func 293) #[] #[.pointer (some ⟨w.heap.size,0,none⟩),.pointer (some ⟨w.heap.size+1+1,0,none⟩)],F,.slice (some ⟨b,0,none⟩) 1 1] W (BoxC C d X Rr w (w.heap.size+1) fun W'=>(W'.cell? ⟨w.heap.size,0,none⟩=some (.pointer (some ⟨C.P,0,none⟩))∧w.heap.size < W'.heap.size)∧(W'.cell? ⟨w.heap.size+1+1,0,none⟩=some (.func (.func 291) #[] #[])∧w.heap.size+1+1 < W'.heap.size)):=fun W F b hf h2 h4=>
    boxC hL (hf1.trans hf) (by omega) (hbx.fr0 hf) (fun W' hW=>⟨⟨((hpx.fr0 hf).fr hW (fun e=>by have e:w.heap.size=C.P:=e;omega)).cell 0,((hpx.fr0 hf).fr hW (fun e=>by have e:w.heap.size=C.P:=e;omega)).lt⟩,⟨((hfx.fr0 hf).fr hW (fun e=>by have e:w.heap.size+1+1=C.P:=e;omega)).cell 0,((hfx.fr0 hf).fr hW (fun e=>by have e:w.heap.size+1+1=C.P:=e;omega)).lt⟩⟩) (chainC0_of C orS 293 _ _ F b 1 l d W X Rr hk (h.fr (hf1.trans hf) id id fun _ _=>id) rfl (by decide) h2 (by omega) hn (enters_of Tryz.func293 (by kernel_rfl) rfl) fun W' hfw=>by
      simpa using all_ok C l d w.heap.size (w.heap.size+1+1) W' X Rr hok ha hk (h.fr ((hf1.trans hf).trans hfw) id id fun _ _=>id) ((hpx.fr0 hf).fr0 hfw) (by omega) ((hfx.fr0 hf).fr0 hfw) (by omega))
  have HA:=Lib.hid (key _ (.func (.func 292) #[] #[.pointer (some ⟨w1.heap.size,0,none⟩)]) _ a3 a2 (by omega))
  have HB:=Lib.hid (key _ (.func (.func 292) #[] #[.pointer (some ⟨w1.heap.size+1,0,none⟩)]) _ b3 b2 (by omega))
  rw[hz1]at HA HB
  rw[hw1]at HA HB hp0 hpl hf0 hfl
  have hpr:¬w.heap.size=w.heap.size+1:=by omega
  have hfr:¬w.heap.size+1+1=w.heap.size+1:=by omega
  clear key hw1 hz1 hf1 hbx a1 a2 a3 b1 b2 b3 hL h hk hok hn ha hpx hfx
  unfold strA orS at HA HB
  simp only[List.map_cons,List.map_nil]at HA HB
  go_enter Tryz.func290,Tryz.ntmps290
  go_wp2_with fail
  go_region_held2 (fun W'=>W'.cell? ⟨w.heap.size,0,none⟩=some (.pointer (some ⟨C.P,0,none⟩))∧W'.cell? ⟨w.heap.size+1+1,0,none⟩=some (.func (.func 291) #[] #[]))
    (first
      |(refine⟨?_,?_⟩<;>with_reducible assumption)
      |(with_reducible refine⟨(Fr.cell (T:=fun b=>b=w.heap.size+1) (w:=w7) (Fr.own (Fr.own (Fr.own (Fr.own (Fr.refl _ _) _ _) _ _) _ _) _ _) hpl7 hpr).trans hp7,(Fr.cell (T:=fun b=>b=w.heap.size+1) (w:=w7) (Fr.own (Fr.own (Fr.own (Fr.own (Fr.refl _ _) _ _) _ _) _ _) _ _) hfl7 hfr).trans hf7⟩)
      | (refine⟨(Fr.cell (T:=NoT) (w:=_) ?_ hpl id).trans hp0,(Fr.cell (T:=NoT) (w:=_) ?_ hfl id).trans hf0⟩<;>
         repeat(first|exact Fr.refl _ _|refine Fr.alloc ?_ _|refine Fr.drew ?_)))
    (first
      | (go_at_call 291
         refine(join_any _ _).mono ?_
         rintro _ wa ⟨rfl,rfl⟩)
      | (go_at_call 294
         first
           |(with_reducible refine HA.out.mono ?_)
           |(with_reducible refine HB.out.mono ?_)
         rintro _ w7 ⟨A,c,B,q,rfl,hb7,⟨⟨hp7,hpl7⟩,⟨hf7,hfl7⟩⟩,HE⟩
         have q0:=hb7.cell 0
         have q1:=hb7.cell 1
         have q2:=hb7.cell 2
         have q3:=hb7.cell 3
         have g0:=hb7.frozen 0
         have g1:=hb7.frozen 1
         have g2:=hb7.frozen 2
         have g3:=hb7.frozen 3
         have hlt7:=hb7.lt
         simp only[getsL]at q0 q1 q2 q3
         clear hb7))
  all_goals
    go_wp2_with fail
    exact bodyPost_ret (v:=cdV X.k A X.args.len c B X.of_.len q X.at_) (by simp[results,Tryz.results290,go_sem,cdV,q0,q1,q2,q3,hlt7]) rfl (HE.out _ rfl)
theorem condQ_ok {l r:List Tk} {c:Cn} (h:condQ l= .ok c r):cmpQ l= .ok c r∧isP andS r < 0∧isP orS r < 0:=by
  obtain⟨x,q,h1,h2⟩:=PR.then_ok h
  split at h2
  · rename_i h3
    simp only[PR.ok.injEq]at h2
    obtain⟨rfl,rfl⟩:=h2
    exact⟨h1,h3⟩
  · simp at h2
end Go.Proofs.YtobegfbdedgmpaaGreatDoor
