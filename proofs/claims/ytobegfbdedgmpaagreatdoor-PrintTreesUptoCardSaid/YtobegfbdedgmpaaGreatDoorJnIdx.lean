/-
  parse: what is in parentheses, or in brackets; index.
-/
import Derived.Test.YtobegfbdedgmpaaGreatDoorJnPaC
set_option linter.unusedVariables false
set_option linter.unusedSimpArgs false
set_option maxHeartbeats 1600000
set_option maxRecDepth 100000
namespace Go.Proofs.YtobegfbdedgmpaaGreatDoor
open Go.RowKit Go.Shelf

def PT (C:Pcx) (rb:Nat):Nat→Prop:=fun b=>b=C.P∨b=rb
def ResAt (rb L:Nat) (w:World) (x:Ex):Prop:=∃A c,Bk w rb 195 #[.int .u8 x.k,.string x.nm,.int .i64 x.n,.slice A x.args.len c,.int .i64 x.at_]∧ExV w L (exV x.k x.nm x.n A x.args.len c x.at_) x
def ParP (C:Pcx) (rb d:Nat) (r:PR Ex) (W:World) (e:Ending) (w':World):Prop:=
 match r with
 | .err c a=>e=wrongE c a∧Fr (PT C rb) W w'
 | .ok x l=>e= .returned (.tuple #[])∧ResAt rb W.heap.size w' x∧PaAt C w' l d∧Fr (PT C rb) W w'
theorem PT.l {C:Pcx} {rb:Nat} {W w':World} (h:Fr C.T W w'):Fr (PT C rb) W w':=h.mono fun i _ h=>Or.inl h
theorem bk5 {w:World} {rb:Nat} {a b c d e:Value} {A B D E F:Value} (h:Bk w rb 195 #[a,b,c,d,e]):
  Bk (((((w.setCell ⟨rb,0,none⟩ A).setCell ⟨rb,1,none⟩ B).setCell ⟨rb,2,none⟩ D).setCell ⟨rb,3,none⟩ E).setCell ⟨rb,4,none⟩ F) rb 195 #[A,B,D,E,F]:=by
 have:=((((h.set_ 0 A).set_ 1 B).set_ 2 D).set_ 3 E).set_ 4 F
 simpa using this
def endP (s:List UInt8) (n:Nat) (l:List Tk):PR Ex:=(exprP n l).then fun x r=>(takeP s r).then fun _ r=> .ok x r

theorem paren_any (C:Pcx) (n:Nat) (hs:SignC C n) (l:List Tk) (d pb rb:Nat) (w:World) (hdn:d+n=24) (hk:C.Ok) (h:PaAt C w l d) (hpb:Bk w pb 124 #[.pointer (some ⟨C.P,0,none⟩)]) (hne:pb≠C.P)
  (hrb:Bk w rb 195 #[.int .u8 0,.string ⟨#[]⟩,.int .i64 0,.slice none 0 0,.int .i64 0]) (hnr:rb≠C.P) (hrT:rb≠C.TB) (hr0:C.W0.heap.size≤rb) (hpr:pb≠rb):
  Calls Tryz.prog 286 #[.pointer (some ⟨pb,0,none⟩),.pointer (some ⟨rb,0,none⟩)] w (ParP C rb d (endP [41] n l) w):=by
 have hp0:=hpb.cell 0
 simp only[List.getElem?_toArray,List.getElem?_cons_zero]at hp0
 have HE:=Lib.hid (expr_any C n hs l d w hdn hk h)
 obtain⟨R,hR⟩:∃R,R=endP [41] n l:=⟨_,rfl⟩
 rw[←hR]
 have HR:=Lib.hid hR
 have HPB:=Lib.hid hpb
 have HRB:=Lib.hid hrb
 have HK:=Lib.hid hk
 have HL:=Lib.hid h.lts
 clear hR hpb hrb hs h hk
 go_enter Tryz.func286,Tryz.ntmps286
 go_wp2_with fail
 refine HE.out.mono ?_
 intro e w7 hE
 rcases hE.ways with⟨x,r,A,c,hx,rfl,hv,hp,hf⟩|⟨c,a,hx,rfl,hf⟩
 rotate_left
 ·go_wp2_with fail
  exact⟨rfl,by rw[HR.out,endP,hx];exact⟨rfl,PT.l hf⟩⟩
 have hrl:=HRB.out.lt
 have hb7:=HRB.out.fr hf hnr
 have q0:=hb7.cell 0
 have q1:=hb7.cell 1
 have q2:=hb7.cell 2
 have q3:=hb7.cell 3
 have q4:=hb7.cell 4
 have g0:=hb7.frozen 0
 have g1:=hb7.frozen 1
 have g2:=hb7.frozen 2
 have g3:=hb7.frozen 3
 have g4:=hb7.frozen 4
 have hp7:=(HPB.out.fr hf hne).cell 0
 simp only[getsL]at q0 q1 q2 q3 q4 hp7
 obtain⟨w8,hw8⟩:∃w8,w8=((((w7.setCell ⟨rb,0,none⟩ (.int .u8 x.k)).setCell ⟨rb,1,none⟩ (.string x.nm)).setCell ⟨rb,2,none⟩ (.int .i64 x.n)).setCell ⟨rb,3,none⟩ (.slice A x.args.len c)).setCell ⟨rb,4,none⟩ (.int .i64 x.at_):=⟨_,rfl⟩
 have hf8:Fr (fun b=>b=rb) w7 w8:=by rw[hw8];exact Fr.own (Fr.own (Fr.own (Fr.own (Fr.own (Fr.refl _ _) _ _) _ _) _ _) _ _) _ _
 have hbk8:Bk w8 rb 195 #[.int .u8 x.k,.string x.nm,.int .i64 x.n,.slice A x.args.len c,.int .i64 x.at_]:=by rw[hw8];exact bk5 hb7
 have hv8:ExV w8 w.heap.size (exV x.k x.nm x.n A x.args.len c x.at_) x:=ExV.fr hv hf8 fun b h1 h2 e=>by
  have e:b=rb:=e
  omega
 have hp8:PaAt C w8 r d:=hp.fr hf8 (fun e=>hnr (by have e:C.P=rb:=e;exact e.symm)) (fun e=>hrT (by have e:C.TB=rb:=e;exact e.symm)) (fun i hi e=>by have e:i=rb:=e;omega)
 have hF8:Fr (PT C rb) w w8:=(PT.l hf).trans (hf8.mono fun i _ h=>Or.inr h)
 have hpc8:w8.cell? ⟨pb,0,none⟩=some (.pointer (some ⟨C.P,0,none⟩)):=(hf8.cell (p:=⟨pb,0,none⟩) (HPB.out.fr hf hne).lt hpr).trans hp7
 have hP9:=hp8.alloc (.cells #[.string ⟨#[41]⟩] 9)
 have HX:=Lib.hid hx
 have HBK:=Lib.hid hbk8
 have HV:=Lib.hid hv8
 have HF:=Lib.hid hF8
 have HP:=Lib.hid hP9
 have HW:=Lib.hid hw8
 have hz:w8.heap.size=w7.heap.size:=by rw[hw8];simp
 rw[hw8]at hpc8
 cases hm:mayB [41] r
 ·have ht:=take_no C [41] r d w8.heap.size _ hP9 hm (by simp)
  unfold ErrP wrongE pP at ht
  rw[hw8]at ht
  simp only[World.size_setCell]at ht
  have HT:=Lib.hid ht
  clear hx hbk8 hv8 hp8 hF8 hP9 hv hp hf hf8 hb7 hw8 ht hz
  go_wp2_with fail
  refine HT.out.mono ?_
  rintro _ w10 ⟨rfl,hf10⟩
  go_wp2_with fail
  refine⟨rfl,?_⟩
  rw[HR.out,endP,HX.out]
  simp only[PR.then,takeP,hm]
  refine⟨rfl,?_⟩
  rw[←HW.out]at hf10
  exact(HF.out.alloc _).trans (PT.l hf10)
 ·have ht:=take_yes C [41] r d w8.heap.size _ HK.out hP9 (by decide) hm (by simp)
  unfold DoneP pP at ht
  rw[hw8]at ht
  simp only[World.size_setCell]at ht
  have HT:=Lib.hid ht
  clear hx hbk8 hv8 hp8 hF8 hP9 hv hp hf hf8 hb7 hw8 ht hz
  go_wp2_with fail
  refine HT.out.mono ?_
  rintro _ w10 ⟨rfl,hp10,hf10⟩
  have HP10:=Lib.hid hp10
  rw[←HW.out]at hf10
  have HF10:=Lib.hid hf10
  clear hp10 hf10
  go_wp2_with fail
  go_end0
  rw[HR.out,endP,HX.out]
  simp only[PR.then,takeP,hm]
  have hfz:Fr C.T w8 w10:=((Fr.refl C.T w8).alloc _).trans HF10.out
  exact⟨rfl,⟨A,c,HBK.out.fr hfz hnr,HV.out.fr hfz fun b h1 h2 e=>by have e:b=C.P:=e;have:=HL.out.1;omega⟩,HP10.out,HF.out.trans (PT.l hfz)⟩
theorem brack_any (C:Pcx) (n:Nat) (hs:SignC C n) (l:List Tk) (d pb rb:Nat) (w:World) (hdn:d+n=24) (hk:C.Ok) (h:PaAt C w l d) (hpb:Bk w pb 124 #[.pointer (some ⟨C.P,0,none⟩)]) (hne:pb≠C.P)
  (hrb:Bk w rb 195 #[.int .u8 0,.string ⟨#[]⟩,.int .i64 0,.slice none 0 0,.int .i64 0]) (hnr:rb≠C.P) (hrT:rb≠C.TB) (hr0:C.W0.heap.size≤rb) (hpr:pb≠rb):
  Calls Tryz.prog 270 #[.pointer (some ⟨pb,0,none⟩),.pointer (some ⟨rb,0,none⟩)] w (ParP C rb d (endP [93] n l) w):=by
 have hp0:=hpb.cell 0
 simp only[List.getElem?_toArray,List.getElem?_cons_zero]at hp0
 have HE:=Lib.hid (expr_any C n hs l d w hdn hk h)
 obtain⟨R,hR⟩:∃R,R=endP [93] n l:=⟨_,rfl⟩
 rw[←hR]
 have HR:=Lib.hid hR
 have HPB:=Lib.hid hpb
 have HRB:=Lib.hid hrb
 have HK:=Lib.hid hk
 have HL:=Lib.hid h.lts
 clear hR hpb hrb hs h hk
 go_enter Tryz.func270,Tryz.ntmps270
 go_wp2_with fail
 refine HE.out.mono ?_
 intro e w7 hE
 rcases hE.ways with⟨x,r,A,c,hx,rfl,hv,hp,hf⟩|⟨c,a,hx,rfl,hf⟩
 rotate_left
 ·go_wp2_with fail
  exact⟨rfl,by rw[HR.out,endP,hx];exact⟨rfl,PT.l hf⟩⟩
 have hrl:=HRB.out.lt
 have hb7:=HRB.out.fr hf hnr
 have q0:=hb7.cell 0
 have q1:=hb7.cell 1
 have q2:=hb7.cell 2
 have q3:=hb7.cell 3
 have q4:=hb7.cell 4
 have g0:=hb7.frozen 0
 have g1:=hb7.frozen 1
 have g2:=hb7.frozen 2
 have g3:=hb7.frozen 3
 have g4:=hb7.frozen 4
 have hp7:=(HPB.out.fr hf hne).cell 0
 simp only[getsL]at q0 q1 q2 q3 q4 hp7
 obtain⟨w8,hw8⟩:∃w8,w8=((((w7.setCell ⟨rb,0,none⟩ (.int .u8 x.k)).setCell ⟨rb,1,none⟩ (.string x.nm)).setCell ⟨rb,2,none⟩ (.int .i64 x.n)).setCell ⟨rb,3,none⟩ (.slice A x.args.len c)).setCell ⟨rb,4,none⟩ (.int .i64 x.at_):=⟨_,rfl⟩
 have hf8:Fr (fun b=>b=rb) w7 w8:=by rw[hw8];exact Fr.own (Fr.own (Fr.own (Fr.own (Fr.own (Fr.refl _ _) _ _) _ _) _ _) _ _) _ _
 have hbk8:Bk w8 rb 195 #[.int .u8 x.k,.string x.nm,.int .i64 x.n,.slice A x.args.len c,.int .i64 x.at_]:=by rw[hw8];exact bk5 hb7
 have hv8:ExV w8 w.heap.size (exV x.k x.nm x.n A x.args.len c x.at_) x:=ExV.fr hv hf8 fun b h1 h2 e=>by
  have e:b=rb:=e
  omega
 have hp8:PaAt C w8 r d:=hp.fr hf8 (fun e=>hnr (by have e:C.P=rb:=e;exact e.symm)) (fun e=>hrT (by have e:C.TB=rb:=e;exact e.symm)) (fun i hi e=>by have e:i=rb:=e;omega)
 have hF8:Fr (PT C rb) w w8:=(PT.l hf).trans (hf8.mono fun i _ h=>Or.inr h)
 have hpc8:w8.cell? ⟨pb,0,none⟩=some (.pointer (some ⟨C.P,0,none⟩)):=(hf8.cell (p:=⟨pb,0,none⟩) (HPB.out.fr hf hne).lt hpr).trans hp7
 have hP9:=hp8.alloc (.cells #[.string ⟨#[93]⟩] 9)
 have HX:=Lib.hid hx
 have HBK:=Lib.hid hbk8
 have HV:=Lib.hid hv8
 have HF:=Lib.hid hF8
 have HP:=Lib.hid hP9
 have HW:=Lib.hid hw8
 have hz:w8.heap.size=w7.heap.size:=by rw[hw8];simp
 rw[hw8]at hpc8
 cases hm:mayB [93] r
 ·have ht:=take_no C [93] r d w8.heap.size _ hP9 hm (by simp)
  unfold ErrP wrongE pP at ht
  rw[hw8]at ht
  simp only[World.size_setCell]at ht
  have HT:=Lib.hid ht
  clear hx hbk8 hv8 hp8 hF8 hP9 hv hp hf hf8 hb7 hw8 ht hz
  go_wp2_with fail
  refine HT.out.mono ?_
  rintro _ w10 ⟨rfl,hf10⟩
  go_wp2_with fail
  refine⟨rfl,?_⟩
  rw[HR.out,endP,HX.out]
  simp only[PR.then,takeP,hm]
  refine⟨rfl,?_⟩
  rw[←HW.out]at hf10
  exact(HF.out.alloc _).trans (PT.l hf10)
 ·have ht:=take_yes C [93] r d w8.heap.size _ HK.out hP9 (by decide) hm (by simp)
  unfold DoneP pP at ht
  rw[hw8]at ht
  simp only[World.size_setCell]at ht
  have HT:=Lib.hid ht
  clear hx hbk8 hv8 hp8 hF8 hP9 hv hp hf hf8 hb7 hw8 ht hz
  go_wp2_with fail
  refine HT.out.mono ?_
  rintro _ w10 ⟨rfl,hp10,hf10⟩
  have HP10:=Lib.hid hp10
  rw[←HW.out]at hf10
  have HF10:=Lib.hid hf10
  clear hp10 hf10
  go_wp2_with fail
  go_end0
  rw[HR.out,endP,HX.out]
  simp only[PR.then,takeP,hm]
  have hfz:Fr C.T w8 w10:=((Fr.refl C.T w8).alloc _).trans HF10.out
  exact⟨rfl,⟨A,c,HBK.out.fr hfz hnr,HV.out.fr hfz fun b h1 h2 e=>by have e:b=C.P:=e;have:=HL.out.1;omega⟩,HP10.out,HF.out.trans (PT.l hfz)⟩
theorem ResAt.fr {C:Pcx} {rb L:Nat} {w w':World} {x:Ex} (h:ResAt rb L w x) (hf:Fr C.T w w') (h1:rb≠C.P) (h2:C.P < L):ResAt rb L w' x:=by
 obtain⟨A,c,hb,hv⟩:=h
 exact⟨A,c,hb.fr hf h1,hv.fr hf fun b h3 _ e=>by have e:b=C.P:=e;omega⟩
theorem ResAt.low {rb L L':Nat} {w:World} {x:Ex} (h:ResAt rb L w x) (hl:L'≤L):ResAt rb L' w x:=by
 obtain⟨A,c,hb,hv⟩:=h
 exact⟨A,c,hb,hv.low hl⟩
theorem indexP_0 {l:List Tk} (hm:mayB [91] l=true):indexP 0 l= .err 91 (hdT l).at_ :=by unfold indexP withinP;rw[if_pos hm]
theorem indexP_no {n:Nat} {l:List Tk} (hm:mayB [91] l=false):indexP n l= .err 90 (hdT l).at_ :=by unfold indexP withinP;rw[if_neg (by rw[hm];decide)]
theorem indexP_s {n:Nat} {l:List Tk} (hm:mayB [91] l=true):indexP (n+1) l=endP [93] n l.tail:=by unfold indexP withinP;rw[if_pos hm];rfl

theorem index_any (C:Pcx) (n:Nat) (hs:∀m,n=m+1→SignC C m) (l:List Tk) (d:Nat) (w:World) (hdn:d+n=24) (hk:C.Ok) (h:PaAt C w l d):
  Calls Tryz.prog 240 #[.pointer (some ⟨C.P,0,none⟩)] w (ExP C d (indexP n l) w):=by
 have hmf:= @makeF Tryz.prog
 have hL:=h.lts
 obtain⟨w1,hw1⟩:∃w1,w1=(w.alloc (.cells #[.pointer (some ⟨C.P,0,none⟩)] 124)).alloc (.cells #[.int .u8 0,.string ⟨#[]⟩,.int .i64 0,.slice none 0 0,.int .i64 0] 195):=⟨_,rfl⟩
 have hf1:Fr NoT w w1:=by rw[hw1];exact((Fr.refl _ _).alloc _).alloc _
 have hz1:w1.heap.size=w.heap.size+2:=by rw[hw1];simp
 have hpx:Bk w1 w.heap.size 124 #[.pointer (some ⟨C.P,0,none⟩)]:=by rw[hw1];exact(Bk.new _ _ _).alloc _
 have hbx:Bk w1 (w.heap.size+1) 195 #[.int .u8 0,.string ⟨#[]⟩,.int .i64 0,.slice none 0 0,.int .i64 0]:=by rw[hw1];exact Bk.new_at _ _ _ (by simp)
 have h1:=h.fr hf1 id id fun _ _=>id
 have HW1:=Lib.hid hw1
 have hent:=enters_of Tryz.func270 (by kernel_rfl) rfl
 cases hm:mayB [91] l
 ·have hw:=within_no C [91] (.func (.func 270) #[] #[.pointer (some ⟨w.heap.size,0,none⟩),.pointer (some ⟨w.heap.size+1,0,none⟩)]) l d w1 h1 hm
  rw[indexP_no hm]
  rw[hw1]at hw
  unfold ErrP wrongE pP at hw
  have HW:=Lib.hid hw
  have HF1:=Lib.hid hf1
  clear hw hw1 hf1 hz1 hpx hbx h1 h hs hk hent hm
  go_enter Tryz.func240,Tryz.ntmps240
  go_wp2_with fail
  refine HW.out.mono ?_
  rintro _ w2 ⟨rfl,hf⟩
  go_wp2_with fail
  rw[←HW1.out]at hf
  exact⟨rfl,rfl,HF1.out.any.trans hf⟩
 ·match n,hs,hdn with
  |0,hs,hdn=>
   obtain rfl:d=24:=by omega
   have hw:=within_deep C [91] (.func (.func 270) #[] #[.pointer (some ⟨w.heap.size,0,none⟩),.pointer (some ⟨w.heap.size+1,0,none⟩)]) l w1 h1 hm
   rw[indexP_0 hm]
   rw[hw1]at hw
   unfold ErrP wrongE pP at hw
   have HW:=Lib.hid hw
   have HF1:=Lib.hid hf1
   clear hw hw1 hf1 hz1 hpx hbx h1 h hs hk hent hm
   go_enter Tryz.func240,Tryz.ntmps240
   go_wp2_with fail
   refine HW.out.mono ?_
   rintro _ w2 ⟨rfl,hf⟩
   go_wp2_with fail
   rw[←HW1.out]at hf
   exact⟨rfl,rfl,HF1.out.any.trans hf⟩
  |n+1,hs,hdn=>
   have hsn:=hs n rfl
   rw[indexP_s hm]
   have hbr:∀W,PaAt C W l.tail (d+1)→Fr C.T w1 W→Calls Tryz.prog 270 #[.pointer (some ⟨w.heap.size,0,none⟩),.pointer (some ⟨w.heap.size+1,0,none⟩)] W (ParP C (w.heap.size+1) (d+1) (endP [93] n l.tail) W):=fun W hP hF=>
    brack_any C n hsn l.tail (d+1) w.heap.size (w.heap.size+1) W (by omega) hk hP (hpx.fr hF (fun e=>by have e:w.heap.size=C.P:=e;omega)) (by omega) (hbx.fr hF (fun e=>by have e:w.heap.size+1=C.P:=e;omega)) (by omega) (by omega) (by omega) (by omega)
   cases hr:endP [93] n l.tail with
   |err c a=>
    rw[hr]at hbr
    have hw:=within_bad C [91] 270 #[.pointer (some ⟨w.heap.size,0,none⟩),.pointer (some ⟨w.heap.size+1,0,none⟩)] l d w1 c a (fun w2=>Fr (PT C (w.heap.size+1)) w1 w2) hk h1 (by decide) hm (by omega) hent (fun W hP hF=>(hbr W hP hF).mono fun e w2 hE=>⟨hE.1,(PT.l hF).trans hE.2⟩)
    rw[hw1]at hw
    unfold wrongE pP at hw
    have HW:=Lib.hid hw
    have HF1:=Lib.hid hf1
    clear hw hw1 hf1 hz1 hpx hbx h1 h hs hk hent hm hbr hsn
    go_enter Tryz.func240,Tryz.ntmps240
    go_wp2_with fail
    refine HW.out.mono ?_
    rintro _ w2 ⟨rfl,hf⟩
    go_wp2_with fail
    rw[←HW1.out]at hf
    refine⟨rfl,rfl,(HF1.out.any.trans hf).mono fun i hi e=>?_⟩
    rcases e with e|e
    ·exact e
    ·omega
   |ok x r=>
    rw[hr]at hbr
    have hw:=within_ok C [91] 270 #[.pointer (some ⟨w.heap.size,0,none⟩),.pointer (some ⟨w.heap.size+1,0,none⟩)] l d w1 (fun w2=>ResAt (w.heap.size+1) (w.heap.size+2) w2 x∧PaAt C w2 r (d+1)∧Fr (PT C (w.heap.size+1)) w1 w2) hk h1 (by decide) hm (by omega) hent (fun w2 h2=>⟨r,h2.2.1⟩)
     (fun W hP hF=>(hbr W hP hF).mono fun e w2 hE=>⟨hE.1,hE.2.1.low (by rw[←hz1];exact hF.size),hE.2.2.1,(PT.l hF).trans hE.2.2.2⟩)
    rw[hw1]at hw
    unfold WithinP pP at hw
    have HW:=Lib.hid hw
    have HF1:=Lib.hid hf1
    have HK:=Lib.hid hk
    have HL:=Lib.hid hL
    clear hw hw1 hf1 hz1 hpx hbx h1 h hs hk hent hm hbr hsn hL
    go_enter Tryz.func240,Tryz.ntmps240
    go_wp2_with fail
    refine HW.out.mono ?_
    rintro _ w3 ⟨rfl,w2,⟨hra,hpa,hf⟩,rfl⟩
    have hfs:Fr C.T w2 (w2.setCell ⟨C.P,1,none⟩ (.int .i64 d)):=(Fr.refl C.T w2).setCell (p:=⟨C.P,1,none⟩) (Or.inl C.Tp) _
    have hra3:=hra.fr hfs (by have:=HL.out;omega) (by have:=HL.out;omega)
    have hpa3:=hpa.deep HK.out (d':=d) (v:=(d:Int)) rfl
    obtain⟨A,c,hb3,hv3⟩:=hra3
    have q0:=hb3.cell 0
    have q1:=hb3.cell 1
    have q2:=hb3.cell 2
    have q3:=hb3.cell 3
    have q4:=hb3.cell 4
    simp only[getsL]at q0 q1 q2 q3 q4
    have HV:=Lib.hid hv3
    have HP:=Lib.hid hpa3
    rw[←HW1.out]at hf
    have HF:=Lib.hid (((HF1.out.any.trans hf).trans (PT.l hfs)).mono (T':=C.T) fun i hi e=>by
     rcases e with e|e
     ·exact e
     ·omega)
    clear hra hpa hf hfs hb3 hv3 hpa3
    go_wp2_with fail
    exact bodyPost_ret (v:=exV x.k x.nm x.n A x.args.len c x.at_) (by simp[results,Tryz.results240,go_sem,exV,q0,q1,q2,q3,q4]) rfl ⟨_,rfl,HV.out.low (by omega),HP.out,HF.out⟩

def minusP (n:Nat) (a:Int) (l:List Tk):PR Ex:=(signP n l).then fun x r=> .ok ⟨4,noB,0,x.cons .nil,a⟩ r

theorem minus_fin {C:Pcx} {w w7:World} {rb d:Nat} {at_:Int} {x:Ex} {r:List Tk} {A:Option Addr} {c:Nat} {q0 q1 q2 q3 q4:Value} (hL:C.P < w.heap.size∧C.TB < w.heap.size∧C.W0.heap.size≤w.heap.size) (hat:in64 at_)
  (hnr:rb≠C.P) (hrT:rb≠C.TB) (hr0:C.W0.heap.size≤rb) (hb:Bk w7 rb 195 #[q0,q1,q2,q3,q4]) (hv:ExV w7 w.drew.heap.size (exV x.k x.nm x.n A x.args.len c x.at_) x) (hp:PaAt C w7 r d) (hf:Fr C.T w w7) (w9:World)
  (h9:w9=((((((w7.setCell ⟨rb,0,none⟩ (.int .u8 4)).setCell ⟨rb,1,none⟩ (.string ⟨#[]⟩)).setCell ⟨rb,2,none⟩ (.int .i64 0)).setCell ⟨rb,3,none⟩ (.slice (some ⟨w7.heap.size,0,none⟩) 1 1)).setCell ⟨rb,4,none⟩ (.int .i64 at_)).alloc (.cells #[.int .u8 x.k,.string x.nm,.int .i64 x.n,.slice A x.args.len c,.int .i64 x.at_] 195)))
  (hrw:rb < w.heap.size):
  ParP C rb d ((PR.ok x r).then fun x r=>PR.ok ⟨4,noB,0,x.cons .nil,at_⟩ r) w (.returned (.tuple #[])) w9:=by
 obtain⟨w8,hw8⟩:∃w8,w8=(((((w7.setCell ⟨rb,0,none⟩ (.int .u8 4)).setCell ⟨rb,1,none⟩ (.string ⟨#[]⟩)).setCell ⟨rb,2,none⟩ (.int .i64 0)).setCell ⟨rb,3,none⟩ (.slice (some ⟨w7.heap.size,0,none⟩) 1 1)).setCell ⟨rb,4,none⟩ (.int .i64 at_)):=⟨_,rfl⟩
 rw[←hw8]at h9
 have hf8:Fr (fun b=>b=rb) w7 w8:=by rw[hw8];exact Fr.own (Fr.own (Fr.own (Fr.own (Fr.own (Fr.refl _ _) _ _) _ _) _ _) _ _) _ _
 have hbk8:Bk w8 rb 195 #[.int .u8 4,.string ⟨#[]⟩,.int .i64 0,.slice (some ⟨w7.heap.size,0,none⟩) 1 1,.int .i64 at_]:=by rw[hw8];exact bk5 hb
 have hz:w8.heap.size=w7.heap.size:=by rw[hw8];simp
 have hf9:Fr (fun b=>b=rb) w7 w9:=by rw[h9];exact hf8.alloc _
 have hs7:=hf.size
 have hs9:w9.heap.size=w7.heap.size+1:=by rw[h9];simp[hz]
 obtain⟨x1,x2,x3,Ax,cx,ex,hsx⟩:=hv
 simp only[exV,Value.agg.injEq,Array.mk.injEq,List.cons.injEq,Value.slice.injEq,true_and,and_true]at ex
 obtain⟨rfl,rfl⟩:=ex
 refine⟨rfl,⟨some ⟨w7.heap.size,0,none⟩,1,by rw[h9];exact hbk8.alloc _,by show in8 4;unfold in8;omega,by show in64 0;unfold in64;omega,hat,_,_,rfl,Nat.le_refl 1,sl1,fun _=>⟨w7.heap.size,0,rfl,?_⟩⟩,?_,?_⟩
 ·refine exR_one (by rw[h9];exact Bk.new_at _ _ _ hz) ⟨hs7,by omega⟩ ⟨x1,x2,x3⟩ (hsx.imp fun _ _ h=>?_)
  refine ExR.more (fun b hb=>?_) (ExR.keep (hf9.same fun b hb=>⟨hb.2,fun e=>?_⟩) h)
  ·have h1:w.heap.size≤b:=hb.1
   have h2:=hb.2
   exact⟨h1,by omega⟩
  ·have h1:w.heap.size≤b:=hb.1
   omega
 ·exact hp.fr hf9 (fun e=>hnr (by have e:C.P=rb:=e;exact e.symm)) (fun e=>hrT (by have e:C.TB=rb:=e;exact e.symm)) (fun i hi e=>by have e:i=rb:=e;omega)
 ·exact(PT.l hf).trans (hf9.mono fun i _ h=>Or.inr h)
theorem minus_any (C:Pcx) (n:Nat) (hs:SignC C n) (l:List Tk) (d pb ab rb:Nat) (at_:Int) (w:World) (hat:in64 at_) (hdn:d+n=24) (hk:C.Ok) (h:PaAt C w l d) (hpb:Bk w pb 124 #[.pointer (some ⟨C.P,0,none⟩)]) (hne:pb≠C.P)
  (hab:Bk w ab 3 #[.int .i64 at_]) (hnea:ab≠C.P) (har:ab≠rb)
  (hrb:Bk w rb 195 #[.int .u8 0,.string ⟨#[]⟩,.int .i64 0,.slice none 0 0,.int .i64 0]) (hnr:rb≠C.P) (hrT:rb≠C.TB) (hr0:C.W0.heap.size≤rb) (hpr:pb≠rb):
  Calls Tryz.prog 285 #[.pointer (some ⟨pb,0,none⟩),.pointer (some ⟨ab,0,none⟩),.pointer (some ⟨rb,0,none⟩)] w (ParP C rb d (minusP n at_ l) w):=by
 have hp0:=hpb.cell 0
 have ha0:=hab.cell 0
 simp only[List.getElem?_toArray,List.getElem?_cons_zero]at hp0 ha0
 have hpl:=hpb.lt
 have hal:=hab.lt
 have hrl:=hrb.lt
 have HE:=Lib.hid (hs l d w.drew hdn (h.fr (T:=NoT) (Fr.drew (Fr.refl _ _)) id id fun _ _=>id))
 obtain⟨R,hR⟩:∃R,R=minusP n at_ l:=⟨_,rfl⟩
 rw[←hR]
 have HR:=Lib.hid hR
 have HPB:=Lib.hid hpb
 have HAB:=Lib.hid hab
 have HRB:=Lib.hid hrb
 have HK:=Lib.hid hk
 have HL:=Lib.hid h.lts
 have hpP:pb≠C.P:=hne
 have haP:ab≠C.P:=hnea
 clear hR hpb hab hrb hs h hk
 go_enter Tryz.func285,Tryz.ntmps285
 go_wp2_with fail
 go_region_held2 (fun W'=>W'.cell? ⟨pb,0,none⟩=some (.pointer (some ⟨C.P,0,none⟩))∧W'.cell? ⟨ab,0,none⟩=some (.int .i64 at_))
  (first
   |(refine⟨?_,?_⟩<;>with_reducible assumption)
   |(with_reducible refine⟨(Fr.cell (T:=fun b=>b=rb) (w:=w7) (Fr.alloc (Fr.own (Fr.own (Fr.own (Fr.own (Fr.own (Fr.refl _ _) _ _) _ _) _ _) _ _) _ _) _) hpl7 hpr).trans hp7,(Fr.cell (T:=fun b=>b=rb) (w:=w7) (Fr.alloc (Fr.own (Fr.own (Fr.own (Fr.own (Fr.own (Fr.refl _ _) _ _) _ _) _ _) _ _) _ _) _) hal7 har).trans ha7⟩)
   |(with_reducible refine⟨(Fr.cell (T:=NoT) (w:=w7) (Fr.alloc (Fr.refl _ _) _) hpl7 id).trans hp7,(Fr.cell (T:=NoT) (w:=w7) (Fr.alloc (Fr.refl _ _) _) hal7 id).trans ha7⟩)
   |(with_reducible refine⟨(Fr.cell (T:=NoT) (w:=w) (Fr.drew (Fr.refl _ _)) hpl id).trans hp0,(Fr.cell (T:=NoT) (w:=w) (Fr.drew (Fr.refl _ _)) hal id).trans ha0⟩))
  (first
   |(go_at_call 273
     with_reducible refine HE.out.mono ?_
     intro e w7 hE
     rcases hE.ways with⟨x,r,A,c,hx,rfl,hv,hp,hf⟩|⟨c,a,hx,rfl,hf⟩
     rotate_left
     ·exact⟨rfl,by rw[HR.out,minusP,hx];exact⟨rfl,PT.l ((Fr.drew (Fr.refl C.T w)).trans hf)⟩⟩
     have hfw:=(Fr.drew (Fr.refl C.T w)).trans hf
     have hb7:=HRB.out.fr hfw hnr
     have q0:=hb7.cell 0
     have q1:=hb7.cell 1
     have q2:=hb7.cell 2
     have q3:=hb7.cell 3
     have q4:=hb7.cell 4
     have g0:=hb7.frozen 0
     have g1:=hb7.frozen 1
     have g2:=hb7.frozen 2
     have g3:=hb7.frozen 3
     have g4:=hb7.frozen 4
     have hpb7:=HPB.out.fr hfw hpP
     have hab7:=HAB.out.fr hfw haP
     have hp7:=hpb7.cell 0
     have ha7:=hab7.cell 0
     have hpl7:=hpb7.lt
     have hal7:=hab7.lt
     have hrl7:=hb7.lt
     simp only[getsL]at q0 q1 q2 q3 q4 hp7 ha7
     have HX:=Lib.hid hx
     have HV:=Lib.hid hv
     have HP:=Lib.hid hp
     have HF:=Lib.hid hfw
     have HB:=Lib.hid hb7
     clear hx hv hp hf hfw hb7 hpb7 hab7))
 all_goals
  go_wp2_with fail
  go_end0
  rw[HR.out,minusP,HX.out]
  exact minus_fin HL.out hat hnr hrT hr0 HB.out HV.out HP.out HF.out _ rfl hrl
end Go.Proofs.YtobegfbdedgmpaaGreatDoor
