/-
  parse: what is in parentheses, or in brackets; index.
-/
import Derived.Test.YtfomomaomggpbaaGreatDoorJnPaC
set_option linter.unusedVariables false
set_option linter.unusedSimpArgs false
set_option maxHeartbeats 1600000
set_option maxRecDepth 100000
namespace Go.Proofs.YtfomomaomggpbaaGreatDoor
open Go.RowKit Go.Shelf

def PT (C:Pcx) (rb:Nat):Nat→Prop:=fun b=>b=C.P∨b=rb
def ResAt (rb L:Nat) (w:World) (x:Ex):Prop:=∃A c,Bk w rb 175 #[.int .u8 x.k,.string x.nm,.int .i64 x.n,.slice A x.args.len c,.int .i64 x.at_]∧ExV w L (exV x.k x.nm x.n A x.args.len c x.at_) x
def ParP (C:Pcx) (rb d:Nat) (r:PR Ex) (W:World) (e:Ending) (w':World):Prop:=
 match r with
 | .err c a=>e=wrongE c a∧Fr (PT C rb) W w'
 | .ok x l=>e= .returned (.tuple #[])∧ResAt rb W.heap.size w' x∧PaAt C w' l d∧Fr (PT C rb) W w'
theorem PT.l {C:Pcx} {rb:Nat} {W w':World} (h:Fr C.T W w'):Fr (PT C rb) W w':=h.mono fun i _ h=>Or.inl h
theorem bk5 {w:World} {rb:Nat} {a b c d e:Value} {A B D E F:Value} (h:Bk w rb 175 #[a,b,c,d,e]):
  Bk (((((w.setCell ⟨rb,0,none⟩ A).setCell ⟨rb,1,none⟩ B).setCell ⟨rb,2,none⟩ D).setCell ⟨rb,3,none⟩ E).setCell ⟨rb,4,none⟩ F) rb 175 #[A,B,D,E,F]:=by
 have:=((((h.set_ 0 A).set_ 1 B).set_ 2 D).set_ 3 E).set_ 4 F
 simpa using this
def endP (s:List UInt8) (n:Nat) (l:List Tk):PR Ex:=(exprP n l).then fun x r=>(takeP s r).then fun _ r=> .ok x r

theorem paren_any (C:Pcx) (n:Nat) (hs:SignC C n) (l:List Tk) (d pb rb:Nat) (w:World) (hdn:d+n=24) (hk:C.Ok) (h:PaAt C w l d) (hpb:Bk w pb 162 #[.pointer (some ⟨C.P,0,none⟩)]) (hne:pb≠C.P)
  (hrb:Bk w rb 175 #[.int .u8 0,.string ⟨#[]⟩,.int .i64 0,.slice none 0 0,.int .i64 0]) (hnr:rb≠C.P) (hrT:rb≠C.TB) (hr0:C.W0.heap.size≤rb) (hpr:pb≠rb):
  Calls Tryz.prog 304 #[.pointer (some ⟨pb,0,none⟩),.pointer (some ⟨rb,0,none⟩)] w (ParP C rb d (endP [41] n l) w):=by
 have hp0:=hpb.cell 0
 simp only[List.getElem?_toArray,List.getElem?_cons_zero]at hp0
 have HE:=hdq (expr_any C n hs l d w hdn hk h)
 obtain⟨R,hR⟩:=nmq (endP [41] n l)
 rw[←hR]
 have HR:=hdq hR
 have HPB:=hdq hpb
 have HRB:=hdq hrb
 have HK:=hdq hk
 have HL:=hdq h.lts
 clear hR hpb hrb hs h hk
 go_enter Tryz.func304,Tryz.ntmps304
 go_wp2_with fail
 refine HE.out.mono ?_
 intro e w7 hE
 rcases hE.ways with⟨x,r,A,c,hx,rfl,hv,hp,hf⟩|⟨c,a,hx,rfl,hf⟩
 rotate_left
 ·go_wp2_with fail
  exact⟨rfl,by rw[HR.out,endP,hx];exact⟨rfl,PT.l hf⟩⟩
 have hrl:=HRB.out.lt
 have hb7:=HRB.out.fr hf hnr
 have q0:=hb7.cell 0
 have q1:=hb7.cell 1
 have q2:=hb7.cell 2
 have q3:=hb7.cell 3
 have q4:=hb7.cell 4
 have g0:=hb7.frozen 0
 have g1:=hb7.frozen 1
 have g2:=hb7.frozen 2
 have g3:=hb7.frozen 3
 have g4:=hb7.frozen 4
 have hp7:=(HPB.out.fr hf hne).cell 0
 simp only[getsL]at q0 q1 q2 q3 q4 hp7
 obtain⟨w8,hw8⟩:=nmq (((((w7.setCell ⟨rb,0,none⟩ (.int .u8 x.k)).setCell ⟨rb,1,none⟩ (.string x.nm)).setCell ⟨rb,2,none⟩ (.int .i64 x.n)).setCell ⟨rb,3,none⟩ (.slice A x.args.len c)).setCell ⟨rb,4,none⟩ (.int .i64 x.at_))
 have hf8:Fr (fun b=>b=rb) w7 w8:=by rw[hw8];exact Fr.own (Fr.own (Fr.own (Fr.own (Fr.own (Fr.refl _ _) _ _) _ _) _ _) _ _) _ _
 have hbk8:Bk w8 rb 175 #[.int .u8 x.k,.string x.nm,.int .i64 x.n,.slice A x.args.len c,.int .i64 x.at_]:=by rw[hw8];exact bk5 hb7
 have hv8:ExV w8 w.heap.size (exV x.k x.nm x.n A x.args.len c x.at_) x:=ExV.fr hv hf8 fun b h1 h2 e=>by
  have e:b=rb:=e
  omega
 have hp8:PaAt C w8 r d:=hp.fr hf8 (fun e=>hnr (by have e:C.P=rb:=e;exact e.symm)) (fun e=>hrT (by have e:C.TB=rb:=e;exact e.symm)) (fun i hi e=>by have e:i=rb:=e;omega)
 have hF8:Fr (PT C rb) w w8:=(PT.l hf).trans (hf8.mono fun i _ h=>Or.inr h)
 have hpc8:w8.cell? ⟨pb,0,none⟩=some (.pointer (some ⟨C.P,0,none⟩)):=(hf8.cell (p:=⟨pb,0,none⟩) (HPB.out.fr hf hne).lt hpr).trans hp7
 have hP9:=hp8.alloc (.cells #[.string ⟨#[41]⟩] 9)
 have HX:=hdq hx
 have HBK:=hdq hbk8
 have HV:=hdq hv8
 have HF:=hdq hF8
 have HP:=hdq hP9
 have HW:=hdq hw8
 have hz:w8.heap.size=w7.heap.size:=by rw[hw8];simp
 rw[hw8]at hpc8
 cases hm:mayB [41] r
 ·have ht:=take_no C [41] r d w8.heap.size _ hP9 hm (by simp)
  unfold ErrP wrongE pP at ht
  rw[hw8]at ht
  simp only[World.size_setCell]at ht
  have HT:=hdq ht
  clear hx hbk8 hv8 hp8 hF8 hP9 hv hp hf hf8 hb7 hw8 ht hz
  go_wp2_with fail
  refine HT.out.mono ?_
  rintro _ w10 ⟨rfl,hf10⟩
  go_wp2_with fail
  refine⟨rfl,?_⟩
  rw[HR.out,endP,HX.out]
  simp only[PR.then,takeP,hm]
  refine⟨rfl,?_⟩
  rw[←HW.out]at hf10
  exact(HF.out.alloc _).trans (PT.l hf10)
 ·have ht:=take_yes C [41] r d w8.heap.size _ HK.out hP9 (by decide) hm (by simp)
  unfold DoneP pP at ht
  rw[hw8]at ht
  simp only[World.size_setCell]at ht
  have HT:=hdq ht
  clear hx hbk8 hv8 hp8 hF8 hP9 hv hp hf hf8 hb7 hw8 ht hz
  go_wp2_with fail
  refine HT.out.mono ?_
  rintro _ w10 ⟨rfl,hp10,hf10⟩
  have HP10:=hdq hp10
  rw[←HW.out]at hf10
  have HF10:=hdq hf10
  clear hp10 hf10
  go_wp2_with fail
  go_end0
  rw[HR.out,endP,HX.out]
  simp only[PR.then,takeP,hm]
  have hfz:Fr C.T w8 w10:=((Fr.refl C.T w8).alloc _).trans HF10.out
  exact⟨rfl,⟨A,c,HBK.out.fr hfz hnr,HV.out.fr hfz fun b h1 h2 e=>by have e:b=C.P:=e;have:=HL.out.1;omega⟩,HP10.out,HF.out.trans (PT.l hfz)⟩
theorem brack_any (C:Pcx) (n:Nat) (hs:SignC C n) (l:List Tk) (d pb rb:Nat) (w:World) (hdn:d+n=24) (hk:C.Ok) (h:PaAt C w l d) (hpb:Bk w pb 162 #[.pointer (some ⟨C.P,0,none⟩)]) (hne:pb≠C.P)
  (hrb:Bk w rb 175 #[.int .u8 0,.string ⟨#[]⟩,.int .i64 0,.slice none 0 0,.int .i64 0]) (hnr:rb≠C.P) (hrT:rb≠C.TB) (hr0:C.W0.heap.size≤rb) (hpr:pb≠rb):
  Calls Tryz.prog 283 #[.pointer (some ⟨pb,0,none⟩),.pointer (some ⟨rb,0,none⟩)] w (ParP C rb d (endP [93] n l) w):=by
 have hp0:=hpb.cell 0
 simp only[List.getElem?_toArray,List.getElem?_cons_zero]at hp0
 have HE:=hdq (expr_any C n hs l d w hdn hk h)
 obtain⟨R,hR⟩:=nmq (endP [93] n l)
 rw[←hR]
 have HR:=hdq hR
 have HPB:=hdq hpb
 have HRB:=hdq hrb
 have HK:=hdq hk
 have HL:=hdq h.lts
 clear hR hpb hrb hs h hk
 go_enter Tryz.func283,Tryz.ntmps283
 go_wp2_with fail
 refine HE.out.mono ?_
 intro e w7 hE
 rcases hE.ways with⟨x,r,A,c,hx,rfl,hv,hp,hf⟩|⟨c,a,hx,rfl,hf⟩
 rotate_left
 ·go_wp2_with fail
  exact⟨rfl,by rw[HR.out,endP,hx];exact⟨rfl,PT.l hf⟩⟩
 have hrl:=HRB.out.lt
 have hb7:=HRB.out.fr hf hnr
 have q0:=hb7.cell 0
 have q1:=hb7.cell 1
 have q2:=hb7.cell 2
 have q3:=hb7.cell 3
 have q4:=hb7.cell 4
 have g0:=hb7.frozen 0
 have g1:=hb7.frozen 1
 have g2:=hb7.frozen 2
 have g3:=hb7.frozen 3
 have g4:=hb7.frozen 4
 have hp7:=(HPB.out.fr hf hne).cell 0
 simp only[getsL]at q0 q1 q2 q3 q4 hp7
 obtain⟨w8,hw8⟩:=nmq (((((w7.setCell ⟨rb,0,none⟩ (.int .u8 x.k)).setCell ⟨rb,1,none⟩ (.string x.nm)).setCell ⟨rb,2,none⟩ (.int .i64 x.n)).setCell ⟨rb,3,none⟩ (.slice A x.args.len c)).setCell ⟨rb,4,none⟩ (.int .i64 x.at_))
 have hf8:Fr (fun b=>b=rb) w7 w8:=by rw[hw8];exact Fr.own (Fr.own (Fr.own (Fr.own (Fr.own (Fr.refl _ _) _ _) _ _) _ _) _ _) _ _
 have hbk8:Bk w8 rb 175 #[.int .u8 x.k,.string x.nm,.int .i64 x.n,.slice A x.args.len c,.int .i64 x.at_]:=by rw[hw8];exact bk5 hb7
 have hv8:ExV w8 w.heap.size (exV x.k x.nm x.n A x.args.len c x.at_) x:=ExV.fr hv hf8 fun b h1 h2 e=>by
  have e:b=rb:=e
  omega
 have hp8:PaAt C w8 r d:=hp.fr hf8 (fun e=>hnr (by have e:C.P=rb:=e;exact e.symm)) (fun e=>hrT (by have e:C.TB=rb:=e;exact e.symm)) (fun i hi e=>by have e:i=rb:=e;omega)
 have hF8:Fr (PT C rb) w w8:=(PT.l hf).trans (hf8.mono fun i _ h=>Or.inr h)
 have hpc8:w8.cell? ⟨pb,0,none⟩=some (.pointer (some ⟨C.P,0,none⟩)):=(hf8.cell (p:=⟨pb,0,none⟩) (HPB.out.fr hf hne).lt hpr).trans hp7
 have hP9:=hp8.alloc (.cells #[.string ⟨#[93]⟩] 9)
 have HX:=hdq hx
 have HBK:=hdq hbk8
 have HV:=hdq hv8
 have HF:=hdq hF8
 have HP:=hdq hP9
 have HW:=hdq hw8
 have hz:w8.heap.size=w7.heap.size:=by rw[hw8];simp
 rw[hw8]at hpc8
 cases hm:mayB [93] r
 ·have ht:=take_no C [93] r d w8.heap.size _ hP9 hm (by simp)
  unfold ErrP wrongE pP at ht
  rw[hw8]at ht
  simp only[World.size_setCell]at ht
  have HT:=hdq ht
  clear hx hbk8 hv8 hp8 hF8 hP9 hv hp hf hf8 hb7 hw8 ht hz
  go_wp2_with fail
  refine HT.out.mono ?_
  rintro _ w10 ⟨rfl,hf10⟩
  go_wp2_with fail
  refine⟨rfl,?_⟩
  rw[HR.out,endP,HX.out]
  simp only[PR.then,takeP,hm]
  refine⟨rfl,?_⟩
  rw[←HW.out]at hf10
  exact(HF.out.alloc _).trans (PT.l hf10)
 ·have ht:=take_yes C [93] r d w8.heap.size _ HK.out hP9 (by decide) hm (by simp)
  unfold DoneP pP at ht
  rw[hw8]at ht
  simp only[World.size_setCell]at ht
  have HT:=hdq ht
  clear hx hbk8 hv8 hp8 hF8 hP9 hv hp hf hf8 hb7 hw8 ht hz
  go_wp2_with fail
  refine HT.out.mono ?_
  rintro _ w10 ⟨rfl,hp10,hf10⟩
  have HP10:=hdq hp10
  rw[←HW.out]at hf10
  have HF10:=hdq hf10
  clear hp10 hf10
  go_wp2_with fail
  go_end0
  rw[HR.out,endP,HX.out]
  simp only[PR.then,takeP,hm]
  have hfz:Fr C.T w8 w10:=((Fr.refl C.T w8).alloc _).trans HF10.out
  exact⟨rfl,⟨A,c,HBK.out.fr hfz hnr,HV.out.fr hfz fun b h1 h2 e=>by have e:b=C.P:=e;have:=HL.out.1;omega⟩,HP10.out,HF.out.trans (PT.l hfz)⟩
theorem ResAt.fr {C:Pcx} {rb L:Nat} {w w':World} {x:Ex} (h:ResAt rb L w x) (hf:Fr C.T w w') (h1:rb≠C.P) (h2:C.P < L):ResAt rb L w' x:=by
 obtain⟨A,c,hb,hv⟩:=h
 exact⟨A,c,hb.fr hf h1,hv.fr hf fun b h3 _ e=>by have e:b=C.P:=e;omega⟩
theorem ResAt.low {rb L L':Nat} {w:World} {x:Ex} (h:ResAt rb L w x) (hl:L'≤L):ResAt rb L' w x:=by
 obtain⟨A,c,hb,hv⟩:=h
 exact⟨A,c,hb,hv.low hl⟩
theorem indexP_0 {l:List Tk} (hm:mayB [91] l=true):indexP 0 l= .err 91 (hdT l).at_ :=by unfold indexP withinP;rw[if_pos hm]
theorem indexP_no {n:Nat} {l:List Tk} (hm:mayB [91] l=false):indexP n l= .err 90 (hdT l).at_ :=by unfold indexP withinP;rw[if_neg (by rw[hm];decide)]
theorem indexP_s {n:Nat} {l:List Tk} (hm:mayB [91] l=true):indexP (n+1) l=endP [93] n l.tail:=by unfold indexP withinP;rw[if_pos hm];rfl

theorem index_any (C:Pcx) (n:Nat) (hs:∀m,n=m+1→SignC C m) (l:List Tk) (d:Nat) (w:World) (hdn:d+n=24) (hk:C.Ok) (h:PaAt C w l d):
  Calls Tryz.prog 246 #[.pointer (some ⟨C.P,0,none⟩)] w (ExP C d (indexP n l) w):=by
 have hmf:= @makeF Tryz.prog
 have hL:=h.lts
 obtain⟨w1,hw1⟩:=nmq ((w.alloc (.cells #[.pointer (some ⟨C.P,0,none⟩)] 162)).alloc (.cells #[.int .u8 0,.string ⟨#[]⟩,.int .i64 0,.slice none 0 0,.int .i64 0] 175))
 have hf1:Fr NoT w w1:=by rw[hw1];exact((Fr.refl _ _).alloc _).alloc _
 have hz1:w1.heap.size=w.heap.size+2:=by rw[hw1];simp
 have hpx:Bk w1 w.heap.size 162 #[.pointer (some ⟨C.P,0,none⟩)]:=by rw[hw1];exact(Bk.new _ _ _).alloc _
 have hbx:Bk w1 (w.heap.size+1) 175 #[.int .u8 0,.string ⟨#[]⟩,.int .i64 0,.slice none 0 0,.int .i64 0]:=by rw[hw1];exact Bk.new_at _ _ _ (by simp)
 have h1:=h.fr hf1 id id fun _ _=>id
 have HW1:=hdq hw1
 have hent:=enters_of Tryz.func283 (by kernel_rfl) rfl
 cases hm:mayB [91] l
 ·have hw:=within_no C [91] (.func (.func 283) #[] #[.pointer (some ⟨w.heap.size,0,none⟩),.pointer (some ⟨w.heap.size+1,0,none⟩)]) l d w1 h1 hm
  rw[indexP_no hm]
  rw[hw1]at hw
  unfold ErrP wrongE pP at hw
  have HW:=hdq hw
  have HF1:=hdq hf1
  clear hw hw1 hf1 hz1 hpx hbx h1 h hs hk hent hm
  go_enter Tryz.func246,Tryz.ntmps246
  go_wp2_with fail
  refine HW.out.mono ?_
  rintro _ w2 ⟨rfl,hf⟩
  go_wp2_with fail
  rw[←HW1.out]at hf
  exact⟨rfl,rfl,HF1.out.any.trans hf⟩
 ·match n,hs,hdn with
  |0,hs,hdn=>
   obtain rfl:d=24:=by omega
   have hw:=within_deep C [91] (.func (.func 283) #[] #[.pointer (some ⟨w.heap.size,0,none⟩),.pointer (some ⟨w.heap.size+1,0,none⟩)]) l w1 h1 hm
   rw[indexP_0 hm]
   rw[hw1]at hw
   unfold ErrP wrongE pP at hw
   have HW:=hdq hw
   have HF1:=hdq hf1
   clear hw hw1 hf1 hz1 hpx hbx h1 h hs hk hent hm
   go_enter Tryz.func246,Tryz.ntmps246
   go_wp2_with fail
   refine HW.out.mono ?_
   rintro _ w2 ⟨rfl,hf⟩
   go_wp2_with fail
   rw[←HW1.out]at hf
   exact⟨rfl,rfl,HF1.out.any.trans hf⟩
  |n+1,hs,hdn=>
   have hsn:=hs n rfl
   rw[indexP_s hm]
   have hbr:∀W,PaAt C W l.tail (d+1)→Fr C.T w1 W→Calls Tryz.prog 283 #[.pointer (some ⟨w.heap.size,0,none⟩),.pointer (some ⟨w.heap.size+1,0,none⟩)] W (ParP C (w.heap.size+1) (d+1) (endP [93] n l.tail) W):=fun W hP hF=>
    brack_any C n hsn l.tail (d+1) w.heap.size (w.heap.size+1) W (by omega) hk hP (hpx.fr hF (fun e=>by have e:w.heap.size=C.P:=e;omega)) (by omega) (hbx.fr hF (fun e=>by have e:w.heap.size+1=C.P:=e;omega)) (by omega) (by omega) (by omega) (by omega)
   cases hr:endP [93] n l.tail with
   |err c a=>
    rw[hr]at hbr
    have hw:=within_bad C [91] 283 #[.pointer (some ⟨w.heap.size,0,none⟩),.pointer (some ⟨w.heap.size+1,0,none⟩)] l d w1 c a (fun w2=>Fr (PT C (w.heap.size+1)) w1 w2) hk h1 (by decide) hm (by omega) hent (fun W hP hF=>(hbr W hP hF).mono fun e w2 hE=>⟨hE.1,(PT.l hF).trans hE.2⟩)
    rw[hw1]at hw
    unfold wrongE pP at hw
    have HW:=hdq hw
    have HF1:=hdq hf1
    clear hw hw1 hf1 hz1 hpx hbx h1 h hs hk hent hm hbr hsn
    go_enter Tryz.func246,Tryz.ntmps246
    go_wp2_with fail
    refine HW.out.mono ?_
    rintro _ w2 ⟨rfl,hf⟩
    go_wp2_with fail
    rw[←HW1.out]at hf
    refine⟨rfl,rfl,(HF1.out.any.trans hf).mono fun i hi e=>?_⟩
    rcases e with e|e
    ·exact e
    ·omega
   |ok x r=>
    rw[hr]at hbr
    have hw:=within_ok C [91] 283 #[.pointer (some ⟨w.heap.size,0,none⟩),.pointer (some ⟨w.heap.size+1,0,none⟩)] l d w1 (fun w2=>ResAt (w.heap.size+1) (w.heap.size+2) w2 x∧PaAt C w2 r (d+1)∧Fr (PT C (w.heap.size+1)) w1 w2) hk h1 (by decide) hm (by omega) hent (fun w2 h2=>⟨r,h2.2.1⟩)
     (fun W hP hF=>(hbr W hP hF).mono fun e w2 hE=>⟨hE.1,hE.2.1.low (by rw[←hz1];exact hF.size),hE.2.2.1,(PT.l hF).trans hE.2.2.2⟩)
    rw[hw1]at hw
    unfold WithinP pP at hw
    have HW:=hdq hw
    have HF1:=hdq hf1
    have HK:=hdq hk
    have HL:=hdq hL
    clear hw hw1 hf1 hz1 hpx hbx h1 h hs hk hent hm hbr hsn hL
    go_enter Tryz.func246,Tryz.ntmps246
    go_wp2_with fail
    refine HW.out.mono ?_
    rintro _ w3 ⟨rfl,w2,⟨hra,hpa,hf⟩,rfl⟩
    have hfs:Fr C.T w2 (w2.setCell ⟨C.P,1,none⟩ (.int .i64 d)):=(Fr.refl C.T w2).setCell (p:=⟨C.P,1,none⟩) (Or.inl C.Tp) _
    have hra3:=hra.fr hfs (by have:=HL.out;omega) (by have:=HL.out;omega)
    have hpa3:=hpa.deep HK.out (d':=d) (v:=(d:Int)) rfl
    obtain⟨A,c,hb3,hv3⟩:=hra3
    have q0:=hb3.cell 0
    have q1:=hb3.cell 1
    have q2:=hb3.cell 2
    have q3:=hb3.cell 3
    have q4:=hb3.cell 4
    simp only[getsL]at q0 q1 q2 q3 q4
    have HV:=hdq hv3
    have HP:=hdq hpa3
    rw[←HW1.out]at hf
    have HF:=hdq (((HF1.out.any.trans hf).trans (PT.l hfs)).mono (T':=C.T) fun i hi e=>by
     rcases e with e|e
     ·exact e
     ·omega)
    clear hra hpa hf hfs hb3 hv3 hpa3
    go_wp2_with fail
    exact bodyPost_ret (v:=exV x.k x.nm x.n A x.args.len c x.at_) (by simp[results,Tryz.results246,go_sem,exV,q0,q1,q2,q3,q4]) rfl ⟨_,rfl,HV.out.low (by omega),HP.out,HF.out⟩

def minusP (n:Nat) (a:Int) (l:List Tk):PR Ex:=(signP n l).then fun x r=> .ok ⟨4,noB,0,x.cons .nil,a⟩ r

theorem minus_fin {C:Pcx} {w w7:World} {rb d:Nat} {at_:Int} {x:Ex} {r:List Tk} {A:Option Addr} {c:Nat} {q0 q1 q2 q3 q4:Value} (hL:C.P < w.heap.size∧C.TB < w.heap.size∧C.W0.heap.size≤w.heap.size) (hat:in64 at_)
  (hnr:rb≠C.P) (hrT:rb≠C.TB) (hr0:C.W0.heap.size≤rb) (hb:Bk w7 rb 175 #[q0,q1,q2,q3,q4]) (hv:ExV w7 w.drew.heap.size (exV x.k x.nm x.n A x.args.len c x.at_) x) (hp:PaAt C w7 r d) (hf:Fr C.T w w7) (w9:World)
  (h9:w9=((((((w7.setCell ⟨rb,0,none⟩ (.int .u8 4)).setCell ⟨rb,1,none⟩ (.string ⟨#[]⟩)).setCell ⟨rb,2,none⟩ (.int .i64 0)).setCell ⟨rb,3,none⟩ (.slice (some ⟨w7.heap.size,0,none⟩) 1 1)).setCell ⟨rb,4,none⟩ (.int .i64 at_)).alloc (.cells #[.int .u8 x.k,.string x.nm,.int .i64 x.n,.slice A x.args.len c,.int .i64 x.at_] 175)))
  (hrw:rb < w.heap.size):
  ParP C rb d ((PR.ok x r).then fun x r=>PR.ok ⟨4,noB,0,x.cons .nil,at_⟩ r) w (.returned (.tuple #[])) w9:=by
 obtain⟨w8,hw8⟩:=nmq ((((((w7.setCell ⟨rb,0,none⟩ (.int .u8 4)).setCell ⟨rb,1,none⟩ (.string ⟨#[]⟩)).setCell ⟨rb,2,none⟩ (.int .i64 0)).setCell ⟨rb,3,none⟩ (.slice (some ⟨w7.heap.size,0,none⟩) 1 1)).setCell ⟨rb,4,none⟩ (.int .i64 at_)))
 rw[←hw8]at h9
 have hf8:Fr (fun b=>b=rb) w7 w8:=by rw[hw8];exact Fr.own (Fr.own (Fr.own (Fr.own (Fr.own (Fr.refl _ _) _ _) _ _) _ _) _ _) _ _
 have hbk8:Bk w8 rb 175 #[.int .u8 4,.string ⟨#[]⟩,.int .i64 0,.slice (some ⟨w7.heap.size,0,none⟩) 1 1,.int .i64 at_]:=by rw[hw8];exact bk5 hb
 have hz:w8.heap.size=w7.heap.size:=by rw[hw8];simp
 have hf9:Fr (fun b=>b=rb) w7 w9:=by rw[h9];exact hf8.alloc _
 have hs7:=hf.size
 have hs9:w9.heap.size=w7.heap.size+1:=by rw[h9];simp[hz]
 obtain⟨x1,x2,x3,Ax,cx,ex,hsx⟩:=hv
 simp only[exV,Value.agg.injEq,Array.mk.injEq,List.cons.injEq,Value.slice.injEq,true_and,and_true]at ex
 obtain⟨rfl,rfl⟩:=ex
 refine⟨rfl,⟨some ⟨w7.heap.size,0,none⟩,1,by rw[h9];exact hbk8.alloc _,by show in8 4;unfold in8;omega,by show in64 0;unfold in64;omega,hat,_,_,rfl,lrq 1,sl1,fun _=>⟨w7.heap.size,0,rfl,?_⟩⟩,?_,?_⟩
 ·refine exR_one (by rw[h9];exact Bk.new_at _ _ _ hz) ⟨hs7,by omega⟩ ⟨x1,x2,x3⟩ (hsx.imp fun _ _ h=>?_)
  refine ExR.more (fun b hb=>?_) (ExR.keep (hf9.same fun b hb=>⟨hb.2,fun e=>?_⟩) h)
  ·have h1:w.heap.size≤b:=hb.1
   have h2:=hb.2
   exact⟨h1,by omega⟩
  ·have h1:w.heap.size≤b:=hb.1
   omega
 ·exact hp.fr hf9 (fun e=>hnr (by have e:C.P=rb:=e;exact e.symm)) (fun e=>hrT (by have e:C.TB=rb:=e;exact e.symm)) (fun i hi e=>by have e:i=rb:=e;omega)
 ·exact(PT.l hf).trans (hf9.mono fun i _ h=>Or.inr h)
theorem minus_any (C:Pcx) (n:Nat) (hs:SignC C n) (l:List Tk) (d pb ab rb:Nat) (at_:Int) (w:World) (hat:in64 at_) (hdn:d+n=24) (hk:C.Ok) (h:PaAt C w l d) (hpb:Bk w pb 162 #[.pointer (some ⟨C.P,0,none⟩)]) (hne:pb≠C.P)
  (hab:Bk w ab 3 #[.int .i64 at_]) (hnea:ab≠C.P) (har:ab≠rb)
  (hrb:Bk w rb 175 #[.int .u8 0,.string ⟨#[]⟩,.int .i64 0,.slice none 0 0,.int .i64 0]) (hnr:rb≠C.P) (hrT:rb≠C.TB) (hr0:C.W0.heap.size≤rb) (hpr:pb≠rb):
  Calls Tryz.prog 303 #[.pointer (some ⟨pb,0,none⟩),.pointer (some ⟨ab,0,none⟩),.pointer (some ⟨rb,0,none⟩)] w (ParP C rb d (minusP n at_ l) w):=by
 have hp0:=hpb.cell 0
 have ha0:=hab.cell 0
 simp only[List.getElem?_toArray,List.getElem?_cons_zero]at hp0 ha0
 have hpl:=hpb.lt
 have hal:=hab.lt
 have hrl:=hrb.lt
 have HE:=hdq (hs l d w.drew hdn (h.fr (T:=NoT) (Fr.drew (Fr.refl _ _)) id id fun _ _=>id))
 obtain⟨R,hR⟩:=nmq (minusP n at_ l)
 rw[←hR]
 have HR:=hdq hR
 have HPB:=hdq hpb
 have HAB:=hdq hab
 have HRB:=hdq hrb
 have HK:=hdq hk
 have HL:=hdq h.lts
 have hpP:pb≠C.P:=hne
 have haP:ab≠C.P:=hnea
 clear hR hpb hab hrb hs h hk
 go_enter Tryz.func303,Tryz.ntmps303
 go_wp2_with fail
 go_region_held2 (fun W'=>W'.cell? ⟨pb,0,none⟩=some (.pointer (some ⟨C.P,0,none⟩))∧W'.cell? ⟨ab,0,none⟩=some (.int .i64 at_))
  (first
   |(refine⟨?_,?_⟩<;>with_reducible assumption)
   |(with_reducible refine⟨(Fr.cell (T:=fun b=>b=rb) (w:=w7) (Fr.alloc (Fr.own (Fr.own (Fr.own (Fr.own (Fr.own (Fr.refl _ _) _ _) _ _) _ _) _ _) _ _) _) hpl7 hpr).trans hp7,(Fr.cell (T:=fun b=>b=rb) (w:=w7) (Fr.alloc (Fr.own (Fr.own (Fr.own (Fr.own (Fr.own (Fr.refl _ _) _ _) _ _) _ _) _ _) _ _) _) hal7 har).trans ha7⟩)
   |(with_reducible refine⟨(Fr.cell (T:=NoT) (w:=w7) (Fr.alloc (Fr.refl _ _) _) hpl7 id).trans hp7,(Fr.cell (T:=NoT) (w:=w7) (Fr.alloc (Fr.refl _ _) _) hal7 id).trans ha7⟩)
   |(with_reducible refine⟨(Fr.cell (T:=NoT) (w:=w) (Fr.drew (Fr.refl _ _)) hpl id).trans hp0,(Fr.cell (T:=NoT) (w:=w) (Fr.drew (Fr.refl _ _)) hal id).trans ha0⟩))
  (first
   |(go_at_call 286
     with_reducible refine HE.out.mono ?_
     intro e w7 hE
     rcases hE.ways with⟨x,r,A,c,hx,rfl,hv,hp,hf⟩|⟨c,a,hx,rfl,hf⟩
     rotate_left
     ·exact⟨rfl,by rw[HR.out,minusP,hx];exact⟨rfl,PT.l ((Fr.drew (Fr.refl C.T w)).trans hf)⟩⟩
     have hfw:=(Fr.drew (Fr.refl C.T w)).trans hf
     have hb7:=HRB.out.fr hfw hnr
     have q0:=hb7.cell 0
     have q1:=hb7.cell 1
     have q2:=hb7.cell 2
     have q3:=hb7.cell 3
     have q4:=hb7.cell 4
     have g0:=hb7.frozen 0
     have g1:=hb7.frozen 1
     have g2:=hb7.frozen 2
     have g3:=hb7.frozen 3
     have g4:=hb7.frozen 4
     have hpb7:=HPB.out.fr hfw hpP
     have hab7:=HAB.out.fr hfw haP
     have hp7:=hpb7.cell 0
     have ha7:=hab7.cell 0
     have hpl7:=hpb7.lt
     have hal7:=hab7.lt
     have hrl7:=hb7.lt
     simp only[getsL]at q0 q1 q2 q3 q4 hp7 ha7
     have HX:=hdq hx
     have HV:=hdq hv
     have HP:=hdq hp
     have HF:=hdq hfw
     have HB:=hdq hb7
     clear hx hv hp hf hfw hb7 hpb7 hab7))
 all_goals
  go_wp2_with fail
  go_end0
  rw[HR.out,minusP,HX.out]
  exact minus_fin HL.out hat hnr hrT hr0 HB.out HV.out HP.out HF.out _ rfl hrl

theorem in64_at {C:Pcx} (hk:C.Ok) {w:World} {l:List Tk} {d:Nat} (h:PaAt C w l d):in64 ((hdT l).at_ :Int):=by
 obtain⟨j,cap,e,_⟩:=h.at_
 have:=hk.pos _ (List.mem_of_getElem? (drop_head e h.ne).1)
 unfold in64;omega
theorem sign_boxes (C:Pcx) (a:Int) (w w1:World) (hw:w1=((w.alloc (.cells #[.pointer (some ⟨C.P,0,none⟩)] 162)).alloc (.cells #[.int .u8 0,.string ⟨#[]⟩,.int .i64 0,.slice none 0 0,.int .i64 0] 175)).alloc (.cells #[.int .i64 a] 3)):
  Fr NoT w w1∧w1.heap.size=w.heap.size+3∧Bk w1 w.heap.size 162 #[.pointer (some ⟨C.P,0,none⟩)]∧Bk w1 (w.heap.size+1) 175 #[.int .u8 0,.string ⟨#[]⟩,.int .i64 0,.slice none 0 0,.int .i64 0]∧Bk w1 (w.heap.size+2) 3 #[.int .i64 a]:=by
 subst hw
 exact⟨(((Fr.refl _ _).alloc _).alloc _).alloc _,by simp,((Bk.new _ _ _).alloc _).alloc _,(Bk.new_at _ _ _ (by simp)).alloc _,Bk.new_at _ _ _ (by simp)⟩
theorem within_back {C:Pcx} {w w1 w2:World} {rb d L:Nat} {x:Ex} {r:List Tk} (hk:C.Ok) (hL:C.P < w.heap.size∧C.TB < w.heap.size∧C.W0.heap.size≤w.heap.size) (h1:Fr NoT w w1) (hrb:w.heap.size≤rb) (hLL:w.heap.size≤L)
  (hra:ResAt rb L w2 x) (hpa:PaAt C w2 r (d+1)) (hf:Fr (PT C rb) w1 w2):
  ResAt rb w.heap.size (w2.setCell ⟨C.P,1,none⟩ (.int .i64 d)) x∧PaAt C (w2.setCell ⟨C.P,1,none⟩ (.int .i64 d)) r d∧Fr C.T w (w2.setCell ⟨C.P,1,none⟩ (.int .i64 d)):=by
 have hfs:Fr C.T w2 (w2.setCell ⟨C.P,1,none⟩ (.int .i64 d)):=(Fr.refl C.T w2).setCell (p:=⟨C.P,1,none⟩) (Or.inl C.Tp) _
 refine⟨(hra.fr hfs (by omega) (by omega)).low hLL,hpa.deep hk (d':=d) (v:=(d:Int)) rfl,((h1.any.trans hf).trans (PT.l hfs)).mono fun i hi e=>?_⟩
 rcases e with e|e
 ·exact e
 ·omega
theorem bad_back {C:Pcx} {w w1 w2:World} {rb:Nat} (h1:Fr NoT w w1) (hrb:w.heap.size≤rb) (hf:Fr (PT C rb) w1 w2):Fr C.T w w2:=
 (h1.any.trans hf).mono fun i hi e=>by
  rcases e with e|e
  ·exact e
  ·omega
theorem signP_m0 {l:List Tk} (hm:mayB [45] l=true):signP 0 l= .err 91 (hdT l).at_ :=by unfold signP;rw[if_pos hm]
theorem signP_m1 {n:Nat} {l:List Tk} {a:Int} (hm:mayB [45] l=true) (ha:a=((hdT l).at_ :Int)):signP (n+1) l=minusP n a l.tail:=by rw[ha];unfold signP;rw[if_pos hm];rfl
theorem signP_p0 {l:List Tk} (h0:mayB [45] l=false) (hm:mayB [40] l=true):signP 0 l= .err 91 (hdT l).at_ :=by unfold signP;rw[if_neg (by rw[h0];decide),if_pos hm]
theorem signP_p1 {n:Nat} {l:List Tk} (h0:mayB [45] l=false) (hm:mayB [40] l=true):signP (n+1) l=endP [41] n l.tail:=by unfold signP;rw[if_neg (by rw[h0];decide),if_pos hm];rfl

-- a minus
theorem sign_minus (C:Pcx) (n:Nat) (hs:∀m,n=m+1→SignC C m) (l:List Tk) (d:Nat) (w:World) (hdn:d+n=24) (hk:C.Ok) (h:PaAt C w l d) (hm:mayB [45] l=true):
  Calls Tryz.prog 286 #[.pointer (some ⟨C.P,0,none⟩)] w (ExP C d (signP n l) w):=by
 have hmf:= @makeF Tryz.prog
 have hL:=h.lts
 have hat:=in64_at hk h
 obtain⟨j,cap,m,hm0,hm1,hl,hmc,hcm,hb,p0,p1,f0,f1,t0,t1,t2,ltP,ltT⟩:=h.cells
 have hm2:m≤9223372036854775807:=by omega
 have hm3:(0:Int) < (m:Int):=by omega
 obtain⟨a,ha⟩:∃a:Int,a=(hdT l).at_ :=⟨_,rfl⟩
 rw[←ha]at t2 hat
 have HA:=hdq ha
 obtain⟨w1,hw1⟩:=nmq (((w.alloc (.cells #[.pointer (some ⟨C.P,0,none⟩)] 162)).alloc (.cells #[.int .u8 0,.string ⟨#[]⟩,.int .i64 0,.slice none 0 0,.int .i64 0] 175)).alloc (.cells #[.int .i64 a] 3))
 obtain⟨hf1,hz1,hpx,hbx,hax⟩:=sign_boxes C a w w1 hw1
 have h1:=h.fr hf1 id id fun _ _=>id
 have HF1:=hdq hf1
 have HW1:=hdq hw1
 have HK:=hdq hk
 have HL:=hdq hL
 have hent:=enters_of Tryz.func303 (by kernel_rfl) rfl
 have h2:=h1.alloc (.cells #[.string ⟨#[45]⟩] 9)
 have hiy:=is1_yes C [45] l d (w1.heap.size) _ h2 hm (by simp)
 have hf2:Fr NoT w1 (w1.alloc (.cells #[.string ⟨#[45]⟩] 9)):=(Fr.refl NoT w1).alloc _
 unfold pP at hiy
 rw[hz1]at hiy
 rw[hw1]at hiy
 have HIY:=hdq hiy
 match n,hs,hdn with
 |0,hs,hdn=>
  obtain rfl:d=24:=by omega
  have hw:=within_deep C [45] (.func (.func 303) #[] #[.pointer (some ⟨w.heap.size,0,none⟩),.pointer (some ⟨w.heap.size+1+1,0,none⟩),.pointer (some ⟨w.heap.size+1,0,none⟩)]) l _ h2 hm
  rw[signP_m0 hm]
  rw[hw1]at hw
  unfold ErrP wrongE pP at hw
  have HW:=hdq hw
  have HF2:=hdq hf2
  clear hw hw1 hf1 hz1 hpx hbx hax h1 h2 h hs hk hent hm hb hl hm0 ha hf2 hat hL hiy
  go_enter Tryz.func286,Tryz.ntmps286
  go_wp2_with fail
  refine HIY.out.mono ?_
  rintro _ wy ⟨rfl,rfl⟩
  go_wp2_with fail
  refine HW.out.mono ?_
  rintro _ w3 ⟨rfl,hf⟩
  go_wp2_with fail
  have hf2:=HF2.out
  rw[HW1.out]at hf2
  exact⟨rfl,rfl,((by rw[←HW1.out];exact HF1.out.any:Fr C.T w _).trans hf2.any).trans hf⟩
 |n+1,hs,hdn=>
  have hsn:=hs n rfl
  have hbr:∀W,PaAt C W l.tail (d+1)→Fr C.T (w1.alloc (.cells #[.string ⟨#[45]⟩] 9)) W→Calls Tryz.prog 303 #[.pointer (some ⟨w.heap.size,0,none⟩),.pointer (some ⟨w.heap.size+2,0,none⟩),.pointer (some ⟨w.heap.size+1,0,none⟩)] W (ParP C (w.heap.size+1) (d+1) (minusP n a l.tail) W):=fun W hP hF=>
   minus_any C n hsn l.tail (d+1) w.heap.size (w.heap.size+2) (w.heap.size+1) a W hat (by omega) hk hP ((hpx.fr0 hf2).fr hF (fun e=>by have e:w.heap.size=C.P:=e;omega)) (by omega) ((hax.fr0 hf2).fr hF (fun e=>by have e:w.heap.size+2=C.P:=e;omega)) (by omega) (by omega) ((hbx.fr0 hf2).fr hF (fun e=>by have e:w.heap.size+1=C.P:=e;omega)) (by omega) (by omega) (by omega) (by omega)
  rw[signP_m1 hm HA.out]
  cases hr:minusP n a l.tail with
  |err c e=>
   rw[hr]at hbr
   have hw:=within_bad C [45] 303 #[.pointer (some ⟨w.heap.size,0,none⟩),.pointer (some ⟨w.heap.size+1+1,0,none⟩),.pointer (some ⟨w.heap.size+1,0,none⟩)] l d _ c e (fun w2=>Fr (PT C (w.heap.size+1)) w1 w2) hk h2 (by decide) hm (by omega) hent (fun W hP hF=>(hbr W hP hF).mono fun e w2 hE=>⟨hE.1,(PT.l (hf2.any.trans hF)).trans hE.2⟩)
   rw[hw1]at hw
   unfold wrongE pP at hw
   have HW:=hdq hw
   clear hw hw1 hf1 hz1 hpx hbx hax h1 h2 h hs hk hent hm hb hl hm0 ha hf2 hat hL hbr hsn hiy
   go_enter Tryz.func286,Tryz.ntmps286
   go_wp2_with fail
   refine HIY.out.mono ?_
   rintro _ wy ⟨rfl,rfl⟩
   go_wp2_with fail
   refine HW.out.mono ?_
   rintro _ w3 ⟨rfl,hf⟩
   go_wp2_with fail
   rw[←HW1.out]at hf
   exact⟨rfl,rfl,bad_back HF1.out (by omega) hf⟩
  |ok x r=>
   rw[hr]at hbr
   have hw:=within_ok C [45] 303 #[.pointer (some ⟨w.heap.size,0,none⟩),.pointer (some ⟨w.heap.size+1+1,0,none⟩),.pointer (some ⟨w.heap.size+1,0,none⟩)] l d _ (fun w2=>ResAt (w.heap.size+1) (w.heap.size+3) w2 x∧PaAt C w2 r (d+1)∧Fr (PT C (w.heap.size+1)) w1 w2) hk h2 (by decide) hm (by omega) hent (fun w2 h2=>⟨r,h2.2.1⟩)
    (fun W hP hF=>(hbr W hP hF).mono fun e w2 hE=>⟨hE.1,hE.2.1.low (by rw[←hz1];exact leq9 hf2.size hF.size),hE.2.2.1,(PT.l (hf2.any.trans hF)).trans hE.2.2.2⟩)
   rw[hw1]at hw
   unfold WithinP pP at hw
   have HW:=hdq hw
   clear hw hw1 hf1 hz1 hpx hbx hax h1 h2 h hs hk hent hm hb hl hm0 ha hf2 hat hL hbr hsn hiy
   go_enter Tryz.func286,Tryz.ntmps286
   go_wp2_with fail
   refine HIY.out.mono ?_
   rintro _ wy ⟨rfl,rfl⟩
   go_wp2_with fail
   refine HW.out.mono ?_
   rintro _ w3 ⟨rfl,w2,⟨hra,hpa,hf⟩,rfl⟩
   rw[←HW1.out]at hf
   obtain⟨⟨A,c,hb3,hv3⟩,hpa3,hf3⟩:=within_back HK.out HL.out HF1.out (by omega) (by omega) hra hpa hf
   have q0:=hb3.cell 0
   have q1:=hb3.cell 1
   have q2:=hb3.cell 2
   have q3:=hb3.cell 3
   have q4:=hb3.cell 4
   simp only[getsL]at q0 q1 q2 q3 q4
   have HV:=hdq hv3
   have HP:=hdq hpa3
   have HF:=hdq hf3
   clear hra hpa hf hb3 hv3 hpa3 hf3
   go_wp2_with fail
   exact bodyPost_ret (v:=exV x.k x.nm x.n A x.args.len c x.at_) (by simp[results,Tryz.results286,go_sem,exV,q0,q1,q2,q3,q4]) rfl ⟨_,rfl,HV.out,HP.out,HF.out⟩

-- parentheses
theorem sign_paren (C:Pcx) (n:Nat) (hs:∀m,n=m+1→SignC C m) (l:List Tk) (d:Nat) (w:World) (hdn:d+n=24) (hk:C.Ok) (h:PaAt C w l d) (hn0:mayB [45] l=false) (hm:mayB [40] l=true):
  Calls Tryz.prog 286 #[.pointer (some ⟨C.P,0,none⟩)] w (ExP C d (signP n l) w):=by
 have hmf:= @makeF Tryz.prog
 have hL:=h.lts
 have hat:=in64_at hk h
 obtain⟨j,cap,m,hm0,hm1,hl,hmc,hcm,hb,p0,p1,f0,f1,t0,t1,t2,ltP,ltT⟩:=h.cells
 have hm2:m≤9223372036854775807:=by omega
 have hm3:(0:Int) < (m:Int):=by omega
 obtain⟨a,ha⟩:∃a:Int,a=(hdT l).at_ :=⟨_,rfl⟩
 rw[←ha]at t2 hat
 have HA:=hdq ha
 obtain⟨w1,hw1⟩:=nmq (((w.alloc (.cells #[.pointer (some ⟨C.P,0,none⟩)] 162)).alloc (.cells #[.int .u8 0,.string ⟨#[]⟩,.int .i64 0,.slice none 0 0,.int .i64 0] 175)).alloc (.cells #[.int .i64 a] 3))
 obtain⟨hf1,hz1,hpx,hbx,hax⟩:=sign_boxes C a w w1 hw1
 have h1:=h.fr hf1 id id fun _ _=>id
 have HF1:=hdq hf1
 have HW1:=hdq hw1
 have HK:=hdq hk
 have HL:=hdq hL
 have hent:=enters_of Tryz.func304 (by kernel_rfl) rfl
 have h1_0:=h1.alloc (.cells #[.string ⟨#[45]⟩] 9)
 have hi0:=is1_no C [45] l d w1.heap.size _ h1_0 hn0 (by simp)
 have h2:=h1_0.alloc (.cells #[.string ⟨#[40]⟩] 9)
 have hiy:=is1_yes C [40] l d (w1.heap.size+1) _ h2 hm (by simp)
 have hf2:Fr NoT w1 ((w1.alloc (.cells #[.string ⟨#[45]⟩] 9)).alloc (.cells #[.string ⟨#[40]⟩] 9)):=((Fr.refl NoT w1).alloc _).alloc _
 unfold pP at hiy hi0
 rw[hz1]at hiy hi0
 rw[hw1]at hiy hi0
 have HIY:=hdq hiy
 have HI0:=hdq hi0
 match n,hs,hdn with
 |0,hs,hdn=>
  obtain rfl:d=24:=by omega
  have hw:=within_deep C [40] (.func (.func 304) #[] #[.pointer (some ⟨w.heap.size,0,none⟩),.pointer (some ⟨w.heap.size+1,0,none⟩)]) l _ h2 hm
  rw[signP_p0 hn0 hm]
  rw[hw1]at hw
  unfold ErrP wrongE pP at hw
  have HW:=hdq hw
  have HF2:=hdq hf2
  clear hw hw1 hf1 hz1 hpx hbx hax h1 h2 h hs hk hent hm hb hl hm0 ha hf2 hat hL hiy hi0 h1_0 hn0
  go_enter Tryz.func286,Tryz.ntmps286
  go_wp2_with fail
  refine HI0.out.mono ?_
  rintro _ wq0 ⟨rr0,hrr0,rfl,rfl⟩
  go_wp2_with fail
  refine HIY.out.mono ?_
  rintro _ wy ⟨rfl,rfl⟩
  go_wp2_with fail
  refine HW.out.mono ?_
  rintro _ w3 ⟨rfl,hf⟩
  go_wp2_with fail
  have hf2:=HF2.out
  rw[HW1.out]at hf2
  exact⟨rfl,rfl,((by rw[←HW1.out];exact HF1.out.any:Fr C.T w _).trans hf2.any).trans hf⟩
 |n+1,hs,hdn=>
  have hsn:=hs n rfl
  have hbr:∀W,PaAt C W l.tail (d+1)→Fr C.T ((w1.alloc (.cells #[.string ⟨#[45]⟩] 9)).alloc (.cells #[.string ⟨#[40]⟩] 9)) W→Calls Tryz.prog 304 #[.pointer (some ⟨w.heap.size,0,none⟩),.pointer (some ⟨w.heap.size+1,0,none⟩)] W (ParP C (w.heap.size+1) (d+1) (endP [41] n l.tail) W):=fun W hP hF=>
   paren_any C n hsn l.tail (d+1) w.heap.size (w.heap.size+1) W (by omega) hk hP ((hpx.fr0 hf2).fr hF (fun e=>by have e:w.heap.size=C.P:=e;omega)) (by omega) ((hbx.fr0 hf2).fr hF (fun e=>by have e:w.heap.size+1=C.P:=e;omega)) (by omega) (by omega) (by omega) (by omega)
  rw[signP_p1 hn0 hm]
  cases hr:endP [41] n l.tail with
  |err c e=>
   rw[hr]at hbr
   have hw:=within_bad C [40] 304 #[.pointer (some ⟨w.heap.size,0,none⟩),.pointer (some ⟨w.heap.size+1,0,none⟩)] l d _ c e (fun w2=>Fr (PT C (w.heap.size+1)) w1 w2) hk h2 (by decide) hm (by omega) hent (fun W hP hF=>(hbr W hP hF).mono fun e w2 hE=>⟨hE.1,(PT.l (hf2.any.trans hF)).trans hE.2⟩)
   rw[hw1]at hw
   unfold wrongE pP at hw
   have HW:=hdq hw
   clear hw hw1 hf1 hz1 hpx hbx hax h1 h2 h hs hk hent hm hb hl hm0 ha hf2 hat hL hbr hsn hiy hi0 h1_0 hn0
   go_enter Tryz.func286,Tryz.ntmps286
   go_wp2_with fail
   refine HI0.out.mono ?_
   rintro _ wq0 ⟨rr0,hrr0,rfl,rfl⟩
   go_wp2_with fail
   refine HIY.out.mono ?_
   rintro _ wy ⟨rfl,rfl⟩
   go_wp2_with fail
   refine HW.out.mono ?_
   rintro _ w3 ⟨rfl,hf⟩
   go_wp2_with fail
   rw[←HW1.out]at hf
   exact⟨rfl,rfl,bad_back HF1.out (by omega) hf⟩
  |ok x r=>
   rw[hr]at hbr
   have hw:=within_ok C [40] 304 #[.pointer (some ⟨w.heap.size,0,none⟩),.pointer (some ⟨w.heap.size+1,0,none⟩)] l d _ (fun w2=>ResAt (w.heap.size+1) (w.heap.size+3) w2 x∧PaAt C w2 r (d+1)∧Fr (PT C (w.heap.size+1)) w1 w2) hk h2 (by decide) hm (by omega) hent (fun w2 h2=>⟨r,h2.2.1⟩)
    (fun W hP hF=>(hbr W hP hF).mono fun e w2 hE=>⟨hE.1,hE.2.1.low (by rw[←hz1];exact leq9 hf2.size hF.size),hE.2.2.1,(PT.l (hf2.any.trans hF)).trans hE.2.2.2⟩)
   rw[hw1]at hw
   unfold WithinP pP at hw
   have HW:=hdq hw
   clear hw hw1 hf1 hz1 hpx hbx hax h1 h2 h hs hk hent hm hb hl hm0 ha hf2 hat hL hbr hsn hiy hi0 h1_0 hn0
   go_enter Tryz.func286,Tryz.ntmps286
   go_wp2_with fail
   refine HI0.out.mono ?_
   rintro _ wq0 ⟨rr0,hrr0,rfl,rfl⟩
   go_wp2_with fail
   refine HIY.out.mono ?_
   rintro _ wy ⟨rfl,rfl⟩
   go_wp2_with fail
   refine HW.out.mono ?_
   rintro _ w3 ⟨rfl,w2,⟨hra,hpa,hf⟩,rfl⟩
   rw[←HW1.out]at hf
   obtain⟨⟨A,c,hb3,hv3⟩,hpa3,hf3⟩:=within_back HK.out HL.out HF1.out (by omega) (by omega) hra hpa hf
   have q0:=hb3.cell 0
   have q1:=hb3.cell 1
   have q2:=hb3.cell 2
   have q3:=hb3.cell 3
   have q4:=hb3.cell 4
   simp only[getsL]at q0 q1 q2 q3 q4
   have HV:=hdq hv3
   have HP:=hdq hpa3
   have HF:=hdq hf3
   clear hra hpa hf hb3 hv3 hpa3 hf3
   go_wp2_with fail
   exact bodyPost_ret (v:=exV x.k x.nm x.n A x.args.len c x.at_) (by simp[results,Tryz.results286,go_sem,exV,q0,q1,q2,q3,q4]) rfl ⟨_,rfl,HV.out,HP.out,HF.out⟩

theorem signP_n {n:Nat} {l:List Tk} (h0:mayB [45] l=false) (h1:mayB [40] l=false) (hn:namedB l=false):signP n l=(numberP l).then fun v r=> .ok ⟨1,noB,v,.nil,(hdT l).at_⟩ r:=by
 cases n<;>(unfold signP;rw[if_neg (by rw[h0];decide),if_neg (by rw[h1];decide),if_neg (by rw[hn];decide)])
theorem signP_v {n:Nat} {l:List Tk} (h0:mayB [45] l=false) (h1:mayB [40] l=false) (hn:namedB l=true) (hb:mayB [91] l.tail=false):signP n l= .ok ⟨2,txt (hdT l),0,.nil,(hdT l).at_⟩ l.tail:=by
 cases n<;>(unfold signP;rw[if_neg (by rw[h0];decide),if_neg (by rw[h1];decide),if_pos hn,if_neg (by rw[hb];decide)])
theorem signP_l {n:Nat} {l:List Tk} (h0:mayB [45] l=false) (h1:mayB [40] l=false) (hn:namedB l=true) (hb:mayB [91] l.tail=true):signP n l=(indexP n l.tail).then fun x r=> .ok ⟨3,txt (hdT l),0,x.cons .nil,(hdT l).at_⟩ r:=by
 cases n with
 |zero=>
  rw[indexP_0 hb]
  unfold signP
  rw[if_neg (by rw[h0];decide),if_neg (by rw[h1];decide),if_pos hn,if_pos hb]
  rfl
 |succ n=>
  have e:signP (n+1) l=(exprOf (signP n) l.tail.tail).then fun x r=>(takeP [93] r).then fun _ r=> .ok ⟨3,txt (hdT l),0,x.cons .nil,(hdT l).at_⟩ r:=by
   unfold signP
   rw[if_neg (by rw[h0];decide),if_neg (by rw[h1];decide),if_pos hn,if_pos hb]
  rw[e,indexP_s hb,endP,exprP]
  generalize exprOf (signP n) l.tail.tail=q
  cases q with
  |err e a=>rfl
  |ok x r=>
   simp only[PR.then]
   generalize takeP [93] r=q2
   cases q2<;>rfl
theorem number_any (C:Pcx) (l:List Tk) (d:Nat) (w:World) (hk:C.Ok) (h:PaAt C w l d):Calls Tryz.prog 203 #[.pointer (some ⟨C.P,0,none⟩)] w fun e w'=>
  ((hdT l).kind =2∧e= .returned (.int .i64 (decV (hdT l).text))∧PaAt C w' l.tail d∧Fr C.T w w')∨((hdT l).kind ≠2∧e= .panicked [{v:= .iface 161 (.agg #[.int .i64 90,.int .i64 (hdT l).at_]),recovered:=false}]∧Fr C.T w w'):=by
 by_cases hn:(hdT l).kind =2
 ·exact(number_yes C l d w hk h hn).mono fun e w' h=> .inl ⟨hn,h⟩
 ·exact(number_no C l d w h hn).mono fun e w' h=> .inr ⟨hn,h⟩
theorem in64_num {C:Pcx} (hk:C.Ok) {w:World} {l:List Tk} {d:Nat} (h:PaAt C w l d) (hn:(hdT l).kind =2):in64 (decV (hdT l).text :Int):=by
 obtain⟨j,cap,e,_⟩:=h.at_
 have hmem:=List.mem_of_getElem? (drop_head e h.ne).1
 have hnum:=fT_number (t:=(hdT l).text) (n:=(hdT l).text.length) (by
  rcases hk.toks _ hmem with h1|h1
  ·rw[h1,hn]
  ·rw[h1.2]at hn;simp at hn) rfl
 have:=hnum.2.2
 unfold in64;omega
theorem leaf_fin {C:Pcx} {w w7:World} {rb d:Nat} {k n a:Int} {nm:ByteArray} {r:List Tk} {q0 q1 q2 q3 q4:Value} (hL:C.P < w.heap.size∧C.TB < w.heap.size∧C.W0.heap.size≤w.heap.size) (h8:in8 k) (hn:in64 n) (hat:in64 a) (hrb:w.heap.size≤rb)
  (hb:Bk w7 rb 175 #[q0,q1,q2,q3,q4]) (hp:PaAt C w7 r d) (hf:Fr C.T w w7) (w9:World)
  (h9:w9=(((((w7.setCell ⟨rb,0,none⟩ (.int .u8 k)).setCell ⟨rb,1,none⟩ (.string nm)).setCell ⟨rb,2,none⟩ (.int .i64 n)).setCell ⟨rb,3,none⟩ (.slice none 0 0)).setCell ⟨rb,4,none⟩ (.int .i64 a))):
  Bk w9 rb 175 #[.int .u8 k,.string nm,.int .i64 n,.slice none 0 0,.int .i64 a]∧ExV w9 w.heap.size (exV k nm n none 0 0 a) ⟨k,nm,n,.nil,a⟩∧PaAt C w9 r d∧Fr C.T w w9:=by
 have hf9:Fr (fun b=>b=rb) w7 w9:=by rw[h9];exact Fr.own (Fr.own (Fr.own (Fr.own (Fr.own (Fr.refl _ _) _ _) _ _) _ _) _ _) _ _
 refine⟨by rw[h9];exact bk5 hb,⟨h8,hn,hat,none,0,rfl,lrq 0,sl0,fun h=>absurd h (by simp[Exs.len])⟩,hp.fr hf9 (fun e=>?_) (fun e=>?_) (fun i hi e=>?_),?_⟩
 ·have e:C.P=rb:=e
  omega
 ·have e:C.TB=rb:=e
  omega
 ·have e:i=rb:=e
  omega
 ·rw[h9]
  exact Fr.high (Fr.high (Fr.high (Fr.high (Fr.high hf hrb _ _) hrb _ _) hrb _ _) hrb _ _) hrb _ _

theorem load_fin {C:Pcx} {w w11:World} {rb d:Nat} {a:Int} {nm:ByteArray} {x:Ex} {r:List Tk} {A:Option Addr} {c:Nat} {q0 q3:Value} (hL:C.P < w.heap.size∧C.TB < w.heap.size∧C.W0.heap.size≤w.heap.size) (hrb:w.heap.size≤rb) (hat:in64 a)
  (hb:Bk w11 rb 175 #[q0,.string nm,.int .i64 0,q3,.int .i64 a]) (hv:ExV w11 (rb+1) (exV x.k x.nm x.n A x.args.len c x.at_) x) (hp:PaAt C w11 r d) (hf:Fr C.T w w11):
  ∀w12,w12=((w11.setCell ⟨rb,0,none⟩ (.int .u8 3)).setCell ⟨rb,3,none⟩ (.slice (some ⟨w11.heap.size,0,none⟩) 1 1)).alloc (.cells #[.int .u8 x.k,.string x.nm,.int .i64 x.n,.slice A x.args.len c,.int .i64 x.at_] 175)→
   ExP C d ((PR.ok x r).then fun x r=>PR.ok ⟨3,nm,0,x.cons .nil,a⟩ r) w (.returned (exV 3 nm 0 (some ⟨w11.heap.size,0,none⟩) 1 1 a)) w12:=by
 intro w12 h12
 have hf9:Fr (fun b=>b=rb) w11 w12:=by rw[h12];exact(Fr.own (Fr.own (Fr.refl _ _) _ _) _ _).alloc _
 have hlt:=hb.lt
 have hs:=hf.size
 have hs12:w12.heap.size=w11.heap.size+1:=by rw[h12];simp
 obtain⟨x1,x2,x3,Ax,cx,ex,hsx⟩:=hv
 simp only[exV,Value.agg.injEq,Array.mk.injEq,List.cons.injEq,Value.slice.injEq,true_and,and_true]at ex
 obtain⟨rfl,rfl⟩:=ex
 refine⟨_,rfl,⟨by show in8 3;unfold in8;omega,by show in64 0;unfold in64;omega,hat,_,_,rfl,lrq 1,sl1,fun _=>⟨w11.heap.size,0,rfl,?_⟩⟩,?_,?_⟩
 ·refine exR_one (by rw[h12];exact Bk.new_at _ _ _ (by simp)) ⟨hs,by omega⟩ ⟨x1,x2,x3⟩ (hsx.imp fun _ _ h=>?_)
  refine ExR.more (fun b hb=>?_) (ExR.keep (hf9.same fun b hb=>⟨hb.2,fun e=>?_⟩) h)
  ·have h1:=hb.1
   have h2:=hb.2
   exact⟨by omega,by omega⟩
  ·have h1:=hb.1
   omega
 ·refine hp.fr hf9 (fun e=>?_) (fun e=>?_) (fun i hi e=>?_)
  ·have e:C.P=rb:=e
   omega
  ·have e:C.TB=rb:=e
   omega
  ·have e:i=rb:=e
   omega
 ·rw[h12]
  exact(Fr.high (Fr.high hf hrb _ _) hrb _ _).alloc _

theorem sign_num (C:Pcx) (n:Nat) (l:List Tk) (d:Nat) (w:World) (hk:C.Ok) (h:PaAt C w l d) (hn0:mayB [45] l=false) (hn1:mayB [40] l=false) (hnm:namedB l=false):
  Calls Tryz.prog 286 #[.pointer (some ⟨C.P,0,none⟩)] w (ExP C d (signP n l) w):=by
 rw[signP_n hn0 hn1 hnm]
 have hL:=h.lts
 have hat:=in64_at hk h
 have hnumr:=fun hn=>in64_num hk h (hn:=hn)
 obtain⟨j,cap,m,hm0,hm1,hl,hmc,hcm,hb,p0,p1,f0,f1,t0,t1,t2,ltP,ltT⟩:=h.cells
 have hm2:m≤9223372036854775807:=by omega
 have hm3:(0:Int) < (m:Int):=by omega
 obtain⟨a,ha⟩:∃a:Int,a=(hdT l).at_ :=⟨_,rfl⟩
 rw[←ha]at t2 hat ⊢
 obtain⟨w1,hw1⟩:=nmq (((w.alloc (.cells #[.pointer (some ⟨C.P,0,none⟩)] 162)).alloc (.cells #[.int .u8 0,.string ⟨#[]⟩,.int .i64 0,.slice none 0 0,.int .i64 0] 175)).alloc (.cells #[.int .i64 a] 3))
 obtain⟨hf1,hz1,hpx,hbx,hax⟩:=sign_boxes C a w w1 hw1
 have h1:=h.fr hf1 id id fun _ _=>id
 have h2:=h1.alloc (.cells #[.string ⟨#[45]⟩] 9)
 have h3:=h2.alloc (.cells #[.string ⟨#[40]⟩] 9)
 have hi0:=is1_no C [45] l d w1.heap.size _ h2 hn0 (by simp)
 have hi1:=is1_no C [40] l d (w1.heap.size+1) _ h3 hn1 (by simp)
 have hf3:Fr NoT w1 ((w1.alloc (.cells #[.string ⟨#[45]⟩] 9)).alloc (.cells #[.string ⟨#[40]⟩] 9)):=((Fr.refl _ _).alloc _).alloc _
 have hnd:=named_any C l d _ hk h3
 rw[hnm]at hnd
 unfold BoolP at hnd
 have hnb:=fun W hW=>number_any C l d W hk hW
 unfold pP at hi0 hi1 hnd
 rw[hz1]at hi0 hi1
 have HW1:=hdq hw1
 have HF3:=hdq (hf1.trans hf3)
 have HPX:=hdq (hpx.fr0 hf3)
 have HAX:=hdq (hax.fr0 hf3)
 have HBX:=hdq (hbx.fr0 hf3)
 rw[hw1]at hi0 hi1 hnd HF3 HPX HAX HBX
 have HI0:=hdq hi0
 have HI1:=hdq hi1
 have HND:=hdq hnd
 have HNB:=hdq hnb
 have HL:=hdq hL
 have HNR:=hdq hnumr
 have HA:=hdq ha
 obtain⟨Rl,hRl⟩:=nmq (numberP l)
 rw[←hRl]
 have HRL:=hdq hRl
 clear hi0 hi1 hnd hnb hL hnumr ha hRl hw1 hf1 hz1 hpx hbx hax h1 h2 h3 hf3 h hk hb hl hm0 hn0 hn1 hnm
 go_enter Tryz.func286,Tryz.ntmps286
 go_wp2_with fail
 refine HI0.out.mono ?_
 rintro _ wq0 ⟨rr0,hrr0,rfl,rfl⟩
 go_wp2_with fail
 refine HI1.out.mono ?_
 rintro _ wq1 ⟨rr1,hrr1,rfl,rfl⟩
 go_wp2_with fail
 refine HND.out.mono ?_
 rintro _ w4 ⟨rfl,hp4,hf4⟩
 have hpb4:=HPX.out.fr hf4 (fun e=>by have e:w.heap.size=C.P:=e;have:=HL.out;omega)
 have hab4:=HAX.out.fr hf4 (fun e=>by have e:w.heap.size+2=C.P:=e;have:=HL.out;omega)
 have hbb4:=HBX.out.fr hf4 (fun e=>by have e:w.heap.size+1=C.P:=e;have:=HL.out;omega)
 have hp0:=hpb4.cell 0
 have ha0:=hab4.cell 0
 simp only[List.getElem?_toArray,List.getElem?_cons_zero]at hp0 ha0
 have hpl:=hpb4.lt
 have hal:=hab4.lt
 have HP4:=hdq (hp4.fr (T:=NoT) (Fr.drew (Fr.refl _ _)) id id fun _ _=>id)
 have HF4:=hdq (HF3.out.any.trans hf4)
 have HPB:=hdq hpb4
 have HAB:=hdq hab4
 have HBB:=hdq hbb4
 clear hp4 hf4 hpb4 hab4 hbb4
 go_wp2_with fail
 go_region_held2 (fun W'=>W'.cell? ⟨w.heap.size,0,none⟩=some (.pointer (some ⟨C.P,0,none⟩))∧W'.cell? ⟨w.heap.size+1+1,0,none⟩=some (.int .i64 a))
  (first
   |(refine⟨?_,?_⟩<;>with_reducible assumption)
   |(with_reducible refine⟨(Fr.cell (T:=fun b=>b=w.heap.size+1) (w:=w7) (Fr.own (Fr.own (Fr.own (Fr.own (Fr.own (Fr.refl _ _) _ _) _ _) _ _) _ _) _ _) hpl7 hpr).trans hp7,(Fr.cell (T:=fun b=>b=w.heap.size+1) (w:=w7) (Fr.own (Fr.own (Fr.own (Fr.own (Fr.own (Fr.refl _ _) _ _) _ _) _ _) _ _) _ _) hal7 har).trans ha7⟩)
   |(with_reducible refine⟨(Fr.cell (T:=NoT) (w:=w4) (Fr.drew (Fr.refl _ _)) hpl id).trans hp0,(Fr.cell (T:=NoT) (w:=w4) (Fr.drew (Fr.refl _ _)) hal id).trans ha0⟩))
  (first
   |(go_at_call 203
     with_reducible refine(HNB.out _ HP4.out).mono ?_
     intro e w7 hE
     rcases hE with⟨hkn,rfl,hp,hf⟩|⟨hkn,rfl,hf⟩
     rotate_left
     ·exact⟨rfl,by rw[HRL.out,numberP,if_neg hkn];exact⟨rfl,(HF4.out.drew).trans hf⟩⟩
     have hfd:=(Fr.drew (Fr.refl C.T w4)).trans hf
     have hb7:=HBB.out.fr hfd (fun e=>by have e:w.heap.size+1=C.P:=e;have:=HL.out;omega)
     have q0:=hb7.cell 0
     have q1:=hb7.cell 1
     have q2:=hb7.cell 2
     have q3:=hb7.cell 3
     have q4:=hb7.cell 4
     have g0:=hb7.frozen 0
     have g1:=hb7.frozen 1
     have g2:=hb7.frozen 2
     have g3:=hb7.frozen 3
     have g4:=hb7.frozen 4
     have hpb7:=HPB.out.fr hfd (fun e=>by have e:w.heap.size=C.P:=e;have:=HL.out;omega)
     have hab7:=HAB.out.fr hfd (fun e=>by have e:w.heap.size+2=C.P:=e;have:=HL.out;omega)
     have hp7:=hpb7.cell 0
     have ha7:=hab7.cell 0
     have hpl7:=hpb7.lt
     have hal7:=hab7.lt
     have hrl7:=hb7.lt
     have hpr:¬w.heap.size=w.heap.size+1:=by omega
     have har:¬w.heap.size+1+1=w.heap.size+1:=by omega
     simp only[getsL]at q0 q1 q2 q3 q4 hp7 ha7
     have HKN:=hdq hkn
     have HP:=hdq hp
     have HF:=hdq (HF4.out.trans hfd)
     have HB:=hdq hb7
     clear hkn hp hf hfd hb7 hpb7 hab7))
 all_goals
  go_wp2_with fail
  obtain⟨hb9,hv9,hp9,hf9⟩:=leaf_fin HL.out (k:=1) (n:=(decV (hdT l).text :Int)) (a:=a) (nm:=⟨#[]⟩) (by unfold in8;omega) (HNR.out HKN.out) hat (by omega) HB.out HP.out HF.out _ rfl
  have HV:=hdq hv9
  have HP9:=hdq hp9
  have HF9:=hdq hf9
  clear hb9 hv9 hp9 hf9
  refine bodyPost_ret (v:=exV 1 noB (decV (hdT l).text :Int) none 0 0 a) (by simp[results,Tryz.results286,go_sem,exV,noB,q0,q1,q2,q3,q4,hrl7]) rfl ?_
  rw[HRL.out,numberP,if_pos HKN.out]
  exact⟨_,rfl,HV.out,HP9.out,HF9.out⟩
theorem sign_var (C:Pcx) (n:Nat) (hs:∀m,n=m+1→SignC C m) (l:List Tk) (d:Nat) (w:World) (hdn:d+n=24) (hk:C.Ok) (h:PaAt C w l d) (hn0:mayB [45] l=false) (hn1:mayB [40] l=false) (hnm:namedB l=true):
  Calls Tryz.prog 286 #[.pointer (some ⟨C.P,0,none⟩)] w (ExP C d (signP n l) w):=by
 have hL:=h.lts
 have hat:=in64_at hk h
 obtain⟨R,hR⟩:=nmq (signP n l)
 rw[←hR]
 obtain⟨j,cap,m,hm0,hm1,hl,hmc,hcm,hb,p0,p1,f0,f1,t0,t1,t2,ltP,ltT⟩:=h.cells
 have hm2:m≤9223372036854775807:=by omega
 have hm3:(0:Int) < (m:Int):=by omega
 obtain⟨a,ha⟩:∃a:Int,a=(hdT l).at_ :=⟨_,rfl⟩
 rw[←ha]at t2 hat
 obtain⟨w1,hw1⟩:=nmq (((w.alloc (.cells #[.pointer (some ⟨C.P,0,none⟩)] 162)).alloc (.cells #[.int .u8 0,.string ⟨#[]⟩,.int .i64 0,.slice none 0 0,.int .i64 0] 175)).alloc (.cells #[.int .i64 a] 3))
 obtain⟨hf1,hz1,hpx,hbx,hax⟩:=sign_boxes C a w w1 hw1
 have h1:=h.fr hf1 id id fun _ _=>id
 have h2:=h1.alloc (.cells #[.string ⟨#[45]⟩] 9)
 have h3:=h2.alloc (.cells #[.string ⟨#[40]⟩] 9)
 have hi0:=is1_no C [45] l d w1.heap.size _ h2 hn0 (by simp)
 have hi1:=is1_no C [40] l d (w1.heap.size+1) _ h3 hn1 (by simp)
 have hf3:Fr NoT w1 ((w1.alloc (.cells #[.string ⟨#[45]⟩] 9)).alloc (.cells #[.string ⟨#[40]⟩] 9)):=((Fr.refl _ _).alloc _).alloc _
 have hnd:=named_any C l d _ hk h3
 rw[hnm]at hnd
 unfold BoolP at hnd
 have hnb:=fun W hW=>name_yes C l d W hk hW hnm
 unfold RetP vaV at hnb
 unfold pP at hi0 hi1 hnd hnb
 rw[hz1]at hi0 hi1
 have HW1:=hdq hw1
 have HF3:=hdq (hf1.trans hf3)
 have HPX:=hdq (hpx.fr0 hf3)
 have HAX:=hdq (hax.fr0 hf3)
 have HBX:=hdq (hbx.fr0 hf3)
 rw[hw1]at hi0 hi1 hnd HF3 HPX HAX HBX
 have HI0:=hdq hi0
 have HI1:=hdq hi1
 have HND:=hdq hnd
 have HNB:=hdq hnb
 have HL:=hdq hL
 have HK:=hdq hk
 have HS:=hdq hs
 have HR:=hdq hR
 have hmore:=hdq (fun W hW=>hk.more (w:=W) (l:=l) (d:=d) hW (notEnd_named hnm))
 have HA:=hdq ha
 have HV0:=hdq (fun hb=>signP_v (n:=n) hn0 hn1 hnm hb)
 have HV1:=hdq (fun hb=>signP_l (n:=n) hn0 hn1 hnm hb)
 clear hi0 hi1 hnd hnb hL ha hR hs hw1 hf1 hz1 hpx hbx hax h1 h2 h3 hf3 h hk hb hl hm0 hn0 hn1 hnm
 go_enter Tryz.func286,Tryz.ntmps286
 go_wp2_with fail
 refine HI0.out.mono ?_
 rintro _ wq0 ⟨rr0,hrr0,rfl,rfl⟩
 go_wp2_with fail
 refine HI1.out.mono ?_
 rintro _ wq1 ⟨rr1,hrr1,rfl,rfl⟩
 go_wp2_with fail
 refine HND.out.mono ?_
 rintro _ w4 ⟨rfl,hp4,hf4⟩
 have hpb4:=HPX.out.fr hf4 (fun e=>by have e:w.heap.size=C.P:=e;have:=HL.out;omega)
 have hab4:=HAX.out.fr hf4 (fun e=>by have e:w.heap.size+2=C.P:=e;have:=HL.out;omega)
 have hbb4:=HBX.out.fr hf4 (fun e=>by have e:w.heap.size+1=C.P:=e;have:=HL.out;omega)
 have hp0:=hpb4.cell 0
 have ha0:=hab4.cell 0
 simp only[List.getElem?_toArray,List.getElem?_cons_zero]at hp0 ha0
 have hpl:=hpb4.lt
 have hal:=hab4.lt
 have HP4:=hdq (hp4.fr (T:=NoT) (Fr.drew (Fr.refl _ _)) id id fun _ _=>id)
 have HF4:=hdq (HF3.out.any.trans hf4)
 have HPB:=hdq hpb4
 have HAB:=hdq hab4
 have HBB:=hdq hbb4
 clear hp4 hf4 hpb4 hab4 hbb4
 go_wp2_with fail
 go_region_held2 (fun W'=>W'.cell? ⟨w.heap.size,0,none⟩=some (.pointer (some ⟨C.P,0,none⟩))∧W'.cell? ⟨w.heap.size+1+1,0,none⟩=some (.int .i64 a))
  (first
   |(refine⟨?_,?_⟩<;>with_reducible assumption)
   |(with_reducible refine⟨(Fr.cell (T:=fun b=>b=w.heap.size+1) (w:=w7) (Fr.own (Fr.own (Fr.own (Fr.own (Fr.own (Fr.refl _ _) _ _) _ _) _ _) _ _) _ _) hpl7 hpr).trans hp7,(Fr.cell (T:=fun b=>b=w.heap.size+1) (w:=w7) (Fr.own (Fr.own (Fr.own (Fr.own (Fr.own (Fr.refl _ _) _ _) _ _) _ _) _ _) _ _) hal7 har).trans ha7⟩)
   |(with_reducible refine⟨(Fr.cell (T:=NoT) (w:=w4) (Fr.drew (Fr.refl _ _)) hpl id).trans hp0,(Fr.cell (T:=NoT) (w:=w4) (Fr.drew (Fr.refl _ _)) hal id).trans ha0⟩))
  (first
   |(go_at_call 131
     with_reducible refine(HNB.out _ HP4.out).mono ?_
     intro e w7 hE
     obtain⟨rfl,hp,hf⟩:=hE
     have hfd:=(Fr.drew (Fr.refl C.T w4)).trans hf
     have hb7:=HBB.out.fr hfd (fun e=>by have e:w.heap.size+1=C.P:=e;have:=HL.out;omega)
     have q0:=hb7.cell 0
     have q1:=hb7.cell 1
     have q2:=hb7.cell 2
     have q3:=hb7.cell 3
     have q4:=hb7.cell 4
     have g0:=hb7.frozen 0
     have g1:=hb7.frozen 1
     have g2:=hb7.frozen 2
     have g3:=hb7.frozen 3
     have g4:=hb7.frozen 4
     have hpb7:=HPB.out.fr hfd (fun e=>by have e:w.heap.size=C.P:=e;have:=HL.out;omega)
     have hab7:=HAB.out.fr hfd (fun e=>by have e:w.heap.size+2=C.P:=e;have:=HL.out;omega)
     have hp7:=hpb7.cell 0
     have ha7:=hab7.cell 0
     have hpl7:=hpb7.lt
     have hal7:=hab7.lt
     have hrl7:=hb7.lt
     have hpr:¬w.heap.size=w.heap.size+1:=by omega
     have har:¬w.heap.size+1+1=w.heap.size+1:=by omega
     simp only[getsL]at q0 q1 q2 q3 q4 hp7 ha7
     have HP:=hdq hp
     have HF:=hdq (HF4.out.trans hfd)
     have HB:=hdq hb7
     clear hp hf hfd hb7 hpb7 hab7))
 all_goals
  obtain⟨w9,hw9⟩:=nmq ((((((w7.setCell ⟨w.heap.size+1,0,none⟩ (.int .u8 2)).setCell ⟨w.heap.size+1,1,none⟩ (.string (txt (hdT l)))).setCell ⟨w.heap.size+1,2,none⟩ (.int .i64 0)).setCell ⟨w.heap.size+1,3,none⟩ (.slice none 0 0)).setCell ⟨w.heap.size+1,4,none⟩ (.int .i64 a)))
  obtain⟨hb9,hv9,hp9,hf9⟩:=leaf_fin HL.out (k:=2) (n:=0) (a:=a) (nm:=txt (hdT l)) (by unfold in8;omega) (by unfold in64;omega) hat (by omega) HB.out HP.out HF.out w9 hw9
  have HV:=hdq hv9
  have HP9:=hdq hp9
  have HF9:=hdq hf9
  have HB9:=hdq hb9
  rw[←hw9]
  have hf79:Fr (fun b=>b=w.heap.size+1) w7 w9:=by rw[hw9];exact Fr.own (Fr.own (Fr.own (Fr.own (Fr.own (Fr.refl _ _) _ _) _ _) _ _) _ _) _ _
  have hp9c:=(hf79.cell (p:=⟨w.heap.size,0,none⟩) hpl7 hpr).trans hp7
  clear hb9 hv9 hp9 hf9 hw9 q0 q1 q2 q3 q4 g0 g1 g2 g3 g4 hf79 hp7 ha7
  have hpa10:=HP9.out.alloc (.cells #[.string ⟨#[91]⟩] 9)
  have hb10:=HB9.out.alloc (.cells #[.string ⟨#[91]⟩] 9)
  have hpl9:w.heap.size < w9.heap.size:=by have:=HB9.out.lt;omega
  cases hbr:mayB [91] l.tail
  ·have hi2:=is1_no C [91] l.tail d w9.heap.size _ hpa10 hbr (by simp)
   unfold pP at hi2
   have HI2:=hdq hi2
   have HRR:=hdq (HR.out.trans (HV0.out hbr))
   have q0:=hb10.cell 0
   have q1:=hb10.cell 1
   have q2:=hb10.cell 2
   have q3:=hb10.cell 3
   have q4:=hb10.cell 4
   simp only[getsL]at q0 q1 q2 q3 q4
   have HP10:=hdq hpa10
   clear hi2 hbr hpa10 hb10
   go_wp2_with fail
   refine HI2.out.mono ?_
   rintro _ wq2 ⟨rr2,hrr2,rfl,rfl⟩
   go_wp2_with fail
   refine bodyPost_ret (v:=exV 2 (txt (hdT l)) 0 none 0 0 a) (by simp[results,Tryz.results286,go_sem,exV,q0,q1,q2,q3,q4]) rfl ?_
   rw[HRR.out,←HA.out]
   exact⟨_,rfl,ExV.fr (T:=NoT) HV.out ((Fr.refl _ _).alloc _) (fun _ _ _=>id),HP10.out,HF9.out.alloc _⟩
  ·have hi2:=is1_yes C [91] l.tail d w9.heap.size _ hpa10 hbr (by simp)
   unfold pP at hi2
   have HI2:=hdq hi2
   have HRR:=hdq (HR.out.trans (HV1.out hbr))
   have HIX:=hdq (index_any C n HS.out l.tail d _ hdn HK.out hpa10)
   have HB10:=hdq hb10
   clear hi2 hbr hpa10 hb10
   go_wp2_with fail
   refine HI2.out.mono ?_
   rintro _ wq2 ⟨rfl,rfl⟩
   go_wp2_with fail
   refine HIX.out.mono ?_
   intro e w11 hE
   rcases hE.ways with⟨x,r,A,c,hx,rfl,hv,hp,hf⟩|⟨c,e2,hx,rfl,hf⟩
   rotate_left
   ·go_wp2_with fail
    exact⟨rfl,by rw[HRR.out,hx];exact⟨rfl,(HF9.out.alloc _).trans hf⟩⟩
   have hb11:=HB10.out.fr hf (fun e=>by have e:w.heap.size+1=C.P:=e;have:=HL.out;omega)
   have q0:=hb11.cell 0
   have q3:=hb11.cell 3
   have g0:=hb11.frozen 0
   have g3:=hb11.frozen 3
   have hrl11:=hb11.lt
   have q1:=hb11.cell 1
   have q2:=hb11.cell 2
   have q4:=hb11.cell 4
   simp only[getsL]at q0 q1 q2 q3 q4
   have HX:=hdq hx
   have HLd:=hdq (load_fin HL.out (rb:=w.heap.size+1) (by omega) hat hb11 (by rw[World.size_alloc]at hv;exact hv.low (by omega)) hp ((HF9.out.alloc _).trans hf))
   clear hx hv hp hf hb11
   go_wp2_with fail
   refine bodyPost_ret (v:=exV 3 (txt (hdT l)) 0 (some ⟨w11.heap.size,0,none⟩) 1 1 a) (by simp[results,Tryz.results286,go_sem,exV,q0,q1,q2,q3,q4,hrl11]) rfl ?_
   rw[HRR.out,HX.out,←HA.out]
   exact HLd.out _ rfl
theorem sign_step (C:Pcx) (n:Nat) (hs:∀m,n=m+1→SignC C m) (l:List Tk) (d:Nat) (w:World) (hdn:d+n=24) (hk:C.Ok) (h:PaAt C w l d):Calls Tryz.prog 286 #[.pointer (some ⟨C.P,0,none⟩)] w (ExP C d (signP n l) w):=by
 cases h0:mayB [45] l
 ·cases h1:mayB [40] l
  ·cases h2:namedB l
   ·exact sign_num C n l d w hk h h0 h1 h2
   ·exact sign_var C n hs l d w hdn hk h h0 h1 h2
  ·exact sign_paren C n hs l d w hdn hk h h0 h1
 ·exact sign_minus C n hs l d w hdn hk h h0
theorem signC_all (C:Pcx) (hk:C.Ok):∀n,SignC C n:=by
 intro n
 induction n with
 |zero=>exact fun l d w hdn h=>sign_step C 0 (fun m h=>absurd h (by omega)) l d w hdn hk h
 |succ n ih=>exact fun l d w hdn h=>sign_step C (n+1) (fun m h=>(show n=m by omega)▸ih) l d w hdn hk h
theorem pexpr_any (C:Pcx) (n:Nat) (l:List Tk) (d:Nat) (w:World) (hdn:d+n=24) (hk:C.Ok) (h:PaAt C w l d):Calls Tryz.prog 247 #[.pointer (some ⟨C.P,0,none⟩)] w (ExP C d (exprP n l) w):=expr_any C n (signC_all C hk n) l d w hdn hk h
theorem pindex_any (C:Pcx) (n:Nat) (l:List Tk) (d:Nat) (w:World) (hdn:d+n=24) (hk:C.Ok) (h:PaAt C w l d):Calls Tryz.prog 246 #[.pointer (some ⟨C.P,0,none⟩)] w (ExP C d (indexP n l) w):=index_any C n (fun m _=>signC_all C hk m) l d w hdn hk h
end Go.Proofs.YtfomomaomggpbaaGreatDoor
