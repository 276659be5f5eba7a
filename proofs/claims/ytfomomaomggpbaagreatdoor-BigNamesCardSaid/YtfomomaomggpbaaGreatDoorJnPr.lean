/-
  parse: block.
-/
import Derived.Test.YtfomomaomggpbaaGreatDoorJnSt
set_option linter.unusedVariables false
set_option linter.unusedSimpArgs false
set_option maxHeartbeats 1600000
set_option maxRecDepth 100000
namespace Go.Proofs.YtfomomaomggpbaaGreatDoor
open Go.RowKit Go.Shelf

theorem blockP_no {n:Nat} {l:List Tk} (hm:mayB [123] l=false):blockP n l= .err 90 (hdT l).at_ :=by cases n<;>(unfold blockP;rw[hm];rfl)
theorem blockP_0 {l:List Tk} (hm:mayB [123] l=true):blockP 0 l= .err 91 (hdT l).at_ :=by unfold blockP;rw[hm];rfl
theorem blockP_s {n:Nat} {l:List Tk} (hm:mayB [123] l=true):blockP (n+1) l=stmtsF (stmtOf (blockP n) n) l.tail.length [] l.tail:=by unfold blockP;rw[hm];rfl
theorem block_any (C:Pcx) (n:Nat) (hs:∀m,n=m+1→BlkC C m) (l:List Tk) (d:Nat) (w:World) (hdn:d+n=24) (hk:C.Ok) (h:PaAt C w l d):
  Calls Tryz.prog 136 #[.pointer (some ⟨C.P,0,none⟩)] w (EndV C d StlV (blockP n l) w):=by
 have hmf:= @makeF Tryz.prog
 have hL:=h.lts
 obtain⟨w1,hw1⟩:=nmq ((w.alloc (.cells #[.pointer (some ⟨C.P,0,none⟩)] 162)).alloc (.cells #[.slice none 0 0] 25))
 have hf1:Fr NoT w w1:=by rw[hw1];exact((Fr.refl _ _).alloc _).alloc _
 have hz1:w1.heap.size=w.heap.size+2:=by rw[hw1];simp
 have hpx:Bk w1 w.heap.size 162 #[.pointer (some ⟨C.P,0,none⟩)]:=by rw[hw1];exact(Bk.new _ _ _).alloc _
 have hbx:Bk w1 (w.heap.size+1) 25 #[.slice none 0 0]:=by rw[hw1];exact Bk.new_at _ _ _ (by simp)
 have h1:=h.fr hf1 id id fun _ _=>id
 have HW1:=hdq hw1
 have hent:=enters_of Tryz.func205 (by kernel_rfl) rfl
 cases hm:mayB [123] l
 ·have hw:=within_no C [123] (.func (.func 205) #[] #[.pointer (some ⟨w.heap.size,0,none⟩),.pointer (some ⟨w.heap.size+1,0,none⟩)]) l d w1 h1 hm
  rw[blockP_no hm]
  rw[hw1]at hw
  unfold ErrP wrongE pP at hw
  have HW:=hdq hw
  have HF1:=hdq hf1
  clear hw hw1 hf1 hz1 hpx hbx h1 h hs hk hent hm
  go_enter Tryz.func136,Tryz.ntmps136
  go_wp2_with fail
  refine HW.out.mono ?_
  rintro _ w2 ⟨rfl,hf⟩
  go_wp2_with fail
  rw[←HW1.out]at hf
  exact⟨rfl,rfl,HF1.out.any.trans hf⟩
 ·match n,hs,hdn with
  |0,hs,hdn=>
   obtain rfl:d=24:=by omega
   have hw:=within_deep C [123] (.func (.func 205) #[] #[.pointer (some ⟨w.heap.size,0,none⟩),.pointer (some ⟨w.heap.size+1,0,none⟩)]) l w1 h1 hm
   rw[blockP_0 hm]
   rw[hw1]at hw
   unfold ErrP wrongE pP at hw
   have HW:=hdq hw
   have HF1:=hdq hf1
   clear hw hw1 hf1 hz1 hpx hbx h1 h hs hk hent hm
   go_enter Tryz.func136,Tryz.ntmps136
   go_wp2_with fail
   refine HW.out.mono ?_
   rintro _ w2 ⟨rfl,hf⟩
   go_wp2_with fail
   rw[←HW1.out]at hf
   exact⟨rfl,rfl,HF1.out.any.trans hf⟩
  |n+1,hs,hdn=>
   have hsn:=hs n rfl
   rw[blockP_s hm]
   obtain⟨R,hR⟩:=nmq (stmtsF (stmtOf (blockP n) n) l.tail.length [] l.tail)
   have hbr:∀W,PaAt C W l.tail (d+1)→Fr C.T w1 W→Calls Tryz.prog 205 #[.pointer (some ⟨w.heap.size,0,none⟩),.pointer (some ⟨w.heap.size+1,0,none⟩)] W (BlbP C (w.heap.size+1) (d+1) R W):=fun W hP hF=>by
    rw[hR]
    exact blockb_any C n hsn l.tail (d+1) w.heap.size (w.heap.size+1) W (by omega) hk hP (hpx.fr hF (fun e=>by have e:w.heap.size=C.P:=e;omega)) (by omega) (by omega) (hbx.fr hF (fun e=>by have e:w.heap.size+1=C.P:=e;omega)) (by omega) (by omega) (by omega)
   rw[←hR]
   clear hR
   cases hr:R with
   |err c a=>
    rw[hr]at hbr
    have hw:=within_bad C [123] 205 #[.pointer (some ⟨w.heap.size,0,none⟩),.pointer (some ⟨w.heap.size+1,0,none⟩)] l d w1 c a (fun w2=>Fr (PT C (w.heap.size+1)) w1 w2) hk h1 (by decide) hm (by omega) hent (fun W hP hF=>(hbr W hP hF).mono fun e w2 hE=>⟨hE.1,(PT.l hF).trans hE.2⟩)
    rw[hw1]at hw
    unfold wrongE pP at hw
    have HW:=hdq hw
    have HF1:=hdq hf1
    clear hw hw1 hf1 hz1 hpx hbx h1 h hs hk hent hm hbr hsn
    go_enter Tryz.func136,Tryz.ntmps136
    go_wp2_with fail
    refine HW.out.mono ?_
    rintro _ w2 ⟨rfl,hf⟩
    go_wp2_with fail
    rw[←HW1.out]at hf
    refine⟨rfl,rfl,(HF1.out.any.trans hf).mono fun i hi e=>?_⟩
    rcases e with e|e
    ·exact e
    ·omega
   |ok xs r=>
    rw[hr]at hbr
    have hw:=within_ok C [123] 205 #[.pointer (some ⟨w.heap.size,0,none⟩),.pointer (some ⟨w.heap.size+1,0,none⟩)] l d w1 (fun w2=>(∃v,Bk w2 (w.heap.size+1) 25 #[v]∧StlV w2 (w.heap.size+2) v xs)∧PaAt C w2 r (d+1)∧Fr (PT C (w.heap.size+1)) w1 w2) hk h1 (by decide) hm (by omega) hent (fun w2 h2=>⟨r,h2.2.1⟩)
     (fun W hP hF=>(hbr W hP hF).mono fun e w2 hE=>⟨hE.1,by
      obtain⟨v,hv,hs⟩:=hE.2.1
      refine⟨v,hv,?_⟩
      obtain⟨A,c,e,hs⟩:=hs
      exact⟨A,c,e,hs.imp fun _ _ hx=>StR.more (fun b hb=>⟨by have:=hF.size;have:=hb.1;omega,hb.2⟩) hx⟩,hE.2.2.1,(PT.l hF).trans hE.2.2.2⟩)
    rw[hw1]at hw
    unfold WithinP pP at hw
    have HW:=hdq hw
    have HF1:=hdq hf1
    have HK:=hdq hk
    have HL:=hdq hL
    clear hw hw1 hf1 hz1 hpx hbx h1 h hs hk hent hm hbr hsn hL
    go_enter Tryz.func136,Tryz.ntmps136
    go_wp2_with fail
    refine HW.out.mono ?_
    rintro _ w2 ⟨rfl,w3,⟨⟨v,hv,hsv⟩,hp,hf⟩,rfl⟩
    have hfd:Fr C.T w3 (w3.setCell ⟨C.P,1,none⟩ (.int .i64 d)):=(Fr.refl C.T w3).setCell (p:=⟨C.P,1,none⟩) (Or.inl C.Tp) _
    have hv3:=hv.fr hfd (fun e=>by have e:w.heap.size+1=C.P:=e;have:=HL.out;omega)
    have q0:=hv3.cell 0
    simp only[List.getElem?_toArray,List.getElem?_cons_zero]at q0
    rw[←HW1.out]at hf
    have HSV:=hdq (hsv.fr hfd (fun b h1 h2 e=>by have e:b=C.P:=e;have:=HL.out.1;omega))
    have HP:=hdq (hp.deep HK.out (d':=d) (v:=(d:Int)) rfl)
    have HF:=hdq (((HF1.out.any.trans hf).trans (PT.l hfd)).mono (T':=C.T) fun i hi e=>by
     rcases e with e|e
     ·exact e
     ·omega)
    clear hv hsv hp hf hfd hv3
    go_wp2_with fail
    refine bodyPost_ret (v:=v) (by simp[results,Tryz.results136,go_sem,q0]) rfl ⟨v,rfl,?_,HP.out,HF.out⟩
    obtain⟨A,c,e,hs⟩:=HSV.out
    exact⟨A,c,e,hs.imp fun _ _ hx=>StR.more (fun b hb=>⟨by have:=hb.1;omega,hb.2⟩) hx⟩
theorem blkC_all (C:Pcx) (hk:C.Ok):∀n,BlkC C n:=by
 intro n
 induction n with
 |zero=>exact fun l d w hdn h=>block_any C 0 (fun m e=>by omega) l d w hdn hk h
 |succ n ih=>exact fun l d w hdn h=>block_any C (n+1) (fun m e=>by obtain rfl:m=n:=(by omega);exact ih) l d w hdn hk h

def prV (x:Prc) (A:Option Addr) (c:Nat) (D:Option Addr) (e:Nat):Value:= .agg #[.string x.nm,.slice A x.params.length c,.slice D x.body.len e,.int .i64 x.at_]
def PcV (w:World) (L:Nat) (v:Value) (x:Prc):Prop:=
 ∃A c D e,v=prV x A c D e∧in64 x.at_∧SlR (VaR w (New L w) False x.params) x.params.length 24 A c∧SlR (StR w (New L w) False x.body) x.body.len 128 D e
theorem lsV_ways {C:Pcx} {d:Nat} {r:PR (List Va)} {W w':World} {e:Ending} (h:EndV C d lsVVa r W e w'):
  (∃(xs:List Va) (l:List Tk) (A:Option Addr) (c:Nat),r= .ok xs l∧e= .returned (.slice A xs.length c)∧SlR (VaR w' (New W.heap.size w') False xs) xs.length 24 A c∧PaAt C w' l d∧Fr C.T W w')∨
   ∃c a,r= .err c a∧e= .panicked [{v:= .iface 161 (.agg #[.int .i64 c,.int .i64 a]),recovered:=false}]∧Fr C.T W w':=by
 unfold EndV at h
 cases r with
 |err c a=>exact .inr ⟨c,a,rfl,h⟩
 |ok x l=>
  obtain⟨v,rfl,⟨A,c,rfl,hs⟩,hp,hf⟩:=h
  exact .inl ⟨x,l,A,c,rfl,rfl,hs,hp,hf⟩
theorem stlV_ways {C:Pcx} {d:Nat} {r:PR (List St)} {W w':World} {e:Ending} (h:EndV C d StlV r W e w'):
  (∃(xs:List St) (l:List Tk) (A:Option Addr) (c:Nat),r= .ok xs l∧e= .returned (.slice A (stsOf xs).len c)∧SlR (StR w' (New W.heap.size w') False (stsOf xs)) (stsOf xs).len 128 A c∧PaAt C w' l d∧Fr C.T W w')∨
   ∃c a,r= .err c a∧e= .panicked [{v:= .iface 161 (.agg #[.int .i64 c,.int .i64 a]),recovered:=false}]∧Fr C.T W w':=by
 unfold EndV at h
 cases r with
 |err c a=>exact .inr ⟨c,a,rfl,h⟩
 |ok x l=>
  obtain⟨v,rfl,⟨A,c,rfl,hs⟩,hp,hf⟩:=h
  exact .inl ⟨x,l,A,c,rfl,rfl,hs,hp,hf⟩
theorem proc_fin {C:Pcx} {w w4 w5 w7 w9:World} {x:Va} {ps:List Va} {xs:List St} {B D:Option Addr} {q m:Nat} {r3:List Tk} (hL:C.P < w.heap.size∧C.TB < w.heap.size∧C.W0.heap.size≤w.heap.size)
  (hf5:Fr C.T w w5) (hf:Fr C.T w5 w7) (h4:w.heap.size+1≤w4.heap.size) (hok:okCVa x) (hv5:SlR (VaR w5 (New w4.drew.heap.size w5) False ps) ps.length 24 B q) (hv:SlR (StR w7 (New w5.heap.size w7) False (stsOf xs)) (stsOf xs).len 128 D m) (hp:PaAt C w7 r3 0)
  (h9:w9=(((w7.setCell ⟨w.heap.size,0,none⟩ (.string x.nm)).setCell ⟨w.heap.size,1,none⟩ (.slice B ps.length q)).setCell ⟨w.heap.size,2,none⟩ (.slice D (stsOf xs).len m)).setCell ⟨w.heap.size,3,none⟩ (.int .i64 x.at_)) (h45:w4.drew.heap.size≤w5.heap.size):
  EndV C 0 PcV (.ok ⟨x.nm,ps,stsOf xs,x.at_⟩ r3) w (.returned (prV ⟨x.nm,ps,stsOf xs,x.at_⟩ B q D m)) w9:=by
 have hfr:Fr (fun b=>b=w.heap.size) w7 w9:=by rw[h9];exact Fr.own (Fr.own (Fr.own (Fr.own (Fr.refl _ _) _ _) _ _) _ _) _ _
 have hsz:=hf5.size
 have hs7:=hf.size
 have hs9:=hfr.size
 have h4':w.heap.size+1≤w4.drew.heap.size:=h4
 have hfx:Fr (fun b=>b=C.P∨b=w.heap.size) w5 w9:=(hf.mono fun i _ h=> .inl h).trans (hfr.mono fun i _ h=> .inr h)
 refine⟨_,rfl,⟨B,q,D,m,rfl,hok,hv5.imp fun _ _ h=>VaR.more (fun b hb=>⟨by have:=hb.1;omega,by have:=hb.2;omega⟩) (VaR.keep (hfx.same fun b hb=>⟨hb.2,fun e=>?_⟩) h),hv.imp fun _ _ h=>StR.more (fun b hb=>⟨by have:=hb.1;omega,by have:=hb.2;omega⟩) (StR.keep (hfr.same fun b hb=>⟨hb.2,fun e=>?_⟩) h)⟩,hp.fr hfr (fun e=>?_) (fun e=>?_) (fun i hi e=>?_),?_⟩
 ·have:=hb.1
  rcases e with e|e<;>omega
 ·have e:b=w.heap.size:=e
  have:=hb.1
  omega
 ·have e:C.P=w.heap.size:=e
  omega
 ·have e:C.TB=w.heap.size:=e
  omega
 ·have e:i=w.heap.size:=e
  omega
 ·refine(((hf5.trans hf).mono (T':=fun b=>b=C.P∨w.heap.size≤b) fun i _ h=> .inl h).trans (hfr.mono fun i _ h=>?_)).mono fun i hi e=>?_
  ·have h:i=w.heap.size:=h
   exact .inr (by omega)
  ·rcases e with e|e
   ·exact e
   ·omega
theorem proc_any (C:Pcx) (l:List Tk) (w:World) (hk:C.Ok) (h:PaAt C w l 0):
  Calls Tryz.prog 134 #[.pointer (some ⟨C.P,0,none⟩)] w (EndV C 0 PcV (procP l) w):=by
 have hmf:= @makeF Tryz.prog
 obtain⟨R,hR⟩:=nmq (procP l)
 rw[←hR]
 have HR:=hdq hR
 have HK:=hdq hk
 have HL:=hdq h.lts
 have h1:=h.alloc (.cells #[.string ⟨#[]⟩,.slice none 0 0,.slice none 0 0,.int .i64 0] 63)
 have HN:=hdq (pname_any C l 0 _ hk h1)
 have HRB:=hdq (Bk.new w 63 #[.string ⟨#[]⟩,.slice none 0 0,.slice none 0 0,.int .i64 0])
 have HA:=hdq (show Fr C.T w (w.alloc (.cells #[.string ⟨#[]⟩,.slice none 0 0,.slice none 0 0,.int .i64 0] 63))from(Fr.refl _ _).alloc _)
 clear hR h h1 hk
 go_enter Tryz.func134,Tryz.ntmps134
 go_wp2_with fail
 refine HN.out.mono ?_
 intro e w2 hE
 rcases hE.ways with⟨x,r,hx,rfl,hok,hp,hf⟩|⟨c,a,hx,rfl,hf⟩
 rotate_left
 ·go_wp2_with fail
  exact⟨rfl,by rw[HR.out,procP,hx];exact⟨rfl,HA.out.trans hf⟩⟩
 have hR2:=HR.out
 rw[procP,hx]at hR2
 replace hR2:R=(takeP [40] r).then fun _ r=>(someP nameP [41] true r).then fun ps r=>(blockP 24 r).then fun b r=> .ok ⟨x.nm,ps,stsOf b,x.at_⟩ r:=hR2
 have HR2:=hdq hR2
 have HOK:=hdq hok
 have hL:=HL.out
 have hs2:w.heap.size+1≤w2.heap.size:=by have:=hf.size;simpa using this
 have hp2:=(hp.alloc (.cells #[.string x.nm,.int .i64 x.at_] 77)).alloc (.cells #[.string ⟨#[40]⟩] 9)
 have HT:=hdq (take_any C [40] r 0 (w2.heap.size+1) _ HK.out hp2 (by decide) (by simp))
 have HF2:=hdq (((HA.out.trans hf).alloc (.cells #[.string x.nm,.int .i64 x.at_] 77)).alloc (.cells #[.string ⟨#[40]⟩] 9))
 have HV2:=hdq ((Bk.new w2 77 #[.string x.nm,.int .i64 x.at_]).alloc (.cells #[.string ⟨#[40]⟩] 9))
 have HB2:=hdq (((HRB.out.fr hf (fun e=>by have e:w.heap.size=C.P:=e;omega)).alloc (.cells #[.string x.nm,.int .i64 x.at_] 77)).alloc (.cells #[.string ⟨#[40]⟩] 9))
 clear hx hok hp hf hR2 hp2
 go_wp2_with fail
 refine HT.out.mono ?_
 intro e w4 hE
 rcases hE with⟨ht,rfl,hp,hf⟩|⟨ht,rfl,hf⟩
 rotate_left
 ·go_wp2_with fail
  exact⟨rfl,by rw[HR2.out,ht];exact⟨rfl,HF2.out.trans hf⟩⟩
 have hR3:=HR2.out
 rw[ht]at hR3
 replace hR3:R=(someP nameP [41] true r.tail).then fun ps r=>(blockP 24 r).then fun b r=> .ok ⟨x.nm,ps,stsOf b,x.at_⟩ r:=hR3
 have HR3:=hdq hR3
 have hvb:=HV2.out.fr hf (fun e=>by have e:w2.heap.size=C.P:=e;omega)
 have hrb:=HB2.out.fr hf (fun e=>by have e:w.heap.size=C.P:=e;omega)
 have v0:=hvb.cell 0
 have v1:=hvb.cell 1
 simp only[getsL]at v0 v1
 have hvl:=hvb.lt
 have hvP:¬w2.heap.size=C.P:=by omega
 have HSM:=hdq (someVa_any C nameP [41] true 131 #[.pointer (some ⟨C.P,0,none⟩)] #[] r.tail 0 w4.drew HK.out (hp.fr (T:=NoT) (Fr.drew (Fr.refl _ _)) id id fun _ _=>id) (fun l x r e=>by rw[nameP_shr e,List.length_tail];omega) (by decide) (enters_of Tryz.func131 (by kernel_rfl) rfl) fun W _ l' hp'=>by
  simpa using pname_any C l' 0 W HK.out hp')
 have HRB4:=hdq hrb
 have HF4:=hdq (HF2.out.trans hf)
 clear ht hp hf hR3 hvb hrb hL
 go_wp2_with fail
 go_region_held2 (fun W'=>W'.cell? ⟨w2.heap.size,0,none⟩=some (.string x.nm)∧W'.cell? ⟨w2.heap.size,1,none⟩=some (.int .i64 x.at_))
  (first
   |(refine⟨?_,?_⟩<;>with_reducible assumption)
   |(refine⟨(Fr.cell (T:=fun b=>b=w.heap.size) (w:=w7) ?_ hv7 hv7n).trans v07,(Fr.cell (T:=fun b=>b=w.heap.size) (w:=w7) ?_ hv7 hv7n).trans v17⟩
     all_goals(repeat(first|exact Fr.refl _ _|refine Fr.own ?_ _ _)))
   |(refine⟨(Fr.cell (T:=NoT) (w:=w4) ?_ hvl id).trans v0,(Fr.cell (T:=NoT) (w:=w4) ?_ hvl id).trans v1⟩
     all_goals(repeat(first|exact Fr.refl _ _|refine Fr.drew ?_))))
  (first
   |(go_at_call 130
     with_reducible refine HSM.out.mono ?_
     intro e w5 hE
     rcases lsV_ways hE with⟨ps,r2,B,q,hX,rfl,hv,hp,hf⟩|⟨c,a2,hX,rfl,hf⟩
     case inr=>exact⟨rfl,by rw[HR3.out,hX];exact⟨rfl,HF4.out.trans ((Fr.drew (Fr.refl C.T w4)).trans hf)⟩⟩
     have hf5:Fr C.T w4 w5:=(Fr.drew (Fr.refl C.T w4)).trans hf
     have v05:=(hf5.cell (p:=⟨w2.heap.size,0,none⟩) hvl hvP).trans v0
     have v15:=(hf5.cell (p:=⟨w2.heap.size,1,none⟩) hvl hvP).trans v1
     have hvl5:=ltq hvl hf5.size
     have HX:=hdq hX
     have HV5:=hdq hv
     have HF5:=hdq hf5
     have HBK:=hdq (blkC_all C HK.out 24 r2 0 w5 (by omega) hp)
     clear hX hv hp hf hf5)
   |(go_at_call 136
     with_reducible refine HBK.out.mono ?_
     intro e w7 hE
     rcases stlV_ways hE with⟨xs,r3,D,m,hY,rfl,hv,hp,hf⟩|⟨c,a2,hY,rfl,hf⟩
     case inr=>exact⟨rfl,by rw[HR3.out,HX.out];show EndV C 0 PcV ((blockP 24 r2).then _) w _ _;rw[hY];exact⟨rfl,(HF4.out.trans HF5.out).trans hf⟩⟩
     have v07:=(hf.cell (p:=⟨w2.heap.size,0,none⟩) hvl5 hvP).trans v05
     have v17:=(hf.cell (p:=⟨w2.heap.size,1,none⟩) hvl5 hvP).trans v15
     have hv7:=ltq hvl5 hf.size
     have hv7n:¬w2.heap.size=w.heap.size:=by omega
     have hb7:=(HRB4.out.fr HF5.out (fun e=>by have e:w.heap.size=C.P:=e;have:=HL.out;omega)).fr hf (fun e=>by have e:w.heap.size=C.P:=e;have:=HL.out;omega)
     have q0:=hb7.cell 0
     have q1:=hb7.cell 1
     have q2:=hb7.cell 2
     have q3:=hb7.cell 3
     have g0:=hb7.frozen 0
     have g1:=hb7.frozen 1
     have g2:=hb7.frozen 2
     have g3:=hb7.frozen 3
     have hlt7:=hb7.lt
     simp only[getsL]at q0 q1 q2 q3
     have HY:=hdq hY
     have HE:=hdq (fun w9 h9=>proc_fin (w9:=w9) HL.out (HF4.out.trans HF5.out) hf (by have:=HF4.out.size;omega) HOK.out HV5.out hv hp h9 HF5.out.size)
     clear hY hv hp hf hb7))
 all_goals
  go_wp2_with fail
  refine bodyPost_ret (v:=prV ⟨x.nm,ps,stsOf xs,x.at_⟩ B q D m) (by simp[results,Tryz.results134,go_sem,prV,q0,q1,q2,q3,hlt7]) rfl ?_
  have hR5:=HR3.out
  rw[HX.out]at hR5
  replace hR5:R=(blockP 24 r2).then fun b r=> .ok ⟨x.nm,ps,stsOf b,x.at_⟩ r:=hR5
  rw[hR5,HY.out]
  exact HE.out _ rfl
end Go.Proofs.YtfomomaomggpbaaGreatDoor
