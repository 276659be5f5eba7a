/-
  parse: sign: a minus, parentheses. Printed by wip/gen_pasign.py.
-/
import Derived.Test.YtphlnpaikpjakaaGreatDoorJgPaC
set_option linter.unusedVariables false
set_option linter.unusedSimpArgs false
set_option maxHeartbeats 3200000
set_option maxRecDepth 100000
namespace Go.Proofs.YtphlnpaikpjakaaGreatDoor
open Go.RowKit Go.Shelf

theorem in64_at {C:Pcx} (hk:C.Ok) {w:World} {l:List Tk} {d:Nat} (h:PaAt C w l d):in64 ((hdT l).at_ :Int):=by
 obtain⟨j,cap,e,_⟩:=h.at_
 have:=hk.pos _ (List.mem_of_getElem? (drop_head e h.ne).1)
 unfold in64;omega
theorem sign_boxes (C:Pcx) (a:Int) (w w1:World) (hw:w1=((w.alloc (.cells #[.pointer (some ⟨C.P,0,none⟩)] 74)).alloc (.cells #[.int .u8 0,.string ⟨#[]⟩,.int .i64 0,.slice none 0 0,.int .i64 0] 68)).alloc (.cells #[.int .i64 a] 3)):
  Fr NoT w w1∧w1.heap.size=w.heap.size+3∧Bk w1 w.heap.size 74 #[.pointer (some ⟨C.P,0,none⟩)]∧Bk w1 (w.heap.size+1) 68 #[.int .u8 0,.string ⟨#[]⟩,.int .i64 0,.slice none 0 0,.int .i64 0]∧Bk w1 (w.heap.size+2) 3 #[.int .i64 a]:=by
 subst hw
 exact⟨(((Fr.refl _ _).alloc _).alloc _).alloc _,by simp,((Bk.new _ _ _).alloc _).alloc _,(Bk.new_at _ _ _ (by simp)).alloc _,Bk.new_at _ _ _ (by simp)⟩

theorem signP_n {n:Nat} {l:List Tk} (h0:mayB [45] l=false) (h1:mayB [40] l=false) (hn:namedB l=false):signP n l=(numberP l).then fun v r=> .ok ⟨1,noB,v,.nil,(hdT l).at_⟩ r:=by
 cases n<;>(unfold signP;rw[if_neg (by rw[h0];decide),if_neg (by rw[h1];decide),if_neg (by rw[hn];decide)])
theorem signP_v {n:Nat} {l:List Tk} (h0:mayB [45] l=false) (h1:mayB [40] l=false) (hn:namedB l=true) (hb:mayB [91] l.tail=false):signP n l= .ok ⟨2,txt (hdT l),0,.nil,(hdT l).at_⟩ l.tail:=by
 cases n<;>(unfold signP;rw[if_neg (by rw[h0];decide),if_neg (by rw[h1];decide),if_pos hn,if_neg (by rw[hb];decide)])
theorem number_any (C:Pcx) (l:List Tk) (d:Nat) (w:World) (hk:C.Ok) (h:PaAt C w l d):Calls Tryz.prog 93 #[.pointer (some ⟨C.P,0,none⟩)] w fun e w'=>
  ((hdT l).kind =2∧e= .returned (.int .i64 (decV (hdT l).text))∧PaAt C w' l.tail d∧Fr C.T w w')∨((hdT l).kind ≠2∧e= .panicked [{v:= .iface 73 (.agg #[.int .i64 90,.int .i64 (hdT l).at_]),recovered:=false}]∧Fr C.T w w'):=by
 by_cases hn:(hdT l).kind =2
 ·exact(number_yes C l d w hk h hn).mono fun e w' h=> .inl ⟨hn,h⟩
 ·exact(number_no C l d w h hn).mono fun e w' h=> .inr ⟨hn,h⟩
theorem in64_num {C:Pcx} (hk:C.Ok) {w:World} {l:List Tk} {d:Nat} (h:PaAt C w l d) (hn:(hdT l).kind =2):in64 (decV (hdT l).text :Int):=by
 obtain⟨j,cap,e,_⟩:=h.at_
 have hmem:=List.mem_of_getElem? (drop_head e h.ne).1
 have hnum:=fT_number (t:=(hdT l).text) (n:=(hdT l).text.length) (by
  rcases hk.toks _ hmem with h1|h1
  ·rw[h1,hn]
  ·rw[h1.2]at hn;simp at hn) rfl
 have:=hnum.2.2
 unfold in64;omega
theorem leaf_fin {C:Pcx} {w w7:World} {rb d:Nat} {k n a:Int} {nm:ByteArray} {r:List Tk} {q0 q1 q2 q3 q4:Value} (hL:C.P < w.heap.size∧C.TB < w.heap.size∧C.W0.heap.size≤w.heap.size) (h8:in8 k) (hn:in64 n) (hat:in64 a) (hrb:w.heap.size≤rb)
  (hb:Bk w7 rb 68 #[q0,q1,q2,q3,q4]) (hp:PaAt C w7 r d) (hf:Fr C.T w w7) (w9:World)
  (h9:w9=(((((w7.setCell ⟨rb,0,none⟩ (.int .u8 k)).setCell ⟨rb,1,none⟩ (.string nm)).setCell ⟨rb,2,none⟩ (.int .i64 n)).setCell ⟨rb,3,none⟩ (.slice none 0 0)).setCell ⟨rb,4,none⟩ (.int .i64 a))):
  Bk w9 rb 68 #[.int .u8 k,.string nm,.int .i64 n,.slice none 0 0,.int .i64 a]∧ExV w9 w.heap.size (exV k nm n none 0 0 a) ⟨k,nm,n,.nil,a⟩∧PaAt C w9 r d∧Fr C.T w w9:=by
 have hf9:Fr (fun b=>b=rb) w7 w9:=by rw[h9];exact Fr.own (Fr.own (Fr.own (Fr.own (Fr.own (Fr.refl _ _) _ _) _ _) _ _) _ _) _ _
 refine⟨by rw[h9];exact bk5 hb,⟨h8,hn,hat,none,0,rfl,lrq 0,sl0,fun h=>absurd h (by simp[Exs.len])⟩,hp.fr hf9 (fun e=>?_) (fun e=>?_) (fun i hi e=>?_),?_⟩
 ·have e:C.P=rb:=e
  omega
 ·have e:C.TB=rb:=e
  omega
 ·have e:i=rb:=e
  omega
 ·rw[h9]
  exact Fr.high (Fr.high (Fr.high (Fr.high (Fr.high hf hrb _ _) hrb _ _) hrb _ _) hrb _ _) hrb _ _

theorem sign_num (C:Pcx) (n:Nat) (l:List Tk) (d:Nat) (w:World) (hk:C.Ok) (h:PaAt C w l d) (hn0:mayB [45] l=false) (hn1:mayB [40] l=false) (hnm:namedB l=false):
  Calls Tryz.prog 175 #[.pointer (some ⟨C.P,0,none⟩)] w (ExP C d (signP n l) w):=by
 rw[signP_n hn0 hn1 hnm]
 have hL:=h.lts
 have hat:=in64_at hk h
 have hnumr:=fun hn=>in64_num hk h (hn:=hn)
 obtain⟨j,cap,m,hm0,hm1,hl,hmc,hcm,hb,p0,p1,f0,f1,t0,t1,t2,ltP,ltT⟩:=h.cells
 have hm2:m≤9223372036854775807:=by omega
 have hm3:(0:Int) < (m:Int):=by omega
 obtain⟨a,ha⟩:∃a:Int,a=(hdT l).at_ :=⟨_,rfl⟩
 rw[←ha]at t2 hat ⊢
 obtain⟨w1,hw1⟩:=nmq (((w.alloc (.cells #[.pointer (some ⟨C.P,0,none⟩)] 74)).alloc (.cells #[.int .u8 0,.string ⟨#[]⟩,.int .i64 0,.slice none 0 0,.int .i64 0] 68)).alloc (.cells #[.int .i64 a] 3))
 obtain⟨hf1,hz1,hpx,hbx,hax⟩:=sign_boxes C a w w1 hw1
 have h1:=h.fr hf1 id id fun _ _=>id
 have h2:=h1.alloc (.cells #[.string ⟨#[45]⟩] 9)
 have h3:=h2.alloc (.cells #[.string ⟨#[40]⟩] 9)
 have hi0:=is1_no C [45] l d w1.heap.size _ h2 hn0 (by simp)
 have hi1:=is1_no C [40] l d (w1.heap.size+1) _ h3 hn1 (by simp)
 have hf3:Fr NoT w1 ((w1.alloc (.cells #[.string ⟨#[45]⟩] 9)).alloc (.cells #[.string ⟨#[40]⟩] 9)):=((Fr.refl _ _).alloc _).alloc _
 have hnd:=named_any C l d _ hk h3
 rw[hnm]at hnd
 unfold BoolP at hnd
 have hnb:=fun W hW=>number_any C l d W hk hW
 unfold pP at hi0 hi1 hnd
 rw[hz1]at hi0 hi1
 have HW1:=hdq hw1
 have HF3:=hdq (hf1.trans hf3)
 have HPX:=hdq (hpx.fr0 hf3)
 have HAX:=hdq (hax.fr0 hf3)
 have HBX:=hdq (hbx.fr0 hf3)
 rw[hw1]at hi0 hi1 hnd HF3 HPX HAX HBX
 have HI0:=hdq hi0
 have HI1:=hdq hi1
 have HND:=hdq hnd
 have HNB:=hdq hnb
 have HL:=hdq hL
 have HNR:=hdq hnumr
 have HA:=hdq ha
 obtain⟨Rl,hRl⟩:=nmq (numberP l)
 rw[←hRl]
 have HRL:=hdq hRl
 clear hi0 hi1 hnd hnb hL hnumr ha hRl hw1 hf1 hz1 hpx hbx hax h1 h2 h3 hf3 h hk hb hl hm0 hn0 hn1 hnm
 go_enter Tryz.func175,Tryz.ntmps175
 go_wp2_with fail
 refine HI0.out.mono ?_
 rintro _ wq0 ⟨rr0,hrr0,rfl,rfl⟩
 go_wp2_with fail
 refine HI1.out.mono ?_
 rintro _ wq1 ⟨rr1,hrr1,rfl,rfl⟩
 go_wp2_with fail
 refine HND.out.mono ?_
 rintro _ w4 ⟨rfl,hp4,hf4⟩
 have hpb4:=HPX.out.fr hf4 (fun e=>by have e:w.heap.size=C.P:=e;have:=HL.out;omega)
 have hab4:=HAX.out.fr hf4 (fun e=>by have e:w.heap.size+2=C.P:=e;have:=HL.out;omega)
 have hbb4:=HBX.out.fr hf4 (fun e=>by have e:w.heap.size+1=C.P:=e;have:=HL.out;omega)
 have hp0:=hpb4.cell 0
 have ha0:=hab4.cell 0
 simp only[List.getElem?_toArray,List.getElem?_cons_zero]at hp0 ha0
 have hpl:=hpb4.lt
 have hal:=hab4.lt
 have HP4:=hdq (hp4.fr (T:=NoT) (Fr.drew (Fr.refl _ _)) id id fun _ _=>id)
 have HF4:=hdq (HF3.out.any.trans hf4)
 have HPB:=hdq hpb4
 have HAB:=hdq hab4
 have HBB:=hdq hbb4
 clear hp4 hf4 hpb4 hab4 hbb4
 go_wp2_with fail
 go_region_held2 (fun W'=>W'.cell? ⟨w.heap.size,0,none⟩=some (.pointer (some ⟨C.P,0,none⟩))∧W'.cell? ⟨w.heap.size+1+1,0,none⟩=some (.int .i64 a))
  (first
   |(refine⟨?_,?_⟩<;>with_reducible assumption)
   |(with_reducible refine⟨(Fr.cell (T:=fun b=>b=w.heap.size+1) (w:=w7) (Fr.own (Fr.own (Fr.own (Fr.own (Fr.own (Fr.refl _ _) _ _) _ _) _ _) _ _) _ _) hpl7 hpr).trans hp7,(Fr.cell (T:=fun b=>b=w.heap.size+1) (w:=w7) (Fr.own (Fr.own (Fr.own (Fr.own (Fr.own (Fr.refl _ _) _ _) _ _) _ _) _ _) _ _) hal7 har).trans ha7⟩)
   |(with_reducible refine⟨(Fr.cell (T:=NoT) (w:=w4) (Fr.drew (Fr.refl _ _)) hpl id).trans hp0,(Fr.cell (T:=NoT) (w:=w4) (Fr.drew (Fr.refl _ _)) hal id).trans ha0⟩))
  (first
   |(go_at_call 93
     with_reducible refine(HNB.out _ HP4.out).mono ?_
     intro e w7 hE
     rcases hE with⟨hkn,rfl,hp,hf⟩|⟨hkn,rfl,hf⟩
     rotate_left
     ·exact⟨rfl,by rw[HRL.out,numberP,if_neg hkn];exact⟨rfl,(HF4.out.drew).trans hf⟩⟩
     have hfd:=(Fr.drew (Fr.refl C.T w4)).trans hf
     have hb7:=HBB.out.fr hfd (fun e=>by have e:w.heap.size+1=C.P:=e;have:=HL.out;omega)
     have q0:=hb7.cell 0
     have q1:=hb7.cell 1
     have q2:=hb7.cell 2
     have q3:=hb7.cell 3
     have q4:=hb7.cell 4
     have g0:=hb7.frozen 0
     have g1:=hb7.frozen 1
     have g2:=hb7.frozen 2
     have g3:=hb7.frozen 3
     have g4:=hb7.frozen 4
     have hpb7:=HPB.out.fr hfd (fun e=>by have e:w.heap.size=C.P:=e;have:=HL.out;omega)
     have hab7:=HAB.out.fr hfd (fun e=>by have e:w.heap.size+2=C.P:=e;have:=HL.out;omega)
     have hp7:=hpb7.cell 0
     have ha7:=hab7.cell 0
     have hpl7:=hpb7.lt
     have hal7:=hab7.lt
     have hrl7:=hb7.lt
     have hpr:¬w.heap.size=w.heap.size+1:=by omega
     have har:¬w.heap.size+1+1=w.heap.size+1:=by omega
     simp only[getsL]at q0 q1 q2 q3 q4 hp7 ha7
     have HKN:=hdq hkn
     have HP:=hdq hp
     have HF:=hdq (HF4.out.trans hfd)
     have HB:=hdq hb7
     clear hkn hp hf hfd hb7 hpb7 hab7))
 all_goals
  go_wp2_with fail
  obtain⟨hb9,hv9,hp9,hf9⟩:=leaf_fin HL.out (k:=1) (n:=(decV (hdT l).text :Int)) (a:=a) (nm:=⟨#[]⟩) (by unfold in8;omega) (HNR.out HKN.out) hat (by omega) HB.out HP.out HF.out _ rfl
  have HV:=hdq hv9
  have HP9:=hdq hp9
  have HF9:=hdq hf9
  clear hb9 hv9 hp9 hf9
  refine bodyPost_ret (v:=exV 1 noB (decV (hdT l).text :Int) none 0 0 a) (by simp[results,Tryz.results175,go_sem,exV,noB,q0,q1,q2,q3,q4,hrl7]) rfl ?_
  rw[HRL.out,numberP,if_pos HKN.out]
  exact⟨_,rfl,HV.out,HP9.out,HF9.out⟩

def signQ (l:List Tk):PR Ex:=
 if mayB [45] l || mayB [40] l then .err 0 0 else if namedB l then(if mayB [91] l.tail then .err 0 0 else .ok ⟨2,txt (hdT l),0,.nil,(hdT l).at_⟩ l.tail)
 else(numberP l).then fun v r=> .ok ⟨1,noB,v,.nil,(hdT l).at_⟩ r
theorem signQ_shr:Shr signQ:=fun l y r e=>by
 unfold signQ at e
 split at e
 ·simp at e
 ·split at e
  ·split at e
   ·simp at e
   ·simp only[PR.ok.injEq]at e;rw[←e.2,List.length_tail];omega
  ·obtain⟨a,q,h1,h2⟩:=PR.then_ok e
   simp only[PR.ok.injEq]at h2
   rw[←h2.2,numberP_shr h1,List.length_tail];omega
theorem sign_var0 (C:Pcx) (n:Nat) (l:List Tk) (d:Nat) (w:World) (hk:C.Ok) (h:PaAt C w l d) (hn0:mayB [45] l=false) (hn1:mayB [40] l=false) (hnm:namedB l=true) (hbr0:mayB [91] l.tail=false):
  Calls Tryz.prog 175 #[.pointer (some ⟨C.P,0,none⟩)] w (ExP C d (signP n l) w):=by
 have hL:=h.lts
 have hat:=in64_at hk h
 obtain⟨R,hR⟩:=nmq (signP n l)
 rw[←hR]
 obtain⟨j,cap,m,hm0,hm1,hl,hmc,hcm,hb,p0,p1,f0,f1,t0,t1,t2,ltP,ltT⟩:=h.cells
 have hm2:m≤9223372036854775807:=by omega
 have hm3:(0:Int) < (m:Int):=by omega
 obtain⟨a,ha⟩:∃a:Int,a=(hdT l).at_ :=⟨_,rfl⟩
 rw[←ha]at t2 hat
 obtain⟨w1,hw1⟩:=nmq (((w.alloc (.cells #[.pointer (some ⟨C.P,0,none⟩)] 74)).alloc (.cells #[.int .u8 0,.string ⟨#[]⟩,.int .i64 0,.slice none 0 0,.int .i64 0] 68)).alloc (.cells #[.int .i64 a] 3))
 obtain⟨hf1,hz1,hpx,hbx,hax⟩:=sign_boxes C a w w1 hw1
 have h1:=h.fr hf1 id id fun _ _=>id
 have h2:=h1.alloc (.cells #[.string ⟨#[45]⟩] 9)
 have h3:=h2.alloc (.cells #[.string ⟨#[40]⟩] 9)
 have hi0:=is1_no C [45] l d w1.heap.size _ h2 hn0 (by simp)
 have hi1:=is1_no C [40] l d (w1.heap.size+1) _ h3 hn1 (by simp)
 have hf3:Fr NoT w1 ((w1.alloc (.cells #[.string ⟨#[45]⟩] 9)).alloc (.cells #[.string ⟨#[40]⟩] 9)):=((Fr.refl _ _).alloc _).alloc _
 have hnd:=named_any C l d _ hk h3
 rw[hnm]at hnd
 unfold BoolP at hnd
 have hnb:=fun W hW=>name_yes C l d W hk hW hnm
 unfold RetP vaV at hnb
 unfold pP at hi0 hi1 hnd hnb
 rw[hz1]at hi0 hi1
 have HW1:=hdq hw1
 have HF3:=hdq (hf1.trans hf3)
 have HPX:=hdq (hpx.fr0 hf3)
 have HAX:=hdq (hax.fr0 hf3)
 have HBX:=hdq (hbx.fr0 hf3)
 rw[hw1]at hi0 hi1 hnd HF3 HPX HAX HBX
 have HI0:=hdq hi0
 have HI1:=hdq hi1
 have HND:=hdq hnd
 have HNB:=hdq hnb
 have HL:=hdq hL
 have HR:=hdq hR
 have HBR:=hdq hbr0
 have HA:=hdq ha
 have HV0:=hdq (fun hb=>signP_v (n:=n) hn0 hn1 hnm hb)
 clear hi0 hi1 hnd hnb hL ha hR hw1 hf1 hz1 hpx hbx hax h1 h2 h3 hf3 h hk hb hl hm0 hn0 hn1 hnm hbr0
 go_enter Tryz.func175,Tryz.ntmps175
 go_wp2_with fail
 refine HI0.out.mono ?_
 rintro _ wq0 ⟨rr0,hrr0,rfl,rfl⟩
 go_wp2_with fail
 refine HI1.out.mono ?_
 rintro _ wq1 ⟨rr1,hrr1,rfl,rfl⟩
 go_wp2_with fail
 refine HND.out.mono ?_
 rintro _ w4 ⟨rfl,hp4,hf4⟩
 have hpb4:=HPX.out.fr hf4 (fun e=>by have e:w.heap.size=C.P:=e;have:=HL.out;omega)
 have hab4:=HAX.out.fr hf4 (fun e=>by have e:w.heap.size+2=C.P:=e;have:=HL.out;omega)
 have hbb4:=HBX.out.fr hf4 (fun e=>by have e:w.heap.size+1=C.P:=e;have:=HL.out;omega)
 have hp0:=hpb4.cell 0
 have ha0:=hab4.cell 0
 simp only[List.getElem?_toArray,List.getElem?_cons_zero]at hp0 ha0
 have hpl:=hpb4.lt
 have hal:=hab4.lt
 have HP4:=hdq (hp4.fr (T:=NoT) (Fr.drew (Fr.refl _ _)) id id fun _ _=>id)
 have HF4:=hdq (HF3.out.any.trans hf4)
 have HPB:=hdq hpb4
 have HAB:=hdq hab4
 have HBB:=hdq hbb4
 clear hp4 hf4 hpb4 hab4 hbb4
 go_wp2_with fail
 go_region_held2 (fun W'=>W'.cell? ⟨w.heap.size,0,none⟩=some (.pointer (some ⟨C.P,0,none⟩))∧W'.cell? ⟨w.heap.size+1+1,0,none⟩=some (.int .i64 a))
  (first
   |(refine⟨?_,?_⟩<;>with_reducible assumption)
   |(with_reducible refine⟨(Fr.cell (T:=fun b=>b=w.heap.size+1) (w:=w7) (Fr.own (Fr.own (Fr.own (Fr.own (Fr.own (Fr.refl _ _) _ _) _ _) _ _) _ _) _ _) hpl7 hpr).trans hp7,(Fr.cell (T:=fun b=>b=w.heap.size+1) (w:=w7) (Fr.own (Fr.own (Fr.own (Fr.own (Fr.own (Fr.refl _ _) _ _) _ _) _ _) _ _) _ _) hal7 har).trans ha7⟩)
   |(with_reducible refine⟨(Fr.cell (T:=NoT) (w:=w4) (Fr.drew (Fr.refl _ _)) hpl id).trans hp0,(Fr.cell (T:=NoT) (w:=w4) (Fr.drew (Fr.refl _ _)) hal id).trans ha0⟩))
  (first
   |(go_at_call 49
     with_reducible refine(HNB.out _ HP4.out).mono ?_
     intro e w7 hE
     obtain⟨rfl,hp,hf⟩:=hE
     have hfd:=(Fr.drew (Fr.refl C.T w4)).trans hf
     have hb7:=HBB.out.fr hfd (fun e=>by have e:w.heap.size+1=C.P:=e;have:=HL.out;omega)
     have q0:=hb7.cell 0
     have q1:=hb7.cell 1
     have q2:=hb7.cell 2
     have q3:=hb7.cell 3
     have q4:=hb7.cell 4
     have g0:=hb7.frozen 0
     have g1:=hb7.frozen 1
     have g2:=hb7.frozen 2
     have g3:=hb7.frozen 3
     have g4:=hb7.frozen 4
     have hpb7:=HPB.out.fr hfd (fun e=>by have e:w.heap.size=C.P:=e;have:=HL.out;omega)
     have hab7:=HAB.out.fr hfd (fun e=>by have e:w.heap.size+2=C.P:=e;have:=HL.out;omega)
     have hp7:=hpb7.cell 0
     have ha7:=hab7.cell 0
     have hpl7:=hpb7.lt
     have hal7:=hab7.lt
     have hrl7:=hb7.lt
     have hpr:¬w.heap.size=w.heap.size+1:=by omega
     have har:¬w.heap.size+1+1=w.heap.size+1:=by omega
     simp only[getsL]at q0 q1 q2 q3 q4 hp7 ha7
     have HP:=hdq hp
     have HF:=hdq (HF4.out.trans hfd)
     have HB:=hdq hb7
     clear hp hf hfd hb7 hpb7 hab7))
 all_goals
  obtain⟨w9,hw9⟩:=nmq ((((((w7.setCell ⟨w.heap.size+1,0,none⟩ (.int .u8 2)).setCell ⟨w.heap.size+1,1,none⟩ (.string (txt (hdT l)))).setCell ⟨w.heap.size+1,2,none⟩ (.int .i64 0)).setCell ⟨w.heap.size+1,3,none⟩ (.slice none 0 0)).setCell ⟨w.heap.size+1,4,none⟩ (.int .i64 a)))
  obtain⟨hb9,hv9,hp9,hf9⟩:=leaf_fin HL.out (k:=2) (n:=0) (a:=a) (nm:=txt (hdT l)) (by unfold in8;omega) (by unfold in64;omega) hat (by omega) HB.out HP.out HF.out w9 hw9
  have HV:=hdq hv9
  have HP9:=hdq hp9
  have HF9:=hdq hf9
  have HB9:=hdq hb9
  rw[←hw9]
  have hf79:Fr (fun b=>b=w.heap.size+1) w7 w9:=by rw[hw9];exact Fr.own (Fr.own (Fr.own (Fr.own (Fr.own (Fr.refl _ _) _ _) _ _) _ _) _ _) _ _
  have hp9c:=(hf79.cell (p:=⟨w.heap.size,0,none⟩) hpl7 hpr).trans hp7
  clear hb9 hv9 hp9 hf9 hw9 q0 q1 q2 q3 q4 g0 g1 g2 g3 g4 hf79 hp7 ha7
  have hpa10:=HP9.out.alloc (.cells #[.string ⟨#[91]⟩] 9)
  have hb10:=HB9.out.alloc (.cells #[.string ⟨#[91]⟩] 9)
  have hpl9:w.heap.size < w9.heap.size:=by have:=HB9.out.lt;omega
  have hbr:=HBR.out
  ·have hi2:=is1_no C [91] l.tail d w9.heap.size _ hpa10 hbr (by simp)
   unfold pP at hi2
   have HI2:=hdq hi2
   have HRR:=hdq (HR.out.trans (HV0.out hbr))
   have q0:=hb10.cell 0
   have q1:=hb10.cell 1
   have q2:=hb10.cell 2
   have q3:=hb10.cell 3
   have q4:=hb10.cell 4
   simp only[getsL]at q0 q1 q2 q3 q4
   have HP10:=hdq hpa10
   clear hi2 hbr hpa10 hb10
   go_wp2_with fail
   refine HI2.out.mono ?_
   rintro _ wq2 ⟨rr2,hrr2,rfl,rfl⟩
   go_wp2_with fail
   refine bodyPost_ret (v:=exV 2 (txt (hdT l)) 0 none 0 0 a) (by simp[results,Tryz.results175,go_sem,exV,q0,q1,q2,q3,q4]) rfl ?_
   rw[HRR.out,←HA.out]
   exact⟨_,rfl,ExV.fr (T:=NoT) HV.out ((Fr.refl _ _).alloc _) (fun _ _ _=>id),HP10.out,HF9.out.alloc _⟩
theorem sign_ok (C:Pcx) (l:List Tk) (d:Nat) (w:World) (x:Ex) (r:List Tk) (hok:signQ l= .ok x r) (hk:C.Ok) (h:PaAt C w l d):Calls Tryz.prog 175 #[.pointer (some ⟨C.P,0,none⟩)] w (ExK C d x r w):=by
 unfold signQ at hok
 split at hok
 ·simp at hok
 ·rename_i h0
  simp only[Bool.or_eq_true,not_or,Bool.not_eq_true]at h0
  cases h2:namedB l
  ·rw[if_neg (by rw[h2];decide)]at hok
   have:=sign_num C 0 l d w hk h h0.1 h0.2 h2
   rw[signP_n h0.1 h0.2 h2,hok]at this
   exact this
  ·rw[if_pos h2]at hok
   split at hok
   ·simp at hok
   ·rename_i h3
    have h3:mayB [91] l.tail=false:=by simpa using h3
    have:=sign_var0 C 0 l d w hk h h0.1 h0.2 h2 h3
    rw[signP_v h0.1 h0.2 h2 h3,hok]at this
    exact this

def timesQ (l:List Tk):PR Ex:=chainP signQ (twoX 7) mulS l
def sumQ (l:List Tk):PR Ex:=chainP timesQ (twoX 5) addS l
def exprQ (l:List Tk):PR Ex:=chainP sumQ (twoX 10) shS l
theorem timesQ_shr:Shr timesQ:=chainP_shr signQ_shr
theorem sumQ_shr:Shr sumQ:=chainP_shr timesQ_shr
theorem exprQ_shr:Shr exprQ:=chainP_shr sumQ_shr
def BoxK (C:Pcx) (d:Nat) (X:Ex) (Rr:List Tk) (w:World) (rb:Nat) (K:World→Prop) (e:Ending) (w7:World):Prop:=
  ∃A c,e= .returned (.agg #[.int .u8 X.k,.string X.nm,.int .i64 X.n,.slice A X.args.len c,.int .i64 X.at_])∧Bk w7 rb 68 #[.int .u8 0,.string ⟨#[]⟩,.int .i64 0,.slice none 0 0,.int .i64 0]∧K w7∧
    Hid (∀w9,w9=((((w7.setCell ⟨rb,0,none⟩ (.int .u8 X.k)).setCell ⟨rb,1,none⟩ (.string X.nm)).setCell ⟨rb,2,none⟩ (.int .i64 X.n)).setCell ⟨rb,3,none⟩ (.slice A X.args.len c)).setCell ⟨rb,4,none⟩ (.int .i64 X.at_)→ExK C d X Rr w (.returned (exV X.k X.nm X.n A X.args.len c X.at_)) w9)
theorem boxK {C:Pcx} {d:Nat} {X:Ex} {Rr:List Tk} {w WA:World} {rb f:Nat} {av:Array Value} {K:World→Prop} (hL:C.P < w.heap.size∧C.TB < w.heap.size∧C.W0.heap.size≤w.heap.size) (hA:Fr NoT w WA) (hr:w.heap.size≤rb)
    (hb:Bk WA rb 68 #[.int .u8 0,.string ⟨#[]⟩,.int .i64 0,.slice none 0 0,.int .i64 0]) (hK:∀W,Fr C.T WA W→K W) (h:Calls Tryz.prog f av WA (ExK C d X Rr WA)):Calls Tryz.prog f av WA (BoxK C d X Rr w rb K):=by
  refine h.mono ?_
  rintro e w7 ⟨v,rfl,hv,hp,hf⟩
  obtain⟨A,c,rfl⟩:=ExVS.parts hv
  exact⟨A,c,rfl,hb.fr hf (fun e=>by have e:rb=C.P:=e;omega),hK _ hf,fun w9 h9=>exP_box hL hA hr hb.lt hv hp hf h9⟩
theorem chain_ofK (C:Pcx) (one:List Tk→PR Ex) (first:Int) (signs:List (List UInt8)) (g:Nat) (fst cap:Array Value) (bt b m:Nat) (l:List Tk) (d:Nat) (w:World) (X:Ex) (Rr:List Tk) (hok:chainP one (twoX first) signs l= .ok X Rr) (hk:C.Ok) (h:PaAt C w l d) (hshr:Shr one)
    (hm:m=signs.length) (hsg:∀s∈signs,s≠ []) (hsl:signs.length≤3) (hss:Bk w b 9 (strA signs)) (hbP:b≠C.P)
    (hbt:Bk w bt 5 #[.int .u8 first]) (hbtP:bt≠C.P) (hf0:0≤first) (hf1:first≤20)
    (hent:Enters Tryz.prog g) (hone:∀W,Fr C.T w W→∀l' x r,one l'= .ok x r→PaAt C W l' d→Calls Tryz.prog g (fst++cap) W (ExK C d x r W)):
    Calls Tryz.prog 174 #[.pointer (some ⟨C.P,0,none⟩),.func (.func g) fst cap,.func (.func 206) #[] #[.pointer (some ⟨bt,0,none⟩)],.slice (some ⟨b,0,none⟩) m m] w (ExK C d X Rr w):=by
  subst hm
  exact chainE_ok C one first signs g fst cap bt b _ l d w X Rr hok hk h hshr hsg hsl (fun j hj=>by rw[hss.cell j];simp[strA,hj]) hss.lt hbP hbt hbtP hf0 hf1 hent hone
theorem times_ok (C:Pcx) (l:List Tk) (d:Nat) (pb:Nat) (w:World) (X:Ex) (Rr:List Tk) (hok:timesQ l= .ok X Rr) (hk:C.Ok) (h:PaAt C w l d) (hpb:Bk w pb 74 #[.pointer (some ⟨C.P,0,none⟩)]) (hnep:pb≠C.P):
    Calls Tryz.prog 173 #[.pointer (some ⟨pb,0,none⟩)] w (ExK C d X Rr w):=by
  have hmf:= @makeF Tryz.prog
  have hL:=h.lts
  have hpl:=hpb.lt
  have hp0:=hpb.cell 0
  simp only[List.getElem?_toArray,List.getElem?_cons_zero]at hp0
  obtain⟨w1,hw1⟩:=nmq (w.alloc (.cells #[.int .u8 0,.string ⟨#[]⟩,.int .i64 0,.slice none 0 0,.int .i64 0] 68))
  have hz1:w1.heap.size=w.heap.size+1:=by rw[hw1];simp
  have hf1:Fr NoT w w1:=by rw[hw1];exact(Fr.refl _ _).alloc _
  have hbx:Bk w1 w.heap.size 68 #[.int .u8 0,.string ⟨#[]⟩,.int .i64 0,.slice none 0 0,.int .i64 0]:=by rw[hw1];exact Bk.new _ _ _
  obtain⟨a1,a2,a3⟩:=ordA w1 #[.int .u8 7] (strA mulS) _ rfl
  obtain⟨b1,b2,b3⟩:=ordB w1 #[.int .u8 7] (strA mulS) _ rfl
  rw[hz1]at a1 a2 b1 b2
  have key:∀(W:World) (bt b:Nat),Fr NoT w1 W→Bk W bt 5 #[.int .u8 7]→Bk W b 9 (strA mulS)→w.heap.size < bt→w.heap.size < b→Calls Tryz.prog 174 #[.pointer (some ⟨C.P,0,none⟩),.func (.func 175) #[.pointer (some ⟨C.P,0,none⟩)] #[],.func (.func 206) #[] #[.pointer (some ⟨bt,0,none⟩)],.slice (some ⟨b,0,none⟩) 3 3] W (BoxK C d X Rr w (w.heap.size) fun W'=>(W'.cell? ⟨pb,0,none⟩=some (.pointer (some ⟨C.P,0,none⟩))∧pb < W'.heap.size)):=fun W bt b hf h1 h2 h3 h4=>
    boxK hL (hf1.trans hf) (by omega) (hbx.fr0 hf) (fun W' hW=>⟨((hpb.fr0 (hf1.trans hf)).fr hW hnep).cell 0,((hpb.fr0 (hf1.trans hf)).fr hW hnep).lt⟩) (chain_ofK C signQ 7 mulS 175 _ _ bt b 3 l d W X Rr hok hk (h.fr (hf1.trans hf) id id fun _ _=>id) signQ_shr rfl (by decide) (by decide) h2 (by omega) h1 (by omega) (by decide) (by decide) (enters_of Tryz.func175 (by kernel_rfl) rfl) fun W' hfw l' x r hx hp'=>by
      simpa using sign_ok C l' d W' x r hx hk hp')
  have HA:=hdq (key _ _ _ a3 a1 a2 (by omega) (by omega))
  have HB:=hdq (key _ _ _ b3 b1 b2 (by omega) (by omega))
  rw[hw1]at HA HB
  have hpr:¬pb=w.heap.size:=by omega
  clear key hw1 hz1 hf1 hbx a1 a2 a3 b1 b2 b3 hL h hk hok hpb hnep
  unfold strA mulS at HA HB
  simp only[List.map_cons,List.map_nil]at HA HB
  go_enter Tryz.func173,Tryz.ntmps173
  go_wp2_with fail
  go_region_held2 (fun W'=>W'.cell? ⟨pb,0,none⟩=some (.pointer (some ⟨C.P,0,none⟩)))
    (first
      |(with_reducible assumption)
      |(with_reducible refine(Fr.cell (T:=fun b=>b=w.heap.size) (w:=w7) (Fr.own (Fr.own (Fr.own (Fr.own (Fr.own (Fr.refl _ _) _ _) _ _) _ _) _ _) _ _) hpl7 hpr).trans hp7)
      | (refine(Fr.cell (T:=NoT) (w:=w) ?_ hpl id).trans hp0
         repeat(first|exact Fr.refl _ _|refine Fr.alloc ?_ _|refine Fr.drew ?_)))
    (first
      | (go_at_call 176
         refine(two_any _ _).mono ?_
         rintro _ wa ⟨rfl,rfl⟩)
      | (go_at_call 174
         first
           |(with_reducible refine HA.out.mono ?_)
           |(with_reducible refine HB.out.mono ?_)
         rintro _ w7 ⟨A,c,rfl,hb7,⟨hp7,hpl7⟩,HE⟩
         have q0:=hb7.cell 0
         have q1:=hb7.cell 1
         have q2:=hb7.cell 2
         have q3:=hb7.cell 3
         have q4:=hb7.cell 4
         have g0:=hb7.frozen 0
         have g1:=hb7.frozen 1
         have g2:=hb7.frozen 2
         have g3:=hb7.frozen 3
         have g4:=hb7.frozen 4
         have hlt7:=hb7.lt
         simp only[getsL]at q0 q1 q2 q3 q4
         clear hb7))
  all_goals
    go_wp2_with fail
    exact bodyPost_ret (v:=exV X.k X.nm X.n A X.args.len c X.at_) (by simp[results,Tryz.results173,go_sem,exV,q0,q1,q2,q3,q4,hlt7]) rfl (HE.out _ rfl)
theorem sum_ok (C:Pcx) (l:List Tk) (d:Nat) (pb fb:Nat) (w:World) (X:Ex) (Rr:List Tk) (hok:sumQ l= .ok X Rr) (hk:C.Ok) (h:PaAt C w l d) (hpb:Bk w pb 74 #[.pointer (some ⟨C.P,0,none⟩)]) (hnep:pb≠C.P) (hfb:Bk w fb 215 #[.func (.func 173) #[] #[.pointer (some ⟨pb,0,none⟩)]]) (hnef:fb≠C.P):
    Calls Tryz.prog 177 #[.pointer (some ⟨pb,0,none⟩),.pointer (some ⟨fb,0,none⟩)] w (ExK C d X Rr w):=by
  have hmf:= @makeF Tryz.prog
  have hL:=h.lts
  have hpl:=hpb.lt
  have hp0:=hpb.cell 0
  have hfl:=hfb.lt
  have hf0:=hfb.cell 0
  simp only[List.getElem?_toArray,List.getElem?_cons_zero]at hp0 hf0
  obtain⟨w1,hw1⟩:=nmq (w.alloc (.cells #[.int .u8 0,.string ⟨#[]⟩,.int .i64 0,.slice none 0 0,.int .i64 0] 68))
  have hz1:w1.heap.size=w.heap.size+1:=by rw[hw1];simp
  have hf1:Fr NoT w w1:=by rw[hw1];exact(Fr.refl _ _).alloc _
  have hbx:Bk w1 w.heap.size 68 #[.int .u8 0,.string ⟨#[]⟩,.int .i64 0,.slice none 0 0,.int .i64 0]:=by rw[hw1];exact Bk.new _ _ _
  obtain⟨a1,a2,a3⟩:=ordA w1 #[.int .u8 5] (strA addS) _ rfl
  obtain⟨b1,b2,b3⟩:=ordB w1 #[.int .u8 5] (strA addS) _ rfl
  rw[hz1]at a1 a2 b1 b2
  have key:∀(W:World) (bt b:Nat),Fr NoT w1 W→Bk W bt 5 #[.int .u8 5]→Bk W b 9 (strA addS)→w.heap.size < bt→w.heap.size < b→Calls Tryz.prog 174 #[.pointer (some ⟨C.P,0,none⟩),.func (.func 173) #[] #[.pointer (some ⟨pb,0,none⟩)],.func (.func 206) #[] #[.pointer (some ⟨bt,0,none⟩)],.slice (some ⟨b,0,none⟩) 2 2] W (BoxK C d X Rr w (w.heap.size) fun W'=>(W'.cell? ⟨pb,0,none⟩=some (.pointer (some ⟨C.P,0,none⟩))∧pb < W'.heap.size)∧(W'.cell? ⟨fb,0,none⟩=some (.func (.func 173) #[] #[.pointer (some ⟨pb,0,none⟩)])∧fb < W'.heap.size)):=fun W bt b hf h1 h2 h3 h4=>
    boxK hL (hf1.trans hf) (by omega) (hbx.fr0 hf) (fun W' hW=>⟨⟨((hpb.fr0 (hf1.trans hf)).fr hW hnep).cell 0,((hpb.fr0 (hf1.trans hf)).fr hW hnep).lt⟩,⟨((hfb.fr0 (hf1.trans hf)).fr hW hnef).cell 0,((hfb.fr0 (hf1.trans hf)).fr hW hnef).lt⟩⟩) (chain_ofK C timesQ 5 addS 173 _ _ bt b 2 l d W X Rr hok hk (h.fr (hf1.trans hf) id id fun _ _=>id) timesQ_shr rfl (by decide) (by decide) h2 (by omega) h1 (by omega) (by decide) (by decide) (enters_of Tryz.func173 (by kernel_rfl) rfl) fun W' hfw l' x r hx hp'=>by
      simpa using times_ok C l' d pb W' x r hx hk hp' ((hpb.fr0 (hf1.trans hf)).fr hfw hnep) hnep)
  have HA:=hdq (key _ _ _ a3 a1 a2 (by omega) (by omega))
  have HB:=hdq (key _ _ _ b3 b1 b2 (by omega) (by omega))
  rw[hw1]at HA HB
  have hpr:¬pb=w.heap.size:=by omega
  have hfr:¬fb=w.heap.size:=by omega
  clear key hw1 hz1 hf1 hbx a1 a2 a3 b1 b2 b3 hL h hk hok hpb hnep hfb hnef
  unfold strA addS at HA HB
  simp only[List.map_cons,List.map_nil]at HA HB
  go_enter Tryz.func177,Tryz.ntmps177
  go_wp2_with fail
  go_region_held2 (fun W'=>W'.cell? ⟨pb,0,none⟩=some (.pointer (some ⟨C.P,0,none⟩))∧W'.cell? ⟨fb,0,none⟩=some (.func (.func 173) #[] #[.pointer (some ⟨pb,0,none⟩)]))
    (first
      |(refine⟨?_,?_⟩<;>with_reducible assumption)
      |(with_reducible refine⟨(Fr.cell (T:=fun b=>b=w.heap.size) (w:=w7) (Fr.own (Fr.own (Fr.own (Fr.own (Fr.own (Fr.refl _ _) _ _) _ _) _ _) _ _) _ _) hpl7 hpr).trans hp7,(Fr.cell (T:=fun b=>b=w.heap.size) (w:=w7) (Fr.own (Fr.own (Fr.own (Fr.own (Fr.own (Fr.refl _ _) _ _) _ _) _ _) _ _) _ _) hfl7 hfr).trans hf7⟩)
      | (refine⟨(Fr.cell (T:=NoT) (w:=w) ?_ hpl id).trans hp0,(Fr.cell (T:=NoT) (w:=w) ?_ hfl id).trans hf0⟩<;>
         repeat(first|exact Fr.refl _ _|refine Fr.alloc ?_ _|refine Fr.drew ?_)))
    (first
      | (go_at_call 176
         refine(two_any _ _).mono ?_
         rintro _ wa ⟨rfl,rfl⟩)
      | (go_at_call 174
         first
           |(with_reducible refine HA.out.mono ?_)
           |(with_reducible refine HB.out.mono ?_)
         rintro _ w7 ⟨A,c,rfl,hb7,⟨⟨hp7,hpl7⟩,⟨hf7,hfl7⟩⟩,HE⟩
         have q0:=hb7.cell 0
         have q1:=hb7.cell 1
         have q2:=hb7.cell 2
         have q3:=hb7.cell 3
         have q4:=hb7.cell 4
         have g0:=hb7.frozen 0
         have g1:=hb7.frozen 1
         have g2:=hb7.frozen 2
         have g3:=hb7.frozen 3
         have g4:=hb7.frozen 4
         have hlt7:=hb7.lt
         simp only[getsL]at q0 q1 q2 q3 q4
         clear hb7))
  all_goals
    go_wp2_with fail
    exact bodyPost_ret (v:=exV X.k X.nm X.n A X.args.len c X.at_) (by simp[results,Tryz.results177,go_sem,exV,q0,q1,q2,q3,q4,hlt7]) rfl (HE.out _ rfl)
theorem expr_ok (C:Pcx) (l:List Tk) (d:Nat) (w:World) (X:Ex) (Rr:List Tk) (hok:exprQ l= .ok X Rr) (hk:C.Ok) (h:PaAt C w l d):
    Calls Tryz.prog 130 #[.pointer (some ⟨C.P,0,none⟩)] w (ExK C d X Rr w):=by
  have hmf:= @makeF Tryz.prog
  have hL:=h.lts
  obtain⟨w1,hw1⟩:=nmq (((w.alloc (.cells #[.pointer (some ⟨C.P,0,none⟩)] 74)).alloc (.cells #[.int .u8 0,.string ⟨#[]⟩,.int .i64 0,.slice none 0 0,.int .i64 0] 68)).alloc (.cells #[.func (.func 173) #[] #[.pointer (some ⟨w.heap.size,0,none⟩)]] 215))
  have hz1:w1.heap.size=w.heap.size+3:=by rw[hw1];simp
  have hf1:Fr NoT w w1:=by rw[hw1];exact(((Fr.refl _ _).alloc _).alloc _).alloc _
  have hpx:Bk w1 w.heap.size 74 #[.pointer (some ⟨C.P,0,none⟩)]:=by rw[hw1];exact((Bk.new _ _ _).alloc _).alloc _
  have hbx:Bk w1 (w.heap.size+1) 68 #[.int .u8 0,.string ⟨#[]⟩,.int .i64 0,.slice none 0 0,.int .i64 0]:=by rw[hw1];exact(Bk.new_at _ _ _ (by simp)).alloc _
  have hfx:Bk w1 (w.heap.size+2) 215 #[.func (.func 173) #[] #[.pointer (some ⟨w.heap.size,0,none⟩)]]:=by rw[hw1];exact Bk.new_at _ _ _ (by simp)
  have hp0:=hpx.cell 0
  have hpl:=hpx.lt
  simp only[List.getElem?_toArray,List.getElem?_cons_zero]at hp0
  obtain⟨a1,a2,a3⟩:=ordA w1 #[.int .u8 10] (strA shS) _ rfl
  obtain⟨b1,b2,b3⟩:=ordB w1 #[.int .u8 10] (strA shS) _ rfl
  rw[hz1]at a1 a2 b1 b2
  have key:∀(W:World) (bt b:Nat),Fr NoT w1 W→Bk W bt 5 #[.int .u8 10]→Bk W b 9 (strA shS)→w.heap.size < bt→w.heap.size < b→Calls Tryz.prog 174 #[.pointer (some ⟨C.P,0,none⟩),.func (.func 177) #[] #[.pointer (some ⟨w.heap.size,0,none⟩),.pointer (some ⟨w.heap.size+1+1,0,none⟩)],.func (.func 206) #[] #[.pointer (some ⟨bt,0,none⟩)],.slice (some ⟨b,0,none⟩) 2 2] W (BoxK C d X Rr w (w.heap.size+1) fun W'=>(W'.cell? ⟨w.heap.size,0,none⟩=some (.pointer (some ⟨C.P,0,none⟩))∧w.heap.size < W'.heap.size)):=fun W bt b hf h1 h2 h3 h4=>
    boxK hL (hf1.trans hf) (by omega) (hbx.fr0 hf) (fun W' hW=>⟨((hpx.fr0 hf).fr hW (fun e=>by have e:w.heap.size=C.P:=e;omega)).cell 0,((hpx.fr0 hf).fr hW (fun e=>by have e:w.heap.size=C.P:=e;omega)).lt⟩) (chain_ofK C sumQ 10 shS 177 _ _ bt b 2 l d W X Rr hok hk (h.fr (hf1.trans hf) id id fun _ _=>id) sumQ_shr rfl (by decide) (by decide) h2 (by omega) h1 (by omega) (by decide) (by decide) (enters_of Tryz.func177 (by kernel_rfl) rfl) fun W' hfw l' x r hx hp'=>by
      simpa using sum_ok C l' d w.heap.size (w.heap.size+2) W' x r hx hk hp' ((hpx.fr0 hf).fr hfw (fun e=>by have e:w.heap.size=C.P:=e;omega)) (by omega) ((hfx.fr0 hf).fr hfw (fun e=>by have e:w.heap.size+2=C.P:=e;omega)) (by omega))
  have HA:=hdq (key _ _ _ a3 a1 a2 (by omega) (by omega))
  have HB:=hdq (key _ _ _ b3 b1 b2 (by omega) (by omega))
  rw[hw1]at HA HB hp0 hpl
  have hpr:¬w.heap.size=w.heap.size+1:=by omega
  clear key hw1 hz1 hf1 hbx a1 a2 a3 b1 b2 b3 hL h hk hok hpx hfx
  unfold strA shS at HA HB
  simp only[List.map_cons,List.map_nil]at HA HB
  go_enter Tryz.func130,Tryz.ntmps130
  go_wp2_with fail
  go_region_held2 (fun W'=>W'.cell? ⟨w.heap.size,0,none⟩=some (.pointer (some ⟨C.P,0,none⟩)))
    (first
      |(with_reducible assumption)
      |(with_reducible refine(Fr.cell (T:=fun b=>b=w.heap.size+1) (w:=w7) (Fr.own (Fr.own (Fr.own (Fr.own (Fr.own (Fr.refl _ _) _ _) _ _) _ _) _ _) _ _) hpl7 hpr).trans hp7)
      | (refine(Fr.cell (T:=NoT) (w:=_) ?_ hpl id).trans hp0
         repeat(first|exact Fr.refl _ _|refine Fr.alloc ?_ _|refine Fr.drew ?_)))
    (first
      | (go_at_call 176
         refine(two_any _ _).mono ?_
         rintro _ wa ⟨rfl,rfl⟩)
      | (go_at_call 174
         first
           |(with_reducible refine HA.out.mono ?_)
           |(with_reducible refine HB.out.mono ?_)
         rintro _ w7 ⟨A,c,rfl,hb7,⟨hp7,hpl7⟩,HE⟩
         have q0:=hb7.cell 0
         have q1:=hb7.cell 1
         have q2:=hb7.cell 2
         have q3:=hb7.cell 3
         have q4:=hb7.cell 4
         have g0:=hb7.frozen 0
         have g1:=hb7.frozen 1
         have g2:=hb7.frozen 2
         have g3:=hb7.frozen 3
         have g4:=hb7.frozen 4
         have hlt7:=hb7.lt
         simp only[getsL]at q0 q1 q2 q3 q4
         clear hb7))
  all_goals
    go_wp2_with fail
    exact bodyPost_ret (v:=exV X.k X.nm X.n A X.args.len c X.at_) (by simp[results,Tryz.results130,go_sem,exV,q0,q1,q2,q3,q4,hlt7]) rfl (HE.out _ rfl)
end Go.Proofs.YtphlnpaikpjakaaGreatDoor
