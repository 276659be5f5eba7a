/-
  ref11, as plain functions: what a tree declares, what is wrong with its procedures, and with the tree. No program.
-/
import Derived.Test.YtmopichdofgndaaGreatDoorJgRtUpTo
set_option linter.unusedVariables false
set_option linter.unusedSimpArgs false
set_option maxHeartbeats 3200000
set_option maxRecDepth 100000
namespace Go.Proofs.YtmopichdofgndaaGreatDoor
open Go.RowKit Go.Shelf

def rdV:List Va→Wl→Wl×(Int×Int)
 | [],ws=>(ws,(0,0))
 |v::r,ws=>if 0≤atI v.nm ws 0 then(ws,(v.at_,111))else rdV r (ws++ [(v.nm,1,0)])
def rdA:List Arr→Wl→Wl×(Int×Int)
 | [],ws=>(ws,(0,0))
 |v::r,ws=>if 0≤atI v.nm ws 0 then(ws,(v.at_,111))else if v.size < 1∨16 < v.size then(ws,(v.at_,113))else rdA r (ws++ [(v.nm,2,0)])
def rdP:List Prc→Wl→Wl×(Int×Int)
 | [],ws=>(ws,(0,0))
 |v::r,ws=>if 0≤atI v.nm ws 0 then(ws,(v.at_,111))else rdP r (ws++ [(v.nm,3,(v.params.length:Int))])
def rdT (t:Tre):Wl×(Int×Int):=
 if(rdV t.vars []).2.2 =0 then
  if(rdA t.arrays (rdV t.vars []).1).2.2 =0 then rdP t.procs (rdA t.arrays (rdV t.vars []).1).1
  else rdA t.arrays (rdV t.vars []).1
 else rdV t.vars []
def rdF2 (t:Tre) (q:Wl×(Int×Int)):Wl×(Int×Int):=if q.2.2=0 then rdP t.procs q.1 else q
def rdF1 (t:Tre) (q:Wl×(Int×Int)):Wl×(Int×Int):=if q.2.2=0 then rdF2 t (rdA t.arrays q.1)else q
def rpV (ws:Wl):List Va→Wl→Wl×(Int×Int)
 | [],own=>(own,(0,0))
 |v::r,own=>if 0≤atI v.nm ws 0∨0≤atI v.nm own 0 then(own,(v.at_,111))else rpV ws r (own++ [(v.nm,1,0)])
def rp1 (ws own:Wl) (p:Prc):Int×Int:=
 if 4 < (p.params.length:Int)then(p.at_,4)
 else if(rpV ws p.params own).2.2 =0 then stsI (rpV ws p.params own).1 p.body else(rpV ws p.params own).2
def rpP (base:Int) (ws:Wl):List Prc→Nat→Int×Int
 | [],_=>(0,0)
 |p::r,i=>if(rp1 ws (upI (base+i) ws 0) p).2 =0 then rpP base ws r (i+1)else rp1 ws (upI (base+i) ws 0) p
def rtI (ok few:Bool) (t:Tre):Int×Int:=
 if ok then
  if few then
   if(rdT t).2.2 =0 then
    if(rpP ((t.vars.length:Int)+t.arrays.length) (rdT t).1 t.procs 0).2 =0 then stsI (rdT t).1 t.main
    else rpP ((t.vars.length:Int)+t.arrays.length) (rdT t).1 t.procs 0
   else(rdT t).2
  else(0,4)
 else(0,8)
theorem rdV_step {xs:List Va} {i:Nat} {ws:Wl} {a0 a1 ar} (hd:xs.drop i=(⟨a0,a1⟩:Va)::ar∧xs.drop (i+1)=ar):
  rdV (xs.drop i) ws=if 0≤atI a0 ws 0 then(ws,(a1,111))else rdV (xs.drop (i+1)) (ws++ [(a0,1,0)]):=by rw[hd.1,hd.2];rfl
theorem rdA_step {xs:List Arr} {i:Nat} {ws:Wl} {a0 a1 a2 ar} (hd:xs.drop i=(⟨a0,a1,a2⟩:Arr)::ar∧xs.drop (i+1)=ar):
  rdA (xs.drop i) ws=if 0≤atI a0 ws 0 then(ws,(a2,111))else if a1 < 1∨16 < a1 then(ws,(a2,113))else rdA (xs.drop (i+1)) (ws++ [(a0,2,0)]):=by rw[hd.1,hd.2];rfl
theorem rdP_step {xs:List Prc} {i:Nat} {ws:Wl} {a0 a1 a2 a3 ar} (hd:xs.drop i=(⟨a0,a1,a2,a3⟩:Prc)::ar∧xs.drop (i+1)=ar):
  rdP (xs.drop i) ws=if 0≤atI a0 ws 0 then(ws,(a3,111))else rdP (xs.drop (i+1)) (ws++ [(a0,3,(a1.length:Int))]):=by rw[hd.1,hd.2];rfl
theorem rpV_step {ws:Wl} {xs:List Va} {i:Nat} {own:Wl} {a0 a1 ar} (hd:xs.drop i=(⟨a0,a1⟩:Va)::ar∧xs.drop (i+1)=ar):
  rpV ws (xs.drop i) own=if 0≤atI a0 ws 0∨0≤atI a0 own 0 then(own,(a1,111))else rpV ws (xs.drop (i+1)) (own++ [(a0,1,0)]):=by rw[hd.1,hd.2];rfl
theorem rpP_step {base:Int} {ws:Wl} {xs:List Prc} {i:Nat} {x:Prc} {ar} (hd:xs.drop i=x::ar∧xs.drop (i+1)=ar):
  rpP base ws (xs.drop i) i=if(rp1 ws (upI (base+i) ws 0) x).2 =0 then rpP base ws (xs.drop (i+1)) (i+1)else rp1 ws (upI (base+i) ws 0) x:=by rw[hd.1,hd.2];rfl
theorem rdV_len:∀(xs:List Va) (ws:Wl),(rdV xs ws).1.length ≤ws.length+xs.length
 | [],ws=>by simp[rdV]
 |x::r,ws=>by
  unfold rdV
  split
  ·simp
  ·have:=rdV_len r (ws++ [(x.nm,1,0)])
   simp only[List.length_append,List.length_cons,List.length_nil]at this ⊢
   omega
theorem rdA_len:∀(xs:List Arr) (ws:Wl),(rdA xs ws).1.length ≤ws.length+xs.length
 | [],ws=>by simp[rdA]
 |x::r,ws=>by
  unfold rdA
  split
  ·simp
  ·split
   ·simp
   ·have:=rdA_len r (ws++ [(x.nm,2,0)])
    simp only[List.length_append,List.length_cons,List.length_nil]at this ⊢
    omega
theorem rdP_len:∀(xs:List Prc) (ws:Wl),(rdP xs ws).1.length ≤ws.length+xs.length
 | [],ws=>by simp[rdP]
 |x::r,ws=>by
  unfold rdP
  split
  ·simp
  ·have:=rdP_len r (ws++ [(x.nm,3,(x.params.length:Int))])
   simp only[List.length_append,List.length_cons,List.length_nil]at this ⊢
   omega
theorem rdT_len (t:Tre):(rdT t).1.length ≤t.vars.length+t.arrays.length+t.procs.length:=by
 have h1:=rdV_len t.vars []
 have h2:=rdA_len t.arrays (rdV t.vars []).1
 have h3:=rdP_len t.procs (rdA t.arrays (rdV t.vars []).1).1
 simp only[List.length_nil]at h1
 unfold rdT
 split
 ·split<;>omega
 ·omega
theorem upI_len (lim:Int):∀(ws:Wl) (k:Nat),(upI lim ws k).length ≤ws.length
 | [],_=>lrq _
 |x::r,k=>by
  rw[upI_cons]
  have:=upI_len lim r (k+1)
  split<;>simp only[List.length_cons]<;>omega

theorem results_cell3 {P:Program} {fn:Func} {p u v:Tmp} {ty:TypeId} (h:fn.results= #[.cell p ty,.tmp u,.tmp v]) (tmps:Array Value) (w:World) (g:Nat) (t:TypeId) (cs:Array Value) (fr:Nat×Nat) (d:TypeDesc)
  (hp:tmps.getD p undef= .pointer (some ⟨g,0,none⟩)) (hg:w.heap[g]?=some (.cells cs t fr))
  (hu:P.underlying ty=some d) (hd:(match d with| .struct _| .array _ _=>true|_=>false)=true) (hi:(P.info? ty).map (·.size)=some cs.size):
  (results fn tmps).run P w= .ok (.tuple #[.agg cs,tmps.getD u undef,tmps.getD v undef]) w:=by
 have hp':tmps[p]?.getD undef= .pointer (some ⟨g,0,none⟩):=by simpa using hp
 simp[results,h,hp',asAddr,run_loadVar_row w g t ty cs fr d hg hu hd hi]
def DeclP (q:Wl×(Int×Int)) (W:World) (e:Ending) (w':World):Prop:=∃An Ak Am cn ck cm,e= .returned (.tuple #[wdV q.1 An Ak Am cn ck cm,.int .i64 q.2.1,.int .i64 q.2.2])∧WdR w' q.1 An Ak Am cn ck cm∧Fr NoT W w'
structure DcW (w1:World) (b5:Nat) (ws:Wl) (wr:World):Prop where
 fr:Fr (fun b=>b=b5) w1 wr
 out:∃A1 A2 A3 c1 c2 c3,Bk wr b5 164 #[.slice A1 (List.length ws) c1,.slice A2 (List.length ws) c2,.slice A3 (List.length ws) c3]∧WdR wr ws A1 A2 A3 c1 c2 c3∧Above b5 A1 A2 A3
theorem DcW.put {w1 wr w5:World} {b5:Nat} {ws:Wl} {x:ByteArray×Int×Int} (hfr:Fr (fun b=>b=b5) w1 wr) {g1 g2 g3:Nat} {e1 e2 e3:Nat} {q:Array Value} (hq:Bk w5 b5 164 #[q[0]!,q[1]!,q[2]!]) (h5:WdR w5 (ws++ [x]) (some ⟨g1,0,none⟩) (some ⟨g2,0,none⟩) (some ⟨g3,0,none⟩) e1 e2 e3)
  (hg:wr.heap.size≤g1∧wr.heap.size≤g2∧wr.heap.size≤g3) (hb:b5 < wr.heap.size) (hf:Fr NoT wr w5):
  DcW w1 b5 (ws++ [x]) (((w5.setCell ⟨b5,0,none⟩ (.slice (some ⟨g1,0,none⟩) (ws.length+1) e1)).setCell ⟨b5,1,none⟩ (.slice (some ⟨g2,0,none⟩) (ws.length+1) e2)).setCell ⟨b5,2,none⟩ (.slice (some ⟨g3,0,none⟩) (ws.length+1) e3)):=by
 have hl:(ws++ [x]).length =ws.length+1:=by simp
 have hT:=Fr.own (Fr.own (Fr.own (g:=b5) (Fr.refl _ w5) 0 (.slice (some ⟨g1,0,none⟩) (ws.length+1) e1)) 1 (.slice (some ⟨g2,0,none⟩) (ws.length+1) e2)) 2 (.slice (some ⟨g3,0,none⟩) (ws.length+1) e3)
 have hab:Above b5 (some ⟨g1,0,none⟩) (some ⟨g2,0,none⟩) (some ⟨g3,0,none⟩):=by
  obtain⟨h1,h2,h3⟩:=hg
  refine⟨fun b e=>?_,fun b e=>?_,fun b e=>?_⟩<;>(simp only[Option.some.injEq,Addr.mk.injEq,and_true]at e;omega)
 have hk:=((hq.set_ 0 (.slice (some ⟨g1,0,none⟩) (ws.length+1) e1)).set_ 1 (.slice (some ⟨g2,0,none⟩) (ws.length+1) e2)).set_ 2 (.slice (some ⟨g3,0,none⟩) (ws.length+1) e3)
 simp only[List.setIfInBounds_toArray,List.set_cons_zero,List.set_cons_succ]at hk
 refine⟨(hfr.trans hf.any).trans hT,some ⟨g1,0,none⟩,some ⟨g2,0,none⟩,some ⟨g3,0,none⟩,e1,e2,e3,?_,?_,hab⟩
 ·rw[hl];exact hk
 ·exact h5.keepA hab hT fun b e=>by omega
theorem rdeclared_any (t:Tre) (w:World) (S:Nat→Prop) (Z:Prop) (Av Aa Ap Am':Option Addr) (cv ca cp cm':Nat) (hS:∀b,S b→b < w.heap.size) (hx:TrR w S Z t Av Aa Ap Am' cv ca cp cm') (hfew:t.vars.length≤100∧t.arrays.length≤100∧t.procs.length≤100):
  Calls Tryz.prog 89 #[trV t Av Aa Ap Am' cv ca cp cm'] w (DeclP (rdT t) w):=by
 unfold trV
 obtain⟨Q,hQ⟩:=nmq (rdT t)
 rw[←hQ]
 have HX:=hdq hx
 have HS:=hdq hS
 obtain⟨n1,hn1⟩:=nmq t.vars.length
 obtain⟨n2,hn2⟩:=nmq t.arrays.length
 obtain⟨n3,hn3⟩:=nmq t.procs.length
 obtain⟨n4,hn4⟩:=nmq t.main.len
 obtain⟨hf1,hf2,hf3⟩:=hfew
 rw[←hn1]at hf1
 rw[←hn2]at hf2
 rw[←hn3]at hf3
 rw[←hn1,←hn2,←hn3,←hn4]
 have HN1:=hdq hn1
 have HN2:=hdq hn2
 have HN3:=hdq hn3
 obtain⟨w1,hw1⟩:=nmq (((w.alloc (.cells #[.slice Av n1 cv,.slice Aa n2 ca,.slice Ap n3 cp,.slice Am' n4 cm'] 27)).alloc (.cells #[.slice none 0 0,.slice none 0 0,.slice none 0 0] 164)).alloc (.cells #[.slice none 0 0,.slice none 0 0,.slice none 0 0] 164))
 have hfr1:Fr NoT w w1:=by rw[hw1];exact(((Fr.refl _ _).alloc _).alloc _).alloc _
 have k1:Bk w1 w.heap.size 27 #[.slice Av n1 cv,.slice Aa n2 ca,.slice Ap n3 cp,.slice Am' n4 cm']:=by
  rw[hw1];exact(Bk.new _ _ _).fr0 (((Fr.refl _ _).alloc _).alloc _)
 have k2:Bk w1 (w.heap.size+1) 164 #[.slice none 0 0,.slice none 0 0,.slice none 0 0]:=by
  rw[hw1];exact(Bk.new_at _ _ _ (by simp)).fr0 ((Fr.refl _ _).alloc _)
 have k5:Bk w1 (w.heap.size+1+1) 164 #[.slice none 0 0,.slice none 0 0,.slice none 0 0]:=by
  rw[hw1];exact Bk.new_at _ _ _ (by simp)
 have HF1:=hdq hfr1
 have HK1:=hdq k1
 have HK2:=hdq k2
 have HU0:=hdq (show DcW w1 (w.heap.size+1+1) [] w1 from⟨Fr.refl _ _,none,none,none,0,0,0,k5,WdR.nil _,⟨fun b e=>by simp at e,fun b e=>by simp at e,fun b e=>by simp at e⟩⟩)
 have HQ0:=hdq (show Q=rdF1 t (rdV (t.vars.drop 0) [])from by rw[hQ];rfl)
 have HW1:=hdq hw1
 -- how it ends, in any world: with an error, or without
 have hend:∀(wr:World) (ws:Wl) (A1 A2 A3:Option Addr) (c1 c2 c3:Nat),Fr (fun b=>b=w.heap.size+1+1) w1 wr→WdR wr ws A1 A2 A3 c1 c2 c3→Above (w.heap.size+1+1) A1 A2 A3→
   Bk (((wr.setCell ⟨w.heap.size+1,0,none⟩ (.slice A1 ws.length c1)).setCell ⟨w.heap.size+1,1,none⟩ (.slice A2 ws.length c2)).setCell ⟨w.heap.size+1,2,none⟩ (.slice A3 ws.length c3)) (w.heap.size+1) 164 #[.slice A1 ws.length c1,.slice A2 ws.length c2,.slice A3 ws.length c3]∧
   WdR (((wr.setCell ⟨w.heap.size+1,0,none⟩ (.slice A1 ws.length c1)).setCell ⟨w.heap.size+1,1,none⟩ (.slice A2 ws.length c2)).setCell ⟨w.heap.size+1,2,none⟩ (.slice A3 ws.length c3)) ws A1 A2 A3 c1 c2 c3∧
   Fr NoT w (((wr.setCell ⟨w.heap.size+1,0,none⟩ (.slice A1 ws.length c1)).setCell ⟨w.heap.size+1,1,none⟩ (.slice A2 ws.length c2)).setCell ⟨w.heap.size+1,2,none⟩ (.slice A3 ws.length c3)):=by
  intro wr ws A1 A2 A3 c1 c2 c3 hfr hwd hab
  have hk:=((k2.fr hfr (by omega)).set_ 0 (.slice A1 ws.length c1)).set_ 1 (.slice A2 ws.length c2) |>.set_ 2 (.slice A3 ws.length c3)
  simp only[List.setIfInBounds_toArray,List.set_cons_zero,List.set_cons_succ]at hk
  refine⟨hk,hwd.keepA hab (Fr.own (Fr.own (Fr.own (g:=w.heap.size+1) (Fr.refl _ wr) 0 _) 1 _) 2 _) (fun b e=>by omega),?_⟩
  exact Fr.high (Fr.high (Fr.high (Fr.back0 hfr1 (hfr.mono fun b _ e=>by have e:b=w.heap.size+1+1:=e;show w.heap.size≤b;omega)) (by omega) _ _) (by omega) _ _) (by omega) _ _
 have HEND:=hdq hend
 clear hx hS hn1 hn2 hn3 hn4 hw1 hfr1 k1 k2 k5 hQ hend
 go_enter Tryz.func89,Tryz.ntmps89
 go_wp2_with fail
 rw[←HW1.out]
 go_loopw [6] (fun i wr=>∃k:Nat,k≤n1∧i= .int .i64 k∧∃ws:Wl,ws.length≤k∧Hid (DcW w1 (w.heap.size+1+1) ws wr)∧Hid (Q=rdF1 t (rdV (t.vars.drop k) ws))) (fun i _=>n1 - (intOf i).toNat)
 case atStart=>exact⟨0,Nat.zero_le _,rfl, [],lrq _,HU0,HQ0⟩
 case round=>
  clear HU0 HQ0
  obtain⟨k,hk,rfl,ws,hwl,hb,hall⟩:=hrel
  obtain⟨hfr,A1,A2,A3,c1,c2,c3,hk5,hwd,hab⟩:=hb.out
  have hk1:=HK1.out.fr hfr (by omega)
  have y0:=hk1.cell 0
  have y1:=hk1.cell 1
  have y2:=hk1.cell 2
  have yl:=hk1.lt
  have u0:=hk5.cell 0
  have u1:=hk5.cell 1
  have u2:=hk5.cell 2
  have ul:=hk5.lt
  have z0:=hk5.frozen 0
  have z1:=hk5.frozen 1
  have z2:=hk5.frozen 2
  have hk2:=HK2.out.fr hfr (by omega)
  have v0:=hk2.frozen 0
  have v1:=hk2.frozen 1
  have v2:=hk2.frozen 2
  have HK25:=hdq hk2
  have HK15:=hdq hk1
  simp only[getsL]at y0 y1 y2 u0 u1 u2
  have HFR:=hdq hfr
  have HK5:=hdq hk5
  have HWD:=hdq hwd
  have HAB:=hdq hab
  have hb0:Fr NoT w wr:=Fr.back0 HF1.out (hfr.mono fun b _ e=>by have e:b=w.heap.size+1+1:=e;show w.heap.size≤b;omega)
  have HB:=hdq hb0
  obtain⟨l,hl⟩:=nmq ws.length
  rw[←hl]at u0 u1 u2 hwl
  have HL:=hdq hl
  clear hb hfr hk5 hwd hk1 hk2 hab hb0 hl
  by_cases hlt:k < n1
  ·obtain⟨⟨a0,a1⟩,ar,hd⟩:=drop_head1 (show k < t.vars.length from by rw[←HN1.out];exact hlt)
   obtain⟨b,o,rfl,hat⟩:=HX.out.vars.2.2 (by rw[←HN1.out];omega)
   have hat1:=(VaR.keep (HB.out.same fun b hb=>⟨HS.out b hb,id⟩) hat).drop k
   rw[hd.1]at hat1
   obtain⟨⟨hbS,_,r0,d0,d1⟩,_⟩:=hat1
   have hxr:b < wr.heap.size:=ltq (HS.out _ hbS) HB.out.size
   have hbn:¬b=w.heap.size+1+1:=by have:=HS.out _ hbS;omega
   have hbn1:¬b=w.heap.size+1:=by have:=HS.out _ hbS;omega
   have hbn2:¬w.heap.size+1=b:=by have:=HS.out _ hbS;omega
   have hlt':(k:Int) < (n1:Int):=by omega
   have hge:(0:Int)≤(k:Int):=by omega
   have hst:=hall.out
   rw[rdV_step hd]at hst
   obtain⟨n,hn⟩:=nmq (atI a0 ws 0)
   have h6:=rat_any ws a0 wr.drew A1 A2 A3 c1 c2 c3 (HWD.out.keep (Fr.refl NoT wr).drew)
   rw[←hn]at hst h6
   unfold wdV at h6
   rw[←HL.out]at h6
   have H6:=hdq h6
   have HST:=hdq hst
   have HD0:=hdq d0
   clear hd hat hall hst h6 hn hbS r0
   go_wp2_with fail
   refine wp_region_still_tail 7 (by kernel_rfl) (by kernel_rfl) ?_
   simp only[List.take_succ_cons,List.take_zero,List.drop_succ_cons,List.drop_zero]
   repeat still_step
   try refine wpStill_nil ?_
   go_wp2_with fail
   refine H6.out.mono ?_
   rintro _ w5 ⟨rfl,hf⟩
   have hf5:=(Fr.refl NoT wr).drew.trans hf
   have HF5:=hdq hf5
   have hk5:=HK5.out.fr0 hf5
   rw[←HL.out]at hk5
   clear y0 y1 y2 yl u0 u1 u2 ul z0 z1 z2 v0 v1 v2 d0 hf
   have hk1:=(HK1.out.fr HFR.out (by omega)).fr0 hf5
   have y0:=hk1.cell 0
   have yl:=hk1.lt
   have u0:=hk5.cell 0
   have u1:=hk5.cell 1
   have u2:=hk5.cell 2
   have z0:=hk5.frozen 0
   have z1:=hk5.frozen 1
   have z2:=hk5.frozen 2
   have ul:=hk5.lt
   have hk2:=(HK2.out.fr HFR.out (by omega)).fr0 hf5
   have v0:=hk2.frozen 0
   have v1:=hk2.frozen 1
   have v2:=hk2.frozen 2
   have vl:=hk2.lt
   have q0:=hk2.cell 0
   have q1:=hk2.cell 1
   have q2:=hk2.cell 2
   replace d1:=(hf5.cell (p:=⟨b,o+k*2+1,none⟩) hxr id).trans d1
   have hat5:=HD0.out
   have d0:=(hf5.cell (p:=⟨b,o+k*2,none⟩) hxr id).trans hat5
   replace hxr:=ltq hxr hf5.size
   simp only[getsL]at y0 u0 u1 u2 q0 q1 q2
   have HK55:=hdq hk5
   clear hk1 hk2 hf5 hk5 hat5
   by_cases hz:0≤n
   ·have HN:=hdq (show Q=(ws,(a1,111))from by rw[HST.out,if_pos hz];rfl)
    have hend:=HEND.out w5 ws A1 A2 A3 c1 c2 c3 (HFR.out.trans HF5.out.any) (HWD.out.keep HF5.out) HAB.out
    rw[←HL.out]at hend
    have HE1:=hdq hend.1
    have HE2:=hdq hend.2.1
    have HE3:=hdq hend.2.2
    clear hend HST
    go_wp2_with fail
    go_region
    go_wp2_with fail
    refine bodyPost_ret (results_cell3 (p:=2) (u:=3) (v:=4) (ty:=164) rfl _ _ (w.heap.size+1) 164 _ (0,0) _ rfl HE1.out Tryz.underlying164 rfl infoWd) rfl ⟨A1,A2,A3,c1,c2,c3,?_,?_,HE3.out.drew⟩
    ·rw[HN.out];unfold wdV;rw[←HL.out];rfl
    ·rw[HN.out];exact HE2.out.keep (Fr.refl NoT _).drew
   ·have HST2:=hdq (show Q=rdF1 t (rdV (t.vars.drop (k+1)) (ws++ [(a0,1,0)]))from by rw[HST.out,if_neg hz])
    have h7:=rwith_any ws a0 1 0 w5.drew A1 A2 A3 c1 c2 c3 ((HWD.out.keep HF5.out).keep (Fr.refl NoT w5).drew) (by rw[←HL.out];omega)
    unfold WithP wdV at h7
    rw[←HL.out]at h7
    have H7:=hdq h7
    clear HST h7
    go_wp2_with fail
    refine wp_region_still_tail 7 (by kernel_rfl) (by kernel_rfl) ?_
    simp only[List.take_succ_cons,List.take_zero,List.drop_succ_cons,List.drop_zero]
    repeat still_step
    try refine wpStill_nil ?_
    go_wp2_with fail
    refine H7.out.mono ?_
    rintro _ w8 ⟨g1,g2,g3,e1,e2,e3,rfl,hwd8,hg,hf⟩
    have hl1:(ws++ [(a0,(1:Int),(0:Int))]).length =l+1:=by rw[HL.out];simp
    rw[hl1]
    have hf8:=(Fr.refl NoT w5).drew.trans hf
    have hk8:=HK55.out.fr0 hf8
    have HN:=hdq (DcW.put (HFR.out.trans HF5.out.any) (q:= #[.slice A1 l c1,.slice A2 l c2,.slice A3 l c3]) hk8 hwd8 hg HK55.out.lt hf8)
    rw[←HL.out]at HN
    clear u0 u1 u2 ul z0 z1 z2
    have u0:=hk8.cell 0
    have u1:=hk8.cell 1
    have u2:=hk8.cell 2
    have z0:=hk8.frozen 0
    have z1:=hk8.frozen 1
    have z2:=hk8.frozen 2
    have ul:=hk8.lt
    simp only[getsL]at u0 u1 u2
    clear hf8 hk8 hf hwd8 hg hl1
    go_wp2_with fail
    go_roundw
    case rel=>exact⟨k+1,by omega,by go_num,_,by simp;rw[←HL.out];omega,HN,HST2⟩
    case measure=>simp[intOf];omega
  ·have hlt':¬(k:Int) < (n1:Int):=by omega
   have HNX:=hdq (show Q=rdF2 t (rdA (t.arrays.drop 0) ws)from by rw[hall.out,List.drop_eq_nil_of_le (by rw[←HN1.out];omega)];rfl)
   clear hall
   go_wp2_with fail
   clear y0 y1 y2 yl u0 u1 u2 ul z0 z1 z2 v0 v1 v2
   rw[HL.out]at hwl
   go_loopw [7] (fun i wr=>∃k:Nat,k≤n2∧i= .int .i64 k∧∃ws:Wl,ws.length≤k+100∧Hid (DcW w1 (w.heap.size+1+1) ws wr)∧Hid (Q=rdF2 t (rdA (t.arrays.drop k) ws))) (fun i _=>n2 - (intOf i).toNat)
   case atStart=>exact⟨0,Nat.zero_le _,rfl,ws,by omega,⟨HFR.out,A1,A2,A3,c1,c2,c3,HK5.out,HWD.out,HAB.out⟩,HNX.out⟩
   case round=>
    clear HNX HFR HK5 HWD HAB HB HL HK25 HK15
    obtain⟨k,hk,rfl,ws,hwl,hb,hall⟩:=hrel
    obtain⟨hfr,A1,A2,A3,c1,c2,c3,hk5,hwd,hab⟩:=hb.out
    have hk1:=HK1.out.fr hfr (by omega)
    have y0:=hk1.cell 0
    have y1:=hk1.cell 1
    have y2:=hk1.cell 2
    have yl:=hk1.lt
    have u0:=hk5.cell 0
    have u1:=hk5.cell 1
    have u2:=hk5.cell 2
    have ul:=hk5.lt
    have z0:=hk5.frozen 0
    have z1:=hk5.frozen 1
    have z2:=hk5.frozen 2
    have hk2:=HK2.out.fr hfr (by omega)
    have v0:=hk2.frozen 0
    have v1:=hk2.frozen 1
    have v2:=hk2.frozen 2
    have vl:=hk2.lt
    have q0:=hk2.cell 0
    have q1:=hk2.cell 1
    have q2:=hk2.cell 2
    simp only[getsL]at y0 y1 y2 u0 u1 u2 q0 q1 q2
    have HFR:=hdq hfr
    have HK5:=hdq hk5
    have HWD:=hdq hwd
    have HAB:=hdq hab
    have hb0:Fr NoT w wr:=Fr.back0 HF1.out (hfr.mono fun b _ e=>by have e:b=w.heap.size+1+1:=e;show w.heap.size≤b;omega)
    have HB:=hdq hb0
    have HK25:=hdq hk2
    have HK15:=hdq hk1
    obtain⟨l,hl⟩:=nmq ws.length
    rw[←hl]at u0 u1 u2 hwl
    have HL:=hdq hl
    clear hb hfr hk5 hwd hk1 hk2 hab hb0 hl
    by_cases hlt:k < n2
    ·obtain⟨⟨a0,a1,a2⟩,ar,hd⟩:=drop_head1 (show k < t.arrays.length from by rw[←HN2.out];exact hlt)
     obtain⟨b,o,rfl,hat⟩:=HX.out.arrays.2.2 (by rw[←HN2.out];omega)
     have hat1:=(ArR.keep (HB.out.same fun b hb=>⟨HS.out b hb,id⟩) hat).drop k
     rw[hd.1]at hat1
     obtain⟨⟨hbS,_,r00,r0,d0,d1,d2⟩,_⟩:=hat1
     have hxr:b < wr.heap.size:=ltq (HS.out _ hbS) HB.out.size
     have hlt':(k:Int) < (n2:Int):=by omega
     have hge:(0:Int)≤(k:Int):=by omega
     have hst:=hall.out
     rw[rdA_step hd]at hst
     obtain⟨n,hn⟩:=nmq (atI a0 ws 0)

     obtain⟨w4,hw4⟩:=nmq (wr.alloc (.cells #[.string a0,.int .i64 a1,.int .i64 a2] 66))
     have hk8:Bk w4 wr.heap.size 66 #[.string a0,.int .i64 a1,.int .i64 a2]:=by rw[hw4];exact Bk.new _ _ _
     have hf4:Fr NoT wr w4:=by rw[hw4];exact(Fr.refl _ _).alloc _
     have h6:=rat_any ws a0 w4 A1 A2 A3 c1 c2 c3 (HWD.out.keep hf4)
     rw[←hn]at hst h6
     unfold wdV at h6
     rw[←HL.out]at h6
     have H6:=hdq h6
     have HST:=hdq hst
     have HK8:=hdq hk8
     have HF4:=hdq hf4
     have HW4:=hdq hw4
     clear hd hat hall hst h6 hn hbS r0 hk8 hf4 hw4
     go_wp2_with fail
     rw[←HW4.out]
     have hk5:=HK5.out.fr0 HF4.out
     rw[←HL.out]at hk5
     clear u0 u1 u2 ul z0 z1 z2 v0 v1 v2 vl q0 q1 q2
     have u0:=hk5.cell 0
     have u1:=hk5.cell 1
     have u2:=hk5.cell 2
     have ul:=hk5.lt
     have x0:=HK8.out.cell 0
     have x1:=HK8.out.cell 1
     have x2:=HK8.out.cell 2
     simp only[getsL]at u0 u1 u2 x0 x1 x2
     have xl:=HK8.out.lt
     clear hk5
     go_wp2_with fail
     refine H6.out.mono ?_
     rintro _ w5 ⟨rfl,hf⟩
     have HF5:=hdq (HF4.out.trans hf)
     have hk5:=HK5.out.fr0 HF5.out
     rw[←HL.out]at hk5
     have HK55:=hdq hk5
     have hk8:=HK8.out.fr0 hf
     have hk2:=HK25.out.fr0 HF5.out
     have hk1:=HK15.out.fr0 HF5.out
     clear u0 u1 u2 ul x0 x1 x2 xl hf y0 y1 y2 yl
     have y0:=hk1.cell 0
     have y1:=hk1.cell 1
     have y2:=hk1.cell 2
     have yl:=hk1.lt
     have u0:=hk5.cell 0
     have u1:=hk5.cell 1
     have u2:=hk5.cell 2
     have ul:=hk5.lt
     have z0:=hk5.frozen 0
     have z1:=hk5.frozen 1
     have z2:=hk5.frozen 2
     have v0:=hk2.frozen 0
     have v1:=hk2.frozen 1
     have v2:=hk2.frozen 2
     have vl:=hk2.lt
     have q0:=hk2.cell 0
     have q1:=hk2.cell 1
     have q2:=hk2.cell 2
     have x0:=hk8.cell 0
     have x1:=hk8.cell 1
     have x2:=hk8.cell 2
     have xl:=hk8.lt
     have nx1:¬wr.heap.size=w.heap.size+1:=by have:=HB.out.size;have:=HK25.out.lt;omega
     have nx2:¬w.heap.size+1=wr.heap.size:=by have:=HB.out.size;have:=HK25.out.lt;omega
     simp only[getsL]at y0 y1 y2 u0 u1 u2 q0 q1 q2 x0 x1 x2
     clear hk1 hk2 hk5 hk8
     by_cases hz:0≤n
     ·have HN:=hdq (show Q=(ws,(a2,111))from by rw[HST.out,if_pos hz];rfl)
      have hend:=HEND.out w5 ws A1 A2 A3 c1 c2 c3 (HFR.out.trans HF5.out.any) (HWD.out.keep HF5.out) HAB.out
      rw[←HL.out]at hend
      have HE1:=hdq hend.1
      have HE2:=hdq hend.2.1
      have HE3:=hdq hend.2.2
      clear hend HST
      go_wp2_with fail
      go_region
      go_wp2_with fail
      refine bodyPost_ret (results_cell3 (p:=2) (u:=3) (v:=4) (ty:=164) rfl _ _ (w.heap.size+1) 164 _ (0,0) _ rfl HE1.out Tryz.underlying164 rfl infoWd) rfl ⟨A1,A2,A3,c1,c2,c3,?_,?_,HE3.out.drew⟩
      ·rw[HN.out];unfold wdV;rw[←HL.out];rfl
      ·rw[HN.out];exact HE2.out.keep (Fr.refl NoT _).drew
     by_cases hz1:a1 < 1∨16 < a1
     ·have HN0:=hdq (show Q=(ws,(a2,113))from by rw[HST.out,if_neg hz,if_pos hz1];rfl)
      have hcs:(a1 < 1)∨(¬a1 < 1∧16 < a1):=by omega
      clear hz1
      rcases hcs with hs1|⟨hs1,hs2⟩
      all_goals
       have HN:=HN0
       have hend:=HEND.out w5 ws A1 A2 A3 c1 c2 c3 (HFR.out.trans HF5.out.any) (HWD.out.keep HF5.out) HAB.out
       rw[←HL.out]at hend
       have HE1:=hdq hend.1
       have HE2:=hdq hend.2.1
       have HE3:=hdq hend.2.2
       clear hend HST
       go_wp2_with fail
       go_region
       go_wp2_with fail
       refine bodyPost_ret (results_cell3 (p:=2) (u:=3) (v:=4) (ty:=164) rfl _ _ (w.heap.size+1) 164 _ (0,0) _ rfl HE1.out Tryz.underlying164 rfl infoWd) rfl ⟨A1,A2,A3,c1,c2,c3,?_,?_,HE3.out.drew⟩
       ·rw[HN.out];unfold wdV;rw[←HL.out];rfl
       ·rw[HN.out];exact HE2.out.keep (Fr.refl NoT _).drew
     have hs1:¬a1 < 1:=fun h=>hz1 (.inl h)
     have hs2:¬16 < a1:=fun h=>hz1 (.inr h)
     ·have HST2:=hdq (show Q=rdF2 t (rdA (t.arrays.drop (k+1)) (ws++ [(a0,2,0)]))from by rw[HST.out,if_neg hz,if_neg hz1])
      have h7:=rwith_any ws a0 2 0 w5 A1 A2 A3 c1 c2 c3 (HWD.out.keep HF5.out) (by rw[←HL.out];omega)
      unfold WithP wdV at h7
      rw[←HL.out]at h7
      have H7:=hdq h7
      clear HST h7
      go_wp2_with fail
      refine H7.out.mono ?_
      rintro _ w8 ⟨g1,g2,g3,e1,e2,e3,rfl,hwd8,hg,hf8⟩
      have hl1:(ws++ [(a0,(2:Int),(0:Int))]).length =l+1:=by rw[HL.out];simp
      rw[hl1]
      have hk8:=HK55.out.fr0 hf8
      have HN:=hdq (DcW.put (HFR.out.trans HF5.out.any) (q:= #[.slice A1 l c1,.slice A2 l c2,.slice A3 l c3]) hk8 hwd8 hg HK55.out.lt hf8)
      rw[←HL.out]at HN
      clear u0 u1 u2 ul z0 z1 z2
      have u0:=hk8.cell 0
      have u1:=hk8.cell 1
      have u2:=hk8.cell 2
      have z0:=hk8.frozen 0
      have z1:=hk8.frozen 1
      have z2:=hk8.frozen 2
      have ul:=hk8.lt
      simp only[getsL]at u0 u1 u2
      clear hk8 hf8 hwd8 hg hl1
      go_wp2_with fail
      go_roundw
      case rel=>exact⟨k+1,by omega,by go_num,_,by simp;rw[←HL.out];omega,HN,HST2⟩
      case measure=>simp[intOf];omega
    ·have hlt':¬(k:Int) < (n2:Int):=by omega
     have HNX:=hdq (show Q=rdP (t.procs.drop 0) ws from by rw[hall.out,List.drop_eq_nil_of_le (by rw[←HN2.out];omega)];rfl)
     clear hall
     go_wp2_with fail
     clear y0 y1 y2 yl u0 u1 u2 ul z0 z1 z2 v0 v1 v2 vl q0 q1 q2
     rw[HL.out]at hwl
     go_loopw [9] (fun i wr=>∃k:Nat,k≤n3∧i= .int .i64 k∧∃ws:Wl,ws.length≤k+200∧Hid (DcW w1 (w.heap.size+1+1) ws wr)∧Hid (Q=rdP (t.procs.drop k) ws)) (fun i _=>n3 - (intOf i).toNat)
     case atStart=>exact⟨0,Nat.zero_le _,rfl,ws,by omega,⟨HFR.out,A1,A2,A3,c1,c2,c3,HK5.out,HWD.out,HAB.out⟩,HNX.out⟩
     case round=>
      clear HNX HFR HK5 HWD HAB HB HL HK25 HK15
      obtain⟨k,hk,rfl,ws,hwl,hb,hall⟩:=hrel
      obtain⟨hfr,A1,A2,A3,c1,c2,c3,hk5,hwd,hab⟩:=hb.out
      have hk1:=HK1.out.fr hfr (by omega)
      have y0:=hk1.cell 0
      have y1:=hk1.cell 1
      have y2:=hk1.cell 2
      have yl:=hk1.lt
      have u0:=hk5.cell 0
      have u1:=hk5.cell 1
      have u2:=hk5.cell 2
      have ul:=hk5.lt
      have z0:=hk5.frozen 0
      have z1:=hk5.frozen 1
      have z2:=hk5.frozen 2
      have hk2:=HK2.out.fr hfr (by omega)
      have v0:=hk2.frozen 0
      have v1:=hk2.frozen 1
      have v2:=hk2.frozen 2
      have vl:=hk2.lt
      have q0:=hk2.cell 0
      have q1:=hk2.cell 1
      have q2:=hk2.cell 2
      simp only[getsL]at y0 y1 y2 u0 u1 u2 q0 q1 q2
      have HFR:=hdq hfr
      have HK5:=hdq hk5
      have HWD:=hdq hwd
      have HAB:=hdq hab
      have hb0:Fr NoT w wr:=Fr.back0 HF1.out (hfr.mono fun b _ e=>by have e:b=w.heap.size+1+1:=e;show w.heap.size≤b;omega)
      have HB:=hdq hb0
      have HK25:=hdq hk2
      have HK15:=hdq hk1
      obtain⟨l,hl⟩:=nmq ws.length
      rw[←hl]at u0 u1 u2 hwl
      have HL:=hdq hl
      clear hb hfr hk5 hwd hk1 hk2 hab hb0 hl
      by_cases hlt:k < n3
      ·obtain⟨⟨a0,a1,a2,a3⟩,ar,hd⟩:=drop_head1 (show k < t.procs.length from by rw[←HN3.out];exact hlt)
       obtain⟨b,o,rfl,hat⟩:=HX.out.procs.2.2 (by rw[←HN3.out];omega)
       have hat1:=(PrR.keep (HB.out.same fun b hb=>⟨HS.out b hb,id⟩) hat).drop k
       rw[hd.1]at hat1
       obtain⟨⟨hbS,_,r0,d0,d3⟩,⟨A4,q4,d1,s4⟩,⟨A5,q5,d2,s5⟩,_⟩:=hat1
       have hxr:b < wr.heap.size:=ltq (HS.out _ hbS) HB.out.size
       have hlt':(k:Int) < (n3:Int):=by omega
       have hge:(0:Int)≤(k:Int):=by omega
       have hst:=hall.out
       rw[rdP_step hd]at hst
       obtain⟨n,hn⟩:=nmq (atI a0 ws 0)
       obtain⟨l4,hl4⟩:=nmq a1.length
       obtain⟨l5,hl5⟩:=nmq a2.len
       simp only at d0 d1 d2 d3
       rw[←hl4]at d1 hst
       rw[←hl5]at d2
       have HL4:=hdq hl4
       clear hl4 hl5 s4 s5
       obtain⟨w4,hw4⟩:=nmq (wr.alloc (.cells #[.string a0,.slice A4 l4 q4,.slice A5 l5 q5,.int .i64 a3] 68))
       have hk8:Bk w4 wr.heap.size 68 #[.string a0,.slice A4 l4 q4,.slice A5 l5 q5,.int .i64 a3]:=by rw[hw4];exact Bk.new _ _ _
       have hf4:Fr NoT wr w4:=by rw[hw4];exact(Fr.refl _ _).alloc _
       have h6:=rat_any ws a0 w4 A1 A2 A3 c1 c2 c3 (HWD.out.keep hf4)
       rw[←hn]at hst h6
       unfold wdV at h6
       rw[←HL.out]at h6
       have H6:=hdq h6
       have HST:=hdq hst
       have HK8:=hdq hk8
       have HF4:=hdq hf4
       have HW4:=hdq hw4
       clear hd hat hall hst h6 hn hbS r0 hk8 hf4 hw4
       go_wp2_with fail
       rw[←HW4.out]
       have hk5:=HK5.out.fr0 HF4.out
       rw[←HL.out]at hk5
       clear u0 u1 u2 ul z0 z1 z2 v0 v1 v2 vl q0 q1 q2
       have u0:=hk5.cell 0
       have u1:=hk5.cell 1
       have u2:=hk5.cell 2
       have ul:=hk5.lt
       have x0:=HK8.out.cell 0
       have x1:=HK8.out.cell 1
       have x2:=HK8.out.cell 2
       have x3:=HK8.out.cell 3
       simp only[getsL]at u0 u1 u2 x0 x1 x2 x3
       have xl:=HK8.out.lt
       clear hk5
       go_wp2_with fail
       refine H6.out.mono ?_
       rintro _ w5 ⟨rfl,hf⟩
       have HF5:=hdq (HF4.out.trans hf)
       have hk5:=HK5.out.fr0 HF5.out
       rw[←HL.out]at hk5
       have HK55:=hdq hk5
       have hk8:=HK8.out.fr0 hf
       have hk2:=HK25.out.fr0 HF5.out
       have hk1:=HK15.out.fr0 HF5.out
       clear u0 u1 u2 ul x0 x1 x2 x3 xl hf y0 y1 y2 yl
       have y0:=hk1.cell 0
       have y1:=hk1.cell 1
       have y2:=hk1.cell 2
       have yl:=hk1.lt
       have u0:=hk5.cell 0
       have u1:=hk5.cell 1
       have u2:=hk5.cell 2
       have ul:=hk5.lt
       have z0:=hk5.frozen 0
       have z1:=hk5.frozen 1
       have z2:=hk5.frozen 2
       have v0:=hk2.frozen 0
       have v1:=hk2.frozen 1
       have v2:=hk2.frozen 2
       have vl:=hk2.lt
       have q0:=hk2.cell 0
       have q1:=hk2.cell 1
       have q2:=hk2.cell 2
       have x0:=hk8.cell 0
       have x1:=hk8.cell 1
       have x2:=hk8.cell 2
       have x3:=hk8.cell 3
       have xl:=hk8.lt
       have nx1:¬wr.heap.size=w.heap.size+1:=by have:=HB.out.size;have:=HK25.out.lt;omega
       have nx2:¬w.heap.size+1=wr.heap.size:=by have:=HB.out.size;have:=HK25.out.lt;omega
       simp only[getsL]at y0 y1 y2 u0 u1 u2 q0 q1 q2 x0 x1 x2 x3
       clear hk1 hk2 hk5 hk8
       by_cases hz:0≤n
       ·have HN:=hdq (show Q=(ws,(a3,111))from by rw[HST.out,if_pos hz])
        have hend:=HEND.out w5 ws A1 A2 A3 c1 c2 c3 (HFR.out.trans HF5.out.any) (HWD.out.keep HF5.out) HAB.out
        rw[←HL.out]at hend
        have HE1:=hdq hend.1
        have HE2:=hdq hend.2.1
        have HE3:=hdq hend.2.2
        clear hend HST
        go_wp2_with fail
        go_region
        go_wp2_with fail
        refine bodyPost_ret (results_cell3 (p:=2) (u:=3) (v:=4) (ty:=164) rfl _ _ (w.heap.size+1) 164 _ (0,0) _ rfl HE1.out Tryz.underlying164 rfl infoWd) rfl ⟨A1,A2,A3,c1,c2,c3,?_,?_,HE3.out.drew⟩
        ·rw[HN.out];unfold wdV;rw[←HL.out];rfl
        ·rw[HN.out];exact HE2.out.keep (Fr.refl NoT _).drew
       ·have HST2:=hdq (show Q=rdP (t.procs.drop (k+1)) (ws++ [(a0,3,(l4:Int))])from by rw[HST.out,if_neg hz])
        have h7:=rwith_any ws a0 3 (l4:Int) w5 A1 A2 A3 c1 c2 c3 (HWD.out.keep HF5.out) (by rw[←HL.out];omega)
        unfold WithP wdV at h7
        rw[←HL.out]at h7
        have H7:=hdq h7
        clear HST h7
        go_wp2_with fail
        refine H7.out.mono ?_
        rintro _ w8 ⟨g1,g2,g3,e1,e2,e3,rfl,hwd8,hg,hf8⟩
        have hl1:(ws++ [(a0,(3:Int),(l4:Int))]).length =l+1:=by rw[HL.out];simp
        rw[hl1]
        have hk8:=HK55.out.fr0 hf8
        have HN:=hdq (DcW.put (HFR.out.trans HF5.out.any) (q:= #[.slice A1 l c1,.slice A2 l c2,.slice A3 l c3]) hk8 hwd8 hg HK55.out.lt hf8)
        rw[←HL.out]at HN
        clear u0 u1 u2 ul z0 z1 z2
        have u0:=hk8.cell 0
        have u1:=hk8.cell 1
        have u2:=hk8.cell 2
        have z0:=hk8.frozen 0
        have z1:=hk8.frozen 1
        have z2:=hk8.frozen 2
        have ul:=hk8.lt
        simp only[getsL]at u0 u1 u2
        clear hk8 hf8 hwd8 hg hl1
        go_wp2_with fail
        go_roundw
        case rel=>exact⟨k+1,by omega,by go_num,_,by simp;rw[←HL.out];omega,HN,HST2⟩
        case measure=>simp[intOf];omega
      ·have hlt':¬(k:Int) < (n3:Int):=by omega
       have HN:=hdq (show Q=(ws,(0,0))from by rw[hall.out,List.drop_eq_nil_of_le (by rw[←HN3.out];omega)];rfl)
       have hend:=HEND.out wr ws A1 A2 A3 c1 c2 c3 HFR.out HWD.out HAB.out
       rw[←HL.out]at hend
       have HE1:=hdq hend.1
       have HE2:=hdq hend.2.1
       have HE3:=hdq hend.2.2
       clear hend hall
       go_wp2_with fail
       refine bodyPost_ret (results_cell3 (p:=2) (u:=3) (v:=4) (ty:=164) rfl _ _ (w.heap.size+1) 164 _ (0,0) _ rfl HE1.out Tryz.underlying164 rfl infoWd) rfl ⟨A1,A2,A3,c1,c2,c3,?_,?_,HE3.out⟩
       ·rw[HN.out];unfold wdV;rw[←HL.out];rfl
       ·rw[HN.out];exact HE2.out

def finP (body:Sts) (q:Wl×(Int×Int)):Int×Int:=if q.2.2=0 then stsI q.1 body else q.2
theorem rp1_few {ws own:Wl} {p:Prc} (h:¬4 < (p.params.length:Int)):rp1 ws own p=finP p.body (rpV ws p.params own):=by
 unfold rp1 finP;rw[if_neg h]
theorem RwR.keepN {w w':World} {g:Nat} {xs:List Value} {A:Option Addr} {c:Nat} (h:RwR w xs A c) (hf:Fr (fun b=>b=g) w w') (hg:0 < xs.length→∀b,A=some ⟨b,0,none⟩→b≠g):RwR w' xs A c:=
 ⟨h.1,h.2.1,fun h0=>by
  obtain⟨b,e,hb,hc⟩:=h.2.2 h0
  exact⟨b,e,ltq hb hf.size,fun i u hi=>(hf.cell (p:=⟨b,i,none⟩) hb (hg h0 b e)).trans (hc i u hi)⟩⟩
def Apt3 (g:Nat) (ws:Wl) (A1 A2 A3:Option Addr):Prop:=0 < ws.length→(∀b,A1=some ⟨b,0,none⟩→b≠g)∧(∀b,A2=some ⟨b,0,none⟩→b≠g)∧(∀b,A3=some ⟨b,0,none⟩→b≠g)
theorem WdR.keepN {w w':World} {g:Nat} {ws:Wl} {An Ak Am:Option Addr} {cn ck cm:Nat} (h:WdR w ws An Ak Am cn ck cm) (ha:Apt3 g ws An Ak Am) (hf:Fr (fun b=>b=g) w w'):WdR w' ws An Ak Am cn ck cm:=
 ⟨h.names.keepN hf fun h0=>(ha (by simpa using h0)).1,h.kinds.keepN hf fun h0=>(ha (by simpa using h0)).2.1,h.many.keepN hf fun h0=>(ha (by simpa using h0)).2.2⟩
structure PcW (w1:World) (b5:Nat) (ws:Wl) (wr:World):Prop where
 fr:Fr (fun b=>b=b5) w1 wr
 out:∃A1 A2 A3 c1 c2 c3,Bk wr b5 164 #[.slice A1 (List.length ws) c1,.slice A2 (List.length ws) c2,.slice A3 (List.length ws) c3]∧WdR wr ws A1 A2 A3 c1 c2 c3∧Apt3 b5 ws A1 A2 A3
theorem PcW.put {w1 wr w5:World} {b5:Nat} {ws:Wl} {x:ByteArray×Int×Int} (hfr:Fr (fun b=>b=b5) w1 wr) {g1 g2 g3:Nat} {e1 e2 e3:Nat} {q:Array Value} (hq:Bk w5 b5 164 #[q[0]!,q[1]!,q[2]!]) (h5:WdR w5 (ws++ [x]) (some ⟨g1,0,none⟩) (some ⟨g2,0,none⟩) (some ⟨g3,0,none⟩) e1 e2 e3)
  (hg:wr.heap.size≤g1∧wr.heap.size≤g2∧wr.heap.size≤g3) (hb:b5 < wr.heap.size) (hf:Fr NoT wr w5):
  PcW w1 b5 (ws++ [x]) (((w5.setCell ⟨b5,0,none⟩ (.slice (some ⟨g1,0,none⟩) (ws.length+1) e1)).setCell ⟨b5,1,none⟩ (.slice (some ⟨g2,0,none⟩) (ws.length+1) e2)).setCell ⟨b5,2,none⟩ (.slice (some ⟨g3,0,none⟩) (ws.length+1) e3)):=by
 have hl:(ws++ [x]).length =ws.length+1:=by simp
 have hT:=Fr.own (Fr.own (Fr.own (g:=b5) (Fr.refl _ w5) 0 (.slice (some ⟨g1,0,none⟩) (ws.length+1) e1)) 1 (.slice (some ⟨g2,0,none⟩) (ws.length+1) e2)) 2 (.slice (some ⟨g3,0,none⟩) (ws.length+1) e3)
 have hab:Apt3 b5 (ws++ [x]) (some ⟨g1,0,none⟩) (some ⟨g2,0,none⟩) (some ⟨g3,0,none⟩):=by
  obtain⟨h1,h2,h3⟩:=hg
  refine fun _=>⟨fun b e=>?_,fun b e=>?_,fun b e=>?_⟩<;>(simp only[Option.some.injEq,Addr.mk.injEq,and_true]at e;omega)
 have hk:=((hq.set_ 0 (.slice (some ⟨g1,0,none⟩) (ws.length+1) e1)).set_ 1 (.slice (some ⟨g2,0,none⟩) (ws.length+1) e2)).set_ 2 (.slice (some ⟨g3,0,none⟩) (ws.length+1) e3)
 simp only[List.setIfInBounds_toArray,List.set_cons_zero,List.set_cons_succ]at hk
 refine⟨(hfr.trans hf.any).trans hT,some ⟨g1,0,none⟩,some ⟨g2,0,none⟩,some ⟨g3,0,none⟩,e1,e2,e3,?_,?_,hab⟩
 ·rw[hl];exact hk
 ·exact h5.keepN hab hT
theorem rprocs_any (t:Tre) (ws:Wl) (w:World) (S:Nat→Prop) (Z:Prop) (Av Aa Ap Am' An Ak Am:Option Addr) (cv ca cp cm' cn ck cm:Nat) (hS:∀b,S b→b < w.heap.size) (hx:TrR w S Z t Av Aa Ap Am' cv ca cp cm') (hwd:WdR w ws An Ak Am cn ck cm)
  (hfew:t.vars.length≤100∧t.arrays.length≤100∧t.procs.length≤100∧ws.length≤100):
  Calls Tryz.prog 90 #[trV t Av Aa Ap Am' cv ca cp cm',wdV ws An Ak Am cn ck cm] w (AtE (rpP ((t.vars.length:Int)+t.arrays.length) ws t.procs 0) w):=by
 unfold trV wdV
 obtain⟨n1,hn1⟩:=nmq t.vars.length
 obtain⟨n2,hn2⟩:=nmq t.arrays.length
 obtain⟨n3,hn3⟩:=nmq t.procs.length
 obtain⟨n4,hn4⟩:=nmq t.main.len
 obtain⟨nw,hnw⟩:=nmq ws.length
 obtain⟨hf1,hf2,hf3,hf4⟩:=hfew
 rw[←hn1]at hf1
 rw[←hn2]at hf2
 rw[←hn3]at hf3
 rw[←hnw]at hf4
 rw[←hn1,←hn2,←hn3,←hn4,←hnw]
 obtain⟨Q,hQ⟩:=nmq (rpP ((n1:Int)+n2) ws t.procs 0)
 rw[←hQ]
 have HX:=hdq hx
 have HS:=hdq hS
 have HN3:=hdq hn3
 have HNW:=hdq hnw
 have HWD:=hdq hwd
 obtain⟨w1,hw1⟩:=nmq ((w.alloc (.cells #[.slice Av n1 cv,.slice Aa n2 ca,.slice Ap n3 cp,.slice Am' n4 cm'] 27)).alloc (.cells #[.slice An nw cn,.slice Ak nw ck,.slice Am nw cm] 164))
 have hfr1:Fr NoT w w1:=by rw[hw1];exact((Fr.refl _ _).alloc _).alloc _
 have k1:Bk w1 w.heap.size 27 #[.slice Av n1 cv,.slice Aa n2 ca,.slice Ap n3 cp,.slice Am' n4 cm']:=by
  rw[hw1];exact(Bk.new _ _ _).fr0 ((Fr.refl _ _).alloc _)
 have k2:Bk w1 (w.heap.size+1) 164 #[.slice An nw cn,.slice Ak nw ck,.slice Am nw cm]:=by
  rw[hw1];exact Bk.new_at _ _ _ (by simp)
 have HF1:=hdq hfr1
 have HK1:=hdq k1
 have HK2:=hdq k2
 have HQ0:=hdq (show Q=rpP ((n1:Int)+n2) ws (t.procs.drop 0) 0 from by rw[hQ];rfl)
 have HW1:=hdq hw1
 clear hx hS hn1 hn2 hn3 hn4 hnw hw1 hfr1 k1 k2 hQ hwd
 go_enter Tryz.func90,Tryz.ntmps90
 go_wp2_with fail
 rw[←HW1.out]
 go_loopw [6] (fun i wr=>∃k:Nat,k≤n3∧i= .int .i64 k∧Hid (Fr NoT w1 wr)∧Hid (Q=rpP ((n1:Int)+n2) ws (t.procs.drop k) k)) (fun i _=>n3 - (intOf i).toNat)
 case atStart=>exact⟨0,Nat.zero_le _,rfl,Fr.refl _ _,HQ0⟩
 case round=>
  clear HQ0
  obtain⟨k,hk,rfl,hb1,hall⟩:=hrel
  have HB1:=hdq hb1.out
  have HB:=hdq (HF1.out.trans hb1.out)
  have hk1:=HK1.out.fr0 hb1.out
  have hk2:=HK2.out.fr0 hb1.out
  have y0:=hk1.cell 0
  have y1:=hk1.cell 1
  have y2:=hk1.cell 2
  have y3:=hk1.cell 3
  have yl:=hk1.lt
  have v0:=hk2.cell 0
  have v1:=hk2.cell 1
  have v2:=hk2.cell 2
  have vl:=hk2.lt
  simp only[getsL]at y0 y1 y2 y3 v0 v1 v2
  clear hb1 hk1 hk2
  by_cases hlt:k < n3
  ·obtain⟨⟨a0,a1,a2,a3⟩,ar,hd⟩:=drop_head1 (show k < t.procs.length from by rw[←HN3.out];exact hlt)
   obtain⟨b,o,rfl,hat⟩:=HX.out.procs.2.2 (by rw[←HN3.out];omega)
   have hat1:=(PrR.keep (HB.out.same fun b hb=>⟨HS.out b hb,id⟩) hat).drop k
   rw[hd.1]at hat1
   obtain⟨⟨hbS,_,r0,d0,d3⟩,⟨A4,q4,d1,s4⟩,⟨A5,q5,d2,s5⟩,_⟩:=hat1
   have hxr:b < wr.heap.size:=ltq (HS.out _ hbS) HB.out.size
   have hlt':(k:Int) < (n3:Int):=by omega
   have hge:(0:Int)≤(k:Int):=by omega
   have hst:=hall.out
   rw[rpP_step hd]at hst
   simp only at d0 d1 d2 d3 s4 s5
   have hl5b:a2.len*128≤140737488355328:=s5.2.1.2
   obtain⟨P1,hP1⟩:=nmq (rp1 ws (upI ((n1:Int)+n2+k) ws 0) ⟨a0,a1,a2,a3⟩)
   rw[←hP1]at hst
   obtain⟨l4,hl4⟩:=nmq a1.length
   obtain⟨l5,hl5⟩:=nmq a2.len
   rw[←hl4]at d1
   rw[←hl5]at d2
   have HL4:=hdq hl4
   have HL5:=hdq hl5
   have HP1:=hdq hP1
   have HST:=hdq hst
   have HS4:=hdq s4
   have HS5:=hdq s5
   obtain⟨w4,hw4⟩:=nmq (wr.alloc (.cells #[.string a0,.slice A4 l4 q4,.slice A5 l5 q5,.int .i64 a3] 68))
   have hk7:Bk w4 wr.heap.size 68 #[.string a0,.slice A4 l4 q4,.slice A5 l5 q5,.int .i64 a3]:=by rw[hw4];exact Bk.new _ _ _
   have hf4:Fr NoT wr w4:=by rw[hw4];exact(Fr.refl _ _).alloc _
   have HK7:=hdq hk7
   have HF4:=hdq hf4
   have HW4:=hdq hw4
   have hBS:b < w.heap.size:=HS.out _ hbS
   clear hd hat hall hst hP1 hl4 hl5 s4 s5 hbS r0 hk7 hf4 hw4 hl5b
   by_cases h4:4 < (l4:Int)
   ·have HN:=hdq (show Q=(a3,4)from by
     have e:P1=(a3,4):=by rw[HP1.out];unfold rp1;rw[if_pos (by simpa[←HL4.out]using h4)]
     rw[HST.out,e];rfl)
    have h4d:decide ((4:Int) < (l4:Int))=true:=by simpa using h4
    clear h4
    go_wp2_with fail
    go_ret2
    rw[←HW4.out]
    exact⟨by rw[HN.out];rfl,HB.out.trans HF4.out⟩
   have h4d:decide ((4:Int) < (l4:Int))=false:=by simpa using h4
   have HL44:=hdq (show l4≤4 from by omega)
   have hl4b:l4≤9223372036854775807:=by omega
   have hp1:=HP1.out.trans (rp1_few (p:=⟨a0,a1,a2,a3⟩) (by simpa[←HL4.out]using h4))
   clear h4
   simp only at hp1
   have h7:=rupto_any ws Av Aa (some ⟨b,o,none⟩) Am' n1 n2 n3 n4 cv ca cp cm' k w4 An Ak Am cn ck cm (HWD.out.keep (HB.out.trans HF4.out)) (by rw[←HNW.out];omega) (by omega) (by omega) (by omega)
   obtain⟨own0,how⟩:=nmq (upI ((n1:Int)+n2+k) ws 0)
   have hol:own0.length≤100:=by have:=upI_len ((n1:Int)+n2+k) ws 0;rw[how];rw[←HNW.out]at this;omega
   rw[←how]at h7 hp1
   unfold wdV at h7
   rw[←HNW.out]at h7
   have H7:=hdq h7
   have HP2:=hdq hp1
   clear HP1 hp1 how h7
   go_wp2_with fail
   rw[←HW4.out]
   clear y0 y1 y2 y3 yl v0 v1 v2 vl d0 d1 d2 d3 hxr h4d
   refine H7.out.mono ?_
   rintro _ w5 ⟨A1,A2,A3,c1,c2,c3,rfl,hwd5,hf⟩
   unfold wdV
   have HF5:=hdq (HF4.out.trans hf)
   have hk70:=HK7.out.fr0 hf
   obtain⟨w6,hw6⟩:=nmq (w5.alloc (.cells #[.slice A1 own0.length c1,.slice A2 own0.length c2,.slice A3 own0.length c3] 164))
   have hk8:Bk w6 w5.heap.size 164 #[.slice A1 own0.length c1,.slice A2 own0.length c2,.slice A3 own0.length c3]:=by rw[hw6];exact Bk.new _ _ _
   have hf56:Fr NoT w5 w6:=by rw[hw6];exact(Fr.refl _ _).alloc _
   have HU0:=hdq (show PcW w6 w5.heap.size own0 w6 from⟨Fr.refl _ _,A1,A2,A3,c1,c2,c3,hk8,hwd5.keep hf56,fun h0=>by
    obtain⟨b1,e1,l1,_⟩:=hwd5.names.2.2 (by simpa using h0)
    obtain⟨b2,e2,l2,_⟩:=hwd5.kinds.2.2 (by simpa using h0)
    obtain⟨b3,e3,l3,_⟩:=hwd5.many.2.2 (by simpa using h0)
    refine⟨fun b e=>?_,fun b e=>?_,fun b e=>?_⟩
    ·rw[e1]at e;simp only[Option.some.injEq,Addr.mk.injEq,and_true]at e;omega
    ·rw[e2]at e;simp only[Option.some.injEq,Addr.mk.injEq,and_true]at e;omega
    ·rw[e3]at e;simp only[Option.some.injEq,Addr.mk.injEq,and_true]at e;omega⟩)
   have HF6:=hdq (HF5.out.trans hf56)
   have HK76:=hdq (hk70.fr0 hf56)
   have HK16:=hdq (HK1.out.fr0 (HB1.out.trans HF6.out))
   have HK26:=hdq (HK2.out.fr0 (HB1.out.trans HF6.out))
   have HP0:=hdq (show P1=finP a2 (rpV ws (a1.drop 0) own0)from HP2.out)
   have hG7:wr.heap.size < w5.heap.size:=hk70.lt
   have hGv:w.heap.size+1 < w5.heap.size:=by have:=(HK2.out.fr0 (HB1.out.trans HF5.out)).lt;omega
   have HW6:=hdq hw6
   clear hf hk70 hk8 hf56 HP2 hw6 hwd5
   go_wp2_with fail
   rw[←HW6.out]
   obtain⟨wq,rfl⟩:∃wq:World,wq=wr:=⟨_,rfl⟩
   go_loopw [9] (fun i wr=>∃j:Nat,j≤l4∧i= .int .i64 j∧∃own:Wl,own.length≤j+100∧Hid (PcW w6 w5.heap.size own wr)∧Hid (P1=finP a2 (rpV ws (a1.drop j) own))) (fun i _=>l4 - (intOf i).toNat)
   case atStart=>exact⟨0,Nat.zero_le _,rfl,own0,by omega,HU0,HP0⟩
   case round=>
    clear HU0 HP0
    obtain⟨j,hj,rfl,own,howl,hb,hall⟩:=hrel
    obtain⟨hfr,B1,B2,B3,e1,e2,e3,hk8,hwd8,hap⟩:=hb.out
    have HFR:=hdq hfr
    have HBI:Hid (Fr NoT w wr):=Fr.back0 (HB.out.trans HF6.out) (hfr.mono fun b _ e=>by have e:b=w5.heap.size:=e;show w.heap.size≤b;omega)
    have HBK:Hid (Fr NoT w1 wr):=Fr.back0 (HB1.out.trans HF6.out) (hfr.mono fun b _ e=>by have e:b=w5.heap.size:=e;have:=HB1.out.size;have:=HK1.out.lt;have:=HF5.out.size;show w1.heap.size≤b;omega)
    obtain⟨lo,hlo⟩:=nmq own.length
    rw[←hlo]at hk8 howl
    have HLO:=hdq hlo
    have HK8:=hdq hk8
    have HWD8:=hdq hwd8
    have HAP:=hdq hap
    have hk7:=HK76.out.fr hfr (by omega)
    have hk1:=HK16.out.fr hfr (by omega)
    have hk2:=HK26.out.fr hfr (by omega)
    have HK7r:=hdq hk7
    have HK1r:=hdq hk1
    have HK2r:=hdq hk2
    have v0:=hk2.cell 0
    have v1:=hk2.cell 1
    have v2:=hk2.cell 2
    have vl:=hk2.lt
    have x0:=hk7.cell 0
    have x1:=hk7.cell 1
    have x2:=hk7.cell 2
    have x3:=hk7.cell 3
    have xl:=hk7.lt
    have u0:=hk8.cell 0
    have u1:=hk8.cell 1
    have u2:=hk8.cell 2
    have ul:=hk8.lt
    simp only[getsL]at v0 v1 v2 x0 x1 x2 x3 u0 u1 u2
    clear hb hfr hk8 hwd8 hap hk7 hk1 hk2 hlo
    by_cases hltj:j < l4
    ·obtain⟨⟨p0,p1⟩,pr,hd⟩:=drop_head1 (show j < a1.length from by rw[←HL4.out];exact hltj)
     obtain⟨b',o',rfl,hat⟩:=HS4.out.2.2 (by rw[←HL4.out];omega)
     have hSr:∀b,S b→b < wr.heap.size:=fun b hb=>ltq (HS.out b hb) HBI.out.size
     have hat1:=(VaR.keep ((HF6.out.any.trans HFR.out).same fun b hb=>⟨ltq (HS.out b hb) HB.out.size,fun e=>by have e:b=w5.heap.size:=e;have:=HS.out b hb;omega⟩) hat).drop j
     rw[hd.1]at hat1
     obtain⟨⟨hbS,_,r0,d0,d1⟩,_⟩:=hat1
     have hxr:b' < wr.heap.size:=hSr _ hbS
     have hltj':(j:Int) < (l4:Int):=by omega
     have hgej:(0:Int)≤(j:Int):=by omega
     have hst:=hall.out
     rw[rpV_step hd]at hst
     obtain⟨m1,hm1⟩:=nmq (atI p0 ws 0)
     obtain⟨m2,hm2⟩:=nmq (atI p0 own 0)
     obtain⟨w7,hw7⟩:=nmq (wr.alloc (.cells #[.string p0,.int .i64 p1] 43))
     have hk9:Bk w7 wr.heap.size 43 #[.string p0,.int .i64 p1]:=by rw[hw7];exact Bk.new _ _ _
     have hf7:Fr NoT wr w7:=by rw[hw7];exact(Fr.refl _ _).alloc _
     have h6:=rat_any ws p0 w7 An Ak Am cn ck cm (HWD.out.keep (HBI.out.trans hf7))
     have h9:=fun(W:World) (hf:Fr NoT w7 W)=>rat_any own p0 W B1 B2 B3 e1 e2 e3 (HWD8.out.keep (hf7.trans hf))
     rw[←hm1]at hst h6
     rw[←hm2]at hst h9
     unfold wdV at h6 h9
     rw[←HNW.out]at h6
     rw[←HLO.out]at h9
     have H6:=hdq h6
     have H9:=hdq h9
     have HSTJ:=hdq hst
     have HK9:=hdq hk9
     have HF7:=hdq hf7
     have HW7:=hdq hw7
     clear hd hat hall hst h6 h9 hm1 hm2 hbS r0 hk9 hf7 hw7 hSr
     go_wp2_with fail
     rw[←HW7.out]
     have hk2:=HK2r.out.fr0 HF7.out
     have hk8:=HK8.out.fr0 HF7.out
     clear v0 v1 v2 vl u0 u1 u2 ul d0 d1 hxr x0 x1 x2 x3 xl
     have v0:=hk2.cell 0
     have v1:=hk2.cell 1
     have v2:=hk2.cell 2
     have vl:=hk2.lt
     have x0:=HK9.out.cell 0
     have x1:=HK9.out.cell 1
     have xl:=HK9.out.lt
     simp only[getsL]at v0 v1 v2 x0 x1
     clear hk2 hk8
     go_wp2_with fail
     refine H6.out.mono ?_
     rintro _ w8 ⟨rfl,hf⟩
     clear v0 v1 v2 vl x0 x1 xl
     have hk8:=HK8.out.fr0 (HF7.out.trans hf)
     have hk9:=HK9.out.fr0 hf
     have HF8:=hdq (HF7.out.trans hf)
     have HF78:=hdq hf
     have u0:=hk8.cell 0
     have u1:=hk8.cell 1
     have u2:=hk8.cell 2
     have ul:=hk8.lt
     have x0:=hk9.cell 0
     have x1:=hk9.cell 1
     have xl:=hk9.lt
     simp only[getsL]at u0 u1 u2 x0 x1
     clear hk8 hk9 hf
     by_cases hz1:0≤m1
     ·have HN:=hdq (show Q=(p1,111)from by
       have e:P1=(p1,111):=by rw[HSTJ.out,if_pos (.inl hz1)];rfl
       rw[HST.out,e];rfl)
      clear HSTJ
      go_wp2_with fail
      go_ret2
      exact⟨by rw[HN.out];rfl,HBI.out.trans HF8.out⟩
     go_wp2_with fail
     refine(H9.out _ HF78.out).mono ?_
     rintro _ w9 ⟨rfl,hf⟩
     clear u0 u1 u2 ul x0 x1 xl
     have hk8:=HK8.out.fr0 (HF8.out.trans hf)
     have hk9:=HK9.out.fr0 (HF78.out.trans hf)
     have HF9:=hdq (HF8.out.trans hf)
     have HK89:=hdq hk8
     have u0:=hk8.cell 0
     have u1:=hk8.cell 1
     have u2:=hk8.cell 2
     have ul:=hk8.lt
     have x0:=hk9.cell 0
     have x1:=hk9.cell 1
     have xl:=hk9.lt
     simp only[getsL]at u0 u1 u2 x0 x1
     clear hk8 hk9 hf
     by_cases hz2:0≤m2
     ·have HN:=hdq (show Q=(p1,111)from by
       have e:P1=(p1,111):=by rw[HSTJ.out,if_pos (.inr hz2)];rfl
       rw[HST.out,e];rfl)
      clear HSTJ
      go_wp2_with fail
      go_ret2
      exact⟨by rw[HN.out];rfl,HBI.out.trans HF9.out⟩
     have HSTK:=hdq (show P1=finP a2 (rpV ws (a1.drop (j+1)) (own++ [(p0,1,0)]))from by rw[HSTJ.out,if_neg (by omega)])
     have h7:=rwith_any own p0 1 0 w9 B1 B2 B3 e1 e2 e3 (HWD8.out.keep HF9.out) (by have:=HL44.out;rw[←HLO.out];omega)
     unfold WithP wdV at h7
     rw[←HLO.out]at h7
     have H7:=hdq h7
     clear HSTJ h7
     go_wp2_with fail
     refine H7.out.mono ?_
     rintro _ w10 ⟨g1,g2,g3,i1,i2,i3,rfl,hwd10,hg,hf10⟩
     have hl1:(own++ [(p0,(1:Int),(0:Int))]).length =lo+1:=by rw[HLO.out];simp
     rw[hl1]
     have hk8:=HK89.out.fr0 hf10
     have HN:=hdq (PcW.put (HFR.out.trans HF9.out.any) (q:= #[.slice B1 lo e1,.slice B2 lo e2,.slice B3 lo e3]) hk8 hwd10 hg HK89.out.lt hf10)
     rw[←HLO.out]at HN
     clear u0 u1 u2 ul x0 x1 xl
     have u0:=hk8.cell 0
     have u1:=hk8.cell 1
     have u2:=hk8.cell 2
     have z0:=hk8.frozen 0
     have z1:=hk8.frozen 1
     have z2:=hk8.frozen 2
     have ul:=hk8.lt
     simp only[getsL]at u0 u1 u2
     clear hk8 hf10 hwd10 hg hl1
     go_wp2_with fail
     go_roundw
     case rel=>exact⟨j+1,by omega,by go_num,_,by simp;rw[←HLO.out];omega,HN,HSTK⟩
     case measure=>simp[intOf];omega
    ·have hltj':¬(j:Int) < (l4:Int):=by omega
     have hpp:P1=stsI own a2:=by rw[hall.out,List.drop_eq_nil_of_le (by rw[←HL4.out];omega)];rfl
     have hs:=rstmts_any own B1 B2 B3 e1 e2 e3 a2 wr S Z A5 q5 HWD8.out (fun b hb=>ltq (HS.out b hb) HBI.out.size) (HS5.out.imp fun _ _ hx=>StR.keep ((HF6.out.any.trans HFR.out).same fun b hb=>⟨ltq (HS.out b hb) HB.out.size,fun e=>by have e:b=w5.heap.size:=e;have:=HS.out b hb;omega⟩) hx)
     rw[←hpp]at hs
     unfold wdV at hs
     rw[←HLO.out,←HL5.out]at hs
     have HSS:=hdq hs
     clear hall hpp hs
     go_wp2_with fail
     refine HSS.out.mono ?_
     rintro _ w8 ⟨rfl,hf⟩
     obtain⟨z1,z2⟩:=P1
     have HF8:=hdq hf
     clear hf v0 v1 v2 vl u0 u1 u2 ul x0 x1 x2 x3 xl
     by_cases hz:z2=0
     ·have HN:=hdq (show Q=rpP ((n1:Int)+n2) ws (t.procs.drop (k+1)) (k+1)from by rw[HST.out,if_pos hz])
      have e1:(z2 != 0)=false:=by simpa using hz
      clear HST
      go_wp2_with fail
      go_roundw
      case rel=>exact⟨k+1,by omega,by go_num,HBK.out.trans HF8.out,HN.out⟩
      case measure=>simp[intOf];omega
     ·have HN:=hdq (show Q=(z1,z2)from by rw[HST.out,if_neg hz])
      have e1:(z2 != 0)=true:=by simpa using hz
      clear HST
      go_wp2_with fail
      go_ret2
      exact⟨by rw[HN.out];rfl,HBI.out.trans HF8.out⟩
  ·have hlt':¬(k:Int) < (n3:Int):=by omega
   have HN:=hdq (show Q=(0,0)from by rw[hall.out,List.drop_eq_nil_of_le (by rw[←HN3.out];omega)];rfl)
   clear hall
   go_wp2_with fail
   go_ret2
   exact⟨by rw[HN.out];rfl,HB.out⟩
end Go.Proofs.YtmopichdofgndaaGreatDoor
