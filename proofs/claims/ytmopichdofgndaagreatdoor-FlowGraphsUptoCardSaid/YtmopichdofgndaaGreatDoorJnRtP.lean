/- ref11, as plain functions: what a tree declares, what is wrong with its procedures, and with the tree. -/
import Derived.Test.YtmopichdofgndaaGreatDoorJgRtUpTo
set_option linter.all false
set_option maxHeartbeats 3200000
set_option maxRecDepth 100000
namespace Go.Proofs.YtmopichdofgndaaGreatDoor
open Go.RowKit Go.Shelf
def rdV:List Va->Wl->Wl×(Int×Int)
 | [],ws=>(ws,(0,0))
 |v::r,ws=>if 0<=atI v.nm ws 0 then(ws,(v.at_,111))else rdV r (ws++ [(v.nm,1,0)])
def rdA:List Arr->Wl->Wl×(Int×Int)
 | [],ws=>(ws,(0,0))
 |v::r,ws=>if 0<=atI v.nm ws 0 then(ws,(v.at_,111))else if v.size < 1\/16 < v.size then(ws,(v.at_,113))else rdA r (ws++ [(v.nm,2,0)])
def rdP:List Prc->Wl->Wl×(Int×Int)
 | [],ws=>(ws,(0,0))
 |v::r,ws=>if 0<=atI v.nm ws 0 then(ws,(v.at_,111))else rdP r (ws++ [(v.nm,3,(v.params.length:Int))])
def rdT (t:Tre):Wl×(Int×Int):=
 if(rdV t.vars []).2.2 =0 then
  if(rdA t.arrays (rdV t.vars []).1).2.2 =0 then rdP t.procs (rdA t.arrays (rdV t.vars []).1).1
  else rdA t.arrays (rdV t.vars []).1
 else rdV t.vars []
def rdF2 (t:Tre)(q:Wl×(Int×Int)):Wl×(Int×Int):=if q.2.2=0 then rdP t.procs q.1 else q
def rdF1 (t:Tre)(q:Wl×(Int×Int)):Wl×(Int×Int):=if q.2.2=0 then rdF2 t (rdA t.arrays q.1)else q
def rpV (ws:Wl):List Va->Wl->Wl×(Int×Int)
 | [],own=>(own,(0,0))
 |v::r,own=>if 0<=atI v.nm ws 0\/0<=atI v.nm own 0 then(own,(v.at_,111))else rpV ws r (own++ [(v.nm,1,0)])
def rp1 (ws own:Wl)(p:Prc):Int×Int:=
 if 4 < (p.params.length:Int)then(p.at_,4)
 else if(rpV ws p.params own).2.2 =0 then stsI (rpV ws p.params own).1 p.body else(rpV ws p.params own).2
def rpP (base:Int)(ws:Wl):List Prc->Nat->Int×Int
 | [],_=>(0,0)
 |p::r,i=>if(rp1 ws (upI (base+i) ws 0) p).2 =0 then rpP base ws r (i+1)else rp1 ws (upI (base+i) ws 0) p
def rtI (ok few:Bool)(t:Tre):Int×Int:=
 if ok then
  if few then
   if(rdT t).2.2 =0 then
    if(rpP ((t.vars.length:Int)+t.arrays.length) (rdT t).1 t.procs 0).2 =0 then stsI (rdT t).1 t.main
    else rpP ((t.vars.length:Int)+t.arrays.length) (rdT t).1 t.procs 0
   else(rdT t).2
  else(0,4)
 else(0,8)
theorem zk2 {xs:List Va}{i:Nat}{ws:Wl}{a0 a1 ar}(hd:xs.drop i=(⟨a0,a1⟩:Va)::ar/\xs.drop (i+1)=ar):
  rdV (xs.drop i) ws=if 0<=atI a0 ws 0 then(ws,(a1,111))else rdV (xs.drop (i+1)) (ws++ [(a0,1,0)]):=by rw[hd.1,hd.2];rfl
theorem zk3 {xs:List Arr}{i:Nat}{ws:Wl}{a0 a1 a2 ar}(hd:xs.drop i=(⟨a0,a1,a2⟩:Arr)::ar/\xs.drop (i+1)=ar):
  rdA (xs.drop i) ws=if 0<=atI a0 ws 0 then(ws,(a2,111))else if a1 < 1\/16 < a1 then(ws,(a2,113))else rdA (xs.drop (i+1)) (ws++ [(a0,2,0)]):=by rw[hd.1,hd.2];rfl
theorem zk4 {xs:List Prc}{i:Nat}{ws:Wl}{a0 a1 a2 a3 ar}(hd:xs.drop i=(⟨a0,a1,a2,a3⟩:Prc)::ar/\xs.drop (i+1)=ar):
  rdP (xs.drop i) ws=if 0<=atI a0 ws 0 then(ws,(a3,111))else rdP (xs.drop (i+1)) (ws++ [(a0,3,(a1.length:Int))]):=by rw[hd.1,hd.2];rfl
theorem zk5 {ws:Wl}{xs:List Va}{i:Nat}{own:Wl}{a0 a1 ar}(hd:xs.drop i=(⟨a0,a1⟩:Va)::ar/\xs.drop (i+1)=ar):
  rpV ws (xs.drop i) own=if 0<=atI a0 ws 0\/0<=atI a0 own 0 then(own,(a1,111))else rpV ws (xs.drop (i+1)) (own++ [(a0,1,0)]):=by rw[hd.1,hd.2];rfl
theorem zk6 {base:Int}{ws:Wl}{xs:List Prc}{i:Nat}{x:Prc}{ar}(hd:xs.drop i=x::ar/\xs.drop (i+1)=ar):
  rpP base ws (xs.drop i) i=if(rp1 ws (upI (base+i) ws 0) x).2 =0 then rpP base ws (xs.drop (i+1)) (i+1)else rp1 ws (upI (base+i) ws 0) x:=by rw[hd.1,hd.2];rfl
theorem zjp:∀(xs:List Va)(ws:Wl),(rdV xs ws).1.length <=ws.length+xs.length
 | [],ws=>by simp[rdV]
 |x::r,ws=>by
  unfold rdV;split
  ·simp
  ·have:=zjp r (ws++ [(x.nm,1,0)]);simp only[List.length_append,List.length_cons,List.length_nil]at this ⊢;omega
theorem zjq:∀(xs:List Arr)(ws:Wl),(rdA xs ws).1.length <=ws.length+xs.length
 | [],ws=>by simp[rdA]
 |x::r,ws=>by
  unfold rdA;split
  ·simp
  ·split
   ·simp
   ·have:=zjq r (ws++ [(x.nm,2,0)]);simp only[List.length_append,List.length_cons,List.length_nil]at this ⊢;omega
theorem zjr:∀(xs:List Prc)(ws:Wl),(rdP xs ws).1.length <=ws.length+xs.length
 | [],ws=>by simp[rdP]
 |x::r,ws=>by
  unfold rdP;split
  ·simp
  ·have:=zjr r (ws++ [(x.nm,3,(x.params.length:Int))]);simp only[List.length_append,List.length_cons,List.length_nil]at this ⊢;omega
theorem zmB (t:Tre):(rdT t).1.length <=t.vars.length+t.arrays.length+t.procs.length:=by
 have h1:=zjp t.vars [];have h2:=zjq t.arrays (rdV t.vars []).1;have h3:=zjr t.procs (rdA t.arrays (rdV t.vars []).1).1;simp only[List.length_nil]at h1;unfold rdT;split
 ·split<;>omega
 ·omega
theorem zjs (lim:Int):∀(ws:Wl)(k:Nat),(upI lim ws k).length <=ws.length
 | [],_=>lrq _
 |x::r,k=>by
  rw[zbN];have:=zjs lim r (k+1);split<;>simp only[List.length_cons]<;>omega
theorem za9 {P:Program}{fn:Func}{p u v:Tmp}{ty:TypeId}(h:fn.results= #[.cell p ty,.tmp u,.tmp v])(tmps:Array Value)(w:World)(g:Nat)(t:TypeId)(cs:Array Value)(fr:Nat×Nat)(d:TypeDesc)
  (hp:tmps.getD p undef= .pointer (some ⟨g,0,none⟩)) (hg:w.heap[g]?=some (.cells cs t fr))
  (hu:P.underlying ty=some d) (hd:(match d with| .struct _| .array _ _=>true|_=>false)=true) (hi:(P.info? ty).map (·.size)=some cs.size):
  (results fn tmps).run P w= .ok (.tuple #[.agg cs,tmps.getD u undef,tmps.getD v undef]) w:=by
 have jN:tmps[p]?.getD undef= .pointer (some ⟨g,0,none⟩):=by simpa using hp
 simp[results,h,jN,asAddr,run_loadVar_row w g t ty cs fr d hg hu hd hi]
def DeclP (q:Wl×(Int×Int))(W:World)(e:Ending)(w':World):Prop:=∃An Ak Am cn ck cm,e= .returned (.tuple #[wdV q.1 An Ak Am cn ck cm,.int .i64 q.2.1,.int .i64 q.2.2])/\WdR w' q.1 An Ak Am cn ck cm/\Fr NoT W w'
structure DcW (w1:World)(b5:Nat)(ws:Wl)(wr:World):Prop where
 fr:Fr (λb=>b=b5) w1 wr
 out:∃A1 A2 A3 c1 c2 c3,Bk wr b5 164 #[.slice A1 (List.length ws) c1,.slice A2 (List.length ws) c2,.slice A3 (List.length ws) c3]/\WdR wr ws A1 A2 A3 c1 c2 c3/\zh2 b5 A1 A2 A3
theorem DcW.put {w1 wr w5:World}{b5:Nat}{ws:Wl}{x:ByteArray×Int×Int}(JW:Fr (λb=>b=b5) w1 wr){g1 g2 g3:Nat}{e1 e2 e3:Nat}{q:Array Value}(hq:Bk w5 b5 164 #[q[0]!,q[1]!,q[2]!])(h5:WdR w5 (ws++ [x]) (some ⟨g1,0,none⟩) (some ⟨g2,0,none⟩) (some ⟨g3,0,none⟩) e1 e2 e3)
  (hg:wr.heap.size<=g1/\wr.heap.size<=g2/\wr.heap.size<=g3) (hb:b5 < wr.heap.size) (hf:Fr NoT wr w5):
  DcW w1 b5 (ws++ [x]) (((w5.setCell ⟨b5,0,none⟩ (.slice (some ⟨g1,0,none⟩) (ws.length+1) e1)).setCell ⟨b5,1,none⟩ (.slice (some ⟨g2,0,none⟩) (ws.length+1) e2)).setCell ⟨b5,2,none⟩ (.slice (some ⟨g3,0,none⟩) (ws.length+1) e3)):=by
 have hl:(ws++ [x]).length =ws.length+1:=by simp
 have hT:=Fr.own (Fr.own (Fr.own (g:=b5) (Fr.refl _ w5) 0 (.slice (some ⟨g1,0,none⟩) (ws.length+1) e1)) 1 (.slice (some ⟨g2,0,none⟩) (ws.length+1) e2)) 2 (.slice (some ⟨g3,0,none⟩) (ws.length+1) e3);have LM:zh2 b5 (some ⟨g1,0,none⟩) (some ⟨g2,0,none⟩) (some ⟨g3,0,none⟩):=by
  obtain⟨h1,h2,h3⟩:=hg;refine⟨λb e=>?_,λb e=>?_,λb e=>?_⟩<;>(simp only[Option.some.injEq,Addr.mk.injEq,and_true]at e;omega)
 have hk:=((hq.set_ 0 (.slice (some ⟨g1,0,none⟩) (ws.length+1) e1)).set_ 1 (.slice (some ⟨g2,0,none⟩) (ws.length+1) e2)).set_ 2 (.slice (some ⟨g3,0,none⟩) (ws.length+1) e3);simp only[List.setIfInBounds_toArray,List.set_cons_zero,List.set_cons_succ]at hk;refine⟨(JW.trans hf.any).trans hT,some ⟨g1,0,none⟩,some ⟨g2,0,none⟩,some ⟨g3,0,none⟩,e1,e2,e3,?_,?_,LM⟩
 ·rw[hl];exact hk
 ·exact h5.keepA LM hT λb e=>by omega
theorem ze3 (t:Tre)(w:World)(S:Nat->Prop)(Z:Prop)(Av Aa Ap Am':Option Addr)(cv ca cp cm':Nat)(hS:∀b,S b->b < w.heap.size)(hx:TrR w S Z t Av Aa Ap Am' cv ca cp cm')(M2:t.vars.length<=100/\t.arrays.length<=100/\t.procs.length<=100):
  Calls Tryz.prog 89 #[trV t Av Aa Ap Am' cv ca cp cm'] w (DeclP (rdT t) w):=by
 unfold trV;obtain⟨Q,hQ⟩:=nmq (rdT t);rw[<-hQ];have HX:=hdq hx;have HS:=hdq hS;obtain⟨n1,Gk⟩:=nmq t.vars.length;obtain⟨n2,Gu⟩:=nmq t.arrays.length;obtain⟨n3,GJ⟩:=nmq t.procs.length;obtain⟨n4,GV⟩:=nmq t.main.len;obtain⟨Hi,Gd,GQ⟩:=M2;rw[<-Gk]at Hi;rw[<-Gu]at Gd;rw[<-GJ]at GQ;rw[<-Gk,<-Gu,<-GJ,<-GV];have VO:=hdq Gk;have Le:=hdq Gu;have JO:=hdq GJ;obtain⟨w1,Hc⟩:=nmq (((w.alloc (.cells #[.slice Av n1 cv,.slice Aa n2 ca,.slice Ap n3 cp,.slice Am' n4 cm'] 27)).alloc (.cells #[.slice none 0 0,.slice none 0 0,.slice none 0 0] 164)).alloc (.cells #[.slice none 0 0,.slice none 0 0,.slice none 0 0] 164));have M3:Fr NoT w w1:=by rw[Hc];exact(((Fr.refl _ _).alloc _).alloc _).alloc _
 have k1:Bk w1 w.heap.size 27 #[.slice Av n1 cv,.slice Aa n2 ca,.slice Ap n3 cp,.slice Am' n4 cm']:=by
  rw[Hc];exact(Bk.new _ _ _).fr0 (((Fr.refl _ _).alloc _).alloc _)
 have k2:Bk w1 (w.heap.size+1) 164 #[.slice none 0 0,.slice none 0 0,.slice none 0 0]:=by
  rw[Hc];exact(Bk.new_at _ _ _ (by simp)).fr0 ((Fr.refl _ _).alloc _)
 have k5:Bk w1 (w.heap.size+1+1) 164 #[.slice none 0 0,.slice none 0 0,.slice none 0 0]:=by
  rw[Hc];exact Bk.new_at _ _ _ (by simp)
 have Hn:=hdq M3;have Gv:=hdq k1;have FX:=hdq k2;have JJ:=hdq (show DcW w1 (w.heap.size+1+1) [] w1 from⟨Fr.refl _ _,none,none,none,0,0,0,k5,WdR.nil _,⟨λb e=>by simp at e,λb e=>by simp at e,λb e=>by simp at e⟩⟩);have Yu:=hdq (show Q=rdF1 t (rdV (t.vars.drop 0) [])from by rw[hQ];rfl);have Ga:=hdq Hc
 -- how it ends, in any world: with an error, or without
 have Gx:∀(wr:World)(ws:Wl)(A1 A2 A3:Option Addr)(c1 c2 c3:Nat),Fr (λb=>b=w.heap.size+1+1) w1 wr->WdR wr ws A1 A2 A3 c1 c2 c3->zh2 (w.heap.size+1+1) A1 A2 A3->
   Bk (((wr.setCell ⟨w.heap.size+1,0,none⟩ (.slice A1 ws.length c1)).setCell ⟨w.heap.size+1,1,none⟩ (.slice A2 ws.length c2)).setCell ⟨w.heap.size+1,2,none⟩ (.slice A3 ws.length c3)) (w.heap.size+1) 164 #[.slice A1 ws.length c1,.slice A2 ws.length c2,.slice A3 ws.length c3]/\
   WdR (((wr.setCell ⟨w.heap.size+1,0,none⟩ (.slice A1 ws.length c1)).setCell ⟨w.heap.size+1,1,none⟩ (.slice A2 ws.length c2)).setCell ⟨w.heap.size+1,2,none⟩ (.slice A3 ws.length c3)) ws A1 A2 A3 c1 c2 c3/\
   Fr NoT w (((wr.setCell ⟨w.heap.size+1,0,none⟩ (.slice A1 ws.length c1)).setCell ⟨w.heap.size+1,1,none⟩ (.slice A2 ws.length c2)).setCell ⟨w.heap.size+1,2,none⟩ (.slice A3 ws.length c3)):=by
  intro wr ws A1 A2 A3 c1 c2 c3 JW Mz LM;have hk:=((k2.fr JW (by omega)).set_ 0 (.slice A1 ws.length c1)).set_ 1 (.slice A2 ws.length c2) |>.set_ 2 (.slice A3 ws.length c3)
  simp only[List.setIfInBounds_toArray,List.set_cons_zero,List.set_cons_succ]at hk;refine⟨hk,Mz.keepA LM (Fr.own (Fr.own (Fr.own (g:=w.heap.size+1) (Fr.refl _ wr) 0 _) 1 _) 2 _) (λb e=>by omega),?_⟩;exact Fr.high (Fr.high (Fr.high (Fr.back0 M3 (JW.mono λb _ e=>by have e:b=w.heap.size+1+1:=e;show w.heap.size<=b;omega)) (by omega) _ _) (by omega) _ _) (by omega) _ _
 have NF:=hdq Gx;clear hx hS Gk Gu GJ GV Hc M3 k1 k2 k5 hQ Gx;go_enter Tryz.func89,Tryz.ntmps89;go_wp2_with fail;rw[<-Ga.out];go_loopw [6] (λi wr=>∃k:Nat,k<=n1/\i= .int .i64 k/\∃ws:Wl,ws.length<=k/\Hid (DcW w1 (w.heap.size+1+1) ws wr)/\Hid (Q=rdF1 t (rdV (t.vars.drop k) ws))) (λi _=>n1 - (intOf i).toNat);case atStart=>exact⟨0,Nat.zero_le _,rfl, [],lrq _,JJ,Yu⟩
 case round=>
  clear JJ Yu;obtain⟨k,hk,rfl,ws,V0,hb,Ha⟩:=hrel;obtain⟨JW,A1,A2,A3,c1,c2,c3,Hm,Mz,LM⟩:=hb.out;have Hp:=Gv.fr JW (by omega);have y0:=Hp.cell 0;have y1:=Hp.cell 1;have y2:=Hp.cell 2;have yl:=Hp.lt;have u0:=Hm.cell 0;have u1:=Hm.cell 1;have u2:=Hm.cell 2;have ul:=Hm.lt;have z0:=Hm.frozen 0;have z1:=Hm.frozen 1;have z2:=Hm.frozen 2;have He:=FX.fr JW (by omega);have v0:=He.frozen 0;have v1:=He.frozen 1;have v2:=He.frozen 2;have MF:=hdq He;have MG:=hdq Hp;simp only[getsL]at y0 y1 y2 u0 u1 u2;have Ll:=hdq JW;have GO:=hdq Hm;have Kl:=hdq Mz;have Qg:=hdq LM;have F0:Fr NoT w wr:=Fr.back0 Hn.out (JW.mono λb _ e=>by have e:b=w.heap.size+1+1:=e;show w.heap.size<=b;omega);have HB:=hdq F0;obtain⟨l,hl⟩:=nmq ws.length;rw[<-hl]at u0 u1 u2 V0;have HL:=hdq hl;clear hb JW Hm Mz Hp He LM F0 hl;by_cases Hr:k < n1
  ·obtain⟨⟨a0,a1⟩,ar,hd⟩:=zac (show k < t.vars.length from by rw[<-VO.out];exact Hr);obtain⟨b,o,rfl,Hd⟩:=HX.vars.2.2 (by rw[<-VO.out];omega);have Hb:=(VaR.keep (HB.same λb hb=>⟨HS b hb,id⟩) Hd).drop k;rw[hd.1]at Hb;obtain⟨⟨Hf,_,r0,d0,d1⟩,_⟩:=Hb;have Gf:b < wr.heap.size:=ltq (HS _ Hf) HB.size;have zR:¬b=w.heap.size+1+1:=by have:=HS _ Hf;omega
   have zW:¬b=w.heap.size+1:=by have:=HS _ Hf;omega
   have zX:¬w.heap.size+1=b:=by have:=HS _ Hf;omega
   have Hl:(k:Int) < (n1:Int):=by omega
   have Fb:(0:Int)<=(k:Int):=by omega
   have Hq:=Ha.out;rw[zk2 hd]at Hq;obtain⟨n,hn⟩:=nmq (atI a0 ws 0);have h6:=zbp ws a0 wr.drew A1 A2 A3 c1 c2 c3 (Kl.keep (Fr.refl NoT wr).drew);rw[<-hn]at Hq h6;unfold wdV at h6;rw[<-HL.out]at h6;have H6:=hdq h6;have Hj:=hdq Hq;have zY:=hdq d0;clear hd Hd Ha Hq h6 hn Hf r0;go_wp2_with fail;refine wp_region_still_tail 7 (by kernel_rfl) (by kernel_rfl) ?_;simp only[List.take_succ_cons,List.take_zero,List.drop_succ_cons,List.drop_zero]
   repeat still_step
   try refine wpStill_nil ?_
   go_wp2_with fail;refine H6.mono ?_;rintro _ w5 ⟨rfl,hf⟩;have Hs:=(Fr.refl NoT wr).drew.trans hf;have Hx:=hdq Hs;have Hm:=GO.fr0 Hs;rw[<-HL.out]at Hm;clear y0 y1 y2 yl u0 u1 u2 ul z0 z1 z2 v0 v1 v2 d0 hf;have Hp:=(Gv.fr Ll.out (by omega)).fr0 Hs;have y0:=Hp.cell 0;have yl:=Hp.lt;have u0:=Hm.cell 0;have u1:=Hm.cell 1;have u2:=Hm.cell 2;have z0:=Hm.frozen 0;have z1:=Hm.frozen 1;have z2:=Hm.frozen 2;have ul:=Hm.lt;have He:=(FX.fr Ll.out (by omega)).fr0 Hs;have v0:=He.frozen 0;have v1:=He.frozen 1;have v2:=He.frozen 2;have vl:=He.lt;have q0:=He.cell 0;have q1:=He.cell 1;have q2:=He.cell 2;replace d1:=(Hs.cell (p:=⟨b,o+k*2+1,none⟩) Gf id).trans d1;have Yv:=zY.out;have d0:=(Hs.cell (p:=⟨b,o+k*2,none⟩) Gf id).trans Yv;replace Gf:=ltq Gf Hs.size;simp only[getsL]at y0 u0 u1 u2 q0 q1 q2;have NI:=hdq Hm;clear Hp He Hs Hm Yv;by_cases hz:0<=n
   ·have HN:=hdq (show Q=(ws,(a1,111))from by rw[Hj.out,if_pos hz];rfl);have Gx:=NF w5 ws A1 A2 A3 c1 c2 c3 (Ll.trans Hx.any) (Kl.keep Hx.out) Qg.out;rw[<-HL.out]at Gx;have Tz:=hdq Gx.1;have Q9:=hdq Gx.2.1;have TA:=hdq Gx.2.2;clear Gx Hj;go_wp2_with fail
    go_region
    go_wp2_with fail;refine bodyPost_ret (za9 (p:=2) (u:=3) (v:=4) (ty:=164) rfl _ _ (w.heap.size+1) 164 _ (0,0) _ rfl Tz.out Tryz.underlying164 rfl zdK) rfl ⟨A1,A2,A3,c1,c2,c3,?_,?_,TA.drew⟩
    ·rw[HN.out];unfold wdV;rw[<-HL.out];rfl
    ·rw[HN.out];exact Q9.keep (Fr.refl NoT _).drew
   ·have F7:=hdq (show Q=rdF1 t (rdV (t.vars.drop (k+1)) (ws++ [(a0,1,0)]))from by rw[Hj.out,if_neg hz]);have h7:=zbZ ws a0 1 0 w5.drew A1 A2 A3 c1 c2 c3 ((Kl.keep Hx.out).keep (Fr.refl NoT w5).drew) (by rw[<-HL.out];omega);unfold zh1 wdV at h7;rw[<-HL.out]at h7;have H7:=hdq h7;clear Hj h7;go_wp2_with fail;refine wp_region_still_tail 7 (by kernel_rfl) (by kernel_rfl) ?_;simp only[List.take_succ_cons,List.take_zero,List.drop_succ_cons,List.drop_zero]
    repeat still_step
    try refine wpStill_nil ?_
    go_wp2_with fail;refine H7.mono ?_;rintro _ w8 ⟨g1,g2,g3,e1,e2,e3,rfl,LV,hg,hf⟩;have Hv:(ws++ [(a0,(1:Int),(0:Int))]).length =l+1:=by rw[HL.out];simp
    rw[Hv];have Gj:=(Fr.refl NoT w5).drew.trans hf;have Hk:=NI.fr0 Gj;have HN:=hdq (DcW.put (Ll.trans Hx.any) (q:= #[.slice A1 l c1,.slice A2 l c2,.slice A3 l c3]) Hk LV hg NI.lt Gj);rw[<-HL.out]at HN;clear u0 u1 u2 ul z0 z1 z2;have u0:=Hk.cell 0;have u1:=Hk.cell 1;have u2:=Hk.cell 2;have z0:=Hk.frozen 0;have z1:=Hk.frozen 1;have z2:=Hk.frozen 2;have ul:=Hk.lt;simp only[getsL]at u0 u1 u2;clear Gj Hk hf LV hg Hv;go_wp2_with fail;go_roundw;case rel=>exact⟨k+1,by omega,by go_num,_,by simp;rw[<-HL.out];omega,HN,F7⟩
    case measure=>simp[intOf];omega
  ·have Hl:¬(k:Int) < (n1:Int):=by omega
   have F8:=hdq (show Q=rdF2 t (rdA (t.arrays.drop 0) ws)from by rw[Ha.out,List.drop_eq_nil_of_le (by rw[<-VO.out];omega)];rfl);clear Ha;go_wp2_with fail;clear y0 y1 y2 yl u0 u1 u2 ul z0 z1 z2 v0 v1 v2;rw[HL.out]at V0;go_loopw [7] (λi wr=>∃k:Nat,k<=n2/\i= .int .i64 k/\∃ws:Wl,ws.length<=k+100/\Hid (DcW w1 (w.heap.size+1+1) ws wr)/\Hid (Q=rdF2 t (rdA (t.arrays.drop k) ws))) (λi _=>n2 - (intOf i).toNat);case atStart=>exact⟨0,Nat.zero_le _,rfl,ws,by omega,⟨Ll.out,A1,A2,A3,c1,c2,c3,GO.out,Kl.out,Qg.out⟩,F8.out⟩
   case round=>
    clear F8 Ll GO Kl Qg HB HL MF MG;obtain⟨k,hk,rfl,ws,V0,hb,Ha⟩:=hrel;obtain⟨JW,A1,A2,A3,c1,c2,c3,Hm,Mz,LM⟩:=hb.out;have Hp:=Gv.fr JW (by omega);have y0:=Hp.cell 0;have y1:=Hp.cell 1;have y2:=Hp.cell 2;have yl:=Hp.lt;have u0:=Hm.cell 0;have u1:=Hm.cell 1;have u2:=Hm.cell 2;have ul:=Hm.lt;have z0:=Hm.frozen 0;have z1:=Hm.frozen 1;have z2:=Hm.frozen 2;have He:=FX.fr JW (by omega);have v0:=He.frozen 0;have v1:=He.frozen 1;have v2:=He.frozen 2;have vl:=He.lt;have q0:=He.cell 0;have q1:=He.cell 1;have q2:=He.cell 2;simp only[getsL]at y0 y1 y2 u0 u1 u2 q0 q1 q2;have Ll:=hdq JW;have GO:=hdq Hm;have Kl:=hdq Mz;have Qg:=hdq LM;have F0:Fr NoT w wr:=Fr.back0 Hn.out (JW.mono λb _ e=>by have e:b=w.heap.size+1+1:=e;show w.heap.size<=b;omega);have HB:=hdq F0;have MF:=hdq He;have MG:=hdq Hp;obtain⟨l,hl⟩:=nmq ws.length;rw[<-hl]at u0 u1 u2 V0;have HL:=hdq hl;clear hb JW Hm Mz Hp He LM F0 hl;by_cases Hr:k < n2
    ·obtain⟨⟨a0,a1,a2⟩,ar,hd⟩:=zac (show k < t.arrays.length from by rw[<-Le.out];exact Hr);obtain⟨b,o,rfl,Hd⟩:=HX.arrays.2.2 (by rw[<-Le.out];omega);have Hb:=(ArR.keep (HB.same λb hb=>⟨HS b hb,id⟩) Hd).drop k;rw[hd.1]at Hb;obtain⟨⟨Hf,_,r00,r0,d0,d1,d2⟩,_⟩:=Hb;have Gf:b < wr.heap.size:=ltq (HS _ Hf) HB.size;have Hl:(k:Int) < (n2:Int):=by omega
     have Fb:(0:Int)<=(k:Int):=by omega
     have Hq:=Ha.out;rw[zk3 hd]at Hq;obtain⟨n,hn⟩:=nmq (atI a0 ws 0);obtain⟨w4,G7⟩:=nmq (wr.alloc (.cells #[.string a0,.int .i64 a1,.int .i64 a2] 66));have Hk:Bk w4 wr.heap.size 66 #[.string a0,.int .i64 a1,.int .i64 a2]:=by rw[G7];exact Bk.new _ _ _
     have GB:Fr NoT wr w4:=by rw[G7];exact(Fr.refl _ _).alloc _
     have h6:=zbp ws a0 w4 A1 A2 A3 c1 c2 c3 (Kl.keep GB);rw[<-hn]at Hq h6;unfold wdV at h6;rw[<-HL.out]at h6;have H6:=hdq h6;have Hj:=hdq Hq;have Kf:=hdq Hk;have GL:=hdq GB;have LU:=hdq G7;clear hd Hd Ha Hq h6 hn Hf r0 Hk GB G7;go_wp2_with fail;rw[<-LU.out];have Hm:=GO.fr0 GL.out;rw[<-HL.out]at Hm;clear u0 u1 u2 ul z0 z1 z2 v0 v1 v2 vl q0 q1 q2;have u0:=Hm.cell 0;have u1:=Hm.cell 1;have u2:=Hm.cell 2;have ul:=Hm.lt;have x0:=Kf.cell 0;have x1:=Kf.cell 1;have x2:=Kf.cell 2;simp only[getsL]at u0 u1 u2 x0 x1 x2;have xl:=Kf.lt;clear Hm;go_wp2_with fail;refine H6.mono ?_;rintro _ w5 ⟨rfl,hf⟩;have Hx:=hdq (GL.trans hf);have Hm:=GO.fr0 Hx.out;rw[<-HL.out]at Hm;have NI:=hdq Hm;have Hk:=Kf.fr0 hf;have He:=MF.fr0 Hx.out;have Hp:=MG.fr0 Hx.out;clear u0 u1 u2 ul x0 x1 x2 xl hf y0 y1 y2 yl;have y0:=Hp.cell 0;have y1:=Hp.cell 1;have y2:=Hp.cell 2;have yl:=Hp.lt;have u0:=Hm.cell 0;have u1:=Hm.cell 1;have u2:=Hm.cell 2;have ul:=Hm.lt;have z0:=Hm.frozen 0;have z1:=Hm.frozen 1;have z2:=Hm.frozen 2;have v0:=He.frozen 0;have v1:=He.frozen 1;have v2:=He.frozen 2;have vl:=He.lt;have q0:=He.cell 0;have q1:=He.cell 1;have q2:=He.cell 2;have x0:=Hk.cell 0;have x1:=Hk.cell 1;have x2:=Hk.cell 2;have xl:=Hk.lt;have nx1:¬wr.heap.size=w.heap.size+1:=by have:=HB.size;have:=MF.lt;omega
     have nx2:¬w.heap.size+1=wr.heap.size:=by have:=HB.size;have:=MF.lt;omega
     simp only[getsL]at y0 y1 y2 u0 u1 u2 q0 q1 q2 x0 x1 x2;clear Hp He Hm Hk;by_cases hz:0<=n
     ·have HN:=hdq (show Q=(ws,(a2,111))from by rw[Hj.out,if_pos hz];rfl);have Gx:=NF w5 ws A1 A2 A3 c1 c2 c3 (Ll.trans Hx.any) (Kl.keep Hx.out) Qg.out;rw[<-HL.out]at Gx;have Tz:=hdq Gx.1;have Q9:=hdq Gx.2.1;have TA:=hdq Gx.2.2;clear Gx Hj;go_wp2_with fail
      go_region
      go_wp2_with fail;refine bodyPost_ret (za9 (p:=2) (u:=3) (v:=4) (ty:=164) rfl _ _ (w.heap.size+1) 164 _ (0,0) _ rfl Tz.out Tryz.underlying164 rfl zdK) rfl ⟨A1,A2,A3,c1,c2,c3,?_,?_,TA.drew⟩
      ·rw[HN.out];unfold wdV;rw[<-HL.out];rfl
      ·rw[HN.out];exact Q9.keep (Fr.refl NoT _).drew
     by_cases Gh:a1 < 1\/16 < a1
     ·have XB:=hdq (show Q=(ws,(a2,113))from by rw[Hj.out,if_neg hz,if_pos Gh];rfl);have F6:(a1 < 1)\/(¬a1 < 1/\16 < a1):=by omega
      clear Gh;rcases F6 with Fs|⟨Fs,Ft⟩;all_goals
       have HN:=XB;have Gx:=NF w5 ws A1 A2 A3 c1 c2 c3 (Ll.trans Hx.any) (Kl.keep Hx.out) Qg.out;rw[<-HL.out]at Gx;have Tz:=hdq Gx.1;have Q9:=hdq Gx.2.1;have TA:=hdq Gx.2.2;clear Gx Hj;go_wp2_with fail
       go_region
       go_wp2_with fail;refine bodyPost_ret (za9 (p:=2) (u:=3) (v:=4) (ty:=164) rfl _ _ (w.heap.size+1) 164 _ (0,0) _ rfl Tz.out Tryz.underlying164 rfl zdK) rfl ⟨A1,A2,A3,c1,c2,c3,?_,?_,TA.drew⟩
       ·rw[HN.out];unfold wdV;rw[<-HL.out];rfl
       ·rw[HN.out];exact Q9.keep (Fr.refl NoT _).drew
     have Fs:¬a1 < 1:=λh=>Gh (.inl h);have Ft:¬16 < a1:=λh=>Gh (.inr h)
     ·have F7:=hdq (show Q=rdF2 t (rdA (t.arrays.drop (k+1)) (ws++ [(a0,2,0)]))from by rw[Hj.out,if_neg hz,if_neg Gh]);have h7:=zbZ ws a0 2 0 w5 A1 A2 A3 c1 c2 c3 (Kl.keep Hx.out) (by rw[<-HL.out];omega);unfold zh1 wdV at h7;rw[<-HL.out]at h7;have H7:=hdq h7;clear Hj h7;go_wp2_with fail;refine H7.mono ?_;rintro _ w8 ⟨g1,g2,g3,e1,e2,e3,rfl,LV,hg,Gj⟩;have Hv:(ws++ [(a0,(2:Int),(0:Int))]).length =l+1:=by rw[HL.out];simp
      rw[Hv];have Hk:=NI.fr0 Gj;have HN:=hdq (DcW.put (Ll.trans Hx.any) (q:= #[.slice A1 l c1,.slice A2 l c2,.slice A3 l c3]) Hk LV hg NI.lt Gj);rw[<-HL.out]at HN;clear u0 u1 u2 ul z0 z1 z2;have u0:=Hk.cell 0;have u1:=Hk.cell 1;have u2:=Hk.cell 2;have z0:=Hk.frozen 0;have z1:=Hk.frozen 1;have z2:=Hk.frozen 2;have ul:=Hk.lt;simp only[getsL]at u0 u1 u2;clear Hk Gj LV hg Hv;go_wp2_with fail;go_roundw;case rel=>exact⟨k+1,by omega,by go_num,_,by simp;rw[<-HL.out];omega,HN,F7⟩
      case measure=>simp[intOf];omega
    ·have Hl:¬(k:Int) < (n2:Int):=by omega
     have F8:=hdq (show Q=rdP (t.procs.drop 0) ws from by rw[Ha.out,List.drop_eq_nil_of_le (by rw[<-Le.out];omega)];rfl);clear Ha;go_wp2_with fail;clear y0 y1 y2 yl u0 u1 u2 ul z0 z1 z2 v0 v1 v2 vl q0 q1 q2;rw[HL.out]at V0;go_loopw [9] (λi wr=>∃k:Nat,k<=n3/\i= .int .i64 k/\∃ws:Wl,ws.length<=k+200/\Hid (DcW w1 (w.heap.size+1+1) ws wr)/\Hid (Q=rdP (t.procs.drop k) ws)) (λi _=>n3 - (intOf i).toNat);case atStart=>exact⟨0,Nat.zero_le _,rfl,ws,by omega,⟨Ll.out,A1,A2,A3,c1,c2,c3,GO.out,Kl.out,Qg.out⟩,F8.out⟩
     case round=>
      clear F8 Ll GO Kl Qg HB HL MF MG;obtain⟨k,hk,rfl,ws,V0,hb,Ha⟩:=hrel;obtain⟨JW,A1,A2,A3,c1,c2,c3,Hm,Mz,LM⟩:=hb.out;have Hp:=Gv.fr JW (by omega);have y0:=Hp.cell 0;have y1:=Hp.cell 1;have y2:=Hp.cell 2;have yl:=Hp.lt;have u0:=Hm.cell 0;have u1:=Hm.cell 1;have u2:=Hm.cell 2;have ul:=Hm.lt;have z0:=Hm.frozen 0;have z1:=Hm.frozen 1;have z2:=Hm.frozen 2;have He:=FX.fr JW (by omega);have v0:=He.frozen 0;have v1:=He.frozen 1;have v2:=He.frozen 2;have vl:=He.lt;have q0:=He.cell 0;have q1:=He.cell 1;have q2:=He.cell 2;simp only[getsL]at y0 y1 y2 u0 u1 u2 q0 q1 q2;have Ll:=hdq JW;have GO:=hdq Hm;have Kl:=hdq Mz;have Qg:=hdq LM;have F0:Fr NoT w wr:=Fr.back0 Hn.out (JW.mono λb _ e=>by have e:b=w.heap.size+1+1:=e;show w.heap.size<=b;omega);have HB:=hdq F0;have MF:=hdq He;have MG:=hdq Hp;obtain⟨l,hl⟩:=nmq ws.length;rw[<-hl]at u0 u1 u2 V0;have HL:=hdq hl;clear hb JW Hm Mz Hp He LM F0 hl;by_cases Hr:k < n3
      ·obtain⟨⟨a0,a1,a2,a3⟩,ar,hd⟩:=zac (show k < t.procs.length from by rw[<-JO.out];exact Hr);obtain⟨b,o,rfl,Hd⟩:=HX.procs.2.2 (by rw[<-JO.out];omega);have Hb:=(PrR.keep (HB.same λb hb=>⟨HS b hb,id⟩) Hd).drop k;rw[hd.1]at Hb;obtain⟨⟨Hf,_,r0,d0,d3⟩,⟨A4,q4,d1,s4⟩,⟨A5,q5,d2,s5⟩,_⟩:=Hb;have Gf:b < wr.heap.size:=ltq (HS _ Hf) HB.size;have Hl:(k:Int) < (n3:Int):=by omega
       have Fb:(0:Int)<=(k:Int):=by omega
       have Hq:=Ha.out;rw[zk4 hd]at Hq;obtain⟨n,hn⟩:=nmq (atI a0 ws 0);obtain⟨l4,Gy⟩:=nmq a1.length;obtain⟨l5,GN⟩:=nmq a2.len;simp only at d0 d1 d2 d3;rw[<-Gy]at d1 Hq;rw[<-GN]at d2;have Qh:=hdq Gy;clear Gy GN s4 s5;obtain⟨w4,G7⟩:=nmq (wr.alloc (.cells #[.string a0,.slice A4 l4 q4,.slice A5 l5 q5,.int .i64 a3] 68));have Hk:Bk w4 wr.heap.size 68 #[.string a0,.slice A4 l4 q4,.slice A5 l5 q5,.int .i64 a3]:=by rw[G7];exact Bk.new _ _ _
       have GB:Fr NoT wr w4:=by rw[G7];exact(Fr.refl _ _).alloc _
       have h6:=zbp ws a0 w4 A1 A2 A3 c1 c2 c3 (Kl.keep GB);rw[<-hn]at Hq h6;unfold wdV at h6;rw[<-HL.out]at h6;have H6:=hdq h6;have Hj:=hdq Hq;have Kf:=hdq Hk;have GL:=hdq GB;have LU:=hdq G7;clear hd Hd Ha Hq h6 hn Hf r0 Hk GB G7;go_wp2_with fail;rw[<-LU.out];have Hm:=GO.fr0 GL.out;rw[<-HL.out]at Hm;clear u0 u1 u2 ul z0 z1 z2 v0 v1 v2 vl q0 q1 q2;have u0:=Hm.cell 0;have u1:=Hm.cell 1;have u2:=Hm.cell 2;have ul:=Hm.lt;have x0:=Kf.cell 0;have x1:=Kf.cell 1;have x2:=Kf.cell 2;have x3:=Kf.cell 3;simp only[getsL]at u0 u1 u2 x0 x1 x2 x3;have xl:=Kf.lt;clear Hm;go_wp2_with fail;refine H6.mono ?_;rintro _ w5 ⟨rfl,hf⟩;have Hx:=hdq (GL.trans hf);have Hm:=GO.fr0 Hx.out;rw[<-HL.out]at Hm;have NI:=hdq Hm;have Hk:=Kf.fr0 hf;have He:=MF.fr0 Hx.out;have Hp:=MG.fr0 Hx.out;clear u0 u1 u2 ul x0 x1 x2 x3 xl hf y0 y1 y2 yl;have y0:=Hp.cell 0;have y1:=Hp.cell 1;have y2:=Hp.cell 2;have yl:=Hp.lt;have u0:=Hm.cell 0;have u1:=Hm.cell 1;have u2:=Hm.cell 2;have ul:=Hm.lt;have z0:=Hm.frozen 0;have z1:=Hm.frozen 1;have z2:=Hm.frozen 2;have v0:=He.frozen 0;have v1:=He.frozen 1;have v2:=He.frozen 2;have vl:=He.lt;have q0:=He.cell 0;have q1:=He.cell 1;have q2:=He.cell 2;have x0:=Hk.cell 0;have x1:=Hk.cell 1;have x2:=Hk.cell 2;have x3:=Hk.cell 3;have xl:=Hk.lt;have nx1:¬wr.heap.size=w.heap.size+1:=by have:=HB.size;have:=MF.lt;omega
       have nx2:¬w.heap.size+1=wr.heap.size:=by have:=HB.size;have:=MF.lt;omega
       simp only[getsL]at y0 y1 y2 u0 u1 u2 q0 q1 q2 x0 x1 x2 x3;clear Hp He Hm Hk;by_cases hz:0<=n
       ·have HN:=hdq (show Q=(ws,(a3,111))from by rw[Hj.out,if_pos hz]);have Gx:=NF w5 ws A1 A2 A3 c1 c2 c3 (Ll.trans Hx.any) (Kl.keep Hx.out) Qg.out;rw[<-HL.out]at Gx;have Tz:=hdq Gx.1;have Q9:=hdq Gx.2.1;have TA:=hdq Gx.2.2;clear Gx Hj;go_wp2_with fail
        go_region
        go_wp2_with fail;refine bodyPost_ret (za9 (p:=2) (u:=3) (v:=4) (ty:=164) rfl _ _ (w.heap.size+1) 164 _ (0,0) _ rfl Tz.out Tryz.underlying164 rfl zdK) rfl ⟨A1,A2,A3,c1,c2,c3,?_,?_,TA.drew⟩
        ·rw[HN.out];unfold wdV;rw[<-HL.out];rfl
        ·rw[HN.out];exact Q9.keep (Fr.refl NoT _).drew
       ·have F7:=hdq (show Q=rdP (t.procs.drop (k+1)) (ws++ [(a0,3,(l4:Int))])from by rw[Hj.out,if_neg hz]);have h7:=zbZ ws a0 3 (l4:Int) w5 A1 A2 A3 c1 c2 c3 (Kl.keep Hx.out) (by rw[<-HL.out];omega);unfold zh1 wdV at h7;rw[<-HL.out]at h7;have H7:=hdq h7;clear Hj h7;go_wp2_with fail;refine H7.mono ?_;rintro _ w8 ⟨g1,g2,g3,e1,e2,e3,rfl,LV,hg,Gj⟩;have Hv:(ws++ [(a0,(3:Int),(l4:Int))]).length =l+1:=by rw[HL.out];simp
        rw[Hv];have Hk:=NI.fr0 Gj;have HN:=hdq (DcW.put (Ll.trans Hx.any) (q:= #[.slice A1 l c1,.slice A2 l c2,.slice A3 l c3]) Hk LV hg NI.lt Gj);rw[<-HL.out]at HN;clear u0 u1 u2 ul z0 z1 z2;have u0:=Hk.cell 0;have u1:=Hk.cell 1;have u2:=Hk.cell 2;have z0:=Hk.frozen 0;have z1:=Hk.frozen 1;have z2:=Hk.frozen 2;have ul:=Hk.lt;simp only[getsL]at u0 u1 u2;clear Hk Gj LV hg Hv;go_wp2_with fail;go_roundw;case rel=>exact⟨k+1,by omega,by go_num,_,by simp;rw[<-HL.out];omega,HN,F7⟩
        case measure=>simp[intOf];omega
      ·have Hl:¬(k:Int) < (n3:Int):=by omega
       have HN:=hdq (show Q=(ws,(0,0))from by rw[Ha.out,List.drop_eq_nil_of_le (by rw[<-JO.out];omega)];rfl);have Gx:=NF wr ws A1 A2 A3 c1 c2 c3 Ll.out Kl.out Qg.out;rw[<-HL.out]at Gx;have Tz:=hdq Gx.1;have Q9:=hdq Gx.2.1;have TA:=hdq Gx.2.2;clear Gx Ha;go_wp2_with fail;refine bodyPost_ret (za9 (p:=2) (u:=3) (v:=4) (ty:=164) rfl _ _ (w.heap.size+1) 164 _ (0,0) _ rfl Tz.out Tryz.underlying164 rfl zdK) rfl ⟨A1,A2,A3,c1,c2,c3,?_,?_,TA.out⟩
       ·rw[HN.out];unfold wdV;rw[<-HL.out];rfl
       ·rw[HN.out];exact Q9.out
def finP (body:Sts)(q:Wl×(Int×Int)):Int×Int:=if q.2.2=0 then stsI q.1 body else q.2
theorem zmC {ws own:Wl}{p:Prc}(h:¬4 < (p.params.length:Int)):rp1 ws own p=finP p.body (rpV ws p.params own):=by
 unfold rp1 finP;rw[if_neg h]
theorem RwR.keepN {w w':World}{g:Nat}{xs:List Value}{A:Option Addr}{c:Nat}(h:RwR w xs A c)(hf:Fr (λb=>b=g) w w')(hg:0 < xs.length->∀b,A=some ⟨b,0,none⟩->b≠g):RwR w' xs A c:=
 ⟨h.1,h.2.1,λh0=>by
  obtain⟨b,e,hb,hc⟩:=h.2.2 h0;exact⟨b,e,ltq hb hf.size,λi u hi=>(hf.cell (p:=⟨b,i,none⟩) hb (hg h0 b e)).trans (hc i u hi)⟩⟩
def Apt3 (g:Nat)(ws:Wl)(A1 A2 A3:Option Addr):Prop:=0 < ws.length->(∀b,A1=some ⟨b,0,none⟩->b≠g)/\(∀b,A2=some ⟨b,0,none⟩->b≠g)/\(∀b,A3=some ⟨b,0,none⟩->b≠g)
theorem WdR.keepN {w w':World}{g:Nat}{ws:Wl}{An Ak Am:Option Addr}{cn ck cm:Nat}(h:WdR w ws An Ak Am cn ck cm)(ha:Apt3 g ws An Ak Am)(hf:Fr (λb=>b=g) w w'):WdR w' ws An Ak Am cn ck cm:=
 ⟨h.names.keepN hf λh0=>(ha (by simpa using h0)).1,h.kinds.keepN hf λh0=>(ha (by simpa using h0)).2.1,h.many.keepN hf λh0=>(ha (by simpa using h0)).2.2⟩
structure PcW (w1:World)(b5:Nat)(ws:Wl)(wr:World):Prop where
 fr:Fr (λb=>b=b5) w1 wr
 out:∃A1 A2 A3 c1 c2 c3,Bk wr b5 164 #[.slice A1 (List.length ws) c1,.slice A2 (List.length ws) c2,.slice A3 (List.length ws) c3]/\WdR wr ws A1 A2 A3 c1 c2 c3/\Apt3 b5 ws A1 A2 A3
theorem PcW.put {w1 wr w5:World}{b5:Nat}{ws:Wl}{x:ByteArray×Int×Int}(JW:Fr (λb=>b=b5) w1 wr){g1 g2 g3:Nat}{e1 e2 e3:Nat}{q:Array Value}(hq:Bk w5 b5 164 #[q[0]!,q[1]!,q[2]!])(h5:WdR w5 (ws++ [x]) (some ⟨g1,0,none⟩) (some ⟨g2,0,none⟩) (some ⟨g3,0,none⟩) e1 e2 e3)
  (hg:wr.heap.size<=g1/\wr.heap.size<=g2/\wr.heap.size<=g3) (hb:b5 < wr.heap.size) (hf:Fr NoT wr w5):
  PcW w1 b5 (ws++ [x]) (((w5.setCell ⟨b5,0,none⟩ (.slice (some ⟨g1,0,none⟩) (ws.length+1) e1)).setCell ⟨b5,1,none⟩ (.slice (some ⟨g2,0,none⟩) (ws.length+1) e2)).setCell ⟨b5,2,none⟩ (.slice (some ⟨g3,0,none⟩) (ws.length+1) e3)):=by
 have hl:(ws++ [x]).length =ws.length+1:=by simp
 have hT:=Fr.own (Fr.own (Fr.own (g:=b5) (Fr.refl _ w5) 0 (.slice (some ⟨g1,0,none⟩) (ws.length+1) e1)) 1 (.slice (some ⟨g2,0,none⟩) (ws.length+1) e2)) 2 (.slice (some ⟨g3,0,none⟩) (ws.length+1) e3);have LM:Apt3 b5 (ws++ [x]) (some ⟨g1,0,none⟩) (some ⟨g2,0,none⟩) (some ⟨g3,0,none⟩):=by
  obtain⟨h1,h2,h3⟩:=hg;refine λ_=>⟨λb e=>?_,λb e=>?_,λb e=>?_⟩<;>(simp only[Option.some.injEq,Addr.mk.injEq,and_true]at e;omega)
 have hk:=((hq.set_ 0 (.slice (some ⟨g1,0,none⟩) (ws.length+1) e1)).set_ 1 (.slice (some ⟨g2,0,none⟩) (ws.length+1) e2)).set_ 2 (.slice (some ⟨g3,0,none⟩) (ws.length+1) e3);simp only[List.setIfInBounds_toArray,List.set_cons_zero,List.set_cons_succ]at hk;refine⟨(JW.trans hf.any).trans hT,some ⟨g1,0,none⟩,some ⟨g2,0,none⟩,some ⟨g3,0,none⟩,e1,e2,e3,?_,?_,LM⟩
 ·rw[hl];exact hk
 ·exact h5.keepN LM hT
theorem zh3 (t:Tre)(ws:Wl)(w:World)(S:Nat->Prop)(Z:Prop)(Av Aa Ap Am' An Ak Am:Option Addr)(cv ca cp cm' cn ck cm:Nat)(hS:∀b,S b->b < w.heap.size)(hx:TrR w S Z t Av Aa Ap Am' cv ca cp cm')(Mz:WdR w ws An Ak Am cn ck cm)
  (M2:t.vars.length<=100/\t.arrays.length<=100/\t.procs.length<=100/\ws.length<=100):
  Calls Tryz.prog 90 #[trV t Av Aa Ap Am' cv ca cp cm',wdV ws An Ak Am cn ck cm] w (AtE (rpP ((t.vars.length:Int)+t.arrays.length) ws t.procs 0) w):=by
 unfold trV wdV;obtain⟨n1,Gk⟩:=nmq t.vars.length;obtain⟨n2,Gu⟩:=nmq t.arrays.length;obtain⟨n3,GJ⟩:=nmq t.procs.length;obtain⟨n4,GV⟩:=nmq t.main.len;obtain⟨nw,KI⟩:=nmq ws.length;obtain⟨Hi,Gd,GQ,GB⟩:=M2;rw[<-Gk]at Hi;rw[<-Gu]at Gd;rw[<-GJ]at GQ;rw[<-KI]at GB;rw[<-Gk,<-Gu,<-GJ,<-GV,<-KI];obtain⟨Q,hQ⟩:=nmq (rpP ((n1:Int)+n2) ws t.procs 0);rw[<-hQ];have HX:=hdq hx;have HS:=hdq hS;have JO:=hdq GJ;have ME:=hdq KI;have Kl:=hdq Mz;obtain⟨w1,Hc⟩:=nmq ((w.alloc (.cells #[.slice Av n1 cv,.slice Aa n2 ca,.slice Ap n3 cp,.slice Am' n4 cm'] 27)).alloc (.cells #[.slice An nw cn,.slice Ak nw ck,.slice Am nw cm] 164));have M3:Fr NoT w w1:=by rw[Hc];exact((Fr.refl _ _).alloc _).alloc _
 have k1:Bk w1 w.heap.size 27 #[.slice Av n1 cv,.slice Aa n2 ca,.slice Ap n3 cp,.slice Am' n4 cm']:=by
  rw[Hc];exact(Bk.new _ _ _).fr0 ((Fr.refl _ _).alloc _)
 have k2:Bk w1 (w.heap.size+1) 164 #[.slice An nw cn,.slice Ak nw ck,.slice Am nw cm]:=by
  rw[Hc];exact Bk.new_at _ _ _ (by simp)
 have Hn:=hdq M3;have Gv:=hdq k1;have FX:=hdq k2;have Yu:=hdq (show Q=rpP ((n1:Int)+n2) ws (t.procs.drop 0) 0 from by rw[hQ];rfl);have Ga:=hdq Hc;clear hx hS Gk Gu GJ GV KI Hc M3 k1 k2 hQ Mz;go_enter Tryz.func90,Tryz.ntmps90;go_wp2_with fail;rw[<-Ga.out];go_loopw [6] (λi wr=>∃k:Nat,k<=n3/\i= .int .i64 k/\Hid (Fr NoT w1 wr)/\Hid (Q=rpP ((n1:Int)+n2) ws (t.procs.drop k) k)) (λi _=>n3 - (intOf i).toNat);case atStart=>exact⟨0,Nat.zero_le _,rfl,Fr.refl _ _,Yu⟩
 case round=>
  clear Yu;obtain⟨k,hk,rfl,Gi,Ha⟩:=hrel;have Hu:=hdq Gi.out;have HB:=hdq (Hn.trans Gi.out);have Hp:=Gv.fr0 Gi.out;have He:=FX.fr0 Gi.out;have y0:=Hp.cell 0;have y1:=Hp.cell 1;have y2:=Hp.cell 2;have y3:=Hp.cell 3;have yl:=Hp.lt;have v0:=He.cell 0;have v1:=He.cell 1;have v2:=He.cell 2;have vl:=He.lt;simp only[getsL]at y0 y1 y2 y3 v0 v1 v2;clear Gi Hp He;by_cases Hr:k < n3
  ·obtain⟨⟨a0,a1,a2,a3⟩,ar,hd⟩:=zac (show k < t.procs.length from by rw[<-JO.out];exact Hr);obtain⟨b,o,rfl,Hd⟩:=HX.procs.2.2 (by rw[<-JO.out];omega);have Hb:=(PrR.keep (HB.same λb hb=>⟨HS b hb,id⟩) Hd).drop k;rw[hd.1]at Hb;obtain⟨⟨Hf,_,r0,d0,d3⟩,⟨A4,q4,d1,s4⟩,⟨A5,q5,d2,s5⟩,_⟩:=Hb;have Gf:b < wr.heap.size:=ltq (HS _ Hf) HB.size;have Hl:(k:Int) < (n3:Int):=by omega
   have Fb:(0:Int)<=(k:Int):=by omega
   have Hq:=Ha.out;rw[zk6 hd]at Hq;simp only at d0 d1 d2 d3 s4 s5;have jO:a2.len*128<=140737488355328:=s5.2.1.2;obtain⟨P1,Rw⟩:=nmq (rp1 ws (upI ((n1:Int)+n2+k) ws 0) ⟨a0,a1,a2,a3⟩);rw[<-Rw]at Hq;obtain⟨l4,Gy⟩:=nmq a1.length;obtain⟨l5,GN⟩:=nmq a2.len;rw[<-Gy]at d1;rw[<-GN]at d2;have Qh:=hdq Gy;have zZ:=hdq GN;have jP:=hdq Rw;have Hj:=hdq Hq;have Lj:=hdq s4;have VU:=hdq s5;obtain⟨w4,G7⟩:=nmq (wr.alloc (.cells #[.string a0,.slice A4 l4 q4,.slice A5 l5 q5,.int .i64 a3] 68));have GK:Bk w4 wr.heap.size 68 #[.string a0,.slice A4 l4 q4,.slice A5 l5 q5,.int .i64 a3]:=by rw[G7];exact Bk.new _ _ _
   have GB:Fr NoT wr w4:=by rw[G7];exact(Fr.refl _ _).alloc _
   have Pk:=hdq GK;have GL:=hdq GB;have LU:=hdq G7;have uX:b < w.heap.size:=HS _ Hf;clear hd Hd Ha Hq Rw Gy GN s4 s5 Hf r0 GK GB G7 jO;by_cases h4:4 < (l4:Int)
   ·have HN:=hdq (show Q=(a3,4)from by
     have e:P1=(a3,4):=by rw[jP.out];unfold rp1;rw[if_pos (by simpa[<-Qh.out]using h4)]
     rw[Hj.out,e];rfl)
    have vV:decide ((4:Int) < (l4:Int))=true:=by simpa using h4
    clear h4;go_wp2_with fail
    go_ret2
    rw[<-LU.out];exact⟨by rw[HN.out];rfl,HB.trans GL.out⟩
   have vV:decide ((4:Int) < (l4:Int))=false:=by simpa using h4
   have jQ:=hdq (show l4<=4 from by omega);have z8:l4<=9223372036854775807:=by omega
   have UD:=jP.trans (zmC (p:=⟨a0,a1,a2,a3⟩) (by simpa[<-Qh.out]using h4));clear h4;simp only at UD;have h7:=zjo ws Av Aa (some ⟨b,o,none⟩) Am' n1 n2 n3 n4 cv ca cp cm' k w4 An Ak Am cn ck cm (Kl.keep (HB.trans GL.out)) (by rw[<-ME.out];omega) (by omega) (by omega) (by omega);obtain⟨own0,jR⟩:=nmq (upI ((n1:Int)+n2+k) ws 0);have KL:own0.length<=100:=by have:=zjs ((n1:Int)+n2+k) ws 0;rw[jR];rw[<-ME.out]at this;omega
   rw[<-jR]at h7 UD;unfold wdV at h7;rw[<-ME.out]at h7;have H7:=hdq h7;have XC:=hdq UD;clear jP UD jR h7;go_wp2_with fail;rw[<-LU.out];clear y0 y1 y2 y3 yl v0 v1 v2 vl d0 d1 d2 d3 Gf vV;refine H7.mono ?_;rintro _ w5 ⟨A1,A2,A3,c1,c2,c3,rfl,NH,hf⟩;unfold wdV;have Hx:=hdq (GL.trans hf);have V1:=Pk.fr0 hf;obtain⟨w6,GM⟩:=nmq (w5.alloc (.cells #[.slice A1 own0.length c1,.slice A2 own0.length c2,.slice A3 own0.length c3] 164));have Hk:Bk w6 w5.heap.size 164 #[.slice A1 own0.length c1,.slice A2 own0.length c2,.slice A3 own0.length c3]:=by rw[GM];exact Bk.new _ _ _
   have TB:Fr NoT w5 w6:=by rw[GM];exact(Fr.refl _ _).alloc _
   have JJ:=hdq (show PcW w6 w5.heap.size own0 w6 from⟨Fr.refl _ _,A1,A2,A3,c1,c2,c3,Hk,NH.keep TB,λh0=>by
    obtain⟨b1,e1,l1,_⟩:=NH.names.2.2 (by simpa using h0);obtain⟨b2,e2,l2,_⟩:=NH.kinds.2.2 (by simpa using h0);obtain⟨b3,e3,l3,_⟩:=NH.many.2.2 (by simpa using h0);refine⟨λb e=>?_,λb e=>?_,λb e=>?_⟩
    ·rw[e1]at e;simp only[Option.some.injEq,Addr.mk.injEq,and_true]at e;omega
    ·rw[e2]at e;simp only[Option.some.injEq,Addr.mk.injEq,and_true]at e;omega
    ·rw[e3]at e;simp only[Option.some.injEq,Addr.mk.injEq,and_true]at e;omega⟩)
   have GF:=hdq (Hx.trans TB);have jS:=hdq (V1.fr0 TB);have V2:=hdq (Gv.fr0 (Hu.trans GF.out));have jT:=hdq (FX.fr0 (Hu.trans GF.out));have vW:=hdq (show P1=finP a2 (rpV ws (a1.drop 0) own0)from XC.out);have uY:wr.heap.size < w5.heap.size:=V1.lt;have uZ:w.heap.size+1 < w5.heap.size:=by have:=(FX.fr0 (Hu.trans Hx.out)).lt;omega
   have Lx:=hdq GM;clear hf V1 Hk TB XC GM NH;go_wp2_with fail;rw[<-Lx.out];obtain⟨wq,rfl⟩:∃wq:World,wq=wr:=⟨_,rfl⟩;go_loopw [9] (λi wr=>∃j:Nat,j<=l4/\i= .int .i64 j/\∃own:Wl,own.length<=j+100/\Hid (PcW w6 w5.heap.size own wr)/\Hid (P1=finP a2 (rpV ws (a1.drop j) own))) (λi _=>l4 - (intOf i).toNat);case atStart=>exact⟨0,Nat.zero_le _,rfl,own0,by omega,JJ,vW⟩
   case round=>
    clear JJ vW;obtain⟨j,hj,rfl,own,jU,hb,Ha⟩:=hrel;obtain⟨JW,B1,B2,B3,e1,e2,e3,Hk,LV,TC⟩:=hb.out;have Ll:=hdq JW;have XD:Hid (Fr NoT w wr):=Fr.back0 (HB.trans GF.out) (JW.mono λb _ e=>by have e:b=w5.heap.size:=e;show w.heap.size<=b;omega);have Ra:Hid (Fr NoT w1 wr):=Fr.back0 (Hu.trans GF.out) (JW.mono λb _ e=>by have e:b=w5.heap.size:=e;have:=Hu.size;have:=Gv.lt;have:=Hx.size;show w1.heap.size<=b;omega);obtain⟨lo,S6⟩:=nmq own.length;rw[<-S6]at Hk jU;have V6:=hdq S6;have Kf:=hdq Hk;have V7:=hdq LV;have Db:=hdq TC;have GK:=jS.fr JW (by omega);have Hp:=V2.fr JW (by omega);have He:=jT.fr JW (by omega);have xd:=hdq GK;have xe:=hdq Hp;have jV:=hdq He;have v0:=He.cell 0;have v1:=He.cell 1;have v2:=He.cell 2;have vl:=He.lt;have x0:=GK.cell 0;have x1:=GK.cell 1;have x2:=GK.cell 2;have x3:=GK.cell 3;have xl:=GK.lt;have u0:=Hk.cell 0;have u1:=Hk.cell 1;have u2:=Hk.cell 2;have ul:=Hk.lt;simp only[getsL]at v0 v1 v2 x0 x1 x2 x3 u0 u1 u2;clear hb JW Hk LV TC GK Hp He S6;by_cases Nz:j < l4
    ·obtain⟨⟨p0,p1⟩,pr,hd⟩:=zac (show j < a1.length from by rw[<-Qh.out];exact Nz);obtain⟨b',o',rfl,Hd⟩:=Lj.2.2 (by rw[<-Qh.out];omega);have Jr:∀b,S b->b < wr.heap.size:=λb hb=>ltq (HS b hb) XD.size;have Hb:=(VaR.keep ((GF.any.trans Ll.out).same λb hb=>⟨ltq (HS b hb) HB.size,λe=>by have e:b=w5.heap.size:=e;have:=HS b hb;omega⟩) Hd).drop j;rw[hd.1]at Hb;obtain⟨⟨Hf,_,r0,d0,d1⟩,_⟩:=Hb;have Gf:b' < wr.heap.size:=Jr _ Hf;have Rq:(j:Int) < (l4:Int):=by omega
     have X6:(0:Int)<=(j:Int):=by omega
     have Hq:=Ha.out;rw[zk5 hd]at Hq;obtain⟨m1,Rx⟩:=nmq (atI p0 ws 0);obtain⟨m2,Fg⟩:=nmq (atI p0 own 0);obtain⟨w7,M4⟩:=nmq (wr.alloc (.cells #[.string p0,.int .i64 p1] 43));have FM:Bk w7 wr.heap.size 43 #[.string p0,.int .i64 p1]:=by rw[M4];exact Bk.new _ _ _
     have Gw:Fr NoT wr w7:=by rw[M4];exact(Fr.refl _ _).alloc _
     have h6:=zbp ws p0 w7 An Ak Am cn ck cm (Kl.keep (XD.trans Gw));have h9:=λ(W:World)(hf:Fr NoT w7 W)=>zbp own p0 W B1 B2 B3 e1 e2 e3 (V7.keep (Gw.trans hf));rw[<-Rx]at Hq h6;rw[<-Fg]at Hq h9;unfold wdV at h6 h9;rw[<-ME.out]at h6;rw[<-V6.out]at h9;have H6:=hdq h6;have H9:=hdq h9;have Qt:=hdq Hq;have LW:=hdq FM;have JG:=hdq Gw;have TD:=hdq M4;clear hd Hd Ha Hq h6 h9 Rx Fg Hf r0 FM Gw M4 Jr;go_wp2_with fail;rw[<-TD.out];have He:=jV.fr0 JG.out;have Hk:=Kf.fr0 JG.out;clear v0 v1 v2 vl u0 u1 u2 ul d0 d1 Gf x0 x1 x2 x3 xl;have v0:=He.cell 0;have v1:=He.cell 1;have v2:=He.cell 2;have vl:=He.lt;have x0:=LW.cell 0;have x1:=LW.cell 1;have xl:=LW.lt;simp only[getsL]at v0 v1 v2 x0 x1;clear He Hk;go_wp2_with fail;refine H6.mono ?_;rintro _ w8 ⟨rfl,hf⟩;clear v0 v1 v2 vl x0 x1 xl;have Hk:=Kf.fr0 (JG.trans hf);have FM:=LW.fr0 hf;have GD:=hdq (JG.trans hf);have Yw:=hdq hf;have u0:=Hk.cell 0;have u1:=Hk.cell 1;have u2:=Hk.cell 2;have ul:=Hk.lt;have x0:=FM.cell 0;have x1:=FM.cell 1;have xl:=FM.lt;simp only[getsL]at u0 u1 u2 x0 x1;clear Hk FM hf;by_cases Gh:0<=m1
     ·have HN:=hdq (show Q=(p1,111)from by
       have e:P1=(p1,111):=by rw[Qt.out,if_pos (.inl Gh)];rfl
       rw[Hj.out,e];rfl)
      clear Qt;go_wp2_with fail
      go_ret2
      exact⟨by rw[HN.out];rfl,XD.trans GD.out⟩
     go_wp2_with fail;refine(H9 _ Yw.out).mono ?_;rintro _ w9 ⟨rfl,hf⟩;clear u0 u1 u2 ul x0 x1 xl;have Hk:=Kf.fr0 (GD.trans hf);have FM:=LW.fr0 (Yw.trans hf);have FT:=hdq (GD.trans hf);have Yx:=hdq Hk;have u0:=Hk.cell 0;have u1:=Hk.cell 1;have u2:=Hk.cell 2;have ul:=Hk.lt;have x0:=FM.cell 0;have x1:=FM.cell 1;have xl:=FM.lt;simp only[getsL]at u0 u1 u2 x0 x1;clear Hk FM hf;by_cases Gn:0<=m2
     ·have HN:=hdq (show Q=(p1,111)from by
       have e:P1=(p1,111):=by rw[Qt.out,if_pos (.inr Gn)];rfl
       rw[Hj.out,e];rfl)
      clear Qt;go_wp2_with fail
      go_ret2
      exact⟨by rw[HN.out];rfl,XD.trans FT.out⟩
     have jW:=hdq (show P1=finP a2 (rpV ws (a1.drop (j+1)) (own++ [(p0,1,0)]))from by rw[Qt.out,if_neg (by omega)]);have h7:=zbZ own p0 1 0 w9 B1 B2 B3 e1 e2 e3 (V7.keep FT.out) (by have:=jQ.out;rw[<-V6.out];omega);unfold zh1 wdV at h7;rw[<-V6.out]at h7;have H7:=hdq h7;clear Qt h7;go_wp2_with fail;refine H7.mono ?_;rintro _ w10 ⟨g1,g2,g3,i1,i2,i3,rfl,UM,hg,Fo⟩;have Hv:(own++ [(p0,(1:Int),(0:Int))]).length =lo+1:=by rw[V6.out];simp
     rw[Hv];have Hk:=Yx.fr0 Fo;have HN:=hdq (PcW.put (Ll.trans FT.any) (q:= #[.slice B1 lo e1,.slice B2 lo e2,.slice B3 lo e3]) Hk UM hg Yx.lt Fo);rw[<-V6.out]at HN;clear u0 u1 u2 ul x0 x1 xl;have u0:=Hk.cell 0;have u1:=Hk.cell 1;have u2:=Hk.cell 2;have z0:=Hk.frozen 0;have z1:=Hk.frozen 1;have z2:=Hk.frozen 2;have ul:=Hk.lt;simp only[getsL]at u0 u1 u2;clear Hk Fo UM hg Hv;go_wp2_with fail;go_roundw;case rel=>exact⟨j+1,by omega,by go_num,_,by simp;rw[<-V6.out];omega,HN,jW⟩
     case measure=>simp[intOf];omega
    ·have Rq:¬(j:Int) < (l4:Int):=by omega
     have vX:P1=stsI own a2:=by rw[Ha.out,List.drop_eq_nil_of_le (by rw[<-Qh.out];omega)];rfl
     have hs:=zer own B1 B2 B3 e1 e2 e3 a2 wr S Z A5 q5 V7.out (λb hb=>ltq (HS b hb) XD.size) (VU.imp λ_ _ hx=>StR.keep ((GF.any.trans Ll.out).same λb hb=>⟨ltq (HS b hb) HB.size,λe=>by have e:b=w5.heap.size:=e;have:=HS b hb;omega⟩) hx);rw[<-vX]at hs;unfold wdV at hs;rw[<-V6.out,<-zZ.out]at hs;have VL:=hdq hs;clear Ha vX hs;go_wp2_with fail;refine VL.mono ?_;rintro _ w8 ⟨rfl,hf⟩;obtain⟨z1,z2⟩:=P1;have GD:=hdq hf;clear hf v0 v1 v2 vl u0 u1 u2 ul x0 x1 x2 x3 xl;by_cases hz:z2=0
     ·have HN:=hdq (show Q=rpP ((n1:Int)+n2) ws (t.procs.drop (k+1)) (k+1)from by rw[Hj.out,if_pos hz]);have e1:(z2 != 0)=false:=by simpa using hz
      clear Hj;go_wp2_with fail;go_roundw;case rel=>exact⟨k+1,by omega,by go_num,Ra.trans GD.out,HN.out⟩
      case measure=>simp[intOf];omega
     ·have HN:=hdq (show Q=(z1,z2)from by rw[Hj.out,if_neg hz]);have e1:(z2 != 0)=true:=by simpa using hz
      clear Hj;go_wp2_with fail
      go_ret2
      exact⟨by rw[HN.out];rfl,XD.trans GD.out⟩
  ·have Hl:¬(k:Int) < (n3:Int):=by omega
   have HN:=hdq (show Q=(0,0)from by rw[Ha.out,List.drop_eq_nil_of_le (by rw[<-JO.out];omega)];rfl);clear Ha;go_wp2_with fail
   go_ret2
   exact⟨by rw[HN.out];rfl,HB.out⟩
