/-
  check: a procedure's check.
-/
import Derived.Test.YtmfioehnhjjgpaaGreatDoorJgCkE
set_option linter.unusedVariables false
set_option linter.unusedSimpArgs false
set_option maxHeartbeats 8000000
set_option maxRecDepth 100000
namespace Go.Proofs.YtmfioehnhjjgpaaGreatDoor
open Go.RowKit Go.Shelf Go.Maps

theorem CkN.del {w3:World} {P b N:Nat} {kn:Kn} {st:Int×Int} (h:CkN w3 P b N kn st) {s:ByteArray} (hs:s.size≤9223372036854775807) (ty:TypeId):
  ∃w4,(Builtin.delete_ #[117,9] ty #[.map (some b),.string s]).run Tryz.prog w3.drew= .ok (.tuple #[]) w4∧CkN w4 P b N (kn.del s.data.toList) st∧Fr (CkT P b) w3 w4:=by
 obtain⟨n,hn,h⟩:=h
 obtain⟨w4,hrun,h4,hg4⟩:=(h.map.fr ((Fr.refl NoT w3).drew) id).drop hs ty
 have hf4:Fr (CkT P b) w3 w4:=((Fr.refl _ _).drew).trans (Fr.grown hg4 fun g e _=> .inr (Option.some.inj e).symm)
 have hb4:=h.box.fr (((Fr.refl (fun x=>x=b) w3).drew).trans (Fr.grown hg4 fun g e _=>(Option.some.inj e).symm)) h.ne
 exact⟨w4,hrun,⟨n,hn,hb4,h4,h.ne⟩,hf4⟩
theorem CkN.put {w3:World} {P b N:Nat} {kn:Kn} {st:Int×Int} (h:CkN w3 P b N kn st) {s:ByteArray} (hs:s.size≤9223372036854775807) (v:Int×Int) (hN:N < maxLen):
  ∃w4,(Instr.mapUpdate 117 (.map (some b)) (.string s) (thV v)).run Tryz.prog w3.drew= .ok () w4∧CkN w4 P b (N+1) (kn.put s.data.toList v) st∧Fr (CkT P b) w3 w4:=by
 obtain⟨n,hn,h⟩:=h
 obtain⟨w4,hrun,h4,hg4⟩:=(h.map.fr ((Fr.refl NoT w3).drew) id).put hs v (by omega)
 have hf4:Fr (CkT P b) w3 w4:=((Fr.refl _ _).drew).trans (Fr.grown hg4 fun g e _=> .inr (Option.some.inj e).symm)
 have hb4:=h.box.fr (((Fr.refl (fun x=>x=b) w3).drew).trans (Fr.grown hg4 fun g e _=>(Option.some.inj e).symm)) h.ne
 exact⟨w4,hrun,⟨n+1,by omega,hb4,h4,h.ne⟩,hf4⟩
theorem CkN.box {w:World} {P b N:Nat} {kn:Kn} {st:Int×Int} (h:CkN w P b N kn st):Bk w P 119 #[.map (some b),.int .i64 st.1,.int .i64 st.2]:=by
 obtain⟨n,hn,h⟩:=h
 exact h.box
theorem CkN.mono {w:World} {P b N N':Nat} {kn:Kn} {st:Int×Int} (h:CkN w P b N kn st) (hN:N≤N'):CkN w P b N' kn st:=by
 obtain⟨n,hn,h⟩:=h
 exact⟨n,by omega,h⟩
theorem zeW (P b:Nat) (w:World) (hP:P < w.heap.size) (hb:b < w.heap.size):Calls Tryz.prog 59 #[.pointer (some ⟨P,0,none⟩)] w fun e w'=>
  ∃B1 B2,e= .returned (.func (.func 100) #[] #[.pointer (some ⟨B1,0,none⟩),.pointer (some ⟨B2,0,none⟩)])∧WkAt w' P b B1 B2∧Fr NoT w w':=
 (zkH P b w hP hb).mono fun _ _ ⟨h1,h2,h3⟩=>⟨_,_,h1,h2,h3⟩
theorem zkI (P b N:Nat) (kn:Kn) (st:Int×Int) (nm:ByteArray) (ps:List Va) (body:Sts) (at_:Int) (A1 A2:Option Addr) (q1 q2:Nat) (w:World) (S:Nat→Prop) (Z:Prop) (hc:CkN w P b N kn st) (hnm:nm.size≤9223372036854775807) (hps:∀y∈ps,y.nm.size≤9223372036854775807) (hbd:szS body)
  (hS:∀x,S x→x < w.heap.size∧¬CkT P b x) (hN:N+ps.length+1 < maxLen) (s1:SlR (fun b o=>VaR w S Z ps b o) ps.length 24 A1 q1) (s2:SlR (fun b o=>StR w S Z body b o) body.len 128 A2 q2):
  Calls Tryz.prog 58 #[.pointer (some ⟨P,0,none⟩),.agg #[.string nm,.slice A1 ps.length q1,.slice A2 body.len q2,.int .i64 at_]] w
   (CkP P b (N+ps.length+1) (zbF nm.data.toList ps body at_ (kn,st)).1 (zbF nm.data.toList ps body at_ (kn,st)).2 w):=by
 obtain⟨F,hF⟩:=nmq (zbF nm.data.toList ps body at_ (kn,st))
 rw[←hF]
 unfold zbF at hF
 simp only at hF
 have hl:ps.length≤9223372036854775807:=leq9 s1.1 s1.2.1.1
 obtain⟨w1,hw1⟩:=nmq (w.alloc (.cells #[.string nm,.slice A1 ps.length q1,.slice A2 body.len q2,.int .i64 at_] 59))
 have hf1:Fr NoT w w1:=by rw[hw1];exact(Fr.refl _ _).alloc _
 have hk1:Bk w1 w.heap.size 59 #[.string nm,.slice A1 ps.length q1,.slice A2 body.len q2,.int .i64 at_]:=by rw[hw1];exact Bk.new _ _ _
 obtain⟨p4,hp4⟩:=nmq (decide ((ps.length:Int)≤4))
 rw[←hp4]at hF
 have hlt:=hc.lt
 have hnT:¬CkT P b w.heap.size:=fun e=>by rcases e with e|e<;>omega
 have H1:=hdq (zd9 P b N kn st p4 at_ 4 w1 (hc.fr0 hf1))
 have HSS:=hdq (fun(W:World) (h:Fr (CkT P b) w W)=>(show ∀x,S x→x < W.heap.size∧¬CkT P b x from fun x hx=>⟨ltq (hS x hx).1 h.size,(hS x hx).2⟩))
 have HSM:=hdq (fun(W:World) (h:Fr (CkT P b) w W)=>(show SameS S w W from h.same fun x hx=>hS x hx))
 obtain⟨m,hm⟩:=nmq ps.length
 rw[←hm]at hl hp4 hF hN hw1 hk1 ⊢
 have e4:=hp4.symm
 have HM:=hdq hm
 have HW1:=hdq hw1
 have HF1:=hdq hf1
 have HK1:=hdq hk1
 have HNT:=hdq hnT
 have HF:=hdq hF
 have HNM:=hdq hnm
 have HPS:=hdq hps
 have HBD:=hdq hbd
 have HN:=hdq hN
 have HX:=hdq s1
 have HY:=hdq s2
 have HS:=hdq hS
 clear hc hf1 hw1 hk1 hp4 hlt hnT hF hm hnm hps hbd hN s1 s2 hS
 go_enter Tryz.func58,Tryz.ntmps58
 go_wp2_with fail
 rw[←HW1.out]
 refine H1.out.mono ?_
 rintro _ w2 ⟨rfl,h2,hf2⟩
 have hk2:=HK1.out.fr hf2 HNT.out
 have d1:=hk2.cell 1
 have hl2:=hk2.lt
 simp only[getsL]at d1
 have HF2:=hdq ((HF1.out.any:Fr (CkT P b) w w1).trans hf2)
 have HK2:=hdq hk2
 have H2:=hdq h2
 clear h2 hf2 hk2
 go_wp2_with fail
 go_loopw [19] (fun i wr=>∃(k:Nat) (s:Cks),k≤m∧i= .int .i64 k∧Hid (Fr (CkT P b) w wr)∧Hid (Bk wr w.heap.size 59 #[.string nm,.slice A1 m q1,.slice A2 body.len q2,.int .i64 at_])∧Hid (CkN wr P b (N+k) s.1 s.2)∧Hid (zaJ (1,0) ps (kn,askC st p4 (at_,4))=zaJ (1,0) (ps.drop k) s)) (fun i _=>m - (intOf i).toNat)
 case atStart=>exact⟨0,(kn,askC st p4 (at_,4)),Nat.zero_le _,rfl,HF2.out,HK2.out,H2.out,rfl⟩
 case round=>
  obtain⟨k,s,hk,rfl,hb,hkb,hcn,hall⟩:=hrel
  by_cases hlt:k < m
  ·obtain⟨⟨a0,a1⟩,ar,hd⟩:=zad (show k < ps.length from by rw[←HM.out];exact hlt)
   obtain⟨B,o,rfl,hat⟩:=HX.out.2.2 (by rw[←HM.out];omega)
   have hat1:=(VaR.keep (HSM.out _ hb.out) hat).drop k
   rw[hd.1]at hat1
   obtain⟨⟨hbS,_,r1,c0,c1⟩,_⟩:=hat1
   have hxr:B < wr.heap.size:=(HSS.out _ hb.out _ hbS).1
   have hlt':(k:Int) < (m:Int):=by omega
   have hge:(0:Int)≤(k:Int):=by omega
   simp only at c0 c1
   have hf2:Fr NoT wr (wr.alloc (.cells #[.string a0,.int .i64 a1] 65)):=(Fr.refl _ _).alloc _
   have hd0:=zbD P b (N+k) s.1 s.2 a0 a1 (1,0) _ (hcn.out.fr0 hf2) (HPS.out _ (za2 hd.1)) (by have:=HN.out;omega)
   unfold thV at hd0
   simp only at hd0
   have HD:=hdq hd0
   have HST:=hdq (hall.out.trans (zeb hd))
   have HB:=hdq (hb.out.trans (hf2.any:Fr (CkT P b) wr _))
   have HKB:=hdq (hkb.out.fr0 hf2)
   clear hd hat hall hb hbS hkb hcn hf2 hd0 d1 hl2
   go_wp2_with fail
   refine HD.out.mono ?_
   rintro _ w3 ⟨rfl,h3,hf3⟩
   have HN3:=hdq (aiq h3 (aiq (HB.out.trans hf3) (HKB.out.fr hf3 HNT.out)))
   clear h3 hf3 c0 c1
   go_wp2_with fail
   go_roundw
   case rel=>exact⟨k+1,zbL s a0.data.toList a1 (1,0),by omega,by go_num,HN3.out.2.1,HN3.out.2.2,HN3.out.1,HST.out⟩
   case measure=>simp[intOf];omega
  ·obtain rfl:k=m:=by omega
   obtain⟨kn2,a2,e2⟩:=s
   have hall1:zaJ (1,0) ps (kn,askC st p4 (at_,4))=(kn2,a2,e2):=by rw[hall.out,List.drop_eq_nil_of_le (by rw[←HM.out];omega)];rfl
   have hbx:=hcn.out.box
   have hbl:=hcn.out.lt
   have p0:=hbx.cell 0
   have p2:=hbx.cell 2
   have hk2:=hkb.out.cell 2
   have hkl:=hkb.out.lt
   simp only[getsL]at p0 p2 hk2
   have hF:=HF.out
   rw[hall1]at hF
   have HB:=hdq hb.out
   have HKB:=hdq hkb.out
   have HCN:=hdq hcn.out
   have hPl:=hbl.1
   have hlt':¬(k:Int) < (k:Int):=by omega
   clear hall hall1 hb hkb hcn hbx hbl d1 hl2
   by_cases he:e2=0
   rotate_left
   ·have e9:(e2 != 0)=true:=by simpa using he
    have HF9:=hdq (show F=(kn2,a2,e2)from by rw[hF];simp only;rw[if_neg he])
    clear hF he
    go_wp2_with fail
    go_end0
    exact⟨rfl,by rw[HF9.out];exact HCN.out.mono (by omega),HB.out⟩
   subst he
   have HF9:=hdq (show F=((zcx ps kn2).put nm.data.toList (3,k),zap kn2 body (a2,0))from by rw[hF,if_pos rfl])
   have hf2:Fr NoT wr wr.drew:=(Fr.refl _ _).drew
   have HCW:=hdq (zeW P b wr.drew (HCN.out.fr0 hf2).lt.1 (HCN.out.fr0 hf2).lt.2)
   have HS3:=hdq (fun(B1 B2:Nat) (W:World) (h:Fr NoT wr.drew W) (hw:WkAt W P b B1 B2)=>zeV kn2 body HBD.out P b (N+k) B1 B2 (a2,0) W S Z A2 q2 ((HCN.out.fr0 hf2).fr0 h) hw (HSS.out W (HB.out.trans ((hf2.trans h).any))) (HY.out.imp fun _ _ hx=>StR.keep (HSM.out W (HB.out.trans ((hf2.trans h).any))) hx))
   have HFD:=hdq hf2
   have hent:Enters Tryz.prog 100:=enters_of Tryz.func100 (by kernel_rfl) rfl
   unfold Enters at hent
   clear hF hf2
   go_wp2_with fail
   go_region_law
    (first
     |(go_simp
       go_at_call 59
       with_reducible refine HCW.out.mono ?_
       rintro _ w5 ⟨B1,B2,rfl,hw5,hf5⟩
       have hkc:=(HKB.out.fr0 HFD.out).fr0 hf5
       have g2:=hkc.cell 2
       have gl:=hkc.lt
       simp only[getsL]at g2
       have HC5:=hdq (HS3.out B1 B2 w5 hf5 hw5)
       have HF5:=hdq (HFD.out.trans hf5)
       have HK5:=hdq hkc
       clear hw5 hf5 hkc
       dsimp only)
     |(go_simp
       go_at_call 100
       with_reducible refine HC5.out.mono ?_
       rintro _ w6 ⟨rfl,h6,hf6⟩
       have HC6:=hdq h6
       have HF6:=hdq (HB.out.trans ((HF5.out.any:Fr (CkT P b) wr _).trans hf6))
       have HK6:=hdq (HK5.out.fr hf6 HNT.out)
       clear h6 hf6
       dsimp only))
   all_goals
    have k1:=HK6.out.cell 1
    have kl:=HK6.out.lt
    simp only[getsL]at k1
    clear hk2 hkl p0 p2 hPl
    try clear g2 gl
    go_wp2_with fail
    go_loopw [44] (fun i wr=>∃(j:Nat) (kj:Kn),j≤k∧i= .int .i64 j∧Hid (Fr (CkT P b) w wr)∧Hid (Bk wr w.heap.size 59 #[.string nm,.slice A1 k q1,.slice A2 body.len q2,.int .i64 at_])∧Hid (CkN wr P b (N+k) kj (zap kn2 body (a2,0)))∧Hid (zcx ps kn2=zcx (ps.drop j) kj)) (fun i _=>k - (intOf i).toNat)
    case atStart=>exact⟨0,kn2,Nat.zero_le _,rfl,HF6.out,HK6.out,HC6.out,rfl⟩
    case round=>
     obtain⟨j,kj,hj,rfl,hb,hkb,hcn,hall⟩:=hrel
     by_cases hlt:j < k
     ·obtain⟨⟨a0,a1⟩,ar,hd⟩:=zad (show j < ps.length from by rw[←HM.out];exact hlt)
      obtain⟨B,o,rfl,hat⟩:=HX.out.2.2 (by rw[←HM.out];omega)
      have hat1:=(VaR.keep (HSM.out _ hb.out) hat).drop j
      rw[hd.1]at hat1
      obtain⟨⟨hbS,_,r1,c0,c1⟩,_⟩:=hat1
      have hxr:B < wr.heap.size:=(HSS.out _ hb.out _ hbS).1
      have hlt':(j:Int) < (k:Int):=by omega
      have hge:(0:Int)≤(j:Int):=by omega
      simp only at c0 c1
      obtain⟨wa,hwa⟩:=nmq (wr.alloc (.cells #[.string a0,.int .i64 a1] 65))
      have hf2:Fr NoT wr wa:=by rw[hwa];exact(Fr.refl _ _).alloc _
      have hka:Bk wa wr.heap.size 65 #[.string a0,.int .i64 a1]:=by rw[hwa];exact Bk.new _ _ _
      have hc2:=hcn.out.fr0 hf2
      have hbx:=hc2.box
      have p0:=hbx.cell 0
      have hPl:=hbx.lt
      have v0:=hka.cell 0
      have hvl:=hka.lt
      simp only[getsL]at p0 v0
      have hsz:=HPS.out _ (za2 hd.1)
      simp only at hsz
      obtain⟨w9,hdel,h9,hf9⟩:=hc2.del hsz 0
      have HST:=hdq (hall.out.trans (zjo hd))
      have HN9:=hdq (aiq h9 (aiq ((hb.out.trans (hf2.any:Fr (CkT P b) wr _)).trans hf9) ((hkb.out.fr0 hf2).fr hf9 HNT.out)))
      have HWA:=hdq hwa
      clear hd hat hall hb hbS hkb hcn hf2 hc2 hbx h9 hf9 k1 kl hsz hka hwa
      go_wp2_with fail
      rw[←HWA.out]
      clear c0 c1
      refine wp_region_still_tail 6 (by kernel_rfl) (by kernel_rfl) ?_
      simp only[List.take_succ_cons,List.take_zero,List.drop_succ_cons,List.drop_zero]
      repeat still_step
      try refine wpStill_nil ?_
      go_wp2_with fail
      go_roundw
      case rel=>exact⟨j+1,kj.del a0.data.toList,by omega,by go_num,HN9.out.2.1,HN9.out.2.2,HN9.out.1,HST.out⟩
      case measure=>simp[intOf];omega
     ·obtain rfl:j=k:=by omega
      have hall1:zcx ps kn2=kj:=by rw[hall.out,List.drop_eq_nil_of_le (by rw[←HM.out];omega)];rfl
      have hbx:=hcn.out.box
      have p0:=hbx.cell 0
      have hPl:=hbx.lt
      have kk0:=hkb.out.cell 0
      have kk1:=hkb.out.cell 1
      have kl:=hkb.out.lt
      simp only[getsL]at p0 kk0 kk1
      obtain⟨w9,hput,h9,hf9⟩:=hcn.out.put HNM.out (3,j) (by have:=HN.out;omega)
      unfold thV at hput
      simp only at hput
      have HEQ:=hdq (show F=(kj.put nm.data.toList (3,j),zap kn2 body (a2,0))from by rw[HF9.out,hall1])
      have HN9:=hdq (aiq h9 (hb.out.trans hf9))
      clear hall hall1 hb hkb hcn hbx h9 hf9 k1
      go_wp2_with fail
      refine wp_region_still_tail 10 (by kernel_rfl) (by kernel_rfl) ?_
      simp only[List.take_succ_cons,List.take_zero,List.drop_succ_cons,List.drop_zero]
      repeat still_step
      try refine wpStill_nil ?_
      go_wp2_with fail
      go_end0
      exact⟨rfl,by rw[HEQ.out];exact HN9.out.1,HN9.out.2⟩

def zjp (s:Cks) (x:Arr):Cks:=
 ((zbL s x.nm.data.toList x.at_ (2,0)).1,askC (zbL s x.nm.data.toList x.at_ (2,0)).2 (decide ((1:Int)≤x.size)&&decide (x.size≤(16:Int))) (x.at_,113))
def za3:List Arr→Cks→Cks
 | [],s=>s
 |x::r,s=>za3 r (zjp s x)
def za4:List Prc→Cks→Cks
 | [],s=>s
 |x::r,s=>za4 r (zbL s x.nm.data.toList x.at_ (4,0))
def zak:List Prc→Cks→Cks×Bool
 | [],s=>(s,false)
 |x::r,s=>if(zbF x.nm.data.toList x.params x.body x.at_ s).2.2 =0 then zak r (zbF x.nm.data.toList x.params x.body x.at_ s)else(zbF x.nm.data.toList x.params x.body x.at_ s,true)
def zbw (t:Tre):Cks:=za4 t.procs (za3 t.arrays (zaJ (1,0) t.vars (fun _=>none,(0,0))))
def fewT (t:Tre):Bool:=decide ((t.vars.length:Int)≤12)&&decide ((t.arrays.length:Int)≤4)&&decide ((t.procs.length:Int)≤8)
def zbM (t:Tre):Int×Int:=
 if okTr t then
  if fewT t then
   if(zak t.procs (zbw t)).2 then(zak t.procs (zbw t)).1.2 else zap (zak t.procs (zbw t)).1.1 t.main (zak t.procs (zbw t)).1.2
  else(0,4)
 else(0,8)
theorem zm4 {t:Tre} (h:fewT t=true):t.vars.length≤12∧t.arrays.length≤4∧t.procs.length≤8:=by
 unfold fewT at h
 simp only[Bool.and_eq_true,decide_eq_true_eq]at h
 omega
theorem zgH {xs:List Arr} {i:Nat} {s:Cks} {a0 a1 a2 ar} (hd:xs.drop i=(⟨a0,a1,a2⟩:Arr)::ar∧xs.drop (i+1)=ar):za3 (xs.drop i) s=za3 (xs.drop (i+1)) (zjp s ⟨a0,a1,a2⟩):=by
 rw[hd.1,hd.2];rfl
theorem zgI {xs:List Prc} {i:Nat} {s:Cks} {a0 a1 a2 a3 ar} (hd:xs.drop i=(⟨a0,a1,a2,a3⟩:Prc)::ar∧xs.drop (i+1)=ar):za4 (xs.drop i) s=za4 (xs.drop (i+1)) (zbL s a0.data.toList a3 (4,0)):=by
 rw[hd.1,hd.2];rfl

def npP:List Prc→Nat
 | []=>0
 |x::r=>x.params.length+1+npP r
theorem zm5 {xs:List Prc} {i:Nat} {a0 a1 a2 a3 ar} (hd:xs.drop i=(⟨a0,a1,a2,a3⟩:Prc)::ar∧xs.drop (i+1)=ar):npP (xs.drop i)=a1.length+1+npP (xs.drop (i+1)):=by
 rw[hd.1,hd.2];rfl
theorem zoa {w:World} {S:Nat→Prop} {Z:Prop}:∀ {xs:List Prc} {b o:Nat},PrR w S Z xs b o→npP xs≤xs.length*140737488355329
 | [],_,_,_=>Nat.zero_le _
 |x::r,b,o,⟨_,⟨A,c,_,h⟩,_,hr⟩=>by
  have h1:=zoa hr
  have h2:=h.2.1.2
  simp only[npP,List.length_cons]
  omega
abbrev prcS (x:Prc) (s:Cks):Cks:=zbF x.nm.data.toList x.params x.body x.at_ s
theorem zkJ {xs:List Prc} {i:Nat} {s:Cks} {a0 a1 a2 a3 ar} (hd:xs.drop i=(⟨a0,a1,a2,a3⟩:Prc)::ar∧xs.drop (i+1)=ar) (h:(prcS ⟨a0,a1,a2,a3⟩ s).2.2 =0):zak (xs.drop i) s=zak (xs.drop (i+1)) (prcS ⟨a0,a1,a2,a3⟩ s):=by
 rw[hd.1,hd.2]
 show(if _ then _ else _)=_
 rw[if_pos h]
theorem zjq {xs:List Prc} {i:Nat} {s:Cks} {a0 a1 a2 a3 ar} (hd:xs.drop i=(⟨a0,a1,a2,a3⟩:Prc)::ar∧xs.drop (i+1)=ar) (h:¬(prcS ⟨a0,a1,a2,a3⟩ s).2.2 =0):zak (xs.drop i) s=(prcS ⟨a0,a1,a2,a3⟩ s,true):=by
 rw[hd.1]
 show(if _ then _ else _)=_
 rw[if_neg h]
def SzP (x:Prc):Prop:=x.nm.size≤9223372036854775807∧(∀y∈x.params,y.nm.size≤9223372036854775807)∧szS x.body
def CkQ (P b N:Nat) (q:Bool) (s:Cks) (W:World) (e:Ending) (w':World):Prop:=e= .returned (.bool q)∧CkN w' P b N s.1 s.2∧Fr (CkT P b) W w'
theorem zjr (P b N C:Nat) (s:Cks) (x:Prc) (A1 A2:Option Addr) (q1 q2:Nat) (w:World) (S:Nat→Prop) (Z:Prop) (hc:CkN w P b N s.1 s.2) (hk:Bk w C 116 #[.pointer (some ⟨P,0,none⟩)]) (hC:¬CkT P b C) (hsz:SzP x)
  (hS:∀x,S x→x < w.heap.size∧¬CkT P b x) (hN:N+x.params.length+1 < maxLen) (s1:SlR (fun b o=>VaR w S Z x.params b o) x.params.length 24 A1 q1) (s2:SlR (fun b o=>StR w S Z x.body b o) x.body.len 128 A2 q2):
  Calls Tryz.prog 57 (#[.agg #[.string x.nm,.slice A1 x.params.length q1,.slice A2 x.body.len q2,.int .i64 x.at_]]++ #[.pointer (some ⟨C,0,none⟩)]) w
   (CkQ P b (N+x.params.length+1) ((prcS x s).2.2 != 0) (prcS x s) w):=by
 obtain⟨x0,x1,x2,x3⟩:=x
 simp only at hN s1 s2 ⊢
 have hfa:Fr NoT w (w.alloc (.cells #[.string x0,.slice A1 x1.length q1,.slice A2 x2.len q2,.int .i64 x3] 59)):=(Fr.refl _ _).alloc _
 have HC:=hdq (zkI P b N s.1 s.2 x0 x1 x2 x3 A1 A2 q1 q2 _ S Z (hc.fr0 hfa) hsz.1 hsz.2.1 hsz.2.2 (fun x hx=>⟨ltq (hS x hx).1 hfa.size,(hS x hx).2⟩) hN (s1.imp fun _ _ hx=>VaR.keep (hfa.same fun x hx=>⟨(hS x hx).1,id⟩) hx) (s2.imp fun _ _ hx=>StR.keep (hfa.same fun x hx=>⟨(hS x hx).1,id⟩) hx))
 obtain⟨⟨kn',at',e'⟩,hF⟩:=nmq (prcS ⟨x0,x1,x2,x3⟩ s)
 rw[←hF]
 have hF2:zbF x0.data.toList x1 x2 x3 (s.1,s.2)=(kn',at',e'):=hF.symm
 rw[hF2]at HC
 have c0:=hk.cell 0
 have hl:=hk.lt
 simp only[getsL]at c0
 have HK:=hdq (hk.fr0 hfa)
 have HFA:=hdq (hfa.any:Fr (CkT P b) w _)
 have HNC:=hdq hC
 obtain⟨p,hp⟩:=nmq ((e' != 0))
 have hp2:=hp.symm
 simp only
 rw[hp2]
 clear hF hF2 hk hC hc hsz hS hN s1 s2 hfa hp
 go_enter Tryz.func57,Tryz.ntmps57
 go_wp2_with fail
 refine HC.out.mono ?_
 rintro _ w2 ⟨rfl,h2,hf2⟩
 have hk2:=HK.out.fr hf2 HNC.out
 have d0:=hk2.cell 0
 have hl2:=hk2.lt
 have hbx:=h2.box
 have p2:=hbx.cell 2
 have pl:=hbx.lt
 simp only[getsL]at d0 p2
 have HN:=hdq (aiq h2 (HFA.out.trans hf2))
 clear h2 hf2 hk2 hbx c0
 go_wp2_with fail
 go_ret
 exact⟨rfl,HN.out.1,HN.out.2⟩
theorem zkK (P b N C:Nat) (s0:Cks) (xs:List Prc) (A:Option Addr) (c:Nat) (w:World) (S:Nat→Prop) (Z:Prop) (hc:CkN w P b N s0.1 s0.2) (hk:Bk w C 116 #[.pointer (some ⟨P,0,none⟩)]) (hC:¬CkT P b C) (hsz:∀x∈xs,SzP x)
  (hS:∀x,S x→x < w.heap.size∧¬CkT P b x) (hN:N+npP xs < maxLen) (hx:SlR (fun b o=>PrR w S Z xs b o) xs.length 72 A c):
  Calls Tryz.prog 99 #[.slice A xs.length c,.func (.func 57) #[] #[.pointer (some ⟨C,0,none⟩)]] w fun e w'=>
   ∃n:Int,decide (0≤n)=(zak xs s0).2 ∧e= .returned (.int .i64 n)∧CkN w' P b (N+npP xs) (zak xs s0).1.1 (zak xs s0).1.2 ∧Fr (CkT P b) w w':=by
 have hl:xs.length≤9223372036854775807:=leq9 hx.1 hx.2.1.1
 have hent:Enters Tryz.prog 57:=enters_of Tryz.func57 (by kernel_rfl) rfl
 obtain⟨⟨F1,F2⟩,hF⟩:=nmq (zak xs s0)
 rw[←hF]
 simp only
 have HF:=hdq hF
 have HX:=hdq hx
 have HS:=hdq hS
 have HC:=hdq hc
 have HK:=hdq hk
 have HNC:=hdq hC
 have HSZ:=hdq hsz
 have HN:=hdq hN
 obtain⟨m,hm⟩:=nmq xs.length
 rw[←hm]at hl ⊢
 have HM:=hdq hm
 clear hF hx hS hc hk hC hsz hN hm
 unfold Enters at hent
 go_enter Tryz.func99,Tryz.ntmps99
 go_wp2_with fail
 go_loopw [8] (fun i wr=>∃(k N':Nat) (s:Cks),k≤m∧i= .int .i64 k∧Hid (Fr (CkT P b) w wr)∧Hid (CkN wr P b N' s.1 s.2)∧Hid (N'+npP (xs.drop k)=N+npP xs)∧Hid ((F1,F2)=zak (xs.drop k) s)) (fun i _=>m - (intOf i).toNat)
 case atStart=>exact⟨0,N,s0,Nat.zero_le _,rfl,Fr.refl _ _,HC.out,rfl,HF.out⟩
 case round=>
  obtain⟨k,N',s,hk,rfl,hb,hcn,hn,hall⟩:=hrel
  by_cases hlt:k < m
  ·obtain⟨⟨a0,a1,a2,a3⟩,ar,hd⟩:=zad (show k < xs.length from by rw[←HM.out];exact hlt)
   obtain⟨B,o,rfl,hat⟩:=HX.out.2.2 (by rw[←HM.out];omega)
   have hat1:=(PrR.keep (hb.out.same fun b hb=>HS.out b hb) hat).drop k
   rw[hd.1]at hat1
   obtain⟨⟨hbS,_,_,c0,c3⟩,⟨A1,q1,c1,s1⟩,⟨A2,q2,c2,s2⟩,_⟩:=hat1
   have hxr:B < wr.heap.size:=ltq (HS.out _ hbS).1 hb.out.size
   have hlt':(k:Int) < (m:Int):=by omega
   have hge:(0:Int)≤(k:Int):=by omega
   simp only at c0 c1 c2 c3 s1 s2
   have hns:=zm5 hd
   have hno:=hn.out
   have hNo:=HN.out
   have HCL:=hdq (zjr P b N' C s ⟨a0,a1,a2,a3⟩ A1 A2 q1 q2 wr S Z hcn.out (HK.out.fr hb.out HNC.out) HNC.out (HSZ.out _ (za2 hd.1)) (fun x hx=>⟨ltq (HS.out x hx).1 hb.out.size,(HS.out x hx).2⟩) (by simp only;omega) s1 s2)
   have hN2:N'+a1.length+1+npP (xs.drop (k+1))=N+npP xs:=by omega
   have HN2:=hdq hN2
   obtain⟨s',hs'⟩:=nmq (prcS ⟨a0,a1,a2,a3⟩ s)
   rw[←hs']at HCL
   have HGO:=hdq (fun(h:s'.2.2=0)=>hall.out.trans ((zkJ hd (hs'▸h)).trans (by rw[←hs'])))
   have HEND:=hdq (fun(h:¬s'.2.2=0)=>hall.out.trans ((zjq hd (hs'▸h)).trans (by rw[←hs'])))
   have HB:=hdq hb.out
   simp only at HCL
   clear hd hat hall hb hbS s1 s2 hcn hn hno hNo hns hs' hN2
   obtain⟨kn',at',e'⟩:=s'
   simp only at HCL HGO HEND
   obtain⟨p,hp⟩:=nmq ((e' != 0))
   rw[←hp]at HCL
   have HP:=hdq hp
   clear hp
   go_wp2_with fail
   refine HCL.out.mono ?_
   rintro _ w1 ⟨rfl,h1,hf1⟩
   have HB1:=hdq (HB.out.trans hf1)
   have H1:=hdq h1
   clear h1 hf1 c0 c1 c2 c3
   cases p
   ·have he:e'=0:=by have:=HP.out;simpa using this
    have HST:=hdq (HGO.out he)
    clear he
    go_wp2_with fail
    go_roundw
    case rel=>exact⟨k+1,N'+a1.length+1,(kn',at',e'),by omega,by go_num,HB1.out,H1.out,HN2.out,HST.out⟩
    case measure=>simp[intOf];omega
   ·have he:¬e'=0:=by have:=HP.out;simpa using this
    have HST:=hdq (HEND.out he)
    clear he
    go_wp2_with fail
    go_ret
    obtain⟨f1,f2⟩:=Prod.mk.inj HST.out
    refine⟨k,by rw[f2];simp,rfl,?_,HB1.out⟩
    rw[f1]
    exact H1.out.mono (by have:=HN2.out;omega)
  ·have hz:zak (xs.drop k) s=(s,false):=by rw[List.drop_eq_nil_of_le (by rw[←HM.out];omega)];rfl
   have HST:=hdq (hall.out.trans hz)
   have HB:=hdq hb.out
   have HCN:=hdq hcn.out
   have HNN:=hdq hn.out
   clear hall hb hcn hn hz
   go_wp2_with fail
   go_ret
   obtain⟨f1,f2⟩:=Prod.mk.inj HST.out
   refine⟨-1,by rw[f2];simp,rfl,?_,HB.out⟩
   rw[f1]
   exact HCN.out.mono (by have:=HNN.out;omega)
theorem zkL (P b N C:Nat) (s0:Cks) (xs:List Prc) (A:Option Addr) (c:Nat) (w:World) (S:Nat→Prop) (Z:Prop) (hc:CkN w P b N s0.1 s0.2) (hk:Bk w C 116 #[.pointer (some ⟨P,0,none⟩)]) (hC:¬CkT P b C) (hsz:∀x∈xs,SzP x)
  (hS:∀x,S x→x < w.heap.size∧¬CkT P b x) (hN:N+npP xs < maxLen) (hx:SlR (fun b o=>PrR w S Z xs b o) xs.length 72 A c):
  Calls Tryz.prog 56 #[.slice A xs.length c,.func (.func 57) #[] #[.pointer (some ⟨C,0,none⟩)]] w
   (CkQ P b (N+npP xs) (zak xs s0).2 (zak xs s0).1 w):=by
 have HC:=hdq (zkK P b N C s0 xs A c w S Z hc hk hC hsz hS hN hx)
 clear hc hk hC hsz hS hN hx
 go_enter Tryz.func56,Tryz.ntmps56
 go_wp2_with fail
 refine HC.out.mono ?_
 rintro e w1 ⟨n,hn,rfl,h1,hf1⟩
 have HN:=hdq hn
 have H1:=hdq (aiq h1 hf1)
 clear hn h1 hf1
 go_wp2_with fail
 go_ret
 exact⟨by rw[←HN.out];rfl,H1.out⟩

def AtE (p:Int×Int) (W:World) (e:Ending) (w':World):Prop:=e= .returned (.tuple #[.int .i64 p.1,.int .i64 p.2])∧Fr NoT W w'
theorem zkM (t:Tre) (w:World) (S:Nat→Prop) (Z:Prop) (Av Aa Ap Am:Option Addr) (cv ca cp cm:Nat) (he:SpEnv w) (hS:∀b,S b→b < w.heap.size) (hsz:SzT t) (hx:TrR w S Z t Av Aa Ap Am cv ca cp cm) (ht:okTr t=false):
  Calls Tryz.prog 21 #[trV t Av Aa Ap Am cv ca cp cm] w (AtE (0,8) w):=by
 have hf1:Fr NoT w (w.alloc (.cells #[.slice Av t.vars.length cv,.slice Aa t.arrays.length ca,.slice Ap t.procs.length cp,.slice Am t.main.len cm] 27)):=(Fr.refl _ _).alloc _
 have h1:=zdi t _ S Z Av Aa Ap Am cv ca cp cm (he.keep hf1.plain) (fun b hb=>ltq (hS b hb) hf1.size) hsz (hx.keep (hf1.same fun b hb=>⟨hS b hb,id⟩))
 rw[ht]at h1
 have H1:=hdq h1
 have HF1:=hdq hf1
 unfold trV at H1 ⊢
 clear hf1 h1 hx hsz hS he ht
 go_enter Tryz.func21,Tryz.ntmps21
 go_wp2_with fail
 refine H1.out.mono ?_
 rintro _ w1 ⟨rfl,hb⟩
 have HB:=hdq (HF1.out.trans hb)
 clear hb
 simp only[Bool.false_eq_true,if_false]
 go_wp2_with fail
 go_ret2
 exact⟨rfl,HB.out⟩
theorem zjs (t:Tre) (w:World) (S:Nat→Prop) (Z:Prop) (Av Aa Ap Am:Option Addr) (cv ca cp cm:Nat) (he:SpEnv w) (hS:∀b,S b→b < w.heap.size) (hsz:SzT t) (hx:TrR w S Z t Av Aa Ap Am cv ca cp cm) (ht:okTr t=true) (hf:fewT t=false):
  Calls Tryz.prog 21 #[trV t Av Aa Ap Am cv ca cp cm] w (AtE (0,4) w):=by
 have hf1:Fr NoT w (w.alloc (.cells #[.slice Av t.vars.length cv,.slice Aa t.arrays.length ca,.slice Ap t.procs.length cp,.slice Am t.main.len cm] 27)):=(Fr.refl _ _).alloc _
 have h1:=zdi t _ S Z Av Aa Ap Am cv ca cp cm (he.keep hf1.plain) (fun b hb=>ltq (hS b hb) hf1.size) hsz (hx.keep (hf1.same fun b hb=>⟨hS b hb,id⟩))
 rw[ht]at h1
 have H1:=hdq h1
 have HF1:=hdq hf1
 have HK1:=hdq (Bk.new w 27 #[.slice Av t.vars.length cv,.slice Aa t.arrays.length ca,.slice Ap t.procs.length cp,.slice Am t.main.len cm])
 have l1:t.vars.length≤9223372036854775807:=leq9 hx.vars.1 hx.vars.2.1.1
 have l2:t.arrays.length≤9223372036854775807:=leq9 hx.arrays.1 hx.arrays.2.1.1
 have l3:t.procs.length≤9223372036854775807:=leq9 hx.procs.1 hx.procs.2.1.1
 unfold fewT at hf
 unfold trV at H1 ⊢
 obtain⟨n1,hn1⟩:=nmq t.vars.length
 obtain⟨n2,hn2⟩:=nmq t.arrays.length
 obtain⟨n3,hn3⟩:=nmq t.procs.length
 rw[←hn1]at hf l1 H1 HF1 HK1 ⊢
 rw[←hn2]at hf l2 H1 HF1 HK1 ⊢
 rw[←hn3]at hf l3 H1 HF1 HK1 ⊢
 have hcase:12 < n1∨(n1≤12∧4 < n2)∨(n1≤12∧n2≤4∧8 < n3):=by
  simp only[Bool.and_eq_false_iff,decide_eq_false_iff_not]at hf
  omega
 clear hf1 h1 hx hsz hS he ht hf hn1 hn2 hn3
 have hcase2:(decide ((12:Int) < n1)=true)∨(decide ((12:Int) < n1)=false∧decide ((4:Int) < n2)=true)∨(decide ((12:Int) < n1)=false∧decide ((4:Int) < n2)=false∧decide ((8:Int) < n3)=true):=by
  simp only[decide_eq_true_eq,decide_eq_false_iff_not]
  omega
 clear hcase
 rcases hcase2 with e1|⟨e1,e2⟩|⟨e1,e2,e3⟩
 all_goals
  go_enter Tryz.func21,Tryz.ntmps21
  go_wp2_with fail
  refine H1.out.mono ?_
  rintro _ w1 ⟨rfl,hb⟩
  have HB:=hdq (HF1.out.trans hb)
  obtain⟨x0,x1,x2,x3,hl1⟩:=bk4 (HK1.out.fr0 hb)
  clear hb
  simp only[if_true]
  go_wp2_with fail
  go_ret2
  exact⟨rfl,HB.out⟩
theorem CkN.made (w:World):CkN (((w.alloc (.map #[] 0)).alloc (.cells #[.map (some w.heap.size),.int .i64 0,.int .i64 0] 119)).alloc (.cells #[.pointer (some ⟨w.heap.size+1,0,none⟩)] 116)) (w.heap.size+1) w.heap.size 0 (fun _=>none) (0,0):=by
 have h1:=KnM.made w
 have hf:Fr NoT (w.alloc (.map #[] 0)) (((w.alloc (.map #[] 0)).alloc (.cells #[.map (some w.heap.size),.int .i64 0,.int .i64 0] 119)).alloc (.cells #[.pointer (some ⟨w.heap.size+1,0,none⟩)] 116)):=((Fr.refl _ _).alloc _).alloc _
 exact⟨0,lrq _,⟨(Bk.new_at _ _ _ (by simp)).alloc _,h1.fr hf id,by omega⟩⟩
def zqb (xs:List Prc):Prop:=∀(P b N C:Nat) (s0:Cks) (A:Option Addr) (c:Nat) (w:World) (S:Nat→Prop) (Z:Prop),CkN w P b N s0.1 s0.2→Bk w C 116 #[.pointer (some ⟨P,0,none⟩)]→¬CkT P b C→(∀x∈xs,SzP x)→
  (∀x,S x→x < w.heap.size∧¬CkT P b x)→N+npP xs < maxLen→SlR (fun b o=>PrR w S Z xs b o) xs.length 72 A c→
  Calls Tryz.prog 56 #[.slice A xs.length c,.func (.func 57) #[] #[.pointer (some ⟨C,0,none⟩)]] w (CkQ P b (N+npP xs) (zak xs s0).2 (zak xs s0).1 w)
theorem zgJ (t:Tre) (w:World) (S:Nat→Prop) (Z:Prop) (Av Aa Ap Am:Option Addr) (cv ca cp cm:Nat) (hS:∀b,S b→b < w.heap.size) (hsz:SzT t) (hx:TrR w S Z t Av Aa Ap Am cv ca cp cm) (ht:okTr t=true) (hf:fewT t=true) (hpc:∀W,Fr NoT w W→Calls Tryz.prog 53 #[trV t Av Aa Ap Am cv ca cp cm] W (ErrI 0 W)) (hcon:zqb t.procs):
  Calls Tryz.prog 21 #[trV t Av Aa Ap Am cv ca cp cm] w (AtE (zbM t) w):=by
 have hT:zbM t=if(zak t.procs (zbw t)).2 then(zak t.procs (zbw t)).1.2 else zap (zak t.procs (zbw t)).1.1 t.main (zak t.procs (zbw t)).1.2 :=by
  unfold zbM;rw[if_pos ht,if_pos hf]
 unfold zbw at hT
 obtain⟨⟨F1,F2⟩,hF⟩:=nmq (zbM t)
 rw[←hF]at hT ⊢
 have hf1:Fr NoT w (w.alloc (.cells #[.slice Av t.vars.length cv,.slice Aa t.arrays.length ca,.slice Ap t.procs.length cp,.slice Am t.main.len cm] 27)):=(Fr.refl _ _).alloc _
 have h1:=hpc _ hf1
 have H1:=hdq h1
 have HF1:=hdq hf1
 have HK1:=hdq (Bk.new w 27 #[.slice Av t.vars.length cv,.slice Aa t.arrays.length ca,.slice Ap t.procs.length cp,.slice Am t.main.len cm])
 have hfw:=zm4 hf
 have hnp:npP t.procs≤1125899906842632:=by
  by_cases h0:t.procs.length=0
  ·have:t.procs= []:=List.eq_nil_of_length_eq_zero h0
   rw[this];exact Nat.zero_le _
  ·obtain⟨b,o,_,h2⟩:=hx.procs.2.2 (by omega)
   exact leq9 (zoa h2) (Nat.mul_le_mul_right _ hfw.2.2)
 unfold trV at H1 ⊢
 have HX:=hdq hx
 have HS:=hdq hS
 have HSZ:=hdq hsz
 have HT:=hdq hT
 have HCP:=hdq hcon
 obtain⟨n1,hn1⟩:=nmq t.vars.length
 obtain⟨n2,hn2⟩:=nmq t.arrays.length
 obtain⟨n3,hn3⟩:=nmq t.procs.length
 obtain⟨n4,hn4⟩:=nmq t.main.len
 obtain⟨np,hnpe⟩:=nmq (npP t.procs)
 rw[←hnpe]at hnp
 rw[←hn1]at hfw H1 HF1 HK1 ⊢
 rw[←hn2]at hfw H1 HF1 HK1 ⊢
 rw[←hn3]at hfw H1 HF1 HK1 ⊢
 rw[←hn4]at H1 HF1 HK1 ⊢
 have HN1:=hdq hn1
 have HN2:=hdq hn2
 have HN3:=hdq hn3
 have HN4:=hdq hn4
 have HNP:=hdq hnpe
 obtain⟨q1,q2,q3⟩:=hfw
 have e1:decide ((12:Int) < n1)=false:=by simp;omega
 have e2:decide ((4:Int) < n2)=false:=by simp;omega
 have e3:decide ((8:Int) < n3)=false:=by simp;omega
 have hmm:= @run_makeMap Tryz.prog
 have hmf:= @makeF Tryz.prog
 have hent:Enters Tryz.prog 100:=enters_of Tryz.func100 (by kernel_rfl) rfl
 unfold Enters at hent
 have HW0:=hdq (rfl:w.heap.size=w.heap.size)
 clear hf1 h1 hx hsz hS ht hf hpc hcon hn1 hn2 hn3 hn4 hnpe hT hF
 go_enter Tryz.func21,Tryz.ntmps21
 go_wp2_with fail
 refine H1.out.mono ?_
 rintro _ w1 ⟨rfl,hb⟩
 have hk1:=HK1.out.fr0 hb
 obtain⟨b,hbb⟩:=nmq w1.heap.size
 obtain⟨w4,hw4⟩:=nmq (((w1.alloc (.map #[] 0)).alloc (.cells #[.map (some w1.heap.size),.int .i64 0,.int .i64 0] 119)).alloc (.cells #[.pointer (some ⟨w1.heap.size+1,0,none⟩)] 116))
 have hf4:Fr NoT w1 w4:=by rw[hw4];exact(((Fr.refl _ _).alloc _).alloc _).alloc _
 have hc4:CkN w4 (w1.heap.size+1) w1.heap.size 0 (fun _=>none) (0,0):=by rw[hw4];exact CkN.made w1
 have hC4:Bk w4 (w1.heap.size+1+1) 116 #[.pointer (some ⟨w1.heap.size+1,0,none⟩)]:=by rw[hw4];exact Bk.new_at _ _ _ (by simp)
 obtain⟨x0,x1,x2,x3,hl1⟩:=bk4 hk1
 have HF4:=hdq ((HF1.out.trans hb).trans hf4)
 have HK4:=hdq (hk1.fr0 hf4)
 have HW4:=hdq hw4
 have HC4:=hdq hc4
 have HB4:=hdq hC4
 have HX4:=hdq (HX.out.keep (HF4.out.same fun b hb=>⟨HS.out b hb,id⟩))
 have HS4:=hdq (show ∀x,S x→x < w4.heap.size∧¬CkT (w1.heap.size+1) w1.heap.size x from fun x hx=>⟨ltq (HS.out x hx) HF4.out.size,fun e=>by
  have h1:=HS.out x hx
  have h2:=(HF1.out.trans hb).size
  rcases e with e|e<;>omega⟩)
 have HNB:=hdq (show ¬CkT (w1.heap.size+1) w1.heap.size w.heap.size from fun e=>by rcases e with e|e<;>omega)
 have HNC:=hdq (show ¬CkT (w1.heap.size+1) w1.heap.size (w1.heap.size+1+1)from fun e=>by rcases e with e|e<;>omega)
 have HHI:=hdq (show ∀W,Fr (CkT (w1.heap.size+1) w1.heap.size) w4 W→Fr NoT w W from fun W h=>by
  have h2:=(HF1.out.trans hb).size
  exact⟨h.os.trans HF4.out.os,h.tape.trans HF4.out.tape,h.output.trans HF4.out.output,leq9 HF4.out.size h.size,fun i hi _=>(h.block i (ltq hi HF4.out.size) (fun e=>by rcases e with e|e<;>omega)).trans (HF4.out.block i hi id)⟩)
 have m0:=HK4.out.cell 0
 rw[hw4]at m0
 simp only[getsL]at m0
 clear hb hk1 hw4 hf4 hc4 hC4
 have HBB:=hdq hbb
 clear hbb
 simp only[if_true]
 go_wp2_with fail
 rw[←HW4.out]
 have hbb:=HBB.out
 rw[←hbb]at HC4 HB4 HS4 HNB HNC HHI ⊢
 clear hbb
 clear m0 x0 x1 x2 x3 hl1 H1 HF1 HK1 HBB
 go_loopw [38] (fun i wr=>∃(k:Nat) (s:Cks),k≤n1∧i= .int .i64 k∧Hid (Fr (CkT (b+1) b) w4 wr)∧Hid (CkN wr (b+1) b k s.1 s.2)∧Hid (zaJ (1,0) t.vars (fun _=>none,(0,0))=zaJ (1,0) (t.vars.drop k) s)) (fun i _=>n1 - (intOf i).toNat)
 case atStart=>exact⟨0,(fun _=>none,(0,0)),Nat.zero_le _,rfl,Fr.refl _ _,HC4.out,rfl⟩
 case round=>
  obtain⟨k,s,hk,rfl,hb,hcn,hall⟩:=hrel
  have hkc:=HB4.out.fr hb.out HNC.out
  have d0:=hkc.cell 0
  have dl:=hkc.lt
  simp only[getsL]at d0
  clear hkc
  by_cases hlt:k < n1
  ·obtain⟨⟨a0,a1⟩,ar,hd⟩:=zad (show k < t.vars.length from by rw[←HN1.out];exact hlt)
   obtain⟨B,o,rfl,hat⟩:=HX4.out.vars.2.2 (by rw[←HN1.out];omega)
   have hat1:=(VaR.keep (hb.out.same fun x hx=>HS4.out x hx) hat).drop k
   rw[hd.1]at hat1
   obtain⟨⟨hbS,_,r1,c0,c1⟩,_⟩:=hat1
   have hxr:B < wr.heap.size:=ltq (HS4.out _ hbS).1 hb.out.size
   have hlt':(k:Int) < (n1:Int):=by omega
   have hge:(0:Int)≤(k:Int):=by omega
   simp only at c0 c1
   have hf2:Fr NoT wr (wr.alloc (.cells #[.string a0,.int .i64 a1] 65)):=(Fr.refl _ _).alloc _
   have hd0:=zbD (b+1) b k s.1 s.2 a0 a1 (1,0) _ (hcn.out.fr0 hf2) (HSZ.out.vars _ (za2 hd.1)) (by unfold maxLen;omega)
   unfold thV at hd0
   simp only at hd0
   have HD:=hdq hd0
   have HST:=hdq (hall.out.trans (zeb hd))
   have HB:=hdq (hb.out.trans (hf2.any:Fr (CkT (b+1) b) wr _))
   clear hd hat hall hb hbS hcn hf2 hd0
   go_wp2_with fail
   refine HD.out.mono ?_
   rintro _ w3 ⟨rfl,h3,hf3⟩
   have HN3:=hdq (aiq h3 (HB.out.trans hf3))
   clear h3 hf3 c0 c1
   go_wp2_with fail
   go_roundw
   case rel=>exact⟨k+1,zbL s a0.data.toList a1 (1,0),by omega,by go_num,HN3.out.2,HN3.out.1,HST.out⟩
   case measure=>simp[intOf];omega
  ·obtain rfl:k=n1:=by omega
   have hall1:zaJ (1,0) t.vars (fun _=>none,(0,0))=s:=by rw[hall.out,List.drop_eq_nil_of_le (by rw[←HN1.out];omega)];rfl
   have HS1:=hdq hall1
   have hlt':¬(k:Int) < (k:Int):=by omega
   obtain⟨x0,x1,x2,x3,hl1⟩:=bk4 (HK4.out.fr hb.out HNB.out)
   have HB:=hdq hb.out
   have HCN:=hdq hcn.out
   clear hall hall1 hb hcn d0 dl
   go_wp2_with fail
   clear x0 x1 x2 x3 hl1
   obtain⟨wo,rfl⟩:∃wo:World,wo=wr:=⟨_,rfl⟩
   go_loopw [53] (fun i wr=>∃(j:Nat) (sj:Cks),j≤n2∧i= .int .i64 j∧Hid (Fr (CkT (b+1) b) w4 wr)∧Hid (CkN wr (b+1) b (k+j) sj.1 sj.2)∧Hid (za3 t.arrays s=za3 (t.arrays.drop j) sj)) (fun i _=>n2 - (intOf i).toNat)
   case atStart=>exact⟨0,s,Nat.zero_le _,rfl,HB.out,HCN.out,rfl⟩
   case round=>
    clear HB HCN
    obtain⟨j,sj,hj,rfl,hb,hcn,hall⟩:=hrel
    have hkc:=HB4.out.fr hb.out HNC.out
    have d0:=hkc.cell 0
    have dl:=hkc.lt
    simp only[getsL]at d0
    clear hkc
    by_cases hlt:j < n2
    ·obtain⟨⟨a0,a1,a2⟩,ar,hd⟩:=zad (show j < t.arrays.length from by rw[←HN2.out];exact hlt)
     obtain⟨B,o,rfl,hat⟩:=HX4.out.arrays.2.2 (by rw[←HN2.out];omega)
     have hat1:=(ArR.keep (hb.out.same fun x hx=>HS4.out x hx) hat).drop j
     rw[hd.1]at hat1
     obtain⟨⟨hbS,_,r1,r2,c0,c1,c2⟩,_⟩:=hat1
     have hxr:B < wr.heap.size:=ltq (HS4.out _ hbS).1 hb.out.size
     have hltj:(j:Int) < (n2:Int):=by omega
     have hgej:(0:Int)≤(j:Int):=by omega
     simp only at c0 c1 c2
     obtain⟨w2,hw2⟩:=nmq (wr.alloc (.cells #[.string a0,.int .i64 a1,.int .i64 a2] 57))
     have hf2:Fr NoT wr w2:=by rw[hw2];exact(Fr.refl _ _).alloc _
     have hk2:Bk w2 wr.heap.size 57 #[.string a0,.int .i64 a1,.int .i64 a2]:=by rw[hw2];exact Bk.new _ _ _
     have hd0:=zbD (b+1) b (k+j) sj.1 sj.2 a0 a2 (2,0) w2 (hcn.out.fr0 hf2) (HSZ.out.arrays _ (za2 hd.1)) (by unfold maxLen;omega)
     unfold thV at hd0
     simp only at hd0
     have hnl:=hcn.out.lt
     have HNR:=hdq (show ¬CkT (b+1) b wr.heap.size from fun e=>by rcases e with e|e<;>omega)
     have HD:=hdq hd0
     have HST:=hdq (hall.out.trans (zgH hd))
     have HB:=hdq (hb.out.trans (hf2.any:Fr (CkT (b+1) b) wr _))
     have HK2:=hdq hk2
     have HW2:=hdq hw2
     obtain⟨p1,hp1⟩:=nmq (decide ((1:Int)≤a1))
     obtain⟨p2,hp2⟩:=nmq (decide (a1≤(16:Int)))
     have HP:=hdq (show zjp sj ⟨a0,a1,a2⟩=((zbL sj a0.data.toList a2 (2,0)).1,askC (zbL sj a0.data.toList a2 (2,0)).2 (p1&&p2) (a2,113))from by rw[hp1,hp2];rfl)
     have g1:=hp1.symm
     have g2:=hp2.symm
     clear hd hat hall hb hbS hcn hf2 hd0 hk2 hw2 hp1 hp2 hnl
     cases p1
     all_goals cases p2
     all_goals
      go_wp2_with fail
      rw[←HW2.out]
      refine HD.out.mono ?_
      rintro _ w3 ⟨rfl,h3,hf3⟩
      have hk3:=HK2.out.fr hf3 HNR.out
      have y1:=hk3.cell 1
      have y2:=hk3.cell 2
      have yl:=hk3.lt
      have hkc:=HB4.out.fr (HB.out.trans hf3) HNC.out
      have d3:=hkc.cell 0
      have dl3:=hkc.lt
      simp only[getsL]at y1 y2 d3
      have HASK:=hdq (fun is=>zd9 (b+1) b _ _ _ is a2 113 w3 h3)
      have HB3:=hdq (HB.out.trans hf3)
      clear h3 hf3 hk3 hkc c0 c1 c2 d0 dl hxr
      go_wp2_with fail
      refine(HASK.out _).mono ?_
      rintro _ w5 ⟨rfl,h5,hf5⟩
      have HN5:=hdq (aiq h5 (HB3.out.trans hf5))
      clear h5 hf5 y1 y2 d3
      go_wp2_with fail
      go_roundw
      case rel=>exact⟨j+1,zjp sj ⟨a0,a1,a2⟩,by omega,by go_num,HN5.out.2,by rw[HP.out];exact HN5.out.1,HST.out⟩
      case measure=>simp[intOf];omega
    ·obtain rfl:j=n2:=by omega
     have hall1:za3 t.arrays s=sj:=by rw[hall.out,List.drop_eq_nil_of_le (by rw[←HN2.out];omega)];rfl
     have HS2:=hdq hall1
     have hltj:¬(j:Int) < (j:Int):=by omega
     obtain⟨x0,x1,x2,x3,hl1⟩:=bk4 (HK4.out.fr hb.out HNB.out)
     have HB:=hdq hb.out
     have HCN:=hdq hcn.out
     clear hall hall1 hb hcn d0 dl
     go_wp2_with fail
     clear x0 x1 x2 x3 hl1
     obtain⟨wq,rfl⟩:∃wq:World,wq=wr:=⟨_,rfl⟩
     go_loopw [80] (fun i wr=>∃(l:Nat) (sl:Cks),l≤n3∧i= .int .i64 l∧Hid (Fr (CkT (b+1) b) w4 wr)∧Hid (CkN wr (b+1) b (k+j+l) sl.1 sl.2)∧Hid (za4 t.procs sj=za4 (t.procs.drop l) sl)) (fun i _=>n3 - (intOf i).toNat)
     case atStart=>exact⟨0,sj,Nat.zero_le _,rfl,HB.out,HCN.out,rfl⟩
     case round=>
      clear HB HCN
      obtain⟨l,sl,hl,rfl,hb,hcn,hall⟩:=hrel
      have hkc:=HB4.out.fr hb.out HNC.out
      have d0:=hkc.cell 0
      have dl:=hkc.lt
      simp only[getsL]at d0
      have HKC:=hdq hkc
      clear hkc
      by_cases hlt:l < n3
      ·obtain⟨⟨a0,a1,a2,a3⟩,ar,hd⟩:=zad (show l < t.procs.length from by rw[←HN3.out];exact hlt)
       obtain⟨B,o,rfl,hat⟩:=HX4.out.procs.2.2 (by rw[←HN3.out];omega)
       have hat1:=(PrR.keep (hb.out.same fun x hx=>HS4.out x hx) hat).drop l
       rw[hd.1]at hat1
       obtain⟨⟨hbS,_,r1,c0,c3⟩,⟨A1,q1,c1,_⟩,⟨A2,q2,c2,_⟩,_⟩:=hat1
       have hxr:B < wr.heap.size:=ltq (HS4.out _ hbS).1 hb.out.size
       have hltl:(l:Int) < (n3:Int):=by omega
       have hgel:(0:Int)≤(l:Int):=by omega
       simp only at c0 c1 c2 c3
       have hf2:Fr NoT wr (wr.alloc (.cells #[.string a0,.slice A1 a1.length q1,.slice A2 a2.len q2,.int .i64 a3] 59)):=(Fr.refl _ _).alloc _
       have hd0:=zbD (b+1) b (k+j+l) sl.1 sl.2 a0 a3 (4,0) _ (hcn.out.fr0 hf2) (HSZ.out.procs _ (za2 hd.1)).1 (by unfold maxLen;omega)
       unfold thV at hd0
       simp only at hd0
       have HD:=hdq hd0
       have HST:=hdq (hall.out.trans (zgI hd))
       have HB:=hdq (hb.out.trans (hf2.any:Fr (CkT (b+1) b) wr _))
       clear hd hat hall hb hbS hcn hf2 hd0
       go_wp2_with fail
       refine HD.out.mono ?_
       rintro _ w3 ⟨rfl,h3,hf3⟩
       have HN3':=hdq (aiq h3 (HB.out.trans hf3))
       clear h3 hf3 c0 c1 c2 c3
       go_wp2_with fail
       go_roundw
       case rel=>exact⟨l+1,zbL sl a0.data.toList a3 (4,0),by omega,by go_num,HN3'.out.2,HN3'.out.1,HST.out⟩
       case measure=>simp[intOf];omega
      ·obtain rfl:l=n3:=by omega
       have hall1:za4 t.procs sj=sl:=by rw[hall.out,List.drop_eq_nil_of_le (by rw[←HN3.out];omega)];rfl
       have hltl:¬(l:Int) < (l:Int):=by omega
       obtain⟨x0,x1,x2,x3,hl1⟩:=bk4 (HK4.out.fr hb.out HNB.out)
       have hsw:∀W,Fr (CkT (b+1) b) w4 W→∀x,S x→x < W.heap.size∧¬CkT (b+1) b x:=fun W h x hx=>⟨ltq (HS4.out x hx).1 h.size,(HS4.out x hx).2⟩
       have hxw:∀W,Fr (CkT (b+1) b) w4 W→TrR W S Z t Av Aa Ap Am cv ca cp cm:=fun W h=>HX4.out.keep (h.same fun x hx=>HS4.out x hx)
       have HCON:=hdq (HCP.out (b+1) b (k+j+l) (b+1+1) sl Ap cp wr S Z hcn.out HKC.out HNC.out (fun x hx=>HSZ.out.procs x hx) (hsw _ hb.out) (by have:=HNP.out;unfold maxLen;omega) (hxw _ hb.out).procs)
       rw[←HN3.out]at HCON
       have HT2:=HT.out
       rw[HS1.out,HS2.out,hall1]at HT2
       obtain⟨⟨⟨kz,az,ez⟩,q⟩,hpz⟩:=nmq (zak t.procs sl)
       rw[←hpz]at HT2 HCON
       simp only at HT2
       have HTZ:=hdq HT2
       have HSW:=hdq hsw
       have HXW:=hdq hxw
       have HB:=hdq hb.out
       obtain⟨NN,hNN⟩:=nmq (k+j+l+npP t.procs)
       rw[←hNN]at HCON
       clear hall hall1 hb hcn HT2 hpz hsw hxw HKC hNN
       go_wp2_with fail
       refine HCON.out.mono ?_
       rintro _ w5 ⟨rfl,h5,hf5⟩
       have hf45:=HB.out.trans hf5
       have hkc:=HB4.out.fr hf45 HNC.out
       have hkt:=HK4.out.fr hf45 HNB.out
       have HF45:=hdq hf45
       have H5:=hdq h5
       have HKC:=hdq hkc
       have HKT:=hdq hkt
       clear hf45 hkc hkt h5 hf5 x0 x1 x2 x3 hl1 d0 dl
       cases q
       ·have hTZ:=HTZ.out
        simp only[Bool.false_eq_true,if_false]at hTZ
        have hf2:Fr NoT w5 w5.drew:=(Fr.refl _ _).drew
        have HCW:=hdq (zeW (b+1) b w5.drew (H5.out.fr0 hf2).lt.1 (H5.out.fr0 hf2).lt.2)
        have hst:=fun(B1 B2:Nat) (W:World) (h:Fr NoT w5.drew W) (hw:WkAt W (b+1) b B1 B2)=>zeV kz t.main HSZ.out.main (b+1) b NN B1 B2 (az,ez) W S Z Am cm ((H5.out.fr0 hf2).fr0 h) hw (HSW.out W (HF45.out.trans ((hf2.trans h).any))) (HXW.out W (HF45.out.trans ((hf2.trans h).any))).main
        rw[←hTZ,←HN4.out]at hst
        have HS3:=hdq hst
        have HFD:=hdq hf2
        have d5:=HKC.out.cell 0
        have dl5:=HKC.out.lt
        simp only[getsL]at d5
        obtain⟨x0,x1,x2,x3,hl1⟩:=bk4 HKT.out
        clear hTZ hst hf2
        go_wp2_with fail
        go_region_law
         (first
          |(go_simp
            go_at_call 59
            with_reducible refine HCW.out.mono ?_
            rintro _ w6 ⟨B1,B2,rfl,hw6,hf6⟩
            have hkt6:=(HKT.out.fr0 HFD.out).fr0 hf6
            have g3:=hkt6.cell 3
            have gl:=hkt6.lt
            simp only[getsL]at g3
            have HC6:=hdq (HS3.out B1 B2 w6 hf6 hw6)
            have HF6:=hdq (HFD.out.trans hf6)
            clear hw6 hf6 hkt6
            dsimp only)
          |(go_simp
            go_at_call 100
            with_reducible refine HC6.out.mono ?_
            rintro _ w7 ⟨rfl,h7,hf7⟩
            have HC7:=hdq h7
            have HF7:=hdq (HF45.out.trans ((HF6.out.any:Fr (CkT (b+1) b) w5 _).trans hf7))
            clear h7 hf7
            dsimp only))
        all_goals
         have hkc7:=HB4.out.fr HF7.out HNC.out
         have d7:=hkc7.cell 0
         have dl7:=hkc7.lt
         have hbx:=HC7.out.box
         have p1:=hbx.cell 1
         have p2:=hbx.cell 2
         have pl:=hbx.lt
         simp only[getsL]at d7 p1 p2
         clear hkc7 hbx d5 dl5 x0 x1 x2 x3 hl1
         try clear g3 gl
         go_wp2_with fail
         go_quiet (fail)
         go_wp2_with fail
         go_ret2
         exact⟨rfl,(HHI.out _ HF7.out).drewN _⟩
       ·have hTZ:=HTZ.out
        simp only[if_true]at hTZ
        obtain⟨rfl,rfl⟩:=Prod.mk.inj hTZ
        have d5:=HKC.out.cell 0
        have dl5:=HKC.out.lt
        have hbx:=H5.out.box
        have p1:=hbx.cell 1
        have p2:=hbx.cell 2
        have pl:=hbx.lt
        simp only[getsL]at d5 p1 p2
        clear hTZ hbx
        go_wp2_with fail
        go_quiet (fail)
        go_wp2_with fail
        go_ret2
        exact⟨rfl,(HHI.out _ HF45.out).drewN _⟩
theorem zkN (t:Tre) (w:World) (S:Nat→Prop) (Z:Prop) (Av Aa Ap Am:Option Addr) (cv ca cp cm:Nat) (he:SpEnv w) (hS:∀b,S b→b < w.heap.size) (hsz:SzT t) (hx:TrR w S Z t Av Aa Ap Am cv ca cp cm):
  Calls Tryz.prog 21 #[trV t Av Aa Ap Am cv ca cp cm] w (AtE (zbM t) w):=by
 cases h1:okTr t with
 |false=>
  have h:=zkM t w S Z Av Aa Ap Am cv ca cp cm he hS hsz hx h1
  have e:zbM t=(0,8):=by unfold zbM;rw[if_neg (by simp[h1])]
  rw[e];exact h
 |true=>
  cases h2:fewT t with
  |false=>
   have h:=zjs t w S Z Av Aa Ap Am cv ca cp cm he hS hsz hx h1 h2
   have e:zbM t=(0,4):=by unfold zbM;rw[if_pos h1,if_neg (by simp[h2])]
   rw[e];exact h
  |true=>
   refine zgJ t w S Z Av Aa Ap Am cv ca cp cm hS hsz hx h1 h2 (fun W hf=>?_) fun P b N C s0 A c w S Z k0 k1 k2 k3 k4 k5 k6=>zkL P b N C s0 t.procs A c w S Z k0 k1 k2 k3 k4 k5 k6
   have h:=zdi t W S Z Av Aa Ap Am cv ca cp cm (he.keep hf.plain) (fun b hb=>ltq (hS b hb) hf.size) hsz (hx.keep (hf.same fun b hb=>⟨hS b hb,id⟩))
   rw[h1]at h
   exact h

theorem zkO (st p:Int×Int):askC st true p=st:=rfl
theorem zdj {st:Int×Int} {is:Bool} {p:Int×Int} (hp:p.2≠0) (h:(askC st is p).2 =0):is=true∧askC st is p=st:=by
 cases is with
 |true=>exact⟨rfl,rfl⟩
 |false=>
  exfalso
  have h:(zdC st p).2 =0:=h
  unfold zdC at h
  by_cases e:st.2=0
  ·rw[if_pos e]at h
   exact hp h
  ·rw[if_neg e]at h
   exact e h
def isK (kn:Kn) (t:List UInt8) (k:Int):Prop:=∃v,kn t=some (k,v)
theorem zec {kn:Kn} {st:Int×Int} {t:List UInt8} {k at_:Int} (h:(useC kn st t k at_).2 =0):isK kn t k∧useC kn st t k at_=st:=by
 unfold useC at h ⊢
 obtain⟨h1,h2⟩:=zdj (by simp) h
 rw[h2]at h
 obtain⟨h3,h4⟩:=zdj (by simp) h
 refine⟨?_,h2.trans h4⟩
 simp only[Bool.and_eq_true]at h3
 obtain⟨⟨a,b⟩,hv⟩:=Option.isSome_iff_exists.1 h3.1
 rw[hv]at h1
 have h1:a=k:=by simpa using h1
 exact⟨b,by rw[hv,h1]⟩
theorem zed {kn:Kn} {st:Int×Int} {t:List UInt8} {k at_:Int} (h:isK kn t k) (hk:k≠4):useC kn st t k at_=st:=by
 obtain⟨v,hv⟩:=h
 unfold useC
 rw[hv]
 simp[askC,hk]
def okUX (kn:Kn):Exs→Prop
 | .nil =>True
 | .cons k nm _ args _ r=>(k=2→isK kn nm.data.toList 1)∧(k=3→isK kn nm.data.toList 2)∧okUX kn args∧okUX kn r
theorem zcV {kn:Kn}:∀(xs:Exs) (st:Int×Int),okUX kn xs→zaI kn xs st=st
 | .nil,st,_=>rfl
 | .cons k nm n args at_ r,st,h=>by
  obtain⟨h1,h2,h3,h4⟩:=h
  unfold zaI
  have e:(if k=2 then useC kn st nm.data.toList 1 at_ else if k=3 then useC kn st nm.data.toList 2 at_ else st)=st:=by
   by_cases e2:k=2
   ·rw[if_pos e2,zed (h1 e2) (by decide)]
   ·rw[if_neg e2]
    by_cases e3:k=3
    ·rw[if_pos e3,zed (h2 e3) (by decide)]
    ·rw[if_neg e3]
  rw[e,zcV args st h3,zcV r st h4]
theorem zcW {kn:Kn}:∀(xs:Exs) (st:Int×Int),(zaI kn xs st).2 =0→okUX kn xs∧zaI kn xs st=st
 | .nil,st,_=>⟨trivial,rfl⟩
 | .cons k nm n args at_ r,st,h=>by
  unfold zaI at h ⊢
  obtain⟨h4,e4⟩:=zcW r _ h
  rw[e4]at h ⊢
  obtain⟨h3,e3⟩:=zcW args _ h
  rw[e3]at h ⊢
  by_cases e2:k=2
  ·subst e2
   rw[if_pos rfl]at h ⊢
   obtain⟨h1,e1⟩:=zec h
   exact⟨⟨fun _=>h1,fun e=>absurd e (by decide),h3,h4⟩,e1⟩
  ·rw[if_neg e2]at h ⊢
   by_cases e3:k=3
   ·subst e3
    rw[if_pos rfl]at h ⊢
    obtain⟨h1,e1⟩:=zec h
    exact⟨⟨fun e=>absurd e (by decide),fun _=>h1,h3,h4⟩,e1⟩
   ·rw[if_neg e3]
    exact⟨⟨fun e=>absurd e e2,fun e=>absurd e e3,h3,h4⟩,rfl⟩
def okUC (kn:Kn):Cds→Prop
 | .nil =>True
 | .cons _ args of_ _ r=>okUX kn args∧okUC kn of_∧okUC kn r
theorem zee {kn:Kn}:∀(xs:Cds) (st:Int×Int),okUC kn xs→zaV kn xs st=st
 | .nil,st,_=>rfl
 | .cons k args of_ at_ r,st,h=>by
  obtain⟨h1,h2,h3⟩:=h
  unfold zaV
  rw[zcV args st h1,zee of_ st h2,zee r st h3]
theorem zef {kn:Kn}:∀(xs:Cds) (st:Int×Int),(zaV kn xs st).2 =0→okUC kn xs∧zaV kn xs st=st
 | .nil,st,_=>⟨trivial,rfl⟩
 | .cons k args of_ at_ r,st,h=>by
  unfold zaV at h ⊢
  obtain⟨h3,e3⟩:=zef r _ h
  rw[e3]at h ⊢
  obtain⟨h2,e2⟩:=zef of_ _ h
  rw[e2]at h ⊢
  obtain⟨h1,e1⟩:=zcW args _ h
  exact⟨⟨h1,h2,h3⟩,e1⟩
def okUH (kn:Kn) (k:Int) (t:List UInt8) (na:Int):Prop:=(k=2∨k=4→isK kn t 1)∧(k=3→isK kn t 2)∧(k=9→kn t=some (3,na))
theorem zm6 {kn:Kn} {k:Int} {t:List UInt8} {na at_:Int} {st:Int×Int} (h:okUH kn k t na):zea kn k t na at_ st=st:=by
 obtain⟨h1,h2,h3⟩:=h
 unfold zea
 by_cases e1:k=2∨k=4
 ·rw[if_pos e1,zed (h1 e1) (by decide)]
 ·rw[if_neg e1]
  by_cases e2:k=3
  ·rw[if_pos e2,zed (h2 e2) (by decide)]
  ·rw[if_neg e2]
   by_cases e3:k=9
   ·rw[if_pos e3,zed ⟨_,h3 e3⟩ (by decide),h3 e3]
    simp[askC]
   ·rw[if_neg e3]
theorem zm7 {kn:Kn} {k:Int} {t:List UInt8} {na at_:Int} {st:Int×Int} (h:(zea kn k t na at_ st).2 =0):okUH kn k t na∧zea kn k t na at_ st=st:=by
 unfold zea at h ⊢
 by_cases e1:k=2∨k=4
 ·rw[if_pos e1]at h ⊢
  obtain⟨h1,h2⟩:=zec h
  exact⟨⟨fun _=>h1,fun e=>by omega,fun e=>by omega⟩,h2⟩
 ·rw[if_neg e1]at h ⊢
  by_cases e2:k=3
  ·rw[if_pos e2]at h ⊢
   obtain⟨h1,h2⟩:=zec h
   exact⟨⟨fun e=>absurd e e1,fun _=>h1,fun e=>by omega⟩,h2⟩
  ·rw[if_neg e2]at h ⊢
   by_cases e3:k=9
   ·rw[if_pos e3]at h ⊢
    obtain⟨h1,h2⟩:=zdj (by simp) h
    rw[h2]at h ⊢
    obtain⟨⟨v,hv⟩,h4⟩:=zec h
    rw[hv]at h1
    have h1:v=na:=by simpa using h1
    exact⟨⟨fun e=>absurd e e1,fun e=>absurd e e2,fun _=>by rw[hv,h1]⟩,h4⟩
   ·rw[if_neg e3]
    exact⟨⟨fun e=>absurd e e1,fun e=>absurd e e2,fun e=>absurd e e3⟩,rfl⟩
def okUS (kn:Kn):Sts→Prop
 | .nil =>True
 | .cons k nm args cond body els _ r=>okUH kn k nm.data.toList (args.len:Int)∧okUX kn args∧okUC kn cond∧okUS kn body∧okUS kn els∧okUS kn r
theorem zcX {kn:Kn}:∀(xs:Sts) (st:Int×Int),okUS kn xs→zap kn xs st=st
 | .nil,st,_=>rfl
 | .cons k nm args cond body els at_ r,st,h=>by
  obtain⟨h0,h1,h2,h3,h4,h5⟩:=h
  unfold zap
  rw[zm6 h0,zcV args st h1,zee cond st h2,zcX body st h3,zcX els st h4,zcX r st h5]
theorem zca {kn:Kn}:∀(xs:Sts) (st:Int×Int),(zap kn xs st).2 =0→okUS kn xs∧zap kn xs st=st
 | .nil,st,_=>⟨trivial,rfl⟩
 | .cons k nm args cond body els at_ r,st,h=>by
  unfold zap at h ⊢
  obtain⟨h5,e5⟩:=zca r _ h
  rw[e5]at h ⊢
  obtain⟨h4,e4⟩:=zca els _ h
  rw[e4]at h ⊢
  obtain⟨h3,e3⟩:=zca body _ h
  rw[e3]at h ⊢
  obtain⟨h2,e2⟩:=zef cond _ h
  rw[e2]at h ⊢
  obtain⟨h1,e1⟩:=zcW args _ h
  rw[e1]at h ⊢
  obtain⟨h0,e0⟩:=zm7 h
  exact⟨⟨h0,h1,h2,h3,h4,h5⟩,e0⟩

def zaQ (kn:Kn):List (List UInt8)→Prop
 | []=>True
 |t::r=>kn t=none∧t∉r∧zaQ kn r
theorem freshL_iff {kn:Kn}:∀ {l:List (List UInt8)},zaQ kn l↔(∀t∈l,kn t=none)∧l.Nodup
 | []=>by simp[zaQ]
 |t::r=>by
  unfold zaQ
  rw[freshL_iff (l:=r),List.nodup_cons]
  simp only[List.mem_cons,forall_eq_or_imp]
  constructor
  ·rintro⟨a,b,c,d⟩;exact⟨⟨a,c⟩,b,d⟩
  ·rintro⟨⟨a,c⟩,b,d⟩;exact⟨a,b,c,d⟩
def putL (v:Int×Int) (l:List (List UInt8)) (kn:Kn):Kn:=fun y=>if y∈l then some v else kn y
theorem zfF (v:Int×Int) (kn:Kn):putL v [] kn=kn:=by funext y;simp[putL]
theorem zeg (v:Int×Int) (t:List UInt8) (r:List (List UInt8)) (kn:Kn):putL v r (kn.put t v)=putL v (t::r) kn:=by
 funext y
 unfold putL Kn.put
 by_cases h1:y∈r
 ·simp[h1]
 ·by_cases h2:y=t
  ·simp[h2]
  ·simp[h1,h2]
theorem zdH {s:Cks} {t:List UInt8} {at_:Int} {v:Int×Int} (h:s.1 t=none):zbL s t at_ v=(s.1.put t v,s.2):=by
 unfold zbL zkF zfD
 rw[h]
 simp[askC]
theorem zfG {s:Cks} {t:List UInt8} {at_:Int} {v:Int×Int} (h:(zbL s t at_ v).2.2 =0):s.1 t=none∧zbL s t at_ v=(s.1.put t v,s.2):=by
 have h:(zfD s.1 s.2 t at_).2 =0:=h
 unfold zfD at h
 have h1:=(zdj (by simp) h).1
 have h2:s.1 t=none:=by
  cases e:s.1 t with
  |none=>rfl
  |some x=>rw[e]at h1;simp at h1
 exact⟨h2,zdH h2⟩
abbrev nmV (xs:List Va):List (List UInt8):=xs.map fun x=>x.nm.data.toList
abbrev nmA (xs:List Arr):List (List UInt8):=xs.map fun x=>x.nm.data.toList
abbrev nmP (xs:List Prc):List (List UInt8):=xs.map fun x=>x.nm.data.toList
theorem zeh {kn:Kn} {t:List UInt8} {v:Int×Int} {l:List (List UInt8)} (h:zaQ (kn.put t v) l):t∉l∧zaQ kn l:=by
 rw[freshL_iff]at h ⊢
 have h1:t∉l:=fun hm=>by have:=h.1 t hm;simp[Kn.put]at this
 refine⟨h1,fun x hx=>?_,h.2⟩
 have:=h.1 x hx
 unfold Kn.put at this
 rw[if_neg (fun e:x=t=>h1 (e▸hx))]at this
 exact this
theorem zdk {kn:Kn} {t:List UInt8} {v:Int×Int} {l:List (List UInt8)} (h1:t∉l) (h:zaQ kn l):zaQ (kn.put t v) l:=by
 rw[freshL_iff]at h ⊢
 refine⟨fun x hx=>?_,h.2⟩
 unfold Kn.put
 rw[if_neg (fun e:x=t=>h1 (e▸hx))]
 exact h.1 x hx
theorem zbN {v:Int×Int}:∀(xs:List Va) (s:Cks),zaQ s.1 (nmV xs)→zaJ v xs s=(putL v (nmV xs) s.1,s.2)
 | [],s,_=>by simp[zaJ,zfF]
 |x::r,s,h=>by
  obtain⟨h1,h2,h3⟩:=h
  unfold zaJ
  rw[zdH h1,zbN r _ (zdk h2 h3),zeg]
  rfl
theorem zei {v:Int×Int}:∀(xs:List Va) (s:Cks),(zaJ v xs s).2.2 =0→zaQ s.1 (nmV xs)
 | [],s,_=>trivial
 |x::r,s,h=>by
  unfold zaJ at h
  have h3:=zei r _ h
  rw[zbN r _ h3]at h
  obtain⟨h1,e1⟩:=zfG h
  rw[e1]at h3
  have h4:=zeh h3
  exact⟨h1,h4.1,h4.2⟩
def zim (xs:List Arr):Prop:=∀x∈xs,1≤x.size∧x.size≤16
theorem zcp:∀(xs:List Arr) (s:Cks),zaQ s.1 (nmA xs)→zim xs→za3 xs s=(putL (2,0) (nmA xs) s.1,s.2)
 | [],s,_,_=>by simp[za3,zfF]
 |x::r,s,h,hz=>by
  obtain⟨h1,h2,h3⟩:=h
  have hx:=hz x (by simp)
  unfold za3 zjp
  rw[zdH h1]
  have e:(decide ((1:Int)≤x.size)&&decide (x.size≤(16:Int)))=true:=by simpa using hx
  rw[e,zkO,zcp r _ (zdk h2 h3) (fun y hy=>hz y (by simp[hy])),zeg]
  rfl
theorem zeX:∀(xs:List Arr) (s:Cks),(za3 xs s).2.2 =0→zaQ s.1 (nmA xs)∧zim xs
 | [],s,_=>⟨trivial,fun x hx=>by simp at hx⟩
 |x::r,s,h=>by
  unfold za3 at h
  obtain⟨h3,hz⟩:=zeX r _ h
  rw[zcp r _ h3 hz]at h
  unfold zjp at h h3
  simp only at h h3
  obtain⟨hq,e0⟩:=zdj (by simp) h
  rw[e0]at h
  obtain⟨h1,e1⟩:=zfG h
  rw[e1]at h3
  have h4:=zeh h3
  have hq:1≤x.size∧x.size≤16:=by simpa using hq
  exact⟨⟨h1,h4.1,h4.2⟩,fun y hy=>by
   rcases List.mem_cons.1 hy with rfl|hy
   ·exact hq
   ·exact hz y hy⟩
theorem zcq:∀(xs:List Prc) (s:Cks),zaQ s.1 (nmP xs)→za4 xs s=(putL (4,0) (nmP xs) s.1,s.2)
 | [],s,_=>by simp[za4,zfF]
 |x::r,s,h=>by
  obtain⟨h1,h2,h3⟩:=h
  unfold za4
  rw[zdH h1,zcq r _ (zdk h2 h3),zeg]
  rfl
theorem zeY:∀(xs:List Prc) (s:Cks),(za4 xs s).2.2 =0→zaQ s.1 (nmP xs)
 | [],s,_=>trivial
 |x::r,s,h=>by
  unfold za4 at h
  have h3:=zeY r _ h
  rw[zcq r _ h3]at h
  obtain⟨h1,e1⟩:=zfG h
  rw[e1]at h3
  have h4:=zeh h3
  exact⟨h1,h4.1,h4.2⟩
theorem zin:∀(xs:List Va) (kn:Kn) (y:List UInt8),zcx xs kn y=if y∈nmV xs then none else kn y
 | [],kn,y=>by simp[zcx]
 |x::r,kn,y=>by
  unfold zcx
  rw[zin r]
  unfold Kn.del nmV
  by_cases h1:y∈nmV r
  ·unfold nmV at h1;simp only[List.map_cons,List.mem_cons,h1,or_true,if_true]
  ·unfold nmV at h1
   by_cases h2:y=x.nm.data.toList
   ·simp[h2]
   ·simp only[List.map_cons,List.mem_cons,h1,h2,or_false,if_false]
theorem zkP {xs:List Va} {kn:Kn} {v:Int×Int} (h:zaQ kn (nmV xs)):zcx xs (putL v (nmV xs) kn)=kn:=by
 funext y
 rw[zin]
 unfold putL
 by_cases e:y∈nmV xs
 ·rw[if_pos e,(freshL_iff.1 h).1 y e]
 ·rw[if_neg e,if_neg e]
def okP (x:Prc) (kn:Kn):Prop:=x.params.length≤4∧zaQ kn (nmV x.params)∧okUS (putL (1,0) (nmV x.params) kn) x.body
theorem zio {x:Prc} {s:Cks} (h:okP x s.1) (he:s.2.2=0):zbF x.nm.data.toList x.params x.body x.at_ s=(s.1.put x.nm.data.toList (3,x.params.length),s.2):=by
 obtain⟨h1,h2,h3⟩:=h
 unfold zbF
 have e:decide ((x.params.length:Int)≤4)=true:=by simp;omega
 rw[e,zkO,zbN _ _ h2]
 simp only
 rw[if_pos he,zcX _ _ h3,zkP h2]
theorem zm8 {x:Prc} {s:Cks} (h:(zbF x.nm.data.toList x.params x.body x.at_ s).2.2 =0):okP x s.1:=by
 unfold zbF at h
 simp only at h
 by_cases e:(zaJ (1,0) x.params (s.1,askC s.2 (decide ((x.params.length:Int)≤4)) (x.at_,4))).2.2 =0
 ·rw[if_pos e]at h
  have h2:=zei _ _ e
  rw[zbN _ _ h2]at e h
  simp only at e h
  have h1:=(zdj (by simp) e).1
  have h3:=(zca _ _ h).1
  exact⟨by simp at h1;omega,h2,h3⟩
 ·rw[if_neg e]at h
  exact absurd h e
def zgK:List Prc→Kn→Prop
 | [],_=>True
 |x::r,kn=>okP x kn∧zgK r (kn.put x.nm.data.toList (3,x.params.length))
def zkQ:List Prc→Kn→Kn
 | [],kn=>kn
 |x::r,kn=>zkQ r (kn.put x.nm.data.toList (3,x.params.length))
theorem zgL:∀(xs:List Prc) (s:Cks),zgK xs s.1→s.2.2=0→zak xs s=((zkQ xs s.1,s.2),false)
 | [],s,_,_=>rfl
 |x::r,s,h,he=>by
  unfold zak
  rw[zio h.1 he,if_pos he,zgL r (s.1.put x.nm.data.toList (3,x.params.length),s.2) h.2 he]
  rfl
theorem zgM:∀(xs:List Prc) (s:Cks),(zak xs s).1.2.2 =0→s.2.2=0→zgK xs s.1
 | [],s,_,_=>trivial
 |x::r,s,h,he=>by
  unfold zak at h
  by_cases e:(zbF x.nm.data.toList x.params x.body x.at_ s).2.2 =0
  ·have h1:=zm8 e
   rw[zio h1 he]at h
   rw[if_pos he]at h
   exact⟨h1,zgM r _ h he⟩
  ·rw[if_neg e]at h
   exact absurd h e
theorem zeZ:∀(xs:List Prc) (s:Cks),(zak xs s).2 =true→(zak xs s).1.2.2 ≠0
 | [],s,h=>by simp[zak]at h
 |x::r,s,h=>by
  unfold zak at h ⊢
  by_cases e:(zbF x.nm.data.toList x.params x.body x.at_ s).2.2 =0
  ·rw[if_pos e]at h ⊢
   exact zeZ r _ h
  ·rw[if_neg e]
   exact e
theorem zhL {st p:Int×Int} (h:st.2≠0):zdC st p=st:=by unfold zdC;rw[if_neg h]
theorem ze0 {st p:Int×Int} {is:Bool} (h:st.2≠0):askC st is p=st:=by cases is<;>simp[askC,zhL h]
theorem zhM {nm:List UInt8} {ps:List Va} {body:Sts} {at_:Int} {s:Cks} (h:s.2.2≠0):(zbF nm ps body at_ s).2.2 ≠0:=by
 have hd:∀(xs:List Va) (s:Cks),s.2.2≠0→(zaJ (1,0) xs s).2.2 ≠0:=by
  intro xs
  induction xs with
  |nil=>exact fun s h=>h
  |cons x r ih=>
   intro s h
   unfold zaJ
   refine ih _ ?_
   show(zfD s.1 s.2 _ _).2 ≠0
   unfold zfD
   rw[ze0 h]
   exact h
 unfold zbF
 simp only
 have h2:=hd ps (s.1,askC s.2 (decide ((ps.length:Int)≤4)) (at_,4)) (by rw[ze0 h];exact h)
 rw[if_neg h2]
 exact h2
def knT (t:Tre):Kn:=putL (4,0) (nmP t.procs) (putL (2,0) (nmA t.arrays) (putL (1,0) (nmV t.vars) fun _=>none))
structure OkT (t:Tre):Prop where
 tree:okTr t=true
 few:fewT t=true
 vars:zaQ (fun _=>none) (nmV t.vars)
 arrays:zaQ (putL (1,0) (nmV t.vars) fun _=>none) (nmA t.arrays)
 sizes:zim t.arrays
 procs:zaQ (putL (2,0) (nmA t.arrays) (putL (1,0) (nmV t.vars) fun _=>none)) (nmP t.procs)
 each:zgK t.procs (knT t)
 main:okUS (zkQ t.procs (knT t)) t.main
theorem zm9 {t:Tre} (h1:zaQ (fun _=>none) (nmV t.vars)) (h2:zaQ (putL (1,0) (nmV t.vars) fun _=>none) (nmA t.arrays)) (h3:zim t.arrays) (h4:zaQ (putL (2,0) (nmA t.arrays) (putL (1,0) (nmV t.vars) fun _=>none)) (nmP t.procs)):
  zbw t=(knT t,(0,0)):=by
 unfold zbw
 rw[zbN _ _ h1,zcp _ _ h2 h3,zcq _ _ h4]
 rfl
theorem zfH {t:Tre} (h:(zbM t).2 =0):OkT t:=by
 unfold zbM at h
 by_cases h1:okTr t=true
 rotate_left
 ·rw[if_neg h1]at h;exact absurd h (by decide)
 rw[if_pos h1]at h
 by_cases h2:fewT t=true
 rotate_left
 ·rw[if_neg h2]at h;exact absurd h (by decide)
 rw[if_pos h2]at h
 have h3:(zak t.procs (zbw t)).2 =false:=by
  cases e:(zak t.procs (zbw t)).2 with
  |false=>rfl
  |true=>
   rw[e,if_pos rfl]at h
   exact absurd h (zeZ _ _ e)
 rw[h3]at h
 simp only[Bool.false_eq_true,if_false]at h
 obtain⟨h4,e4⟩:=zca _ _ h
 rw[e4]at h
 have h5:(zbw t).2.2 =0:=by
  by_cases e:(zbw t).2.2 =0
  ·exact e
  exfalso
  cases hp:t.procs with
  |nil=>rw[hp]at h;exact e h
  |cons x r=>
   rw[hp]at h3
   unfold zak at h3
   rw[if_neg (zhM e)]at h3
   exact absurd h3 (by simp)
 have hd:=h5
 unfold zbw at hd
 have q3:=zeY _ _ hd
 rw[zcq _ _ q3]at hd
 obtain⟨q2,q4⟩:=zeX _ _ hd
 rw[zcp _ _ q2 q4]at hd q3
 have q1:=zei _ _ hd
 rw[zbN _ _ q1]at q2 q3
 have hdt:=zm9 q1 q2 q4 q3
 rw[hdt]at h h4
 have h6:=zgM _ _ h rfl
 rw[zgL _ _ h6 rfl]at h4
 exact⟨h1,h2,q1,q2,q4,q3,h6,h4⟩

theorem fewT_iff {t:Tre}:fewT t=true↔t.vars.length≤12∧t.arrays.length≤4∧t.procs.length≤8:=by
 unfold fewT
 simp only[Bool.and_eq_true,decide_eq_true_eq]
 omega
def Sts.app:Sts→Sts→Sts
 | .nil,ys=>ys
 | .cons k nm args cond body els at_ r,ys=> .cons k nm args cond body els at_ (Sts.app r ys)

abbrev Nms:=List UInt8→Option ByteArray
def ofN (n:Nms) (nm:ByteArray):ByteArray:=(n nm.data.toList).getD nm
def zaO (n:Nms):Exs→Exs
 | .nil => .nil
 | .cons k nm m args at_ r=> .cons k (if k=2 then ofN n nm else nm) m (zaO n args) at_ (zaO n r)
def zbb (n:Nms):Cds→Cds
 | .nil => .nil
 | .cons k args of_ at_ r=> .cons k (zaO n args) (zbb n of_) at_ (zbb n r)
theorem zay (n:Nms):∀xs,(zaO n xs).len =xs.len
 | .nil =>rfl
 | .cons _ _ _ _ _ r=>by simp only[zaO,Exs.len,zay n r]
theorem zbc (n:Nms):∀xs,(zbb n xs).len =xs.len
 | .nil =>rfl
 | .cons _ _ _ _ r=>by simp only[zbb,Cds.len,zbc n r]
structure Ist where
 calls:Nat
 vars:List Va
 many:Nat
def zbs (s:Ist):Bool:=decide (256 < s.many) || decide (32 < s.vars.length)
def dotB:ByteArray:=⟨#[46]⟩
def parN (p:ByteArray) (c:Nat) (v:ByteArray):ByteArray:=p++dotB++⟨(Lib.itoa c).toArray⟩++dotB++v
def zbx (p:ByteArray) (c:Nat) (n:Nms) (at_:Int):List Va→Exs→Sts
 |v::vs,.cons k nm m a b r=> .cons 2 (parN p c v.nm) (zaO n (.cons k nm m a b .nil)) .nil .nil .nil at_ (zbx p c n at_ vs r)
 |_,_=> .nil
def ownN (p:ByteArray) (c:Nat):List Va→Nms→Nms
 | [],o=>o
 |v::vs,o=>ownN p c vs (fun y=>if y=v.nm.data.toList then some (parN p c v.nm)else o y)
def inlS (call:ByteArray→Exs→Nms→Int→Ist→Sts×Ist):Sts→Nms→Ist→Sts×Ist
 | .nil,_,s=>(.nil,s)
 | .cons k nm args cond body els at_ r,n,s=>
  if zbs s then(.nil,s)
  else if k=9 then(Sts.app (call nm args n at_ s).1 (inlS call r n (call nm args n at_ s).2).1,(inlS call r n (call nm args n at_ s).2).2)
  else
   (.cons k (if k=3 then nm else ofN n nm) (zaO n args) (zbb n cond) (inlS call body n ⟨s.calls,s.vars,s.many+1⟩).1 (inlS call els n (inlS call body n ⟨s.calls,s.vars,s.many+1⟩).2).1 at_
    (inlS call r n (inlS call els n (inlS call body n ⟨s.calls,s.vars,s.many+1⟩).2).2).1,(inlS call r n (inlS call els n (inlS call body n ⟨s.calls,s.vars,s.many+1⟩).2).2).2)
def zcB (procs:List UInt8→Option Prc) (stm:Sts→Nms→Ist→Sts×Ist) (nm:ByteArray) (args:Exs) (n:Nms) (at_:Int) (s:Ist):Sts×Ist:=
 match procs nm.data.toList with
 |none=>(.nil,s)
 |some x=>
  let h:Sts:= .cons 1 ⟨#[]⟩ .nil .nil .nil .nil at_ (zbx x.nm (s.calls+1) n at_ x.params args)
  let q:=stm x.body (ownN x.nm (s.calls+1) x.params fun _=>none) ⟨s.calls+1,s.vars++x.params.map (fun v=>⟨parN x.nm (s.calls+1) v.nm,v.at_⟩),s.many+(x.params.length+1)⟩
  (Sts.app h q.1,q.2)
def inlF (procs:List UInt8→Option Prc):Nat→Sts→Nms→Ist→Sts×Ist
 |0=>inlS fun _ _ _ _ s=>(.nil,s)
 |f+1=>inlS (zcB procs (inlF procs f))
def zah:List Prc→List UInt8→Option Prc
 | [],_=>none
 |x::r,y=>match zah r y with
  |some z=>some z
  |none=>if y=x.nm.data.toList then some x else none
def inlQ (t:Tre):Sts×Ist:=inlF (zah t.procs) t.procs.length t.main (fun _=>none) ⟨0,t.vars,0⟩
def zkR:Tre:=⟨[], [], [],.nil⟩
def inlT (t:Tre):Tre×Int:=
 if(zbM t).2 =0 then(if zbs (inlQ t).2 then(zkR,9)else(⟨(inlQ t).2.vars,t.arrays, [],(inlQ t).1⟩,0))else(zkR,(zbM t).2)
def LvB (procs:List UInt8→Option Prc) (low:Sts→Prop):Sts→Prop
 | .nil =>True
 | .cons k nm args _ body els _ r=>(k=9→∃x,procs nm.data.toList=some x∧x.params.length=args.len∧low x.body)∧LvB procs low body∧LvB procs low els∧LvB procs low r
def Lv (procs:List UInt8→Option Prc):Nat→Sts→Prop
 |0=>LvB procs fun _=>False
 |f+1=>LvB procs (Lv procs f)
theorem LvB.mono {procs:List UInt8→Option Prc} {a b:Sts→Prop} (h:∀x,a x→b x):∀ {xs:Sts},LvB procs a xs→LvB procs b xs
 | .nil,_=>trivial
 | .cons k nm args _ body els _ r,⟨h0,h1,h2,h3⟩=>⟨fun e=>by
   obtain⟨x,g1,g2,g3⟩:=h0 e
   exact⟨x,g1,g2,h _ g3⟩,LvB.mono h h1,LvB.mono h h2,LvB.mono h h3⟩
theorem Lv.up {procs:List UInt8→Option Prc}:∀ {f:Nat} {xs:Sts},Lv procs f xs→Lv procs (f+1) xs
 |0,_,h=>LvB.mono (fun _ h=>h.elim) h
 |f+1,_,h=>LvB.mono (fun _ h=>Lv.up h) h
theorem Lv.mono {procs:List UInt8→Option Prc} {f g:Nat} (h:f≤g) {xs:Sts} (hx:Lv procs f xs):Lv procs g xs:=by
 induction h with
 |refl=>exact hx
 |step _ ih=>exact ih.up
def KnLow (procs:List UInt8→Option Prc) (low:Sts→Prop) (kn:Kn):Prop:=∀y na,kn y=some (3,na)→∃x,procs y=some x∧(x.params.length:Int)=na∧low x.body
theorem zip {procs:List UInt8→Option Prc} {low:Sts→Prop} {kn:Kn} (hk:KnLow procs low kn):∀xs,okUS kn xs→LvB procs low xs
 | .nil,_=>trivial
 | .cons k nm args _ body els _ r,⟨h0,_,_,h3,h4,h5⟩=>⟨fun e=>by
   obtain⟨x,g1,g2,g3⟩:=hk _ _ (h0.2.2 e)
   exact⟨x,g1,by omega,g3⟩,zip hk body h3,zip hk els h4,zip hk r h5⟩
theorem zqc {procs:List UInt8→Option Prc} {f:Nat} {kn:Kn} (hk:KnLow procs (fun xs=>∃g,g < f∧Lv procs g xs) kn) {xs:Sts} (h:okUS kn xs):Lv procs f xs:=by
 have h1:=zip hk xs h
 cases f with
 |zero=>exact LvB.mono (fun _ ⟨g,hg,_⟩=>by omega) h1
 |succ f=>exact LvB.mono (fun _ ⟨g,hg,hx⟩=>hx.mono (by omega)) h1
theorem KnLow.putL {procs:List UInt8→Option Prc} {low:Sts→Prop} {kn:Kn} (h:KnLow procs low kn) (l:List (List UInt8)):KnLow procs low (putL (1,0) l kn):=fun y na hy=>by
 unfold Go.Proofs.YtmfioehnhjjgpaaGreatDoor.putL at hy
 by_cases e:y∈l
 ·rw[if_pos e]at hy;simp at hy
 ·rw[if_neg e]at hy;exact h y na hy
theorem zdw:∀ {xs:List Prc} {y:List UInt8},y∉nmP xs→zah xs y=none
 | [],_,_=>rfl
 |x::r,y,h=>by
  simp only[nmP,List.map_cons,List.mem_cons,not_or]at h
  unfold zah
  rw[zdw h.2,if_neg h.1]
theorem zej:∀ {xs:List Prc},(nmP xs).Nodup →∀ {x:Prc},x∈xs→zah xs x.nm.data.toList=some x
 | [],_,_,h=>by simp at h
 |p::r,hn,x,h=>by
  have hn:=List.nodup_cons.1 hn
  unfold zah
  rcases List.mem_cons.1 h with rfl|h
  ·rw[zdw hn.1,if_pos rfl]
  ·rw[zej hn.2 h]
theorem zbO:∀ {xs:List Prc} {y:List UInt8} {x:Prc},zah xs y=some x→x∈xs∧x.nm.data.toList=y
 | [],_,_,h=>by simp[zah]at h
 |p::r,y,x,h=>by
  unfold zah at h
  cases e:zah r y with
  |some z=>
   rw[e]at h
   have h:=Option.some.inj h
   subst h
   have:=zbO e
   exact⟨by simp[this.1],this.2⟩
  |none=>
   rw[e]at h
   simp only at h
   by_cases e2:y=p.nm.data.toList
   ·rw[if_pos e2]at h
    have h:=Option.some.inj h
    subst h
    exact⟨by simp,e2.symm⟩
   ·rw[if_neg e2]at h;simp at h
theorem zgN {procs:List UInt8→Option Prc}:∀(xs:List Prc) (kn:Kn) (f:Nat),(∀x∈xs,procs x.nm.data.toList=some x)→zgK xs kn→KnLow procs (fun xs=>∃g,g < f∧Lv procs g xs) kn→KnLow procs (fun ys=>∃g,g < f+xs.length∧Lv procs g ys) (zkQ xs kn)
 | [],kn,f,_,_,hk=>hk
 |x::r,kn,f,hp,⟨⟨h1,h2,h3⟩,h4⟩,hk=>by
  have hb:Lv procs f x.body:=zqc (hk.putL _) h3
  have hk2:KnLow procs (fun xs=>∃g,g < f+1∧Lv procs g xs) (kn.put x.nm.data.toList (3,x.params.length)):=fun y na hy=>by
   unfold Kn.put at hy
   by_cases e:y=x.nm.data.toList
   ·rw[if_pos e]at hy
    have hy:=Option.some.inj hy
    subst e
    exact⟨x,hp x (by simp),by rw[←(Prod.mk.inj hy).2],f,by omega,hb⟩
   ·rw[if_neg e]at hy
    obtain⟨z,g1,g2,g,g3,g4⟩:=hk y na hy
    exact⟨z,g1,g2,g,by omega,g4⟩
  have ih:=zgN r _ (f+1) (fun z hz=>hp z (by simp[hz])) h4 hk2
  intro y na hy
  obtain⟨z,g1,g2,g,g3,g4⟩:=ih y na hy
  exact⟨z,g1,g2,g,by simp;omega,g4⟩
theorem ziq {t:Tre} (h:OkT t):Lv (zah t.procs) t.procs.length t.main:=by
 have hn:=(freshL_iff.1 h.procs).2
 have h0:KnLow (zah t.procs) (fun xs=>∃g,g < 0∧Lv (zah t.procs) g xs) (knT t):=fun y na hy=>by
  unfold knT putL at hy
  split at hy
  ·simp at hy
  split at hy
  ·simp at hy
  split at hy
  ·simp at hy
  ·simp at hy
 have:=zgN t.procs (knT t) 0 (fun x hx=>zej hn hx) h.each h0
 rw[Nat.zero_add]at this
 exact zqc this h.main

open Go.RowKit Go.Shelf

theorem zqd (A:Option Addr) (c:Nat) (g:Value) (w:World):Calls Tryz.prog 180 #[.slice A 0 c,g] w fun e w'=>e= .returned (.int .i64 (-1))∧w'=w:=by
 go_enter Tryz.func180,Tryz.ntmps180
 go_wp2_with fail
 go_loopw [8] (fun i wr=>i= .int .i64 0∧wr=w) (fun _ _=>0)
 case atStart=>exact⟨rfl,rfl⟩
 case round=>
  obtain⟨rfl,rfl⟩:=hrel
  go_wp2_with fail
  go_ret
  exact⟨rfl,rfl⟩
theorem zqe (A:Option Addr) (c:Nat) (g:Value) (w:World):Calls Tryz.prog 144 #[.slice A 0 c,g] w fun e w'=>e= .returned (.bool false)∧w'=w:=by
 go_enter Tryz.func144,Tryz.ntmps144
 go_wp2_with fail
 refine(zqd A c g w).mono ?_
 rintro _ _ ⟨rfl,rfl⟩
 go_wp2_with fail
 go_ret
 exact⟨rfl,rfl⟩
theorem zqf (A:Option Addr) (c:Nat) (g:Nat) (cap:Array Value) (w:World):Calls Tryz.prog 94 #[.slice A 0 c,.func (.func g) #[] cap] w (zai true w):=by
 have hmf:= @makeF Tryz.prog
 have HC:=hdq (zqe A c (.func (.func 145) #[] #[.pointer (some ⟨w.heap.size,0,none⟩)]) (w.alloc (.cells #[.func (.func g) #[] cap] 180)))
 go_enter Tryz.func94,Tryz.ntmps94
 go_wp2_with fail
 refine HC.out.mono ?_
 rintro _ _ ⟨rfl,rfl⟩
 go_wp2_with fail
 go_ret
 exact⟨rfl,(Fr.refl _ _).alloc _⟩
theorem zqg (A:Option Addr) (c:Nat) (g:Value) (w:World):Calls Tryz.prog 99 #[.slice A 0 c,g] w fun e w'=>e= .returned (.int .i64 (-1))∧w'=w:=by
 go_enter Tryz.func99,Tryz.ntmps99
 go_wp2_with fail
 go_loopw [8] (fun i wr=>i= .int .i64 0∧wr=w) (fun _ _=>0)
 case atStart=>exact⟨rfl,rfl⟩
 case round=>
  obtain⟨rfl,rfl⟩:=hrel
  go_wp2_with fail
  go_ret
  exact⟨rfl,rfl⟩
theorem zkS (A:Option Addr) (c:Nat) (g:Value) (w:World):Calls Tryz.prog 56 #[.slice A 0 c,g] w fun e w'=>e= .returned (.bool false)∧w'=w:=by
 go_enter Tryz.func56,Tryz.ntmps56
 go_wp2_with fail
 refine(zqg A c g w).mono ?_
 rintro _ _ ⟨rfl,rfl⟩
 go_wp2_with fail
 go_ret
 exact⟨rfl,rfl⟩
theorem zqh (A:Option Addr) (c:Nat) (g:Nat) (cap:Array Value) (w:World):Calls Tryz.prog 96 #[.slice A 0 c,.func (.func g) #[] cap] w (zai true w):=by
 have hmf:= @makeF Tryz.prog
 have HC:=hdq (zkS A c (.func (.func 146) #[] #[.pointer (some ⟨w.heap.size,0,none⟩)]) (w.alloc (.cells #[.func (.func g) #[] cap] 126)))
 go_enter Tryz.func96,Tryz.ntmps96
 go_wp2_with fail
 refine HC.out.mono ?_
 rintro _ _ ⟨rfl,rfl⟩
 go_wp2_with fail
 go_ret
 exact⟨rfl,(Fr.refl _ _).alloc _⟩
def kdS:Sts→Prop
 | .nil =>True
 | .cons k _ _ _ body els _ r=>(k=2∨k=8)∧kdS body∧kdS els∧kdS r
theorem zkT (k:Int) (nm:ByteArray) (at_:Int) (A:Option Addr) (l c:Nat) (B:Option Addr) (m d:Nat) (D:Option Addr) (u e:Nat) (E:Option Addr) (v f:Nat) (r1 r2 r3 r4:Bool) (w:World) (hk:k=2∨k=8) (he:SpEnv w) (hs:nm.size≤9223372036854775807)
  (hl:l≤9223372036854775807) (hm:m≤9223372036854775807) (hu:u≤9223372036854775807) (hv:v≤9223372036854775807)
  (h1:AllC 140 141 w A l c r1) (h2:AllC 142 143 w B m d r2) (h3:AllC 92 93 w D u e r3) (h4:AllC 92 93 w E v f r4):
  Calls Tryz.prog 93 #[.agg #[.int .u8 k,.string nm,.slice A l c,.slice B m d,.slice D u e,.slice E v f,.int .i64 at_]] w (zai (decide (1≤k)&&decide (k≤9)&&nmdB (tabA zaB k).2.2.2 nm&&(decide ((tabA zaB k).1 < 0) || (l:Int)==(tabA zaB k).1)&&((m:Int)==(tabA zaB k).2.2.1)&&(k==7 || k==8 || u==0)&&(k==7 || v==0)&&r1&&r2&&r3&&r4) w):=by
 have k1:1≤k:=by omega
 have k2:k≤9:=by omega
 obtain⟨a,o,c2,b,hsh,hidx⟩:=zik k k1 k2
 have hta:tabA zaB k=(a,o,c2,b):=by unfold tabA;rw[hsh];rfl
 have x1:decide (1≤k)=true:=by simpa using k1
 have x2:decide (k≤9)=true:=by simpa using k2
 rw[hta,x1,x2]
 simp only[Bool.true_and]
 rcases hk with rfl|rfl
 ·have:zaB[(2:Int).toNat]?=some (1,0,0,true):=rfl
  rw[this]at hsh
  simp only[Option.some.injEq,Prod.mk.injEq]at hsh
  have hn:decide (a < 0)=false:=by rw[←hsh.1];rfl
  have:=zeS 2 nm at_ A l c B m d D u e E v f r1 r2 r3 r4 w he hs hl hm hu hv h1 h2 h3 h4 k1 k2 (by decide) (by decide) a o c2 b hidx hn
  rw[hn,show((2:Int)==7)=false from rfl,show((2:Int)==8)=false from rfl]
  simpa only[Bool.false_or,Bool.true_or,Bool.and_true]using this
 ·have:zaB[(8:Int).toNat]?=some (0,0,1,false):=rfl
  rw[this]at hsh
  simp only[Option.some.injEq,Prod.mk.injEq]at hsh
  have hn:decide (a < 0)=false:=by rw[←hsh.1];rfl
  have:=zeR 8 nm at_ A l c B m d D u e E v f r1 r2 r3 r4 w he hs hl hm hu hv h1 h2 h3 h4 k1 k2 rfl a o c2 b hidx hn
  rw[hn,show((8:Int)==7)=false from rfl,show((8:Int)==8)=true from rfl]
  simpa only[Bool.false_or,Bool.true_or,Bool.and_true]using this
theorem zcr:∀(xs:Sts) (w:World) (S:Nat→Prop) (Z:Prop),SpEnv w→(∀b,S b→b < w.heap.size)→szS xs→kdS xs→AskSt 93 #[] w S Z okT xs
 | .nil,_,_,_,_,_,_,_=>fun i _ _ _ _ _ _ _ _ hd=>by cases i<;>simp[Sts.drop]at hd
 | .cons k nm args cond body els at_ rest,w,S,Z,he,hS,hsz,hkd=>fun i _ _ _ _ _ _ _ _ hd r1 W A2 q2 A3 q3 A4 q4 A5 q5 hw s2 s3 s4 s5=>by
  cases i with
  |zero=>
   simp only[Sts.drop]at hd
   injection hd with e1 e2 e3 e4 e5 e6 e7 e8
   subst e1 e2 e3 e4 e5 e6 e7 e8
   rw[Array.append_empty]
   have hS2:∀W2,Fr NoT W W2→∀b,S b→b < W2.heap.size:=fun W2 h2 b hb=>ltq (hS b hb) (hw.trans h2).size
   have hS3:∀b,S b→b < W.heap.size:=fun b hb=>ltq (hS b hb) hw.size
   refine zkT k nm at_ A2 args.len q2 A3 cond.len q3 A4 body.len q4 A5 els.len q5 (okX args) (okC cond) (okS body) (okS els) W hkd.1 (he.keep hw.plain) hsz.1 (leq9 s2.1 s2.2.1.1) (leq9 s3.1 s3.2.1.1) (leq9 s4.1 s4.2.1.1) (leq9 s5.1 s5.2.1.1) (fun W2 h2=>?_) (fun W2 h2=>?_) (fun W2 h2=>?_) (fun W2 h2=>?_)
   ·exact zd7 args A2 q2 W2 S Z (he.keep (hw.trans h2).plain) (hS2 W2 h2) hsz.2.1 (s2.imp fun _ _ hx=>ExR.keep (h2.same fun b hb=>⟨hS3 b hb,id⟩) hx)
   ·exact zgE cond A3 q3 W2 S Z (he.keep (hw.trans h2).plain) (hS2 W2 h2) hsz.2.2.1 (s3.imp fun _ _ hx=>CdR.keep (h2.same fun b hb=>⟨hS3 b hb,id⟩) hx)
   ·have:=zbK okT body A4 q4 93 #[] W2 S Z (hS2 W2 h2) (s4.imp fun _ _ hx=>StR.keep (h2.same fun b hb=>⟨hS3 b hb,id⟩) hx) (enters_of Tryz.func93 (by kernel_rfl) rfl) (zcr body W2 S Z (he.keep (hw.trans h2).plain) (hS2 W2 h2) hsz.2.2.2.1 hkd.2.1)
    rw[zcA]at this
    exact this
   ·have:=zbK okT els A5 q5 93 #[] W2 S Z (hS2 W2 h2) (s5.imp fun _ _ hx=>StR.keep (h2.same fun b hb=>⟨hS3 b hb,id⟩) hx) (enters_of Tryz.func93 (by kernel_rfl) rfl) (zcr els W2 S Z (he.keep (hw.trans h2).plain) (hS2 W2 h2) hsz.2.2.2.2.1 hkd.2.2.1)
    rw[zcA]at this
    exact this
  |succ i=>
   simp only[Sts.drop]at hd
   exact zcr rest w S Z he hS hsz.2.2.2.2.2 hkd.2.2.2 i _ _ _ _ _ _ _ _ hd r1 W A2 q2 A3 q3 A4 q4 A5 q5 hw s2 s3 s4 s5
theorem zqi:zqb []:=fun P b N C s0 A c w S Z h0 h1 h2 h3 h4 h5 h6=>(zkS A c _ w).mono fun e w' ⟨k1,k2⟩=>by
 subst k2
 exact⟨k1,h0,Fr.refl _ _⟩
theorem zqj (t:Tre) (w:World) (S:Nat→Prop) (Z:Prop) (Av Aa Ap Am:Option Addr) (cv ca cp cm:Nat) (he:SpEnv w) (hS:∀b,S b→b < w.heap.size) (hsz:SzT t) (hx:TrR w S Z t Av Aa Ap Am cv ca cp cm) (ha:t.arrays= []) (hp:t.procs= []) (hk:kdS t.main) (ht:okTr t=true) (hf:fewT t=true):
  Calls Tryz.prog 21 #[trV t Av Aa Ap Am cv ca cp cm] w (AtE (zbM t) w):=by
 refine zgJ t w S Z Av Aa Ap Am cv ca cp cm hS hsz hx ht hf (fun W hW=>?_) (by rw[hp];exact zqi)
 have keep:∀W',Fr NoT W W'→TrR W' S Z t Av Aa Ap Am cv ca cp cm:=fun W' h=>hx.keep ((hW.trans h).same fun b hb=>⟨hS b hb,id⟩)
 have hSW:∀W',Fr NoT W W'→∀b,S b→b < W'.heap.size:=fun W' h b hb=>ltq (hS b hb) (hW.trans h).size
 have h:=zgF t W S Z Av Aa Ap Am cv ca cp cm (he.keep hW.plain) (hSW W (Fr.refl _ _)) hsz (keep W (Fr.refl _ _))
  (fun W' h=>by
   have:=zbK okT t.main Am cm 93 #[] W' S Z (hSW W' h) (keep W' h).main (enters_of Tryz.func93 (by kernel_rfl) rfl) (zcr t.main W' S Z (he.keep (hW.trans h).plain) (hSW W' h) hsz.main hk)
   rw[zcA]at this
   exact this)
  (fun W' h=>by rw[ha];exact zqf Aa ca _ _ W')
  fun W' h hb=>by rw[hp];exact zqh Ap cp _ _ W'
 rw[ht]at h
 exact h
end Go.Proofs.YtmfioehnhjjgpaaGreatDoor
