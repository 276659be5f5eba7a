/-
  check: a procedure's check.
-/
import Derived.Test.YtfomomaomggpbaaGreatDoorJgCkE
set_option linter.unusedVariables false
set_option linter.unusedSimpArgs false
set_option maxHeartbeats 8000000
set_option maxRecDepth 100000
namespace Go.Proofs.YtfomomaomggpbaaGreatDoor
open Go.RowKit Go.Shelf Go.Maps

theorem CkN.del {w3:World} {P b N:Nat} {kn:Kn} {st:Int×Int} (h:CkN w3 P b N kn st) {s:ByteArray} (hs:s.size≤9223372036854775807) (ty:TypeId):
  ∃w4,(Builtin.delete_ #[135,9] ty #[.map (some b),.string s]).run Tryz.prog w3.drew= .ok (.tuple #[]) w4∧CkN w4 P b N (kn.del s.data.toList) st∧Fr (CkT P b) w3 w4:=by
 obtain⟨n,hn,h⟩:=h
 obtain⟨w4,hrun,h4,hg4⟩:=(h.map.fr ((Fr.refl NoT w3).drew) id).drop hs ty
 have hf4:Fr (CkT P b) w3 w4:=((Fr.refl _ _).drew).trans (Fr.grown hg4 fun g e _=> .inr (Option.some.inj e).symm)
 have hb4:=h.box.fr (((Fr.refl (fun x=>x=b) w3).drew).trans (Fr.grown hg4 fun g e _=>(Option.some.inj e).symm)) h.ne
 exact⟨w4,hrun,⟨n,hn,hb4,h4,h.ne⟩,hf4⟩
theorem CkN.put {w3:World} {P b N:Nat} {kn:Kn} {st:Int×Int} (h:CkN w3 P b N kn st) {s:ByteArray} (hs:s.size≤9223372036854775807) (v:Int×Int) (hN:N < maxLen):
  ∃w4,(Instr.mapUpdate 135 (.map (some b)) (.string s) (thV v)).run Tryz.prog w3.drew= .ok () w4∧CkN w4 P b (N+1) (kn.put s.data.toList v) st∧Fr (CkT P b) w3 w4:=by
 obtain⟨n,hn,h⟩:=h
 obtain⟨w4,hrun,h4,hg4⟩:=(h.map.fr ((Fr.refl NoT w3).drew) id).put hs v (by omega)
 have hf4:Fr (CkT P b) w3 w4:=((Fr.refl _ _).drew).trans (Fr.grown hg4 fun g e _=> .inr (Option.some.inj e).symm)
 have hb4:=h.box.fr (((Fr.refl (fun x=>x=b) w3).drew).trans (Fr.grown hg4 fun g e _=>(Option.some.inj e).symm)) h.ne
 exact⟨w4,hrun,⟨n+1,by omega,hb4,h4,h.ne⟩,hf4⟩
theorem CkN.box {w:World} {P b N:Nat} {kn:Kn} {st:Int×Int} (h:CkN w P b N kn st):Bk w P 137 #[.map (some b),.int .i64 st.1,.int .i64 st.2]:=by
 obtain⟨n,hn,h⟩:=h
 exact h.box
theorem CkN.mono {w:World} {P b N N':Nat} {kn:Kn} {st:Int×Int} (h:CkN w P b N kn st) (hN:N≤N'):CkN w P b N' kn st:=by
 obtain⟨n,hn,h⟩:=h
 exact⟨n,by omega,h⟩
theorem cwalkE_any (P b:Nat) (w:World) (hP:P < w.heap.size) (hb:b < w.heap.size):Calls Tryz.prog 53 #[.pointer (some ⟨P,0,none⟩)] w fun e w'=>
  ∃B1 B2,e= .returned (.func (.func 101) #[] #[.pointer (some ⟨B1,0,none⟩),.pointer (some ⟨B2,0,none⟩)])∧WkAt w' P b B1 B2∧Fr NoT w w':=
 (cwalk_any P b w hP hb).mono fun _ _ ⟨h1,h2,h3⟩=>⟨_,_,h1,h2,h3⟩
theorem cproc_any (P b N:Nat) (kn:Kn) (st:Int×Int) (nm:ByteArray) (ps:List Va) (body:Sts) (at_:Int) (A1 A2:Option Addr) (q1 q2:Nat) (w:World) (S:Nat→Prop) (Z:Prop) (hc:CkN w P b N kn st) (hnm:nm.size≤9223372036854775807) (hps:∀y∈ps,y.nm.size≤9223372036854775807) (hbd:szS body)
  (hS:∀x,S x→x < w.heap.size∧¬CkT P b x) (hN:N+ps.length+1 < maxLen) (s1:SlR (fun b o=>VaR w S Z ps b o) ps.length 24 A1 q1) (s2:SlR (fun b o=>StR w S Z body b o) body.len 128 A2 q2):
  Calls Tryz.prog 52 #[.pointer (some ⟨P,0,none⟩),.agg #[.string nm,.slice A1 ps.length q1,.slice A2 body.len q2,.int .i64 at_]] w
   (CkP P b (N+ps.length+1) (procC nm.data.toList ps body at_ (kn,st)).1 (procC nm.data.toList ps body at_ (kn,st)).2 w):=by
 obtain⟨F,hF⟩:=nmq (procC nm.data.toList ps body at_ (kn,st))
 rw[←hF]
 unfold procC at hF
 simp only at hF
 have hl:ps.length≤9223372036854775807:=leq9 s1.1 s1.2.1.1
 obtain⟨w1,hw1⟩:=nmq (w.alloc (.cells #[.string nm,.slice A1 ps.length q1,.slice A2 body.len q2,.int .i64 at_] 63))
 have hf1:Fr NoT w w1:=by rw[hw1];exact(Fr.refl _ _).alloc _
 have hk1:Bk w1 w.heap.size 63 #[.string nm,.slice A1 ps.length q1,.slice A2 body.len q2,.int .i64 at_]:=by rw[hw1];exact Bk.new _ _ _
 obtain⟨p4,hp4⟩:=nmq (decide ((ps.length:Int)≤4))
 rw[←hp4]at hF
 have hlt:=hc.lt
 have hnT:¬CkT P b w.heap.size:=fun e=>by rcases e with e|e<;>omega
 have H1:=hdq (caskN_any P b N kn st p4 at_ 4 w1 (hc.fr0 hf1))
 have HSS:=hdq (fun(W:World) (h:Fr (CkT P b) w W)=>(show ∀x,S x→x < W.heap.size∧¬CkT P b x from fun x hx=>⟨ltq (hS x hx).1 h.size,(hS x hx).2⟩))
 have HSM:=hdq (fun(W:World) (h:Fr (CkT P b) w W)=>(show SameS S w W from h.same fun x hx=>hS x hx))
 obtain⟨m,hm⟩:=nmq ps.length
 rw[←hm]at hl hp4 hF hN hw1 hk1 ⊢
 have e4:=hp4.symm
 have HM:=hdq hm
 have HW1:=hdq hw1
 have HF1:=hdq hf1
 have HK1:=hdq hk1
 have HNT:=hdq hnT
 have HF:=hdq hF
 have HNM:=hdq hnm
 have HPS:=hdq hps
 have HBD:=hdq hbd
 have HN:=hdq hN
 have HX:=hdq s1
 have HY:=hdq s2
 have HS:=hdq hS
 clear hc hf1 hw1 hk1 hp4 hlt hnT hF hm hnm hps hbd hN s1 s2 hS
 go_enter Tryz.func52,Tryz.ntmps52
 go_wp2_with fail
 rw[←HW1.out]
 refine H1.out.mono ?_
 rintro _ w2 ⟨rfl,h2,hf2⟩
 have hk2:=HK1.out.fr hf2 HNT.out
 have d1:=hk2.cell 1
 have hl2:=hk2.lt
 simp only[getsL]at d1
 have HF2:=hdq ((HF1.out.any:Fr (CkT P b) w w1).trans hf2)
 have HK2:=hdq hk2
 have H2:=hdq h2
 clear h2 hf2 hk2
 go_wp2_with fail
 go_loopw [19] (fun i wr=>∃(k:Nat) (s:Cks),k≤m∧i= .int .i64 k∧Hid (Fr (CkT P b) w wr)∧Hid (Bk wr w.heap.size 63 #[.string nm,.slice A1 m q1,.slice A2 body.len q2,.int .i64 at_])∧Hid (CkN wr P b (N+k) s.1 s.2)∧Hid (declVs (1,0) ps (kn,askC st p4 (at_,4))=declVs (1,0) (ps.drop k) s)) (fun i _=>m - (intOf i).toNat)
 case atStart=>exact⟨0,(kn,askC st p4 (at_,4)),Nat.zero_le _,rfl,HF2.out,HK2.out,H2.out,rfl⟩
 case round=>
  obtain⟨k,s,hk,rfl,hb,hkb,hcn,hall⟩:=hrel
  by_cases hlt:k < m
  ·obtain⟨⟨a0,a1⟩,ar,hd⟩:=drop_head1 (show k < ps.length from by rw[←HM.out];exact hlt)
   obtain⟨B,o,rfl,hat⟩:=HX.out.2.2 (by rw[←HM.out];omega)
   have hat1:=(VaR.keep (HSM.out _ hb.out) hat).drop k
   rw[hd.1]at hat1
   obtain⟨⟨hbS,_,r1,c0,c1⟩,_⟩:=hat1
   have hxr:B < wr.heap.size:=(HSS.out _ hb.out _ hbS).1
   have hlt':(k:Int) < (m:Int):=by omega
   have hge:(0:Int)≤(k:Int):=by omega
   simp only at c0 c1
   have hf2:Fr NoT wr (wr.alloc (.cells #[.string a0,.int .i64 a1] 77)):=(Fr.refl _ _).alloc _
   have hd0:=cdeclare_any P b (N+k) s.1 s.2 a0 a1 (1,0) _ (hcn.out.fr0 hf2) (HPS.out _ (mem_drop1 hd.1)) (by have:=HN.out;omega)
   unfold thV at hd0
   simp only at hd0
   have HD:=hdq hd0
   have HST:=hdq (hall.out.trans (declVs_step hd))
   have HB:=hdq (hb.out.trans (hf2.any:Fr (CkT P b) wr _))
   have HKB:=hdq (hkb.out.fr0 hf2)
   clear hd hat hall hb hbS hkb hcn hf2 hd0 d1 hl2
   go_wp2_with fail
   refine HD.out.mono ?_
   rintro _ w3 ⟨rfl,h3,hf3⟩
   have HN3:=hdq (aiq h3 (aiq (HB.out.trans hf3) (HKB.out.fr hf3 HNT.out)))
   clear h3 hf3 c0 c1
   go_wp2_with fail
   go_roundw
   case rel=>exact⟨k+1,declC s a0.data.toList a1 (1,0),by omega,by go_num,HN3.out.2.1,HN3.out.2.2,HN3.out.1,HST.out⟩
   case measure=>simp[intOf];omega
  ·obtain rfl:k=m:=by omega
   obtain⟨kn2,a2,e2⟩:=s
   have hall1:declVs (1,0) ps (kn,askC st p4 (at_,4))=(kn2,a2,e2):=by rw[hall.out,List.drop_eq_nil_of_le (by rw[←HM.out];omega)];rfl
   have hbx:=hcn.out.box
   have hbl:=hcn.out.lt
   have p0:=hbx.cell 0
   have p2:=hbx.cell 2
   have hk2:=hkb.out.cell 2
   have hkl:=hkb.out.lt
   simp only[getsL]at p0 p2 hk2
   have hF:=HF.out
   rw[hall1]at hF
   have HB:=hdq hb.out
   have HKB:=hdq hkb.out
   have HCN:=hdq hcn.out
   have hPl:=hbl.1
   have hlt':¬(k:Int) < (k:Int):=by omega
   clear hall hall1 hb hkb hcn hbx hbl d1 hl2
   by_cases he:e2=0
   rotate_left
   ·have e9:(e2 != 0)=true:=by simpa using he
    have HF9:=hdq (show F=(kn2,a2,e2)from by rw[hF];simp only;rw[if_neg he])
    clear hF he
    go_wp2_with fail
    go_end0
    exact⟨rfl,by rw[HF9.out];exact HCN.out.mono (by omega),HB.out⟩
   subst he
   have HF9:=hdq (show F=((delVs ps kn2).put nm.data.toList (3,k),stmtsC kn2 body (a2,0))from by rw[hF,if_pos rfl])
   have hf2:Fr NoT wr wr.drew:=(Fr.refl _ _).drew
   have HCW:=hdq (cwalkE_any P b wr.drew (HCN.out.fr0 hf2).lt.1 (HCN.out.fr0 hf2).lt.2)
   have HS3:=hdq (fun(B1 B2:Nat) (W:World) (h:Fr NoT wr.drew W) (hw:WkAt W P b B1 B2)=>cstmts_any kn2 body HBD.out P b (N+k) B1 B2 (a2,0) W S Z A2 q2 ((HCN.out.fr0 hf2).fr0 h) hw (HSS.out W (HB.out.trans ((hf2.trans h).any))) (HY.out.imp fun _ _ hx=>StR.keep (HSM.out W (HB.out.trans ((hf2.trans h).any))) hx))
   have HFD:=hdq hf2
   have hent:Enters Tryz.prog 101:=enters_of Tryz.func101 (by kernel_rfl) rfl
   unfold Enters at hent
   clear hF hf2
   go_wp2_with fail
   go_region_law
    (first
     |(go_simp
       go_at_call 53
       with_reducible refine HCW.out.mono ?_
       rintro _ w5 ⟨B1,B2,rfl,hw5,hf5⟩
       have hkc:=(HKB.out.fr0 HFD.out).fr0 hf5
       have g2:=hkc.cell 2
       have gl:=hkc.lt
       simp only[getsL]at g2
       have HC5:=hdq (HS3.out B1 B2 w5 hf5 hw5)
       have HF5:=hdq (HFD.out.trans hf5)
       have HK5:=hdq hkc
       clear hw5 hf5 hkc
       dsimp only)
     |(go_simp
       go_at_call 101
       with_reducible refine HC5.out.mono ?_
       rintro _ w6 ⟨rfl,h6,hf6⟩
       have HC6:=hdq h6
       have HF6:=hdq (HB.out.trans ((HF5.out.any:Fr (CkT P b) wr _).trans hf6))
       have HK6:=hdq (HK5.out.fr hf6 HNT.out)
       clear h6 hf6
       dsimp only))
   all_goals
    have k1:=HK6.out.cell 1
    have kl:=HK6.out.lt
    simp only[getsL]at k1
    clear hk2 hkl p0 p2 hPl
    try clear g2 gl
    go_wp2_with fail
    go_loopw [44] (fun i wr=>∃(j:Nat) (kj:Kn),j≤k∧i= .int .i64 j∧Hid (Fr (CkT P b) w wr)∧Hid (Bk wr w.heap.size 63 #[.string nm,.slice A1 k q1,.slice A2 body.len q2,.int .i64 at_])∧Hid (CkN wr P b (N+k) kj (stmtsC kn2 body (a2,0)))∧Hid (delVs ps kn2=delVs (ps.drop j) kj)) (fun i _=>k - (intOf i).toNat)
    case atStart=>exact⟨0,kn2,Nat.zero_le _,rfl,HF6.out,HK6.out,HC6.out,rfl⟩
    case round=>
     obtain⟨j,kj,hj,rfl,hb,hkb,hcn,hall⟩:=hrel
     by_cases hlt:j < k
     ·obtain⟨⟨a0,a1⟩,ar,hd⟩:=drop_head1 (show j < ps.length from by rw[←HM.out];exact hlt)
      obtain⟨B,o,rfl,hat⟩:=HX.out.2.2 (by rw[←HM.out];omega)
      have hat1:=(VaR.keep (HSM.out _ hb.out) hat).drop j
      rw[hd.1]at hat1
      obtain⟨⟨hbS,_,r1,c0,c1⟩,_⟩:=hat1
      have hxr:B < wr.heap.size:=(HSS.out _ hb.out _ hbS).1
      have hlt':(j:Int) < (k:Int):=by omega
      have hge:(0:Int)≤(j:Int):=by omega
      simp only at c0 c1
      obtain⟨wa,hwa⟩:=nmq (wr.alloc (.cells #[.string a0,.int .i64 a1] 77))
      have hf2:Fr NoT wr wa:=by rw[hwa];exact(Fr.refl _ _).alloc _
      have hka:Bk wa wr.heap.size 77 #[.string a0,.int .i64 a1]:=by rw[hwa];exact Bk.new _ _ _
      have hc2:=hcn.out.fr0 hf2
      have hbx:=hc2.box
      have p0:=hbx.cell 0
      have hPl:=hbx.lt
      have v0:=hka.cell 0
      have hvl:=hka.lt
      simp only[getsL]at p0 v0
      have hsz:=HPS.out _ (mem_drop1 hd.1)
      simp only at hsz
      obtain⟨w9,hdel,h9,hf9⟩:=hc2.del hsz 0
      have HST:=hdq (hall.out.trans (delVs_step hd))
      have HN9:=hdq (aiq h9 (aiq ((hb.out.trans (hf2.any:Fr (CkT P b) wr _)).trans hf9) ((hkb.out.fr0 hf2).fr hf9 HNT.out)))
      have HWA:=hdq hwa
      clear hd hat hall hb hbS hkb hcn hf2 hc2 hbx h9 hf9 k1 kl hsz hka hwa
      go_wp2_with fail
      rw[←HWA.out]
      clear c0 c1
      refine wp_region_still_tail 6 (by kernel_rfl) (by kernel_rfl) ?_
      simp only[List.take_succ_cons,List.take_zero,List.drop_succ_cons,List.drop_zero]
      repeat still_step
      try refine wpStill_nil ?_
      go_wp2_with fail
      go_roundw
      case rel=>exact⟨j+1,kj.del a0.data.toList,by omega,by go_num,HN9.out.2.1,HN9.out.2.2,HN9.out.1,HST.out⟩
      case measure=>simp[intOf];omega
     ·obtain rfl:j=k:=by omega
      have hall1:delVs ps kn2=kj:=by rw[hall.out,List.drop_eq_nil_of_le (by rw[←HM.out];omega)];rfl
      have hbx:=hcn.out.box
      have p0:=hbx.cell 0
      have hPl:=hbx.lt
      have kk0:=hkb.out.cell 0
      have kk1:=hkb.out.cell 1
      have kl:=hkb.out.lt
      simp only[getsL]at p0 kk0 kk1
      obtain⟨w9,hput,h9,hf9⟩:=hcn.out.put HNM.out (3,j) (by have:=HN.out;omega)
      unfold thV at hput
      simp only at hput
      have HEQ:=hdq (show F=(kj.put nm.data.toList (3,j),stmtsC kn2 body (a2,0))from by rw[HF9.out,hall1])
      have HN9:=hdq (aiq h9 (hb.out.trans hf9))
      clear hall hall1 hb hkb hcn hbx h9 hf9 k1
      go_wp2_with fail
      refine wp_region_still_tail 10 (by kernel_rfl) (by kernel_rfl) ?_
      simp only[List.take_succ_cons,List.take_zero,List.drop_succ_cons,List.drop_zero]
      repeat still_step
      try refine wpStill_nil ?_
      go_wp2_with fail
      go_end0
      exact⟨rfl,by rw[HEQ.out];exact HN9.out.1,HN9.out.2⟩

def declA (s:Cks) (x:Arr):Cks:=
 ((declC s x.nm.data.toList x.at_ (2,0)).1,askC (declC s x.nm.data.toList x.at_ (2,0)).2 (decide ((1:Int)≤x.size)&&decide (x.size≤(16:Int))) (x.at_,113))
def declArs:List Arr→Cks→Cks
 | [],s=>s
 |x::r,s=>declArs r (declA s x)
def declPrs:List Prc→Cks→Cks
 | [],s=>s
 |x::r,s=>declPrs r (declC s x.nm.data.toList x.at_ (4,0))
def procsC:List Prc→Cks→Cks×Bool
 | [],s=>(s,false)
 |x::r,s=>if(procC x.nm.data.toList x.params x.body x.at_ s).2.2 =0 then procsC r (procC x.nm.data.toList x.params x.body x.at_ s)else(procC x.nm.data.toList x.params x.body x.at_ s,true)
def declT (t:Tre):Cks:=declPrs t.procs (declArs t.arrays (declVs (1,0) t.vars (fun _=>none,(0,0))))
def fewT (t:Tre):Bool:=decide ((t.vars.length:Int)≤12)&&decide ((t.arrays.length:Int)≤4)&&decide ((t.procs.length:Int)≤8)
def treeC (t:Tre):Int×Int:=
 if okTr t then
  if fewT t then
   if(procsC t.procs (declT t)).2 then(procsC t.procs (declT t)).1.2 else stmtsC (procsC t.procs (declT t)).1.1 t.main (procsC t.procs (declT t)).1.2
  else(0,4)
 else(0,8)
theorem fewT_few {t:Tre} (h:fewT t=true):t.vars.length≤12∧t.arrays.length≤4∧t.procs.length≤8:=by
 unfold fewT at h
 simp only[Bool.and_eq_true,decide_eq_true_eq]at h
 omega
theorem declArs_step {xs:List Arr} {i:Nat} {s:Cks} {a0 a1 a2 ar} (hd:xs.drop i=(⟨a0,a1,a2⟩:Arr)::ar∧xs.drop (i+1)=ar):declArs (xs.drop i) s=declArs (xs.drop (i+1)) (declA s ⟨a0,a1,a2⟩):=by
 rw[hd.1,hd.2];rfl
theorem declPrs_step {xs:List Prc} {i:Nat} {s:Cks} {a0 a1 a2 a3 ar} (hd:xs.drop i=(⟨a0,a1,a2,a3⟩:Prc)::ar∧xs.drop (i+1)=ar):declPrs (xs.drop i) s=declPrs (xs.drop (i+1)) (declC s a0.data.toList a3 (4,0)):=by
 rw[hd.1,hd.2];rfl

def npP:List Prc→Nat
 | []=>0
 |x::r=>x.params.length+1+npP r
theorem npP_step {xs:List Prc} {i:Nat} {a0 a1 a2 a3 ar} (hd:xs.drop i=(⟨a0,a1,a2,a3⟩:Prc)::ar∧xs.drop (i+1)=ar):npP (xs.drop i)=a1.length+1+npP (xs.drop (i+1)):=by
 rw[hd.1,hd.2];rfl
theorem npP_le {w:World} {S:Nat→Prop} {Z:Prop}:∀ {xs:List Prc} {b o:Nat},PrR w S Z xs b o→npP xs≤xs.length*140737488355329
 | [],_,_,_=>Nat.zero_le _
 |x::r,b,o,⟨_,⟨A,c,_,h⟩,_,hr⟩=>by
  have h1:=npP_le hr
  have h2:=h.2.1.2
  simp only[npP,List.length_cons]
  omega
abbrev prcS (x:Prc) (s:Cks):Cks:=procC x.nm.data.toList x.params x.body x.at_ s
theorem procsC_go {xs:List Prc} {i:Nat} {s:Cks} {a0 a1 a2 a3 ar} (hd:xs.drop i=(⟨a0,a1,a2,a3⟩:Prc)::ar∧xs.drop (i+1)=ar) (h:(prcS ⟨a0,a1,a2,a3⟩ s).2.2 =0):procsC (xs.drop i) s=procsC (xs.drop (i+1)) (prcS ⟨a0,a1,a2,a3⟩ s):=by
 rw[hd.1,hd.2]
 show(if _ then _ else _)=_
 rw[if_pos h]
theorem procsC_end {xs:List Prc} {i:Nat} {s:Cks} {a0 a1 a2 a3 ar} (hd:xs.drop i=(⟨a0,a1,a2,a3⟩:Prc)::ar∧xs.drop (i+1)=ar) (h:¬(prcS ⟨a0,a1,a2,a3⟩ s).2.2 =0):procsC (xs.drop i) s=(prcS ⟨a0,a1,a2,a3⟩ s,true):=by
 rw[hd.1]
 show(if _ then _ else _)=_
 rw[if_neg h]
def SzP (x:Prc):Prop:=x.nm.size≤9223372036854775807∧(∀y∈x.params,y.nm.size≤9223372036854775807)∧szS x.body
def CkQ (P b N:Nat) (q:Bool) (s:Cks) (W:World) (e:Ending) (w':World):Prop:=e= .returned (.bool q)∧CkN w' P b N s.1 s.2∧Fr (CkT P b) W w'
theorem ctree1_any (P b N C:Nat) (s:Cks) (x:Prc) (A1 A2:Option Addr) (q1 q2:Nat) (w:World) (S:Nat→Prop) (Z:Prop) (hc:CkN w P b N s.1 s.2) (hk:Bk w C 134 #[.pointer (some ⟨P,0,none⟩)]) (hC:¬CkT P b C) (hsz:SzP x)
  (hS:∀x,S x→x < w.heap.size∧¬CkT P b x) (hN:N+x.params.length+1 < maxLen) (s1:SlR (fun b o=>VaR w S Z x.params b o) x.params.length 24 A1 q1) (s2:SlR (fun b o=>StR w S Z x.body b o) x.body.len 128 A2 q2):
  Calls Tryz.prog 51 (#[.agg #[.string x.nm,.slice A1 x.params.length q1,.slice A2 x.body.len q2,.int .i64 x.at_]]++ #[.pointer (some ⟨C,0,none⟩)]) w
   (CkQ P b (N+x.params.length+1) ((prcS x s).2.2 != 0) (prcS x s) w):=by
 obtain⟨x0,x1,x2,x3⟩:=x
 simp only at hN s1 s2 ⊢
 have hfa:Fr NoT w (w.alloc (.cells #[.string x0,.slice A1 x1.length q1,.slice A2 x2.len q2,.int .i64 x3] 63)):=(Fr.refl _ _).alloc _
 have HC:=hdq (cproc_any P b N s.1 s.2 x0 x1 x2 x3 A1 A2 q1 q2 _ S Z (hc.fr0 hfa) hsz.1 hsz.2.1 hsz.2.2 (fun x hx=>⟨ltq (hS x hx).1 hfa.size,(hS x hx).2⟩) hN (s1.imp fun _ _ hx=>VaR.keep (hfa.same fun x hx=>⟨(hS x hx).1,id⟩) hx) (s2.imp fun _ _ hx=>StR.keep (hfa.same fun x hx=>⟨(hS x hx).1,id⟩) hx))
 obtain⟨⟨kn',at',e'⟩,hF⟩:=nmq (prcS ⟨x0,x1,x2,x3⟩ s)
 rw[←hF]
 have hF2:procC x0.data.toList x1 x2 x3 (s.1,s.2)=(kn',at',e'):=hF.symm
 rw[hF2]at HC
 have c0:=hk.cell 0
 have hl:=hk.lt
 simp only[getsL]at c0
 have HK:=hdq (hk.fr0 hfa)
 have HFA:=hdq (hfa.any:Fr (CkT P b) w _)
 have HNC:=hdq hC
 obtain⟨p,hp⟩:=nmq ((e' != 0))
 have hp2:=hp.symm
 simp only
 rw[hp2]
 clear hF hF2 hk hC hc hsz hS hN s1 s2 hfa hp
 go_enter Tryz.func51,Tryz.ntmps51
 go_wp2_with fail
 refine HC.out.mono ?_
 rintro _ w2 ⟨rfl,h2,hf2⟩
 have hk2:=HK.out.fr hf2 HNC.out
 have d0:=hk2.cell 0
 have hl2:=hk2.lt
 have hbx:=h2.box
 have p2:=hbx.cell 2
 have pl:=hbx.lt
 simp only[getsL]at d0 p2
 have HN:=hdq (aiq h2 (HFA.out.trans hf2))
 clear h2 hf2 hk2 hbx c0
 go_wp2_with fail
 go_ret
 exact⟨rfl,HN.out.1,HN.out.2⟩
theorem cidxP_any (P b N C:Nat) (s0:Cks) (xs:List Prc) (A:Option Addr) (c:Nat) (w:World) (S:Nat→Prop) (Z:Prop) (hc:CkN w P b N s0.1 s0.2) (hk:Bk w C 134 #[.pointer (some ⟨P,0,none⟩)]) (hC:¬CkT P b C) (hsz:∀x∈xs,SzP x)
  (hS:∀x,S x→x < w.heap.size∧¬CkT P b x) (hN:N+npP xs < maxLen) (hx:SlR (fun b o=>PrR w S Z xs b o) xs.length 72 A c):
  Calls Tryz.prog 100 #[.slice A xs.length c,.func (.func 51) #[] #[.pointer (some ⟨C,0,none⟩)]] w fun e w'=>
   ∃n:Int,decide (0≤n)=(procsC xs s0).2 ∧e= .returned (.int .i64 n)∧CkN w' P b (N+npP xs) (procsC xs s0).1.1 (procsC xs s0).1.2 ∧Fr (CkT P b) w w':=by
 have hl:xs.length≤9223372036854775807:=leq9 hx.1 hx.2.1.1
 have hent:Enters Tryz.prog 51:=enters_of Tryz.func51 (by kernel_rfl) rfl
 obtain⟨⟨F1,F2⟩,hF⟩:=nmq (procsC xs s0)
 rw[←hF]
 simp only
 have HF:=hdq hF
 have HX:=hdq hx
 have HS:=hdq hS
 have HC:=hdq hc
 have HK:=hdq hk
 have HNC:=hdq hC
 have HSZ:=hdq hsz
 have HN:=hdq hN
 obtain⟨m,hm⟩:=nmq xs.length
 rw[←hm]at hl ⊢
 have HM:=hdq hm
 clear hF hx hS hc hk hC hsz hN hm
 unfold Enters at hent
 go_enter Tryz.func100,Tryz.ntmps100
 go_wp2_with fail
 go_loopw [8] (fun i wr=>∃(k N':Nat) (s:Cks),k≤m∧i= .int .i64 k∧Hid (Fr (CkT P b) w wr)∧Hid (CkN wr P b N' s.1 s.2)∧Hid (N'+npP (xs.drop k)=N+npP xs)∧Hid ((F1,F2)=procsC (xs.drop k) s)) (fun i _=>m - (intOf i).toNat)
 case atStart=>exact⟨0,N,s0,Nat.zero_le _,rfl,Fr.refl _ _,HC.out,rfl,HF.out⟩
 case round=>
  obtain⟨k,N',s,hk,rfl,hb,hcn,hn,hall⟩:=hrel
  by_cases hlt:k < m
  ·obtain⟨⟨a0,a1,a2,a3⟩,ar,hd⟩:=drop_head1 (show k < xs.length from by rw[←HM.out];exact hlt)
   obtain⟨B,o,rfl,hat⟩:=HX.out.2.2 (by rw[←HM.out];omega)
   have hat1:=(PrR.keep (hb.out.same fun b hb=>HS.out b hb) hat).drop k
   rw[hd.1]at hat1
   obtain⟨⟨hbS,_,_,c0,c3⟩,⟨A1,q1,c1,s1⟩,⟨A2,q2,c2,s2⟩,_⟩:=hat1
   have hxr:B < wr.heap.size:=ltq (HS.out _ hbS).1 hb.out.size
   have hlt':(k:Int) < (m:Int):=by omega
   have hge:(0:Int)≤(k:Int):=by omega
   simp only at c0 c1 c2 c3 s1 s2
   have hns:=npP_step hd
   have hno:=hn.out
   have hNo:=HN.out
   have HCL:=hdq (ctree1_any P b N' C s ⟨a0,a1,a2,a3⟩ A1 A2 q1 q2 wr S Z hcn.out (HK.out.fr hb.out HNC.out) HNC.out (HSZ.out _ (mem_drop1 hd.1)) (fun x hx=>⟨ltq (HS.out x hx).1 hb.out.size,(HS.out x hx).2⟩) (by simp only;omega) s1 s2)
   have hN2:N'+a1.length+1+npP (xs.drop (k+1))=N+npP xs:=by omega
   have HN2:=hdq hN2
   obtain⟨s',hs'⟩:=nmq (prcS ⟨a0,a1,a2,a3⟩ s)
   rw[←hs']at HCL
   have HGO:=hdq (fun(h:s'.2.2=0)=>hall.out.trans ((procsC_go hd (hs'▸h)).trans (by rw[←hs'])))
   have HEND:=hdq (fun(h:¬s'.2.2=0)=>hall.out.trans ((procsC_end hd (hs'▸h)).trans (by rw[←hs'])))
   have HB:=hdq hb.out
   simp only at HCL
   clear hd hat hall hb hbS s1 s2 hcn hn hno hNo hns hs' hN2
   obtain⟨kn',at',e'⟩:=s'
   simp only at HCL HGO HEND
   obtain⟨p,hp⟩:=nmq ((e' != 0))
   rw[←hp]at HCL
   have HP:=hdq hp
   clear hp
   go_wp2_with fail
   refine HCL.out.mono ?_
   rintro _ w1 ⟨rfl,h1,hf1⟩
   have HB1:=hdq (HB.out.trans hf1)
   have H1:=hdq h1
   clear h1 hf1 c0 c1 c2 c3
   cases p
   ·have he:e'=0:=by have:=HP.out;simpa using this
    have HST:=hdq (HGO.out he)
    clear he
    go_wp2_with fail
    go_roundw
    case rel=>exact⟨k+1,N'+a1.length+1,(kn',at',e'),by omega,by go_num,HB1.out,H1.out,HN2.out,HST.out⟩
    case measure=>simp[intOf];omega
   ·have he:¬e'=0:=by have:=HP.out;simpa using this
    have HST:=hdq (HEND.out he)
    clear he
    go_wp2_with fail
    go_ret
    obtain⟨f1,f2⟩:=Prod.mk.inj HST.out
    refine⟨k,by rw[f2];simp,rfl,?_,HB1.out⟩
    rw[f1]
    exact H1.out.mono (by have:=HN2.out;omega)
  ·have hz:procsC (xs.drop k) s=(s,false):=by rw[List.drop_eq_nil_of_le (by rw[←HM.out];omega)];rfl
   have HST:=hdq (hall.out.trans hz)
   have HB:=hdq hb.out
   have HCN:=hdq hcn.out
   have HNN:=hdq hn.out
   clear hall hb hcn hn hz
   go_wp2_with fail
   go_ret
   obtain⟨f1,f2⟩:=Prod.mk.inj HST.out
   refine⟨-1,by rw[f2];simp,rfl,?_,HB.out⟩
   rw[f1]
   exact HCN.out.mono (by have:=HNN.out;omega)
theorem cconP_any (P b N C:Nat) (s0:Cks) (xs:List Prc) (A:Option Addr) (c:Nat) (w:World) (S:Nat→Prop) (Z:Prop) (hc:CkN w P b N s0.1 s0.2) (hk:Bk w C 134 #[.pointer (some ⟨P,0,none⟩)]) (hC:¬CkT P b C) (hsz:∀x∈xs,SzP x)
  (hS:∀x,S x→x < w.heap.size∧¬CkT P b x) (hN:N+npP xs < maxLen) (hx:SlR (fun b o=>PrR w S Z xs b o) xs.length 72 A c):
  Calls Tryz.prog 50 #[.slice A xs.length c,.func (.func 51) #[] #[.pointer (some ⟨C,0,none⟩)]] w
   (CkQ P b (N+npP xs) (procsC xs s0).2 (procsC xs s0).1 w):=by
 have HC:=hdq (cidxP_any P b N C s0 xs A c w S Z hc hk hC hsz hS hN hx)
 clear hc hk hC hsz hS hN hx
 go_enter Tryz.func50,Tryz.ntmps50
 go_wp2_with fail
 refine HC.out.mono ?_
 rintro e w1 ⟨n,hn,rfl,h1,hf1⟩
 have HN:=hdq hn
 have H1:=hdq (aiq h1 hf1)
 clear hn h1 hf1
 go_wp2_with fail
 go_ret
 exact⟨by rw[←HN.out];rfl,H1.out⟩

def AtE (p:Int×Int) (W:World) (e:Ending) (w':World):Prop:=e= .returned (.tuple #[.int .i64 p.1,.int .i64 p.2])∧Fr NoT W w'
theorem ctree_bad (t:Tre) (w:World) (S:Nat→Prop) (Z:Prop) (Av Aa Ap Am:Option Addr) (cv ca cp cm:Nat) (he:SpEnv w) (hS:∀b,S b→b < w.heap.size) (hsz:SzT t) (hx:TrR w S Z t Av Aa Ap Am cv ca cp cm) (ht:okTr t=false):
  Calls Tryz.prog 22 #[trV t Av Aa Ap Am cv ca cp cm] w (AtE (0,8) w):=by
 have hf1:Fr NoT w (w.alloc (.cells #[.slice Av t.vars.length cv,.slice Aa t.arrays.length ca,.slice Ap t.procs.length cp,.slice Am t.main.len cm] 27)):=(Fr.refl _ _).alloc _
 have h1:=pcheck_any t _ S Z Av Aa Ap Am cv ca cp cm (he.keep hf1.plain) (fun b hb=>ltq (hS b hb) hf1.size) hsz (hx.keep (hf1.same fun b hb=>⟨hS b hb,id⟩))
 rw[ht]at h1
 have H1:=hdq h1
 have HF1:=hdq hf1
 unfold trV at H1 ⊢
 clear hf1 h1 hx hsz hS he ht
 go_enter Tryz.func22,Tryz.ntmps22
 go_wp2_with fail
 refine H1.out.mono ?_
 rintro _ w1 ⟨rfl,hb⟩
 have HB:=hdq (HF1.out.trans hb)
 clear hb
 simp only[Bool.false_eq_true,if_false]
 go_wp2_with fail
 go_ret2
 exact⟨rfl,HB.out⟩
theorem ctree_many (t:Tre) (w:World) (S:Nat→Prop) (Z:Prop) (Av Aa Ap Am:Option Addr) (cv ca cp cm:Nat) (he:SpEnv w) (hS:∀b,S b→b < w.heap.size) (hsz:SzT t) (hx:TrR w S Z t Av Aa Ap Am cv ca cp cm) (ht:okTr t=true) (hf:fewT t=false):
  Calls Tryz.prog 22 #[trV t Av Aa Ap Am cv ca cp cm] w (AtE (0,4) w):=by
 have hf1:Fr NoT w (w.alloc (.cells #[.slice Av t.vars.length cv,.slice Aa t.arrays.length ca,.slice Ap t.procs.length cp,.slice Am t.main.len cm] 27)):=(Fr.refl _ _).alloc _
 have h1:=pcheck_any t _ S Z Av Aa Ap Am cv ca cp cm (he.keep hf1.plain) (fun b hb=>ltq (hS b hb) hf1.size) hsz (hx.keep (hf1.same fun b hb=>⟨hS b hb,id⟩))
 rw[ht]at h1
 have H1:=hdq h1
 have HF1:=hdq hf1
 have HK1:=hdq (Bk.new w 27 #[.slice Av t.vars.length cv,.slice Aa t.arrays.length ca,.slice Ap t.procs.length cp,.slice Am t.main.len cm])
 have l1:t.vars.length≤9223372036854775807:=leq9 hx.vars.1 hx.vars.2.1.1
 have l2:t.arrays.length≤9223372036854775807:=leq9 hx.arrays.1 hx.arrays.2.1.1
 have l3:t.procs.length≤9223372036854775807:=leq9 hx.procs.1 hx.procs.2.1.1
 unfold fewT at hf
 unfold trV at H1 ⊢
 obtain⟨n1,hn1⟩:=nmq t.vars.length
 obtain⟨n2,hn2⟩:=nmq t.arrays.length
 obtain⟨n3,hn3⟩:=nmq t.procs.length
 rw[←hn1]at hf l1 H1 HF1 HK1 ⊢
 rw[←hn2]at hf l2 H1 HF1 HK1 ⊢
 rw[←hn3]at hf l3 H1 HF1 HK1 ⊢
 have hcase:12 < n1∨(n1≤12∧4 < n2)∨(n1≤12∧n2≤4∧8 < n3):=by
  simp only[Bool.and_eq_false_iff,decide_eq_false_iff_not]at hf
  omega
 clear hf1 h1 hx hsz hS he ht hf hn1 hn2 hn3
 have hcase2:(decide ((12:Int) < n1)=true)∨(decide ((12:Int) < n1)=false∧decide ((4:Int) < n2)=true)∨(decide ((12:Int) < n1)=false∧decide ((4:Int) < n2)=false∧decide ((8:Int) < n3)=true):=by
  simp only[decide_eq_true_eq,decide_eq_false_iff_not]
  omega
 clear hcase
 rcases hcase2 with e1|⟨e1,e2⟩|⟨e1,e2,e3⟩
 all_goals
  go_enter Tryz.func22,Tryz.ntmps22
  go_wp2_with fail
  refine H1.out.mono ?_
  rintro _ w1 ⟨rfl,hb⟩
  have HB:=hdq (HF1.out.trans hb)
  obtain⟨x0,x1,x2,x3,hl1⟩:=bk4 (HK1.out.fr0 hb)
  clear hb
  simp only[if_true]
  go_wp2_with fail
  go_ret2
  exact⟨rfl,HB.out⟩
theorem CkN.made (w:World):CkN (((w.alloc (.map #[] 0)).alloc (.cells #[.map (some w.heap.size),.int .i64 0,.int .i64 0] 137)).alloc (.cells #[.pointer (some ⟨w.heap.size+1,0,none⟩)] 134)) (w.heap.size+1) w.heap.size 0 (fun _=>none) (0,0):=by
 have h1:=KnM.made w
 have hf:Fr NoT (w.alloc (.map #[] 0)) (((w.alloc (.map #[] 0)).alloc (.cells #[.map (some w.heap.size),.int .i64 0,.int .i64 0] 137)).alloc (.cells #[.pointer (some ⟨w.heap.size+1,0,none⟩)] 134)):=((Fr.refl _ _).alloc _).alloc _
 exact⟨0,lrq _,⟨(Bk.new_at _ _ _ (by simp)).alloc _,h1.fr hf id,by omega⟩⟩
def ConPr (xs:List Prc):Prop:=∀(P b N C:Nat) (s0:Cks) (A:Option Addr) (c:Nat) (w:World) (S:Nat→Prop) (Z:Prop),CkN w P b N s0.1 s0.2→Bk w C 134 #[.pointer (some ⟨P,0,none⟩)]→¬CkT P b C→(∀x∈xs,SzP x)→
  (∀x,S x→x < w.heap.size∧¬CkT P b x)→N+npP xs < maxLen→SlR (fun b o=>PrR w S Z xs b o) xs.length 72 A c→
  Calls Tryz.prog 50 #[.slice A xs.length c,.func (.func 51) #[] #[.pointer (some ⟨C,0,none⟩)]] w (CkQ P b (N+npP xs) (procsC xs s0).2 (procsC xs s0).1 w)
theorem ctree_few (t:Tre) (w:World) (S:Nat→Prop) (Z:Prop) (Av Aa Ap Am:Option Addr) (cv ca cp cm:Nat) (hS:∀b,S b→b < w.heap.size) (hsz:SzT t) (hx:TrR w S Z t Av Aa Ap Am cv ca cp cm) (ht:okTr t=true) (hf:fewT t=true) (hpc:∀W,Fr NoT w W→Calls Tryz.prog 47 #[trV t Av Aa Ap Am cv ca cp cm] W (ErrI 0 W)) (hcon:ConPr t.procs):
  Calls Tryz.prog 22 #[trV t Av Aa Ap Am cv ca cp cm] w (AtE (treeC t) w):=by
 have hT:treeC t=if(procsC t.procs (declT t)).2 then(procsC t.procs (declT t)).1.2 else stmtsC (procsC t.procs (declT t)).1.1 t.main (procsC t.procs (declT t)).1.2 :=by
  unfold treeC;rw[if_pos ht,if_pos hf]
 unfold declT at hT
 obtain⟨⟨F1,F2⟩,hF⟩:=nmq (treeC t)
 rw[←hF]at hT ⊢
 have hf1:Fr NoT w (w.alloc (.cells #[.slice Av t.vars.length cv,.slice Aa t.arrays.length ca,.slice Ap t.procs.length cp,.slice Am t.main.len cm] 27)):=(Fr.refl _ _).alloc _
 have h1:=hpc _ hf1
 have H1:=hdq h1
 have HF1:=hdq hf1
 have HK1:=hdq (Bk.new w 27 #[.slice Av t.vars.length cv,.slice Aa t.arrays.length ca,.slice Ap t.procs.length cp,.slice Am t.main.len cm])
 have hfw:=fewT_few hf
 have hnp:npP t.procs≤1125899906842632:=by
  by_cases h0:t.procs.length=0
  ·have:t.procs= []:=List.eq_nil_of_length_eq_zero h0
   rw[this];exact Nat.zero_le _
  ·obtain⟨b,o,_,h2⟩:=hx.procs.2.2 (by omega)
   exact leq9 (npP_le h2) (Nat.mul_le_mul_right _ hfw.2.2)
 unfold trV at H1 ⊢
 have HX:=hdq hx
 have HS:=hdq hS
 have HSZ:=hdq hsz
 have HT:=hdq hT
 have HCP:=hdq hcon
 obtain⟨n1,hn1⟩:=nmq t.vars.length
 obtain⟨n2,hn2⟩:=nmq t.arrays.length
 obtain⟨n3,hn3⟩:=nmq t.procs.length
 obtain⟨n4,hn4⟩:=nmq t.main.len
 obtain⟨np,hnpe⟩:=nmq (npP t.procs)
 rw[←hnpe]at hnp
 rw[←hn1]at hfw H1 HF1 HK1 ⊢
 rw[←hn2]at hfw H1 HF1 HK1 ⊢
 rw[←hn3]at hfw H1 HF1 HK1 ⊢
 rw[←hn4]at H1 HF1 HK1 ⊢
 have HN1:=hdq hn1
 have HN2:=hdq hn2
 have HN3:=hdq hn3
 have HN4:=hdq hn4
 have HNP:=hdq hnpe
 obtain⟨q1,q2,q3⟩:=hfw
 have e1:decide ((12:Int) < n1)=false:=by simp;omega
 have e2:decide ((4:Int) < n2)=false:=by simp;omega
 have e3:decide ((8:Int) < n3)=false:=by simp;omega
 have hmm:= @run_makeMap Tryz.prog
 have hmf:= @makeF Tryz.prog
 have hent:Enters Tryz.prog 101:=enters_of Tryz.func101 (by kernel_rfl) rfl
 unfold Enters at hent
 have HW0:=hdq (rfl:w.heap.size=w.heap.size)
 clear hf1 h1 hx hsz hS ht hf hpc hcon hn1 hn2 hn3 hn4 hnpe hT hF
 go_enter Tryz.func22,Tryz.ntmps22
 go_wp2_with fail
 refine H1.out.mono ?_
 rintro _ w1 ⟨rfl,hb⟩
 have hk1:=HK1.out.fr0 hb
 obtain⟨b,hbb⟩:=nmq w1.heap.size
 obtain⟨w4,hw4⟩:=nmq (((w1.alloc (.map #[] 0)).alloc (.cells #[.map (some w1.heap.size),.int .i64 0,.int .i64 0] 137)).alloc (.cells #[.pointer (some ⟨w1.heap.size+1,0,none⟩)] 134))
 have hf4:Fr NoT w1 w4:=by rw[hw4];exact(((Fr.refl _ _).alloc _).alloc _).alloc _
 have hc4:CkN w4 (w1.heap.size+1) w1.heap.size 0 (fun _=>none) (0,0):=by rw[hw4];exact CkN.made w1
 have hC4:Bk w4 (w1.heap.size+1+1) 134 #[.pointer (some ⟨w1.heap.size+1,0,none⟩)]:=by rw[hw4];exact Bk.new_at _ _ _ (by simp)
 obtain⟨x0,x1,x2,x3,hl1⟩:=bk4 hk1
 have HF4:=hdq ((HF1.out.trans hb).trans hf4)
 have HK4:=hdq (hk1.fr0 hf4)
 have HW4:=hdq hw4
 have HC4:=hdq hc4
 have HB4:=hdq hC4
 have HX4:=hdq (HX.out.keep (HF4.out.same fun b hb=>⟨HS.out b hb,id⟩))
 have HS4:=hdq (show ∀x,S x→x < w4.heap.size∧¬CkT (w1.heap.size+1) w1.heap.size x from fun x hx=>⟨ltq (HS.out x hx) HF4.out.size,fun e=>by
  have h1:=HS.out x hx
  have h2:=(HF1.out.trans hb).size
  rcases e with e|e<;>omega⟩)
 have HNB:=hdq (show ¬CkT (w1.heap.size+1) w1.heap.size w.heap.size from fun e=>by rcases e with e|e<;>omega)
 have HNC:=hdq (show ¬CkT (w1.heap.size+1) w1.heap.size (w1.heap.size+1+1)from fun e=>by rcases e with e|e<;>omega)
 have HHI:=hdq (show ∀W,Fr (CkT (w1.heap.size+1) w1.heap.size) w4 W→Fr NoT w W from fun W h=>by
  have h2:=(HF1.out.trans hb).size
  exact⟨h.os.trans HF4.out.os,h.tape.trans HF4.out.tape,h.output.trans HF4.out.output,leq9 HF4.out.size h.size,fun i hi _=>(h.block i (ltq hi HF4.out.size) (fun e=>by rcases e with e|e<;>omega)).trans (HF4.out.block i hi id)⟩)
 have m0:=HK4.out.cell 0
 rw[hw4]at m0
 simp only[getsL]at m0
 clear hb hk1 hw4 hf4 hc4 hC4
 have HBB:=hdq hbb
 clear hbb
 simp only[if_true]
 go_wp2_with fail
 rw[←HW4.out]
 have hbb:=HBB.out
 rw[←hbb]at HC4 HB4 HS4 HNB HNC HHI ⊢
 clear hbb
 clear m0 x0 x1 x2 x3 hl1 H1 HF1 HK1 HBB
 go_loopw [38] (fun i wr=>∃(k:Nat) (s:Cks),k≤n1∧i= .int .i64 k∧Hid (Fr (CkT (b+1) b) w4 wr)∧Hid (CkN wr (b+1) b k s.1 s.2)∧Hid (declVs (1,0) t.vars (fun _=>none,(0,0))=declVs (1,0) (t.vars.drop k) s)) (fun i _=>n1 - (intOf i).toNat)
 case atStart=>exact⟨0,(fun _=>none,(0,0)),Nat.zero_le _,rfl,Fr.refl _ _,HC4.out,rfl⟩
 case round=>
  obtain⟨k,s,hk,rfl,hb,hcn,hall⟩:=hrel
  have hkc:=HB4.out.fr hb.out HNC.out
  have d0:=hkc.cell 0
  have dl:=hkc.lt
  simp only[getsL]at d0
  clear hkc
  by_cases hlt:k < n1
  ·obtain⟨⟨a0,a1⟩,ar,hd⟩:=drop_head1 (show k < t.vars.length from by rw[←HN1.out];exact hlt)
   obtain⟨B,o,rfl,hat⟩:=HX4.out.vars.2.2 (by rw[←HN1.out];omega)
   have hat1:=(VaR.keep (hb.out.same fun x hx=>HS4.out x hx) hat).drop k
   rw[hd.1]at hat1
   obtain⟨⟨hbS,_,r1,c0,c1⟩,_⟩:=hat1
   have hxr:B < wr.heap.size:=ltq (HS4.out _ hbS).1 hb.out.size
   have hlt':(k:Int) < (n1:Int):=by omega
   have hge:(0:Int)≤(k:Int):=by omega
   simp only at c0 c1
   have hf2:Fr NoT wr (wr.alloc (.cells #[.string a0,.int .i64 a1] 77)):=(Fr.refl _ _).alloc _
   have hd0:=cdeclare_any (b+1) b k s.1 s.2 a0 a1 (1,0) _ (hcn.out.fr0 hf2) (HSZ.out.vars _ (mem_drop1 hd.1)) (by unfold maxLen;omega)
   unfold thV at hd0
   simp only at hd0
   have HD:=hdq hd0
   have HST:=hdq (hall.out.trans (declVs_step hd))
   have HB:=hdq (hb.out.trans (hf2.any:Fr (CkT (b+1) b) wr _))
   clear hd hat hall hb hbS hcn hf2 hd0
   go_wp2_with fail
   refine HD.out.mono ?_
   rintro _ w3 ⟨rfl,h3,hf3⟩
   have HN3:=hdq (aiq h3 (HB.out.trans hf3))
   clear h3 hf3 c0 c1
   go_wp2_with fail
   go_roundw
   case rel=>exact⟨k+1,declC s a0.data.toList a1 (1,0),by omega,by go_num,HN3.out.2,HN3.out.1,HST.out⟩
   case measure=>simp[intOf];omega
  ·obtain rfl:k=n1:=by omega
   have hall1:declVs (1,0) t.vars (fun _=>none,(0,0))=s:=by rw[hall.out,List.drop_eq_nil_of_le (by rw[←HN1.out];omega)];rfl
   have HS1:=hdq hall1
   have hlt':¬(k:Int) < (k:Int):=by omega
   obtain⟨x0,x1,x2,x3,hl1⟩:=bk4 (HK4.out.fr hb.out HNB.out)
   have HB:=hdq hb.out
   have HCN:=hdq hcn.out
   clear hall hall1 hb hcn d0 dl
   go_wp2_with fail
   clear x0 x1 x2 x3 hl1
   obtain⟨wo,rfl⟩:∃wo:World,wo=wr:=⟨_,rfl⟩
   go_loopw [53] (fun i wr=>∃(j:Nat) (sj:Cks),j≤n2∧i= .int .i64 j∧Hid (Fr (CkT (b+1) b) w4 wr)∧Hid (CkN wr (b+1) b (k+j) sj.1 sj.2)∧Hid (declArs t.arrays s=declArs (t.arrays.drop j) sj)) (fun i _=>n2 - (intOf i).toNat)
   case atStart=>exact⟨0,s,Nat.zero_le _,rfl,HB.out,HCN.out,rfl⟩
   case round=>
    clear HB HCN
    obtain⟨j,sj,hj,rfl,hb,hcn,hall⟩:=hrel
    have hkc:=HB4.out.fr hb.out HNC.out
    have d0:=hkc.cell 0
    have dl:=hkc.lt
    simp only[getsL]at d0
    clear hkc
    by_cases hlt:j < n2
    ·obtain⟨⟨a0,a1,a2⟩,ar,hd⟩:=drop_head1 (show j < t.arrays.length from by rw[←HN2.out];exact hlt)
     obtain⟨B,o,rfl,hat⟩:=HX4.out.arrays.2.2 (by rw[←HN2.out];omega)
     have hat1:=(ArR.keep (hb.out.same fun x hx=>HS4.out x hx) hat).drop j
     rw[hd.1]at hat1
     obtain⟨⟨hbS,_,r1,r2,c0,c1,c2⟩,_⟩:=hat1
     have hxr:B < wr.heap.size:=ltq (HS4.out _ hbS).1 hb.out.size
     have hltj:(j:Int) < (n2:Int):=by omega
     have hgej:(0:Int)≤(j:Int):=by omega
     simp only at c0 c1 c2
     obtain⟨w2,hw2⟩:=nmq (wr.alloc (.cells #[.string a0,.int .i64 a1,.int .i64 a2] 61))
     have hf2:Fr NoT wr w2:=by rw[hw2];exact(Fr.refl _ _).alloc _
     have hk2:Bk w2 wr.heap.size 61 #[.string a0,.int .i64 a1,.int .i64 a2]:=by rw[hw2];exact Bk.new _ _ _
     have hd0:=cdeclare_any (b+1) b (k+j) sj.1 sj.2 a0 a2 (2,0) w2 (hcn.out.fr0 hf2) (HSZ.out.arrays _ (mem_drop1 hd.1)) (by unfold maxLen;omega)
     unfold thV at hd0
     simp only at hd0
     have hnl:=hcn.out.lt
     have HNR:=hdq (show ¬CkT (b+1) b wr.heap.size from fun e=>by rcases e with e|e<;>omega)
     have HD:=hdq hd0
     have HST:=hdq (hall.out.trans (declArs_step hd))
     have HB:=hdq (hb.out.trans (hf2.any:Fr (CkT (b+1) b) wr _))
     have HK2:=hdq hk2
     have HW2:=hdq hw2
     obtain⟨p1,hp1⟩:=nmq (decide ((1:Int)≤a1))
     obtain⟨p2,hp2⟩:=nmq (decide (a1≤(16:Int)))
     have HP:=hdq (show declA sj ⟨a0,a1,a2⟩=((declC sj a0.data.toList a2 (2,0)).1,askC (declC sj a0.data.toList a2 (2,0)).2 (p1&&p2) (a2,113))from by rw[hp1,hp2];rfl)
     have g1:=hp1.symm
     have g2:=hp2.symm
     clear hd hat hall hb hbS hcn hf2 hd0 hk2 hw2 hp1 hp2 hnl
     cases p1
     all_goals cases p2
     all_goals
      go_wp2_with fail
      rw[←HW2.out]
      refine HD.out.mono ?_
      rintro _ w3 ⟨rfl,h3,hf3⟩
      have hk3:=HK2.out.fr hf3 HNR.out
      have y1:=hk3.cell 1
      have y2:=hk3.cell 2
      have yl:=hk3.lt
      have hkc:=HB4.out.fr (HB.out.trans hf3) HNC.out
      have d3:=hkc.cell 0
      have dl3:=hkc.lt
      simp only[getsL]at y1 y2 d3
      have HASK:=hdq (fun is=>caskN_any (b+1) b _ _ _ is a2 113 w3 h3)
      have HB3:=hdq (HB.out.trans hf3)
      clear h3 hf3 hk3 hkc c0 c1 c2 d0 dl hxr
      go_wp2_with fail
      refine(HASK.out _).mono ?_
      rintro _ w5 ⟨rfl,h5,hf5⟩
      have HN5:=hdq (aiq h5 (HB3.out.trans hf5))
      clear h5 hf5 y1 y2 d3
      go_wp2_with fail
      go_roundw
      case rel=>exact⟨j+1,declA sj ⟨a0,a1,a2⟩,by omega,by go_num,HN5.out.2,by rw[HP.out];exact HN5.out.1,HST.out⟩
      case measure=>simp[intOf];omega
    ·obtain rfl:j=n2:=by omega
     have hall1:declArs t.arrays s=sj:=by rw[hall.out,List.drop_eq_nil_of_le (by rw[←HN2.out];omega)];rfl
     have HS2:=hdq hall1
     have hltj:¬(j:Int) < (j:Int):=by omega
     obtain⟨x0,x1,x2,x3,hl1⟩:=bk4 (HK4.out.fr hb.out HNB.out)
     have HB:=hdq hb.out
     have HCN:=hdq hcn.out
     clear hall hall1 hb hcn d0 dl
     go_wp2_with fail
     clear x0 x1 x2 x3 hl1
     obtain⟨wq,rfl⟩:∃wq:World,wq=wr:=⟨_,rfl⟩
     go_loopw [80] (fun i wr=>∃(l:Nat) (sl:Cks),l≤n3∧i= .int .i64 l∧Hid (Fr (CkT (b+1) b) w4 wr)∧Hid (CkN wr (b+1) b (k+j+l) sl.1 sl.2)∧Hid (declPrs t.procs sj=declPrs (t.procs.drop l) sl)) (fun i _=>n3 - (intOf i).toNat)
     case atStart=>exact⟨0,sj,Nat.zero_le _,rfl,HB.out,HCN.out,rfl⟩
     case round=>
      clear HB HCN
      obtain⟨l,sl,hl,rfl,hb,hcn,hall⟩:=hrel
      have hkc:=HB4.out.fr hb.out HNC.out
      have d0:=hkc.cell 0
      have dl:=hkc.lt
      simp only[getsL]at d0
      have HKC:=hdq hkc
      clear hkc
      by_cases hlt:l < n3
      ·obtain⟨⟨a0,a1,a2,a3⟩,ar,hd⟩:=drop_head1 (show l < t.procs.length from by rw[←HN3.out];exact hlt)
       obtain⟨B,o,rfl,hat⟩:=HX4.out.procs.2.2 (by rw[←HN3.out];omega)
       have hat1:=(PrR.keep (hb.out.same fun x hx=>HS4.out x hx) hat).drop l
       rw[hd.1]at hat1
       obtain⟨⟨hbS,_,r1,c0,c3⟩,⟨A1,q1,c1,_⟩,⟨A2,q2,c2,_⟩,_⟩:=hat1
       have hxr:B < wr.heap.size:=ltq (HS4.out _ hbS).1 hb.out.size
       have hltl:(l:Int) < (n3:Int):=by omega
       have hgel:(0:Int)≤(l:Int):=by omega
       simp only at c0 c1 c2 c3
       have hf2:Fr NoT wr (wr.alloc (.cells #[.string a0,.slice A1 a1.length q1,.slice A2 a2.len q2,.int .i64 a3] 63)):=(Fr.refl _ _).alloc _
       have hd0:=cdeclare_any (b+1) b (k+j+l) sl.1 sl.2 a0 a3 (4,0) _ (hcn.out.fr0 hf2) (HSZ.out.procs _ (mem_drop1 hd.1)).1 (by unfold maxLen;omega)
       unfold thV at hd0
       simp only at hd0
       have HD:=hdq hd0
       have HST:=hdq (hall.out.trans (declPrs_step hd))
       have HB:=hdq (hb.out.trans (hf2.any:Fr (CkT (b+1) b) wr _))
       clear hd hat hall hb hbS hcn hf2 hd0
       go_wp2_with fail
       refine HD.out.mono ?_
       rintro _ w3 ⟨rfl,h3,hf3⟩
       have HN3':=hdq (aiq h3 (HB.out.trans hf3))
       clear h3 hf3 c0 c1 c2 c3
       go_wp2_with fail
       go_roundw
       case rel=>exact⟨l+1,declC sl a0.data.toList a3 (4,0),by omega,by go_num,HN3'.out.2,HN3'.out.1,HST.out⟩
       case measure=>simp[intOf];omega
      ·obtain rfl:l=n3:=by omega
       have hall1:declPrs t.procs sj=sl:=by rw[hall.out,List.drop_eq_nil_of_le (by rw[←HN3.out];omega)];rfl
       have hltl:¬(l:Int) < (l:Int):=by omega
       obtain⟨x0,x1,x2,x3,hl1⟩:=bk4 (HK4.out.fr hb.out HNB.out)
       have hsw:∀W,Fr (CkT (b+1) b) w4 W→∀x,S x→x < W.heap.size∧¬CkT (b+1) b x:=fun W h x hx=>⟨ltq (HS4.out x hx).1 h.size,(HS4.out x hx).2⟩
       have hxw:∀W,Fr (CkT (b+1) b) w4 W→TrR W S Z t Av Aa Ap Am cv ca cp cm:=fun W h=>HX4.out.keep (h.same fun x hx=>HS4.out x hx)
       have HCON:=hdq (HCP.out (b+1) b (k+j+l) (b+1+1) sl Ap cp wr S Z hcn.out HKC.out HNC.out (fun x hx=>HSZ.out.procs x hx) (hsw _ hb.out) (by have:=HNP.out;unfold maxLen;omega) (hxw _ hb.out).procs)
       rw[←HN3.out]at HCON
       have HT2:=HT.out
       rw[HS1.out,HS2.out,hall1]at HT2
       obtain⟨⟨⟨kz,az,ez⟩,q⟩,hpz⟩:=nmq (procsC t.procs sl)
       rw[←hpz]at HT2 HCON
       simp only at HT2
       have HTZ:=hdq HT2
       have HSW:=hdq hsw
       have HXW:=hdq hxw
       have HB:=hdq hb.out
       obtain⟨NN,hNN⟩:=nmq (k+j+l+npP t.procs)
       rw[←hNN]at HCON
       clear hall hall1 hb hcn HT2 hpz hsw hxw HKC hNN
       go_wp2_with fail
       refine HCON.out.mono ?_
       rintro _ w5 ⟨rfl,h5,hf5⟩
       have hf45:=HB.out.trans hf5
       have hkc:=HB4.out.fr hf45 HNC.out
       have hkt:=HK4.out.fr hf45 HNB.out
       have HF45:=hdq hf45
       have H5:=hdq h5
       have HKC:=hdq hkc
       have HKT:=hdq hkt
       clear hf45 hkc hkt h5 hf5 x0 x1 x2 x3 hl1 d0 dl
       cases q
       ·have hTZ:=HTZ.out
        simp only[Bool.false_eq_true,if_false]at hTZ
        have hf2:Fr NoT w5 w5.drew:=(Fr.refl _ _).drew
        have HCW:=hdq (cwalkE_any (b+1) b w5.drew (H5.out.fr0 hf2).lt.1 (H5.out.fr0 hf2).lt.2)
        have hst:=fun(B1 B2:Nat) (W:World) (h:Fr NoT w5.drew W) (hw:WkAt W (b+1) b B1 B2)=>cstmts_any kz t.main HSZ.out.main (b+1) b NN B1 B2 (az,ez) W S Z Am cm ((H5.out.fr0 hf2).fr0 h) hw (HSW.out W (HF45.out.trans ((hf2.trans h).any))) (HXW.out W (HF45.out.trans ((hf2.trans h).any))).main
        rw[←hTZ,←HN4.out]at hst
        have HS3:=hdq hst
        have HFD:=hdq hf2
        have d5:=HKC.out.cell 0
        have dl5:=HKC.out.lt
        simp only[getsL]at d5
        obtain⟨x0,x1,x2,x3,hl1⟩:=bk4 HKT.out
        clear hTZ hst hf2
        go_wp2_with fail
        go_region_law
         (first
          |(go_simp
            go_at_call 53
            with_reducible refine HCW.out.mono ?_
            rintro _ w6 ⟨B1,B2,rfl,hw6,hf6⟩
            have hkt6:=(HKT.out.fr0 HFD.out).fr0 hf6
            have g3:=hkt6.cell 3
            have gl:=hkt6.lt
            simp only[getsL]at g3
            have HC6:=hdq (HS3.out B1 B2 w6 hf6 hw6)
            have HF6:=hdq (HFD.out.trans hf6)
            clear hw6 hf6 hkt6
            dsimp only)
          |(go_simp
            go_at_call 101
            with_reducible refine HC6.out.mono ?_
            rintro _ w7 ⟨rfl,h7,hf7⟩
            have HC7:=hdq h7
            have HF7:=hdq (HF45.out.trans ((HF6.out.any:Fr (CkT (b+1) b) w5 _).trans hf7))
            clear h7 hf7
            dsimp only))
        all_goals
         have hkc7:=HB4.out.fr HF7.out HNC.out
         have d7:=hkc7.cell 0
         have dl7:=hkc7.lt
         have hbx:=HC7.out.box
         have p1:=hbx.cell 1
         have p2:=hbx.cell 2
         have pl:=hbx.lt
         simp only[getsL]at d7 p1 p2
         clear hkc7 hbx d5 dl5 x0 x1 x2 x3 hl1
         try clear g3 gl
         go_wp2_with fail
         go_quiet (fail)
         go_wp2_with fail
         go_ret2
         exact⟨rfl,(HHI.out _ HF7.out).drewN _⟩
       ·have hTZ:=HTZ.out
        simp only[if_true]at hTZ
        obtain⟨rfl,rfl⟩:=Prod.mk.inj hTZ
        have d5:=HKC.out.cell 0
        have dl5:=HKC.out.lt
        have hbx:=H5.out.box
        have p1:=hbx.cell 1
        have p2:=hbx.cell 2
        have pl:=hbx.lt
        simp only[getsL]at d5 p1 p2
        clear hTZ hbx
        go_wp2_with fail
        go_quiet (fail)
        go_wp2_with fail
        go_ret2
        exact⟨rfl,(HHI.out _ HF45.out).drewN _⟩
theorem ctree_any (t:Tre) (w:World) (S:Nat→Prop) (Z:Prop) (Av Aa Ap Am:Option Addr) (cv ca cp cm:Nat) (he:SpEnv w) (hS:∀b,S b→b < w.heap.size) (hsz:SzT t) (hx:TrR w S Z t Av Aa Ap Am cv ca cp cm):
  Calls Tryz.prog 22 #[trV t Av Aa Ap Am cv ca cp cm] w (AtE (treeC t) w):=by
 cases h1:okTr t with
 |false=>
  have h:=ctree_bad t w S Z Av Aa Ap Am cv ca cp cm he hS hsz hx h1
  have e:treeC t=(0,8):=by unfold treeC;rw[if_neg (by simp[h1])]
  rw[e];exact h
 |true=>
  cases h2:fewT t with
  |false=>
   have h:=ctree_many t w S Z Av Aa Ap Am cv ca cp cm he hS hsz hx h1 h2
   have e:treeC t=(0,4):=by unfold treeC;rw[if_pos h1,if_neg (by simp[h2])]
   rw[e];exact h
  |true=>
   refine ctree_few t w S Z Av Aa Ap Am cv ca cp cm hS hsz hx h1 h2 (fun W hf=>?_) fun P b N C s0 A c w S Z k0 k1 k2 k3 k4 k5 k6=>cconP_any P b N C s0 t.procs A c w S Z k0 k1 k2 k3 k4 k5 k6
   have h:=pcheck_any t W S Z Av Aa Ap Am cv ca cp cm (he.keep hf.plain) (fun b hb=>ltq (hS b hb) hf.size) hsz (hx.keep (hf.same fun b hb=>⟨hS b hb,id⟩))
   rw[h1]at h
   exact h
end Go.Proofs.YtfomomaomggpbaaGreatDoor
