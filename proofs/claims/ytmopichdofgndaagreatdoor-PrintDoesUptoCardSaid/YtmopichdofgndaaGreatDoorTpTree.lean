/-
  ref10: vars, Text, Print, Check. Printed by wip/gen_tp/mktree.py.
-/
import Derived.Test.YtmopichdofgndaaGreatDoorTpStmt
set_option linter.unusedVariables false
set_option linter.unusedSimpArgs false
set_option maxHeartbeats 6400000
set_option maxRecDepth 100000
namespace Go.Proofs.YtmopichdofgndaaGreatDoor
open Go.RowKit Go.Shelf

theorem tvars_any (vs:List Va) (o:ByteArray) (w:World) (S:Nat→Prop) (Z:Prop) (A:Option Addr) (c:Nat) (hS:∀x,S x→x < w.heap.size) (hx:SlR (VaR w S Z vs) vs.length 24 A c) (hlen:o.size+sumT (namT vs)≤140737488355328):
  Calls Tryz.prog 108 #[.string o,.slice A vs.length c] w fun e w'=>e= .returned (.string (putsA o (namT vs)))∧w'=w:=by
 have hl:vs.length≤9223372036854775807:=leq9 hx.1 hx.2.1.1
 unfold namT at hlen ⊢
 obtain⟨TS,hTS⟩:∃y:List Tx,y=vs.map fun v=> [v.nm.data.toList]:=⟨_,rfl⟩
 have hTL:TS.length=vs.length:=by rw[hTS,List.length_map]
 rw[←hTS]at hlen ⊢
 obtain⟨m,hm⟩:=nmq vs.length
 rw[←hm]at hl hTL ⊢
 have HX:=hdq hx
 have HS:=hdq hS
 have HM:=hdq hm
 have HTS:=hdq hTS
 have HTL:=hdq hTL
 have HR:=hdq hlen
 clear hx hS hm hTS hTL hlen
 go_enter Tryz.func108,Tryz.ntmps108
 go_wp2_with fail
 go_loop [0,5] (fun s i=>∃k:Nat,k≤m∧i= .int .i64 k∧s= .string (putsA o (betw (TS.take k)))) (fun _ i=>m - (intOf i).toNat)
 case atStart=>exact⟨0,Nat.zero_le _,rfl,rfl⟩
 case round=>
  obtain⟨k,hk,rfl,rfl⟩:=hrel
  by_cases hlt:k < m
  ·obtain⟨b,oo,rfl,hat⟩:=HX.out.2.2 (by rw[←HM.out];omega)
   have hd:=List.drop_eq_getElem_cons (show k < vs.length by rw[←HM.out];exact hlt)
   obtain⟨v,hv⟩:=nmq (vs[k]'(by rw[←HM.out];exact hlt))
   rw[←hv]at hd
   have hat1:=VaR.drop k hat
   rw[hd]at hat1
   obtain⟨⟨hbS,_,r0,d0,d1⟩,_⟩:=hat1
   have hxr:b < w.heap.size:=HS.out _ hbS
   have hlt':(k:Int) < (m:Int):=by omega
   have hge:(0:Int)≤(k:Int):=by omega
   have htk:TS[k]?=some [v.nm.data.toList]:=by
    rw[HTS.out,List.getElem?_map,List.getElem?_eq_getElem (by rw[←HM.out];exact hlt),←hv]
    rfl
   have hfn:=betw_next htk
   have hfs:=betw_sum htk
   have hsz2:o.size+sumT (betw (TS.take (k+1)))≤140737488355328:=leq9 (Nat.add_le_add_left hfs _) HR.out
   have hsz:=putsA_size (betw (TS.take k)) o
   clear hd hat hbS r0 hv htk hfs
   by_cases h0:k=0
   ·subst h0
    rw[if_pos rfl]at hfn
    rw[hfn]at hsz2
    have HN:=hdq (show putsA o (betw (TS.take (0+1)))=putA (putsA o (betw (TS.take 0))) v.nm by rw[hfn];rfl)
    have HR1:=hdq (one_room (o:=putsA o (betw (TS.take 0))) (t:=v.nm) (r:= []) (M:=140737488355328) hsz2 (by decide)).1
    have hz:¬(0:Int) < ((0:Nat):Int):=by decide
    simp only[Nat.zero_mul,Nat.add_zero]at d0 d1
    clear hfn hsz hsz2
    go_wp2_with fail
    refine(tput_any _ _ HR1.out _).mono ?_
    rintro _ _ ⟨rfl,rfl⟩
    go_wp2_with fail
    go_round
    case rel=>exact⟨0+1,by omega,by go_num,by rw[HN.out];rfl⟩
    case measure=>simp[intOf];omega
   ·rw[if_neg h0]at hfn
    rw[hfn,sumT_app,sumT_app]at hsz2
    have HN:=hdq (show putsA o (betw (TS.take (k+1)))=putA (putA (putsA o (betw (TS.take k))) ⟨#[44]⟩) v.nm by rw[hfn,putsA_app,putsA_app];rfl)
    have r8:=one_room (o:=putsA o (betw (TS.take k))) (t:=⟨#[44]⟩) (r:= [v.nm.data.toList]) (M:=140737488355328) (by show _+sumT ([[44]]++ [v.nm.data.toList])≤_;rw[sumT_app];omega) (by decide)
    have r9:=one_room r8.2 (by decide)
    have HR1:=hdq (aiq r8.1 r9.1)
    have hz:(0:Int) < (k:Int):=by omega
    clear hfn hsz hsz2 r8 r9
    go_wp2_with fail
    refine(tput_any _ _ HR1.out.1 _).mono ?_
    rintro _ _ ⟨rfl,rfl⟩
    go_wp2_with fail
    refine(tput_any _ _ HR1.out.2 _).mono ?_
    rintro _ _ ⟨rfl,rfl⟩
    go_wp2_with fail
    go_round
    case rel=>exact⟨k+1,by omega,by go_num,by rw[HN.out]⟩
    case measure=>simp[intOf];omega
  ·have hlt':¬(k:Int) < (m:Int):=by omega
   have HT:=hdq (show TS.take k=TS from List.take_of_length_le (by rw[HTL.out];omega))
   rw[HT.out]
   go_wp2_with fail
   go_ret
   exact⟨rfl,rfl⟩
theorem prR_at {w:World} {S:Nat→Prop} {Z:Prop} {xs:List Prc} {b o k:Nat} {p:Prc} {r:List Prc} (h:PrR w S Z xs b o) (hd:xs.drop k=p::r):
  S b∧w.cell? ⟨b,o+k*4,none⟩=some (.string p.nm)∧(∃A c,w.cell? ⟨b,o+k*4+1,none⟩=some (.slice A p.params.length c)∧SlR (VaR w S Z p.params) p.params.length 24 A c)∧∃A c,w.cell? ⟨b,o+k*4+2,none⟩=some (.slice A p.body.len c)∧SlR (StR w S Z p.body) p.body.len 128 A c:=by
 have h1:=PrR.drop k h
 rw[hd]at h1
 obtain⟨⟨hb,_,_,c0,c3⟩,⟨A,c,c1,s1⟩,⟨A2,c2',c2,s2⟩,_⟩:=h1
 exact⟨hb,c0,⟨A,c,c1,s1⟩,A2,c2',c2,s2⟩
theorem flat_take {α:Type} {f:α→Tx} {l:List α} {k:Nat} {x:α} {r:List α} (hd:l.drop k=x::r):(l.take (k+1)).flatMap f=(l.take k).flatMap f++f x:=by
 have h2:l[k]?=some x:=by
  have:=congrArg List.head? hd
  rw[List.head?_drop]at this
  exact this
 rw[List.take_add_one,h2]
 simp
theorem flat_le {α:Type} {f:α→Tx}:∀(l:List α) (k:Nat),sumT ((l.take k).flatMap f)≤sumT (l.flatMap f)
 | [],k=>by simp
 |x::r,0=>by simp[sumT]
 |x::r,k+1=>by
  simp only[List.take_succ_cons,List.flatMap_cons,sumT_app]
  have:=flat_le (f:=f) r k
  omega
theorem ttext_any (t:Tre) (ht:okTr t=true) (w:World) (S:Nat→Prop) (Z:Prop) (Av Aa Ap Am:Option Addr) (cv ca cp cm:Nat) (he:TwEnv w) (hS:∀b,S b→b < w.heap.size) (hx:TrR w S Z t Av Aa Ap Am cv ca cp cm) (hlen:sumT (treT t)≤140737488355328):
  Calls Tryz.prog 43 #[trV t Av Aa Ap Am cv ca cp cm] w (TxP (putsA ⟨#[]⟩ (treT t)) w):=by
 simp only[okTr,Bool.and_eq_true]at ht
 obtain⟨⟨⟨o1,o2⟩,o3⟩,o4⟩:=ht
 have hin:∀x∈t.arrays,in64 x.size:=fun x hm=>by
  obtain⟨b,o,_,h⟩:=hx.arrays.2.2 (List.length_pos_iff.2 fun e=>by rw[e]at hm;simp at hm)
  have:∀ {l:List Arr} {b o:Nat},ArR w S Z l b o→x∈l→in64 x.size:=by
   intro l
   induction l with
   |nil=>intro b o _ h;simp at h
   |cons u r ih=>
    intro b o h hm
    rcases List.mem_cons.1 hm with rfl|hm
    ·exact h.1.2.2.1
    ·exact ih h.2 hm
  exact this h hm
 unfold treT at hlen ⊢
 have r0:(⟨#[]⟩:ByteArray).size +sumT (varsT t.vars++(arrsT t.arrays++(t.procs.flatMap prcT++ [109,97,105,110]::blkT (txS t.main))))≤140737488355328:=by
  show 0+_≤_
  omega
 have r1:=putsA_room r0
 have r2:=putsA_room r1
 have r3:=putsA_room r2
 have r4:=one_room (t:=⟨#[109,97,105,110]⟩) r3 (by decide)
 obtain⟨X,hX⟩:=nmq (putsA ⟨#[]⟩ (varsT t.vars))
 rw[←hX]at r1 r2 r3 r4
 obtain⟨Y,hY⟩:=nmq (putsA X (arrsT t.arrays))
 rw[←hY]at r2 r3 r4
 have HR:=hdq (aiq (show(⟨#[]⟩:ByteArray).size +sumT (varsT t.vars)≤140737488355328 by rw[sumT_app]at r0;omega) (aiq (show X.size+sumT (arrsT t.arrays)≤140737488355328 by rw[sumT_app]at r1;omega) (aiq (show Y.size+sumT (t.procs.flatMap prcT)≤140737488355328 by rw[sumT_app]at r2;omega) r4)))
 have HXY:=hdq (aiq hX hY)
 have HE0:=hdq (show putsA ⟨#[]⟩ (varsT t.vars++(arrsT t.arrays++(t.procs.flatMap prcT++ [109,97,105,110]::blkT (txS t.main))))=putsA (putA (putsA Y (t.procs.flatMap prcT)) ⟨#[109,97,105,110]⟩) (blkT (txS t.main)) by
  rw[putsA_app,putsA_app,putsA_app,putsA_cons,←hX,←hY]
  rfl)
 rw[HE0.out]
 obtain⟨n1,hn1⟩:=nmq t.vars.length
 obtain⟨n2,hn2⟩:=nmq t.arrays.length
 obtain⟨n3,hn3⟩:=nmq t.procs.length
 obtain⟨n4,hn4⟩:=nmq t.main.len
 have l1:n1≤9223372036854775807:=by rw[hn1];exact leq9 hx.vars.1 hx.vars.2.1.1
 have l2:n2≤9223372036854775807:=by rw[hn2];exact leq9 hx.arrays.1 hx.arrays.2.1.1
 have l3:n3≤9223372036854775807:=by rw[hn3];exact leq9 hx.procs.1 hx.procs.2.1.1
 unfold trV
 rw[←hn1,←hn2,←hn3,←hn4]
 obtain⟨w1,hw1⟩:=nmq (w.alloc (.cells #[.slice Av n1 cv,.slice Aa n2 ca,.slice Ap n3 cp,.slice Am n4 cm] 27))
 have hf1:Fr NoT w w1:=by rw[hw1];exact(Fr.refl _ _).alloc _
 have hk1:Bk w1 w.heap.size 27 #[.slice Av n1 cv,.slice Aa n2 ca,.slice Ap n3 cp,.slice Am n4 cm]:=by rw[hw1];exact Bk.new _ _ _
 have HVS:=hdq (fun(vs:List Va) (o:ByteArray) (A:Option Addr) (c:Nat) (W:World) (hf:Fr NoT w W) (h:SlR (VaR w S Z vs) vs.length 24 A c) hl=>tvars_any vs o W S Z A c (fun b hb=>ltq (hS b hb) hf.size) (h.imp fun _ _ h=>VaR.keep (hf.same fun b hb=>⟨hS b hb,id⟩) h) hl)
 have HBL:=hdq (fun(xs:Sts) (hk:okS xs=true) (o:ByteArray) (A:Option Addr) (c:Nat) (W:World) (hf:Fr NoT w W) (h:SlR (StR w S Z xs) xs.len 128 A c) hl=>tbl_all xs hk o W S Z A c (he.keep hf.plain) (fun b hb=>ltq (hS b hb) hf.size) (h.imp fun _ _ h=>StR.keep (hf.same fun b hb=>⟨hS b hb,id⟩) h) hl)
 have HIT:=hdq (fun(n:Int) (hn:in64 n) (W:World) (hf:Fr NoT w W)=>(he.keep hf.plain).itoa n hn)
 have HX:=hdq hx
 have HS:=hdq hS
 have HN:=hdq (aiq hn1 (aiq hn2 (aiq hn3 hn4)))
 have HOK:=hdq (aiq o2 (aiq o4 hin))
 have HW1:=hdq hw1
 have HF1:=hdq hf1
 have HK1:=hdq hk1
 have hve:(n1=0∧X=⟨#[]⟩)∨(0 < n1∧varsT t.vars= [118,97,114]::(namT t.vars++ [[59]])):=by
  rcases Nat.eq_zero_or_pos n1 with h|h
  ·exact .inl ⟨h,by rw[hX,show t.vars= []from List.length_eq_zero_iff.1 (hn1▸h)];rfl⟩
  ·exact .inr ⟨h,by unfold varsT;rw[if_neg (fun e=>by rw[e]at hn1;simp at hn1;omega)]⟩
 have hae:(n2=0∧Y=X)∨(0 < n2∧arrsT t.arrays= [97,114,114,97,121]::(betw (t.arrays.map arrT)++ [[59]])):=by
  rcases Nat.eq_zero_or_pos n2 with h|h
  ·exact .inl ⟨h,by rw[hY,show t.arrays= []from List.length_eq_zero_iff.1 (hn2▸h)];rfl⟩
  ·exact .inr ⟨h,by unfold arrsT;rw[if_neg (fun e=>by rw[e]at hn2;simp at hn2;omega)]⟩
 have x0:=hk1.cell 0
 have x1:=hk1.cell 1
 have xl:=hk1.lt
 simp only[getsL]at x0 x1
 clear o1 o2 o3 o4 hin hlen r0 r1 r2 r3 r4 hX hY hn1 hn2 hn3 hn4 hw1 hf1 hk1 he hS hx
 go_enter Tryz.func43,Tryz.ntmps43
 rcases hve with⟨rfl,hv1⟩|⟨hp1,hv1⟩
 ·have h0:¬(0:Int) < ((0:Nat):Int):=by decide
  have HXN:=hdq hv1
  clear hv1
  rw[HW1.out]at x0 x1 xl
  rcases hae with⟨rfl,ha1⟩|⟨hp2,ha1⟩
  ·have g0:¬(0:Int) < ((0:Nat):Int):=by decide
   have HYX:=hdq ha1
   clear ha1
   go_wp2_with fail
   go_loopw [3,5] (fun s i wr=>∃k:Nat,k≤n3∧i= .int .i64 k∧s= .string (putsA Y ((t.procs.take k).flatMap prcT))∧Hid (Fr NoT w1 wr)) (fun _ i _=>n3 - (intOf i).toNat)
   case atStart=>exact⟨0,Nat.zero_le _,rfl,by rw[HYX.out];exact(by rw[HXN.out];rfl),by rw[HW1.out];exact Fr.refl _ _⟩
   case round=>
    obtain⟨k,hk,rfl,rfl,hb⟩:=hrel
    have hkr:=HK1.out.fr0 hb.out
    have y2:=hkr.cell 2
    have y3:=hkr.cell 3
    have yl:=hkr.lt
    simp only[getsL]at y2 y3
    by_cases hlt:k < n3
    ·obtain⟨b,oo,rfl,hat⟩:=HX.out.procs.2.2 (by rw[←HN.out.2.2.1];omega)
     have hd:=List.drop_eq_getElem_cons (show k < t.procs.length by rw[←HN.out.2.2.1];exact hlt)
     obtain⟨p,hp⟩:=nmq (t.procs[k]'(by rw[←HN.out.2.2.1];exact hlt))
     rw[←hp]at hd
     have hpm:p∈t.procs:=by rw[hp];exact List.getElem_mem _
     have hsm:SameS S w wr:=(HF1.out.trans hb.out).same fun b hb=>⟨HS.out b hb,id⟩
     obtain⟨hbS,d0,⟨B1,q1,d1,s1⟩,B2,q2,d2,s2⟩:=prR_at hat hd
     have hok:=List.all_eq_true.1 HOK.out.2.1 p hpm
     simp only[Bool.and_eq_true]at hok
     have hxr:b < wr.heap.size:=ltq (HS.out _ hbS) (HF1.out.trans hb.out).size
     have e0:=((HF1.out.trans hb.out).cell (p:=⟨b,oo+k*4,none⟩) (HS.out _ hbS) id).trans d0
     have HD:=hdq (show ∀W,Fr NoT wr W→b < W.heap.size∧W.cell? ⟨b,oo+k*4+1,none⟩=some (.slice B1 p.params.length q1)∧W.cell? ⟨b,oo+k*4+2,none⟩=some (.slice B2 p.body.len q2)from fun W hf=>
      ⟨ltq hxr hf.size,(((HF1.out.trans hb.out).trans hf).cell (p:=⟨b,oo+k*4+1,none⟩) (HS.out _ hbS) id).trans d1,(((HF1.out.trans hb.out).trans hf).cell (p:=⟨b,oo+k*4+2,none⟩) (HS.out _ hbS) id).trans d2⟩)
     have hlt':(k:Int) < (n3:Int):=by omega
     have hge:(0:Int)≤(k:Int):=by omega
     have hfn:=flat_take (f:=prcT) hd
     have hfs:=flat_le (f:=prcT) t.procs (k+1)
     rw[hfn,sumT_app]at hfs
     have hsz:=putsA_size ((t.procs.take k).flatMap prcT) Y
     obtain⟨P,hP⟩:=nmq (putsA Y ((t.procs.take k).flatMap prcT))
     have hPr:P.size+sumT (prcT p)≤140737488355328:=by have:=HR.out.2.2.1;rw[hP];omega
     have hpt:prcT p= [112,114,111,99]::p.nm.data.toList:: [40]::(namT p.params++ [41]::blkT (txS p.body)):=rfl
     rw[hpt]at hPr
     have r1:=one_room (t:=⟨#[112,114,111,99]⟩) hPr (by decide)
     have r2:=one_room r1.2 (by decide)
     have r3:=one_room (t:=⟨#[40]⟩) r2.2 (by decide)
     obtain⟨Q,hQ⟩:=nmq (putA (putA (putA P ⟨#[112,114,111,99]⟩) p.nm) ⟨#[40]⟩)
     rw[←hQ]at r3
     have r4:=putsA_room r3.2
     have r5:=one_room (t:=⟨#[41]⟩) r4 (by decide)
     have HRR:=hdq (aiq r1.1 (aiq r2.1 (aiq r3.1 (aiq (show Q.size+sumT (namT p.params)≤140737488355328 by have:=r3.2;rw[sumT_app]at this;omega) (aiq r5.1 r5.2)))))
     have HQ:=hdq hQ
     have HNX:=hdq (show putsA Y ((t.procs.take (k+1)).flatMap prcT)=putsA (putA (putsA Q (namT p.params)) ⟨#[41]⟩) (blkT (txS p.body)) by rw[hfn,putsA_app,←hP,hpt,putsA_cons,putsA_cons,putsA_cons,putsA_app,putsA_cons,hQ];rfl)
     have HV1:=hdq (fun(W:World) (hf:Fr NoT wr W)=>HVS.out p.params Q B1 q1 W ((HF1.out.trans hb.out).trans hf) s1 HRR.out.2.2.2.1)
     have HB1:=hdq (fun(W:World) (hf:Fr NoT wr W)=>HBL.out p.body hok.2 (putA (putsA Q (namT p.params)) ⟨#[41]⟩) B2 q2 W ((HF1.out.trans hb.out).trans hf) s2 HRR.out.2.2.2.2.2)
     obtain⟨pl,hpl⟩:=nmq p.params.length
     obtain⟨bl,hbl⟩:=nmq p.body.len
     obtain⟨bt,hbt⟩:=nmq (blkT (txS p.body))
     obtain⟨nt,hnt⟩:=nmq (namT p.params)
     obtain⟨pn,hpn⟩:=nmq p.nm
     rw[←hpl]at HV1 HD
     rw[←hbl]at HB1 HD
     rw[←hbt]at HB1 HNX
     rw[←hnt]at HV1 HB1 HNX HRR
     rw[←hpn]at HRR HQ e0
     rw[←hP]
     have HB:=hdq hb.out
     have HKR:=hdq hkr
     clear hd hat hp hpm hsm hbS d0 d1 d2 s1 s2 hok hfn hfs hsz hP hPr hpt r1 r2 r3 r4 r5 hQ hpl hbl hbt hnt hpn hb hkr y3
     go_wp2_with fail
     refine wp_region_still_tail 9 (by kernel_rfl) (by kernel_rfl) ?_
     simp only[List.take_succ_cons,List.take_zero,List.drop_succ_cons,List.drop_zero]
     repeat still_step
     still_call (tput_q _ _ HRR.out.1 _)
     repeat still_step
     still_call (tput_q _ _ HRR.out.2.1 _)
     repeat still_step
     try refine wpStill_nil ?_
     go_wp2_with fail
     refine(tput_any _ _ HRR.out.2.2.1 _).mono ?_
     rintro _ _ ⟨rfl,rfl⟩
     rw[←HQ.out]
     obtain⟨wd,hwd⟩:=nmq wr.drew
     rw[←hwd]
     have hfd:Fr NoT wr wd:=by rw[hwd];exact(Fr.refl _ _).drew
     clear hwd
     obtain⟨hxd,d1,d2⟩:=HD.out _ hfd
     have hkd:=HKR.out.fr0 hfd
     have z2:=hkd.cell 2
     have zl:=hkd.lt
     simp only[getsL]at z2
     have hfd2:Fr NoT wr wd.drew:=hfd.drew
     have HFD2:=hdq hfd2
     clear hfd hkd hfd2 y2 yl e0 hxr
     go_wp2_with fail
     refine wp_region_still_tail 15 (by kernel_rfl) (by kernel_rfl) ?_
     simp only[List.take_succ_cons,List.take_zero,List.drop_succ_cons,List.drop_zero]
     repeat still_step
     still_call (HV1.out _ HFD2.out)
     repeat still_step
     still_call (tput_q _ _ HRR.out.2.2.2.2.1 _)
     repeat still_step
     try refine wpStill_nil ?_
     go_wp2_with fail
     refine(HB1.out _ HFD2.out).mono ?_
     rintro _ w5 ⟨rfl,hf5⟩
     have HF5:=hdq (HB.out.trans (HFD2.out.trans hf5))
     clear hf5 z2 zl hxd d1 d2
     go_wp2_with fail
     go_roundw
     case rel=>exact⟨k+1,by omega,by go_num,by rw[HNX.out],HF5⟩
     case measure=>simp[intOf];omega
    ·have hlt':¬(k:Int) < (n3:Int):=by omega
     have HT:=hdq (show t.procs.take k=t.procs from List.take_of_length_le (by rw[←HN.out.2.2.1];omega))
     rw[HT.out]
     have hfd:Fr NoT wr wr.drew:=(Fr.refl _ _).drew
     have HB1:=hdq (HBL.out t.main HOK.out.1 (putA (putsA Y (t.procs.flatMap prcT)) ⟨#[109,97,105,110]⟩) Am cm wr.drew ((HF1.out.trans hb.out).trans hfd) HX.out.main HR.out.2.2.2.2)
     rw[←HN.out.2.2.2]at HB1
     have HB:=hdq (hb.out.trans hfd)
     obtain⟨F,hF⟩:=nmq (putsA Y (t.procs.flatMap prcT))
     have HRM:=hdq HR.out.2.2.2.1
     rw[←hF]at HB1 HRM ⊢
     obtain⟨bt,hbt⟩:=nmq (blkT (txS t.main))
     rw[←hbt]at HB1 ⊢
     have HFE:=hdq (aiq hF hbt)
     clear hb hkr hfd hF hbt
     go_wp2_with fail
     refine wp_region_still_tail 4 (by kernel_rfl) (by kernel_rfl) ?_
     simp only[List.take_succ_cons,List.take_zero,List.drop_succ_cons,List.drop_zero]
     repeat still_step
     still_call (tput_q _ _ HRM.out _)
     repeat still_step
     try refine wpStill_nil ?_
     go_wp2_with fail
     refine HB1.out.mono ?_
     rintro _ w6 ⟨rfl,hf6⟩
     have HF6:=hdq (HF1.out.trans (HB.out.trans hf6))
     clear hf6 y2 y3 yl
     go_wp2_with fail
     go_ret
     exact⟨by rw[←HFE.out.1,←HFE.out.2];rfl,HF6.out⟩
  ·have g0:(0:Int) < (n2:Int):=by omega
   have q0:=HR.out.2.1
   rw[ha1]at q0
   have q1:=one_room (t:=⟨#[97,114,114,97,121]⟩) q0 (by decide)
   have q2:=putsA_room q1.2
   have q3:=one_room (t:=⟨#[59]⟩) q2 (by decide)
   obtain⟨X1,hX1⟩:=nmq (putA X ⟨#[97,114,114,97,121]⟩)
   rw[←hX1]at q1 q2 q3
   obtain⟨TA,hTA⟩:∃y:List Tx,y=t.arrays.map arrT:=⟨_,rfl⟩
   rw[←hTA]at q1 q2 q3 ha1
   have HQ:=hdq (aiq q1.1 (aiq (show X1.size+sumT (betw TA)≤140737488355328 by have:=q1.2;rw[sumT_app]at this;omega) q3.1))
   have HYE:=hdq (show putA (putsA X1 (betw TA)) ⟨#[59]⟩=Y by rw[HXY.out.2,ha1,putsA_cons,putsA_app,hX1];rfl)
   have HTA:=hdq (aiq hTA (show TA.length=n2 by rw[hTA,List.length_map,HN.out.2.1]))
   have HX1:=hdq hX1
   clear q0 q1 q2 q3 ha1 hp2 hX1 hTA
   go_wp2_with fail
   refine(tput_any _ _ (by have h:=HQ.out.1;rw[HXN.out]at h;exact h) _).mono ?_
   rintro _ _ ⟨rfl,rfl⟩
   go_wp2_with fail
   go_loopw [3,4] (fun s i wr=>∃k:Nat,k≤n2∧i= .int .i64 k∧s= .string (putsA X1 (betw (TA.take k)))∧Hid (Fr NoT w1 wr)) (fun _ i _=>n2 - (intOf i).toNat)
   case atStart=>exact⟨0,Nat.zero_le _,rfl,by rw[HX1.out,HXN.out];rfl,by rw[HW1.out];exact Fr.refl _ _⟩
   case round=>
    obtain⟨k,hk,rfl,rfl,hb⟩:=hrel
    have hkr:=HK1.out.fr0 hb.out
    have y1:=hkr.cell 1
    have yl:=hkr.lt
    simp only[getsL]at y1
    by_cases hlt:k < n2
    ·obtain⟨b,oo,rfl,hat⟩:=HX.out.arrays.2.2 (by rw[←HN.out.2.1];omega)
     have hd:=List.drop_eq_getElem_cons (show k < t.arrays.length by rw[←HN.out.2.1];exact hlt)
     obtain⟨v,hv⟩:=nmq (t.arrays[k]'(by rw[←HN.out.2.1];exact hlt))
     rw[←hv]at hd
     have hvm:v∈t.arrays:=by rw[hv];exact List.getElem_mem _
     have hat1:=ArR.drop k hat
     rw[hd]at hat1
     obtain⟨⟨hbS,_,r0,r1,d0,d1,d2⟩,_⟩:=hat1
     have hxr:b < wr.heap.size:=ltq (HS.out _ hbS) (HF1.out.trans hb.out).size
     have e0:=((HF1.out.trans hb.out).cell (p:=⟨b,oo+k*3,none⟩) (HS.out _ hbS) id).trans d0
     have e1:=((HF1.out.trans hb.out).cell (p:=⟨b,oo+k*3+1,none⟩) (HS.out _ hbS) id).trans d1
     have hlt':(k:Int) < (n2:Int):=by omega
     have hge:(0:Int)≤(k:Int):=by omega
     have htk:TA[k]?=some (arrT v):=by
      rw[HTA.out.1,List.getElem?_map,List.getElem?_eq_getElem (by rw[←HN.out.2.1];exact hlt),←hv]
      rfl
     have hfn:=betw_next htk
     have hfs:=betw_sum htk
     have hsz2:X1.size+sumT (betw (TA.take (k+1)))≤140737488355328:=leq9 (Nat.add_le_add_left hfs _) HQ.out.2.1
     have hsz:=putsA_size (betw (TA.take k)) X1
     have HIv:=hdq (HIT.out v.size r0 wr (HF1.out.trans hb.out))
     have HB:=hdq hb.out
     have hE:∃E:ByteArray,putsA X1 (betw (TA.take (k+1)))=putsA E (arrT v)∧E.size+sumT (arrT v)≤140737488355328∧((k=0∧E=putsA X1 (betw (TA.take k)))∨(0 < k∧E=putA (putsA X1 (betw (TA.take k))) ⟨#[44]⟩∧(putsA X1 (betw (TA.take k))).size +(⟨#[44]⟩:ByteArray).size +1≤9223372036854775807)):=by
      by_cases h0:k=0
      ·rw[if_pos h0]at hfn
       rw[hfn]at hsz2
       refine⟨putsA X1 (betw (TA.take k)),by rw[hfn,h0];rfl,by rw[h0];exact hsz2,.inl ⟨h0,rfl⟩⟩
      ·rw[if_neg h0]at hfn
       rw[hfn,sumT_app,sumT_app]at hsz2
       have h8:=one_room (o:=putsA X1 (betw (TA.take k))) (t:=⟨#[44]⟩) (r:=arrT v) (M:=140737488355328) (by show _+sumT ([[44]]++arrT v)≤_;rw[sumT_app];omega) (by decide)
       exact⟨putA (putsA X1 (betw (TA.take k))) ⟨#[44]⟩,by rw[hfn,putsA_app,putsA_app];rfl,h8.2,.inr ⟨by omega,rfl,h8.1⟩⟩
     obtain⟨E,hE1,hE2,hE3⟩:=hE
     have hE2:E.size+sumT [v.nm.data.toList, [91],(ba (Lib.itoa v.size)).data.toList, [93]]≤140737488355328:=hE2
     have r1:=one_room hE2 (by decide)
     have r2:=one_room (t:=⟨#[91]⟩) r1.2 (by decide)
     have r3:=one_room r2.2 (by decide)
     have r4:=one_room (t:=⟨#[93]⟩) r3.2 (by decide)
     have HRR:=hdq (aiq r1.1 (aiq r2.1 (aiq r3.1 r4.1)))
     have HNX:=hdq (show putsA X1 (betw (TA.take (k+1)))=putA (putA (putA (putA E v.nm) ⟨#[91]⟩) (ba (Lib.itoa v.size))) ⟨#[93]⟩ by rw[hE1];rfl)
     obtain⟨R,hR⟩:=nmq (putsA X1 (betw (TA.take k)))
     rw[←hR]at hE3 ⊢
     clear hd hat hv hvm hbS r0 r1 r2 r3 r4 d0 d1 d2 htk hfn hfs hsz2 hsz hb hkr hE1 hE2 hR
     rcases hE3 with⟨rfl,rfl⟩|⟨h0,rfl,h8⟩
     ·have hz:¬(0:Int) < ((0:Nat):Int):=by decide
      simp only[Nat.zero_mul,Nat.add_zero]at e0 e1
      go_wp2_with fail
      refine(tput_any _ _ HRR.out.1 _).mono ?_
      rintro _ _ ⟨rfl,rfl⟩
      go_wp2_with fail
      refine(tput_any _ _ HRR.out.2.1 _).mono ?_
      rintro _ _ ⟨rfl,rfl⟩
      go_wp2_with fail
      refine HIv.out.mono ?_
      rintro _ w4 ⟨rfl,hf4⟩
      have HF4:=hdq (HB.out.trans hf4)
      clear hf4 e0 e1 y1 yl hxr
      go_wp2_with fail
      refine(tput_any _ _ HRR.out.2.2.1 _).mono ?_
      rintro _ _ ⟨rfl,rfl⟩
      go_wp2_with fail
      refine(tput_any _ _ HRR.out.2.2.2 _).mono ?_
      rintro _ _ ⟨rfl,rfl⟩
      go_wp2_with fail
      go_roundw
      case rel=>exact⟨0+1,by omega,by go_num,by rw[HNX.out],HF4⟩
      case measure=>simp[intOf];omega
     ·have hz:(0:Int) < (k:Int):=by omega
      have H8:=hdq h8
      clear h8
      go_wp2_with fail
      refine(tput_any _ _ H8.out _).mono ?_
      rintro _ _ ⟨rfl,rfl⟩
      go_wp2_with fail
      refine(tput_any _ _ HRR.out.1 _).mono ?_
      rintro _ _ ⟨rfl,rfl⟩
      go_wp2_with fail
      refine(tput_any _ _ HRR.out.2.1 _).mono ?_
      rintro _ _ ⟨rfl,rfl⟩
      go_wp2_with fail
      refine HIv.out.mono ?_
      rintro _ w4 ⟨rfl,hf4⟩
      have HF4:=hdq (HB.out.trans hf4)
      clear hf4 e0 e1 y1 yl hxr
      go_wp2_with fail
      refine(tput_any _ _ HRR.out.2.2.1 _).mono ?_
      rintro _ _ ⟨rfl,rfl⟩
      go_wp2_with fail
      refine(tput_any _ _ HRR.out.2.2.2 _).mono ?_
      rintro _ _ ⟨rfl,rfl⟩
      go_wp2_with fail
      go_roundw
      case rel=>exact⟨k+1,by omega,by go_num,by rw[HNX.out],HF4⟩
      case measure=>simp[intOf];omega
    ·have hlt':¬(k:Int) < (n2:Int):=by omega
     have HT:=hdq (show TA.take k=TA from List.take_of_length_le (by rw[HTA.out.2];omega))
     rw[HT.out]
     have HB9:=hdq hb.out
     clear hb hkr
     go_wp2_with fail
     refine(tput_any _ _ HQ.out.2.2 _).mono ?_
     rintro _ _ ⟨rfl,rfl⟩
     rw[HYE.out]
     clear y1 yl
     go_wp2_with fail
     go_loopw [3,5] (fun s i wr=>∃k:Nat,k≤n3∧i= .int .i64 k∧s= .string (putsA Y ((t.procs.take k).flatMap prcT))∧Hid (Fr NoT w1 wr)) (fun _ i _=>n3 - (intOf i).toNat)
     case atStart=>exact⟨0,Nat.zero_le _,rfl,rfl,HB9⟩
     case round=>
      obtain⟨k,hk,rfl,rfl,hb⟩:=hrel
      have hkr:=HK1.out.fr0 hb.out
      have y2:=hkr.cell 2
      have y3:=hkr.cell 3
      have yl:=hkr.lt
      simp only[getsL]at y2 y3
      by_cases hlt:k < n3
      ·obtain⟨b,oo,rfl,hat⟩:=HX.out.procs.2.2 (by rw[←HN.out.2.2.1];omega)
       have hd:=List.drop_eq_getElem_cons (show k < t.procs.length by rw[←HN.out.2.2.1];exact hlt)
       obtain⟨p,hp⟩:=nmq (t.procs[k]'(by rw[←HN.out.2.2.1];exact hlt))
       rw[←hp]at hd
       have hpm:p∈t.procs:=by rw[hp];exact List.getElem_mem _
       have hsm:SameS S w wr:=(HF1.out.trans hb.out).same fun b hb=>⟨HS.out b hb,id⟩
       obtain⟨hbS,d0,⟨B1,q1,d1,s1⟩,B2,q2,d2,s2⟩:=prR_at hat hd
       have hok:=List.all_eq_true.1 HOK.out.2.1 p hpm
       simp only[Bool.and_eq_true]at hok
       have hxr:b < wr.heap.size:=ltq (HS.out _ hbS) (HF1.out.trans hb.out).size
       have e0:=((HF1.out.trans hb.out).cell (p:=⟨b,oo+k*4,none⟩) (HS.out _ hbS) id).trans d0
       have HD:=hdq (show ∀W,Fr NoT wr W→b < W.heap.size∧W.cell? ⟨b,oo+k*4+1,none⟩=some (.slice B1 p.params.length q1)∧W.cell? ⟨b,oo+k*4+2,none⟩=some (.slice B2 p.body.len q2)from fun W hf=>
        ⟨ltq hxr hf.size,(((HF1.out.trans hb.out).trans hf).cell (p:=⟨b,oo+k*4+1,none⟩) (HS.out _ hbS) id).trans d1,(((HF1.out.trans hb.out).trans hf).cell (p:=⟨b,oo+k*4+2,none⟩) (HS.out _ hbS) id).trans d2⟩)
       have hlt':(k:Int) < (n3:Int):=by omega
       have hge:(0:Int)≤(k:Int):=by omega
       have hfn:=flat_take (f:=prcT) hd
       have hfs:=flat_le (f:=prcT) t.procs (k+1)
       rw[hfn,sumT_app]at hfs
       have hsz:=putsA_size ((t.procs.take k).flatMap prcT) Y
       obtain⟨P,hP⟩:=nmq (putsA Y ((t.procs.take k).flatMap prcT))
       have hPr:P.size+sumT (prcT p)≤140737488355328:=by have:=HR.out.2.2.1;rw[hP];omega
       have hpt:prcT p= [112,114,111,99]::p.nm.data.toList:: [40]::(namT p.params++ [41]::blkT (txS p.body)):=rfl
       rw[hpt]at hPr
       have r1:=one_room (t:=⟨#[112,114,111,99]⟩) hPr (by decide)
       have r2:=one_room r1.2 (by decide)
       have r3:=one_room (t:=⟨#[40]⟩) r2.2 (by decide)
       obtain⟨Q,hQ⟩:=nmq (putA (putA (putA P ⟨#[112,114,111,99]⟩) p.nm) ⟨#[40]⟩)
       rw[←hQ]at r3
       have r4:=putsA_room r3.2
       have r5:=one_room (t:=⟨#[41]⟩) r4 (by decide)
       have HRR:=hdq (aiq r1.1 (aiq r2.1 (aiq r3.1 (aiq (show Q.size+sumT (namT p.params)≤140737488355328 by have:=r3.2;rw[sumT_app]at this;omega) (aiq r5.1 r5.2)))))
       have HQ:=hdq hQ
       have HNX:=hdq (show putsA Y ((t.procs.take (k+1)).flatMap prcT)=putsA (putA (putsA Q (namT p.params)) ⟨#[41]⟩) (blkT (txS p.body)) by rw[hfn,putsA_app,←hP,hpt,putsA_cons,putsA_cons,putsA_cons,putsA_app,putsA_cons,hQ];rfl)
       have HV1:=hdq (fun(W:World) (hf:Fr NoT wr W)=>HVS.out p.params Q B1 q1 W ((HF1.out.trans hb.out).trans hf) s1 HRR.out.2.2.2.1)
       have HB1:=hdq (fun(W:World) (hf:Fr NoT wr W)=>HBL.out p.body hok.2 (putA (putsA Q (namT p.params)) ⟨#[41]⟩) B2 q2 W ((HF1.out.trans hb.out).trans hf) s2 HRR.out.2.2.2.2.2)
       obtain⟨pl,hpl⟩:=nmq p.params.length
       obtain⟨bl,hbl⟩:=nmq p.body.len
       obtain⟨bt,hbt⟩:=nmq (blkT (txS p.body))
       obtain⟨nt,hnt⟩:=nmq (namT p.params)
       obtain⟨pn,hpn⟩:=nmq p.nm
       rw[←hpl]at HV1 HD
       rw[←hbl]at HB1 HD
       rw[←hbt]at HB1 HNX
       rw[←hnt]at HV1 HB1 HNX HRR
       rw[←hpn]at HRR HQ e0
       rw[←hP]
       have HB:=hdq hb.out
       have HKR:=hdq hkr
       clear hd hat hp hpm hsm hbS d0 d1 d2 s1 s2 hok hfn hfs hsz hP hPr hpt r1 r2 r3 r4 r5 hQ hpl hbl hbt hnt hpn hb hkr y3
       go_wp2_with fail
       refine wp_region_still_tail 9 (by kernel_rfl) (by kernel_rfl) ?_
       simp only[List.take_succ_cons,List.take_zero,List.drop_succ_cons,List.drop_zero]
       repeat still_step
       still_call (tput_q _ _ HRR.out.1 _)
       repeat still_step
       still_call (tput_q _ _ HRR.out.2.1 _)
       repeat still_step
       try refine wpStill_nil ?_
       go_wp2_with fail
       refine(tput_any _ _ HRR.out.2.2.1 _).mono ?_
       rintro _ _ ⟨rfl,rfl⟩
       rw[←HQ.out]
       obtain⟨wd,hwd⟩:=nmq wr.drew
       rw[←hwd]
       have hfd:Fr NoT wr wd:=by rw[hwd];exact(Fr.refl _ _).drew
       clear hwd
       obtain⟨hxd,d1,d2⟩:=HD.out _ hfd
       have hkd:=HKR.out.fr0 hfd
       have z2:=hkd.cell 2
       have zl:=hkd.lt
       simp only[getsL]at z2
       have hfd2:Fr NoT wr wd.drew:=hfd.drew
       have HFD2:=hdq hfd2
       clear hfd hkd hfd2 y2 yl e0 hxr
       go_wp2_with fail
       refine wp_region_still_tail 15 (by kernel_rfl) (by kernel_rfl) ?_
       simp only[List.take_succ_cons,List.take_zero,List.drop_succ_cons,List.drop_zero]
       repeat still_step
       still_call (HV1.out _ HFD2.out)
       repeat still_step
       still_call (tput_q _ _ HRR.out.2.2.2.2.1 _)
       repeat still_step
       try refine wpStill_nil ?_
       go_wp2_with fail
       refine(HB1.out _ HFD2.out).mono ?_
       rintro _ w5 ⟨rfl,hf5⟩
       have HF5:=hdq (HB.out.trans (HFD2.out.trans hf5))
       clear hf5 z2 zl hxd d1 d2
       go_wp2_with fail
       go_roundw
       case rel=>exact⟨k+1,by omega,by go_num,by rw[HNX.out],HF5⟩
       case measure=>simp[intOf];omega
      ·have hlt':¬(k:Int) < (n3:Int):=by omega
       have HT:=hdq (show t.procs.take k=t.procs from List.take_of_length_le (by rw[←HN.out.2.2.1];omega))
       rw[HT.out]
       have hfd:Fr NoT wr wr.drew:=(Fr.refl _ _).drew
       have HB1:=hdq (HBL.out t.main HOK.out.1 (putA (putsA Y (t.procs.flatMap prcT)) ⟨#[109,97,105,110]⟩) Am cm wr.drew ((HF1.out.trans hb.out).trans hfd) HX.out.main HR.out.2.2.2.2)
       rw[←HN.out.2.2.2]at HB1
       have HB:=hdq (hb.out.trans hfd)
       obtain⟨F,hF⟩:=nmq (putsA Y (t.procs.flatMap prcT))
       have HRM:=hdq HR.out.2.2.2.1
       rw[←hF]at HB1 HRM ⊢
       obtain⟨bt,hbt⟩:=nmq (blkT (txS t.main))
       rw[←hbt]at HB1 ⊢
       have HFE:=hdq (aiq hF hbt)
       clear hb hkr hfd hF hbt
       go_wp2_with fail
       refine wp_region_still_tail 4 (by kernel_rfl) (by kernel_rfl) ?_
       simp only[List.take_succ_cons,List.take_zero,List.drop_succ_cons,List.drop_zero]
       repeat still_step
       still_call (tput_q _ _ HRM.out _)
       repeat still_step
       try refine wpStill_nil ?_
       go_wp2_with fail
       refine HB1.out.mono ?_
       rintro _ w6 ⟨rfl,hf6⟩
       have HF6:=hdq (HF1.out.trans (HB.out.trans hf6))
       clear hf6 y2 y3 yl
       go_wp2_with fail
       go_ret
       exact⟨by rw[←HFE.out.1,←HFE.out.2];rfl,HF6.out⟩
 ·have h0:(0:Int) < (n1:Int):=by omega
  have q0:=HR.out.1
  rw[hv1]at q0
  have q1:=one_room (t:=⟨#[118,97,114]⟩) q0 (by decide)
  have q2:=putsA_room q1.2
  have q3:=one_room (t:=⟨#[59]⟩) q2 (by decide)
  have HQ0:=hdq (aiq q1.1 (aiq (show(putA ⟨#[]⟩ ⟨#[118,97,114]⟩).size +sumT (namT t.vars)≤140737488355328 by have:=q1.2;rw[sumT_app]at this;omega) q3.1))
  have HXE:=hdq (show putA (putsA (putA ⟨#[]⟩ ⟨#[118,97,114]⟩) (namT t.vars)) ⟨#[59]⟩=X by rw[HXY.out.1,hv1,putsA_cons,putsA_app];rfl)
  have HC:=hdq (fun(W:World) (hf:Fr NoT w W)=>HVS.out t.vars (putA ⟨#[]⟩ ⟨#[118,97,114]⟩) Av cv W hf HX.out.vars HQ0.out.2.1)
  rw[←HN.out.1]at HC
  have HFD:=hdq (show Fr NoT w1 w1.drew from(Fr.refl _ _).drew)
  have hkd:=HK1.out.fr0 HFD.out
  have x1d:=hkd.cell 1
  have xld:=hkd.lt
  simp only[getsL]at x1d
  clear q0 q1 q2 q3 hv1 hp1 hkd
  go_wp2_with fail
  rw[←HW1.out]
  refine wp_region_still_tail 5 (by kernel_rfl) (by kernel_rfl) ?_
  simp only[List.take_succ_cons,List.take_zero,List.drop_succ_cons,List.drop_zero]
  repeat still_step
  still_call (tput_q _ _ HQ0.out.1 _)
  repeat still_step
  still_call (HC.out _ (HF1.out.trans HFD.out))
  repeat still_step
  try refine wpStill_nil ?_
  go_wp2_with fail
  refine(tput_any _ _ HQ0.out.2.2 _).mono ?_
  rintro _ _ ⟨rfl,rfl⟩
  rw[HXE.out]
  clear x0 x1 xl
  rcases hae with⟨rfl,ha1⟩|⟨hp2,ha1⟩
  ·have g0:¬(0:Int) < ((0:Nat):Int):=by decide
   have HYX:=hdq ha1
   clear ha1
   go_wp2_with fail
   go_loopw [3,5] (fun s i wr=>∃k:Nat,k≤n3∧i= .int .i64 k∧s= .string (putsA Y ((t.procs.take k).flatMap prcT))∧Hid (Fr NoT w1 wr)) (fun _ i _=>n3 - (intOf i).toNat)
   case atStart=>exact⟨0,Nat.zero_le _,rfl,by rw[HYX.out];exact rfl,HFD⟩
   case round=>
    obtain⟨k,hk,rfl,rfl,hb⟩:=hrel
    have hkr:=HK1.out.fr0 hb.out
    have y2:=hkr.cell 2
    have y3:=hkr.cell 3
    have yl:=hkr.lt
    simp only[getsL]at y2 y3
    by_cases hlt:k < n3
    ·obtain⟨b,oo,rfl,hat⟩:=HX.out.procs.2.2 (by rw[←HN.out.2.2.1];omega)
     have hd:=List.drop_eq_getElem_cons (show k < t.procs.length by rw[←HN.out.2.2.1];exact hlt)
     obtain⟨p,hp⟩:=nmq (t.procs[k]'(by rw[←HN.out.2.2.1];exact hlt))
     rw[←hp]at hd
     have hpm:p∈t.procs:=by rw[hp];exact List.getElem_mem _
     have hsm:SameS S w wr:=(HF1.out.trans hb.out).same fun b hb=>⟨HS.out b hb,id⟩
     obtain⟨hbS,d0,⟨B1,q1,d1,s1⟩,B2,q2,d2,s2⟩:=prR_at hat hd
     have hok:=List.all_eq_true.1 HOK.out.2.1 p hpm
     simp only[Bool.and_eq_true]at hok
     have hxr:b < wr.heap.size:=ltq (HS.out _ hbS) (HF1.out.trans hb.out).size
     have e0:=((HF1.out.trans hb.out).cell (p:=⟨b,oo+k*4,none⟩) (HS.out _ hbS) id).trans d0
     have HD:=hdq (show ∀W,Fr NoT wr W→b < W.heap.size∧W.cell? ⟨b,oo+k*4+1,none⟩=some (.slice B1 p.params.length q1)∧W.cell? ⟨b,oo+k*4+2,none⟩=some (.slice B2 p.body.len q2)from fun W hf=>
      ⟨ltq hxr hf.size,(((HF1.out.trans hb.out).trans hf).cell (p:=⟨b,oo+k*4+1,none⟩) (HS.out _ hbS) id).trans d1,(((HF1.out.trans hb.out).trans hf).cell (p:=⟨b,oo+k*4+2,none⟩) (HS.out _ hbS) id).trans d2⟩)
     have hlt':(k:Int) < (n3:Int):=by omega
     have hge:(0:Int)≤(k:Int):=by omega
     have hfn:=flat_take (f:=prcT) hd
     have hfs:=flat_le (f:=prcT) t.procs (k+1)
     rw[hfn,sumT_app]at hfs
     have hsz:=putsA_size ((t.procs.take k).flatMap prcT) Y
     obtain⟨P,hP⟩:=nmq (putsA Y ((t.procs.take k).flatMap prcT))
     have hPr:P.size+sumT (prcT p)≤140737488355328:=by have:=HR.out.2.2.1;rw[hP];omega
     have hpt:prcT p= [112,114,111,99]::p.nm.data.toList:: [40]::(namT p.params++ [41]::blkT (txS p.body)):=rfl
     rw[hpt]at hPr
     have r1:=one_room (t:=⟨#[112,114,111,99]⟩) hPr (by decide)
     have r2:=one_room r1.2 (by decide)
     have r3:=one_room (t:=⟨#[40]⟩) r2.2 (by decide)
     obtain⟨Q,hQ⟩:=nmq (putA (putA (putA P ⟨#[112,114,111,99]⟩) p.nm) ⟨#[40]⟩)
     rw[←hQ]at r3
     have r4:=putsA_room r3.2
     have r5:=one_room (t:=⟨#[41]⟩) r4 (by decide)
     have HRR:=hdq (aiq r1.1 (aiq r2.1 (aiq r3.1 (aiq (show Q.size+sumT (namT p.params)≤140737488355328 by have:=r3.2;rw[sumT_app]at this;omega) (aiq r5.1 r5.2)))))
     have HQ:=hdq hQ
     have HNX:=hdq (show putsA Y ((t.procs.take (k+1)).flatMap prcT)=putsA (putA (putsA Q (namT p.params)) ⟨#[41]⟩) (blkT (txS p.body)) by rw[hfn,putsA_app,←hP,hpt,putsA_cons,putsA_cons,putsA_cons,putsA_app,putsA_cons,hQ];rfl)
     have HV1:=hdq (fun(W:World) (hf:Fr NoT wr W)=>HVS.out p.params Q B1 q1 W ((HF1.out.trans hb.out).trans hf) s1 HRR.out.2.2.2.1)
     have HB1:=hdq (fun(W:World) (hf:Fr NoT wr W)=>HBL.out p.body hok.2 (putA (putsA Q (namT p.params)) ⟨#[41]⟩) B2 q2 W ((HF1.out.trans hb.out).trans hf) s2 HRR.out.2.2.2.2.2)
     obtain⟨pl,hpl⟩:=nmq p.params.length
     obtain⟨bl,hbl⟩:=nmq p.body.len
     obtain⟨bt,hbt⟩:=nmq (blkT (txS p.body))
     obtain⟨nt,hnt⟩:=nmq (namT p.params)
     obtain⟨pn,hpn⟩:=nmq p.nm
     rw[←hpl]at HV1 HD
     rw[←hbl]at HB1 HD
     rw[←hbt]at HB1 HNX
     rw[←hnt]at HV1 HB1 HNX HRR
     rw[←hpn]at HRR HQ e0
     rw[←hP]
     have HB:=hdq hb.out
     have HKR:=hdq hkr
     clear hd hat hp hpm hsm hbS d0 d1 d2 s1 s2 hok hfn hfs hsz hP hPr hpt r1 r2 r3 r4 r5 hQ hpl hbl hbt hnt hpn hb hkr y3
     go_wp2_with fail
     refine wp_region_still_tail 9 (by kernel_rfl) (by kernel_rfl) ?_
     simp only[List.take_succ_cons,List.take_zero,List.drop_succ_cons,List.drop_zero]
     repeat still_step
     still_call (tput_q _ _ HRR.out.1 _)
     repeat still_step
     still_call (tput_q _ _ HRR.out.2.1 _)
     repeat still_step
     try refine wpStill_nil ?_
     go_wp2_with fail
     refine(tput_any _ _ HRR.out.2.2.1 _).mono ?_
     rintro _ _ ⟨rfl,rfl⟩
     rw[←HQ.out]
     obtain⟨wd,hwd⟩:=nmq wr.drew
     rw[←hwd]
     have hfd:Fr NoT wr wd:=by rw[hwd];exact(Fr.refl _ _).drew
     clear hwd
     obtain⟨hxd,d1,d2⟩:=HD.out _ hfd
     have hkd:=HKR.out.fr0 hfd
     have z2:=hkd.cell 2
     have zl:=hkd.lt
     simp only[getsL]at z2
     have hfd2:Fr NoT wr wd.drew:=hfd.drew
     have HFD2:=hdq hfd2
     clear hfd hkd hfd2 y2 yl e0 hxr
     go_wp2_with fail
     refine wp_region_still_tail 15 (by kernel_rfl) (by kernel_rfl) ?_
     simp only[List.take_succ_cons,List.take_zero,List.drop_succ_cons,List.drop_zero]
     repeat still_step
     still_call (HV1.out _ HFD2.out)
     repeat still_step
     still_call (tput_q _ _ HRR.out.2.2.2.2.1 _)
     repeat still_step
     try refine wpStill_nil ?_
     go_wp2_with fail
     refine(HB1.out _ HFD2.out).mono ?_
     rintro _ w5 ⟨rfl,hf5⟩
     have HF5:=hdq (HB.out.trans (HFD2.out.trans hf5))
     clear hf5 z2 zl hxd d1 d2
     go_wp2_with fail
     go_roundw
     case rel=>exact⟨k+1,by omega,by go_num,by rw[HNX.out],HF5⟩
     case measure=>simp[intOf];omega
    ·have hlt':¬(k:Int) < (n3:Int):=by omega
     have HT:=hdq (show t.procs.take k=t.procs from List.take_of_length_le (by rw[←HN.out.2.2.1];omega))
     rw[HT.out]
     have hfd:Fr NoT wr wr.drew:=(Fr.refl _ _).drew
     have HB1:=hdq (HBL.out t.main HOK.out.1 (putA (putsA Y (t.procs.flatMap prcT)) ⟨#[109,97,105,110]⟩) Am cm wr.drew ((HF1.out.trans hb.out).trans hfd) HX.out.main HR.out.2.2.2.2)
     rw[←HN.out.2.2.2]at HB1
     have HB:=hdq (hb.out.trans hfd)
     obtain⟨F,hF⟩:=nmq (putsA Y (t.procs.flatMap prcT))
     have HRM:=hdq HR.out.2.2.2.1
     rw[←hF]at HB1 HRM ⊢
     obtain⟨bt,hbt⟩:=nmq (blkT (txS t.main))
     rw[←hbt]at HB1 ⊢
     have HFE:=hdq (aiq hF hbt)
     clear hb hkr hfd hF hbt
     go_wp2_with fail
     refine wp_region_still_tail 4 (by kernel_rfl) (by kernel_rfl) ?_
     simp only[List.take_succ_cons,List.take_zero,List.drop_succ_cons,List.drop_zero]
     repeat still_step
     still_call (tput_q _ _ HRM.out _)
     repeat still_step
     try refine wpStill_nil ?_
     go_wp2_with fail
     refine HB1.out.mono ?_
     rintro _ w6 ⟨rfl,hf6⟩
     have HF6:=hdq (HF1.out.trans (HB.out.trans hf6))
     clear hf6 y2 y3 yl
     go_wp2_with fail
     go_ret
     exact⟨by rw[←HFE.out.1,←HFE.out.2];rfl,HF6.out⟩
  ·have g0:(0:Int) < (n2:Int):=by omega
   have q0:=HR.out.2.1
   rw[ha1]at q0
   have q1:=one_room (t:=⟨#[97,114,114,97,121]⟩) q0 (by decide)
   have q2:=putsA_room q1.2
   have q3:=one_room (t:=⟨#[59]⟩) q2 (by decide)
   obtain⟨X1,hX1⟩:=nmq (putA X ⟨#[97,114,114,97,121]⟩)
   rw[←hX1]at q1 q2 q3
   obtain⟨TA,hTA⟩:∃y:List Tx,y=t.arrays.map arrT:=⟨_,rfl⟩
   rw[←hTA]at q1 q2 q3 ha1
   have HQ:=hdq (aiq q1.1 (aiq (show X1.size+sumT (betw TA)≤140737488355328 by have:=q1.2;rw[sumT_app]at this;omega) q3.1))
   have HYE:=hdq (show putA (putsA X1 (betw TA)) ⟨#[59]⟩=Y by rw[HXY.out.2,ha1,putsA_cons,putsA_app,hX1];rfl)
   have HTA:=hdq (aiq hTA (show TA.length=n2 by rw[hTA,List.length_map,HN.out.2.1]))
   have HX1:=hdq hX1
   clear q0 q1 q2 q3 ha1 hp2 hX1 hTA
   go_wp2_with fail
   refine(tput_any _ _ HQ.out.1 _).mono ?_
   rintro _ _ ⟨rfl,rfl⟩
   go_wp2_with fail
   go_loopw [3,4] (fun s i wr=>∃k:Nat,k≤n2∧i= .int .i64 k∧s= .string (putsA X1 (betw (TA.take k)))∧Hid (Fr NoT w1 wr)) (fun _ i _=>n2 - (intOf i).toNat)
   case atStart=>exact⟨0,Nat.zero_le _,rfl,by rw[HX1.out];rfl,HFD⟩
   case round=>
    obtain⟨k,hk,rfl,rfl,hb⟩:=hrel
    have hkr:=HK1.out.fr0 hb.out
    have y1:=hkr.cell 1
    have yl:=hkr.lt
    simp only[getsL]at y1
    by_cases hlt:k < n2
    ·obtain⟨b,oo,rfl,hat⟩:=HX.out.arrays.2.2 (by rw[←HN.out.2.1];omega)
     have hd:=List.drop_eq_getElem_cons (show k < t.arrays.length by rw[←HN.out.2.1];exact hlt)
     obtain⟨v,hv⟩:=nmq (t.arrays[k]'(by rw[←HN.out.2.1];exact hlt))
     rw[←hv]at hd
     have hvm:v∈t.arrays:=by rw[hv];exact List.getElem_mem _
     have hat1:=ArR.drop k hat
     rw[hd]at hat1
     obtain⟨⟨hbS,_,r0,r1,d0,d1,d2⟩,_⟩:=hat1
     have hxr:b < wr.heap.size:=ltq (HS.out _ hbS) (HF1.out.trans hb.out).size
     have e0:=((HF1.out.trans hb.out).cell (p:=⟨b,oo+k*3,none⟩) (HS.out _ hbS) id).trans d0
     have e1:=((HF1.out.trans hb.out).cell (p:=⟨b,oo+k*3+1,none⟩) (HS.out _ hbS) id).trans d1
     have hlt':(k:Int) < (n2:Int):=by omega
     have hge:(0:Int)≤(k:Int):=by omega
     have htk:TA[k]?=some (arrT v):=by
      rw[HTA.out.1,List.getElem?_map,List.getElem?_eq_getElem (by rw[←HN.out.2.1];exact hlt),←hv]
      rfl
     have hfn:=betw_next htk
     have hfs:=betw_sum htk
     have hsz2:X1.size+sumT (betw (TA.take (k+1)))≤140737488355328:=leq9 (Nat.add_le_add_left hfs _) HQ.out.2.1
     have hsz:=putsA_size (betw (TA.take k)) X1
     have HIv:=hdq (HIT.out v.size r0 wr (HF1.out.trans hb.out))
     have HB:=hdq hb.out
     have hE:∃E:ByteArray,putsA X1 (betw (TA.take (k+1)))=putsA E (arrT v)∧E.size+sumT (arrT v)≤140737488355328∧((k=0∧E=putsA X1 (betw (TA.take k)))∨(0 < k∧E=putA (putsA X1 (betw (TA.take k))) ⟨#[44]⟩∧(putsA X1 (betw (TA.take k))).size +(⟨#[44]⟩:ByteArray).size +1≤9223372036854775807)):=by
      by_cases h0:k=0
      ·rw[if_pos h0]at hfn
       rw[hfn]at hsz2
       refine⟨putsA X1 (betw (TA.take k)),by rw[hfn,h0];rfl,by rw[h0];exact hsz2,.inl ⟨h0,rfl⟩⟩
      ·rw[if_neg h0]at hfn
       rw[hfn,sumT_app,sumT_app]at hsz2
       have h8:=one_room (o:=putsA X1 (betw (TA.take k))) (t:=⟨#[44]⟩) (r:=arrT v) (M:=140737488355328) (by show _+sumT ([[44]]++arrT v)≤_;rw[sumT_app];omega) (by decide)
       exact⟨putA (putsA X1 (betw (TA.take k))) ⟨#[44]⟩,by rw[hfn,putsA_app,putsA_app];rfl,h8.2,.inr ⟨by omega,rfl,h8.1⟩⟩
     obtain⟨E,hE1,hE2,hE3⟩:=hE
     have hE2:E.size+sumT [v.nm.data.toList, [91],(ba (Lib.itoa v.size)).data.toList, [93]]≤140737488355328:=hE2
     have r1:=one_room hE2 (by decide)
     have r2:=one_room (t:=⟨#[91]⟩) r1.2 (by decide)
     have r3:=one_room r2.2 (by decide)
     have r4:=one_room (t:=⟨#[93]⟩) r3.2 (by decide)
     have HRR:=hdq (aiq r1.1 (aiq r2.1 (aiq r3.1 r4.1)))
     have HNX:=hdq (show putsA X1 (betw (TA.take (k+1)))=putA (putA (putA (putA E v.nm) ⟨#[91]⟩) (ba (Lib.itoa v.size))) ⟨#[93]⟩ by rw[hE1];rfl)
     obtain⟨R,hR⟩:=nmq (putsA X1 (betw (TA.take k)))
     rw[←hR]at hE3 ⊢
     clear hd hat hv hvm hbS r0 r1 r2 r3 r4 d0 d1 d2 htk hfn hfs hsz2 hsz hb hkr hE1 hE2 hR
     rcases hE3 with⟨rfl,rfl⟩|⟨h0,rfl,h8⟩
     ·have hz:¬(0:Int) < ((0:Nat):Int):=by decide
      simp only[Nat.zero_mul,Nat.add_zero]at e0 e1
      go_wp2_with fail
      refine(tput_any _ _ HRR.out.1 _).mono ?_
      rintro _ _ ⟨rfl,rfl⟩
      go_wp2_with fail
      refine(tput_any _ _ HRR.out.2.1 _).mono ?_
      rintro _ _ ⟨rfl,rfl⟩
      go_wp2_with fail
      refine HIv.out.mono ?_
      rintro _ w4 ⟨rfl,hf4⟩
      have HF4:=hdq (HB.out.trans hf4)
      clear hf4 e0 e1 y1 yl hxr
      go_wp2_with fail
      refine(tput_any _ _ HRR.out.2.2.1 _).mono ?_
      rintro _ _ ⟨rfl,rfl⟩
      go_wp2_with fail
      refine(tput_any _ _ HRR.out.2.2.2 _).mono ?_
      rintro _ _ ⟨rfl,rfl⟩
      go_wp2_with fail
      go_roundw
      case rel=>exact⟨0+1,by omega,by go_num,by rw[HNX.out],HF4⟩
      case measure=>simp[intOf];omega
     ·have hz:(0:Int) < (k:Int):=by omega
      have H8:=hdq h8
      clear h8
      go_wp2_with fail
      refine(tput_any _ _ H8.out _).mono ?_
      rintro _ _ ⟨rfl,rfl⟩
      go_wp2_with fail
      refine(tput_any _ _ HRR.out.1 _).mono ?_
      rintro _ _ ⟨rfl,rfl⟩
      go_wp2_with fail
      refine(tput_any _ _ HRR.out.2.1 _).mono ?_
      rintro _ _ ⟨rfl,rfl⟩
      go_wp2_with fail
      refine HIv.out.mono ?_
      rintro _ w4 ⟨rfl,hf4⟩
      have HF4:=hdq (HB.out.trans hf4)
      clear hf4 e0 e1 y1 yl hxr
      go_wp2_with fail
      refine(tput_any _ _ HRR.out.2.2.1 _).mono ?_
      rintro _ _ ⟨rfl,rfl⟩
      go_wp2_with fail
      refine(tput_any _ _ HRR.out.2.2.2 _).mono ?_
      rintro _ _ ⟨rfl,rfl⟩
      go_wp2_with fail
      go_roundw
      case rel=>exact⟨k+1,by omega,by go_num,by rw[HNX.out],HF4⟩
      case measure=>simp[intOf];omega
    ·have hlt':¬(k:Int) < (n2:Int):=by omega
     have HT:=hdq (show TA.take k=TA from List.take_of_length_le (by rw[HTA.out.2];omega))
     rw[HT.out]
     have HB9:=hdq hb.out
     clear hb hkr
     go_wp2_with fail
     refine(tput_any _ _ HQ.out.2.2 _).mono ?_
     rintro _ _ ⟨rfl,rfl⟩
     rw[HYE.out]
     clear y1 yl
     go_wp2_with fail
     go_loopw [3,5] (fun s i wr=>∃k:Nat,k≤n3∧i= .int .i64 k∧s= .string (putsA Y ((t.procs.take k).flatMap prcT))∧Hid (Fr NoT w1 wr)) (fun _ i _=>n3 - (intOf i).toNat)
     case atStart=>exact⟨0,Nat.zero_le _,rfl,rfl,HB9⟩
     case round=>
      obtain⟨k,hk,rfl,rfl,hb⟩:=hrel
      have hkr:=HK1.out.fr0 hb.out
      have y2:=hkr.cell 2
      have y3:=hkr.cell 3
      have yl:=hkr.lt
      simp only[getsL]at y2 y3
      by_cases hlt:k < n3
      ·obtain⟨b,oo,rfl,hat⟩:=HX.out.procs.2.2 (by rw[←HN.out.2.2.1];omega)
       have hd:=List.drop_eq_getElem_cons (show k < t.procs.length by rw[←HN.out.2.2.1];exact hlt)
       obtain⟨p,hp⟩:=nmq (t.procs[k]'(by rw[←HN.out.2.2.1];exact hlt))
       rw[←hp]at hd
       have hpm:p∈t.procs:=by rw[hp];exact List.getElem_mem _
       have hsm:SameS S w wr:=(HF1.out.trans hb.out).same fun b hb=>⟨HS.out b hb,id⟩
       obtain⟨hbS,d0,⟨B1,q1,d1,s1⟩,B2,q2,d2,s2⟩:=prR_at hat hd
       have hok:=List.all_eq_true.1 HOK.out.2.1 p hpm
       simp only[Bool.and_eq_true]at hok
       have hxr:b < wr.heap.size:=ltq (HS.out _ hbS) (HF1.out.trans hb.out).size
       have e0:=((HF1.out.trans hb.out).cell (p:=⟨b,oo+k*4,none⟩) (HS.out _ hbS) id).trans d0
       have HD:=hdq (show ∀W,Fr NoT wr W→b < W.heap.size∧W.cell? ⟨b,oo+k*4+1,none⟩=some (.slice B1 p.params.length q1)∧W.cell? ⟨b,oo+k*4+2,none⟩=some (.slice B2 p.body.len q2)from fun W hf=>
        ⟨ltq hxr hf.size,(((HF1.out.trans hb.out).trans hf).cell (p:=⟨b,oo+k*4+1,none⟩) (HS.out _ hbS) id).trans d1,(((HF1.out.trans hb.out).trans hf).cell (p:=⟨b,oo+k*4+2,none⟩) (HS.out _ hbS) id).trans d2⟩)
       have hlt':(k:Int) < (n3:Int):=by omega
       have hge:(0:Int)≤(k:Int):=by omega
       have hfn:=flat_take (f:=prcT) hd
       have hfs:=flat_le (f:=prcT) t.procs (k+1)
       rw[hfn,sumT_app]at hfs
       have hsz:=putsA_size ((t.procs.take k).flatMap prcT) Y
       obtain⟨P,hP⟩:=nmq (putsA Y ((t.procs.take k).flatMap prcT))
       have hPr:P.size+sumT (prcT p)≤140737488355328:=by have:=HR.out.2.2.1;rw[hP];omega
       have hpt:prcT p= [112,114,111,99]::p.nm.data.toList:: [40]::(namT p.params++ [41]::blkT (txS p.body)):=rfl
       rw[hpt]at hPr
       have r1:=one_room (t:=⟨#[112,114,111,99]⟩) hPr (by decide)
       have r2:=one_room r1.2 (by decide)
       have r3:=one_room (t:=⟨#[40]⟩) r2.2 (by decide)
       obtain⟨Q,hQ⟩:=nmq (putA (putA (putA P ⟨#[112,114,111,99]⟩) p.nm) ⟨#[40]⟩)
       rw[←hQ]at r3
       have r4:=putsA_room r3.2
       have r5:=one_room (t:=⟨#[41]⟩) r4 (by decide)
       have HRR:=hdq (aiq r1.1 (aiq r2.1 (aiq r3.1 (aiq (show Q.size+sumT (namT p.params)≤140737488355328 by have:=r3.2;rw[sumT_app]at this;omega) (aiq r5.1 r5.2)))))
       have HQ:=hdq hQ
       have HNX:=hdq (show putsA Y ((t.procs.take (k+1)).flatMap prcT)=putsA (putA (putsA Q (namT p.params)) ⟨#[41]⟩) (blkT (txS p.body)) by rw[hfn,putsA_app,←hP,hpt,putsA_cons,putsA_cons,putsA_cons,putsA_app,putsA_cons,hQ];rfl)
       have HV1:=hdq (fun(W:World) (hf:Fr NoT wr W)=>HVS.out p.params Q B1 q1 W ((HF1.out.trans hb.out).trans hf) s1 HRR.out.2.2.2.1)
       have HB1:=hdq (fun(W:World) (hf:Fr NoT wr W)=>HBL.out p.body hok.2 (putA (putsA Q (namT p.params)) ⟨#[41]⟩) B2 q2 W ((HF1.out.trans hb.out).trans hf) s2 HRR.out.2.2.2.2.2)
       obtain⟨pl,hpl⟩:=nmq p.params.length
       obtain⟨bl,hbl⟩:=nmq p.body.len
       obtain⟨bt,hbt⟩:=nmq (blkT (txS p.body))
       obtain⟨nt,hnt⟩:=nmq (namT p.params)
       obtain⟨pn,hpn⟩:=nmq p.nm
       rw[←hpl]at HV1 HD
       rw[←hbl]at HB1 HD
       rw[←hbt]at HB1 HNX
       rw[←hnt]at HV1 HB1 HNX HRR
       rw[←hpn]at HRR HQ e0
       rw[←hP]
       have HB:=hdq hb.out
       have HKR:=hdq hkr
       clear hd hat hp hpm hsm hbS d0 d1 d2 s1 s2 hok hfn hfs hsz hP hPr hpt r1 r2 r3 r4 r5 hQ hpl hbl hbt hnt hpn hb hkr y3
       go_wp2_with fail
       refine wp_region_still_tail 9 (by kernel_rfl) (by kernel_rfl) ?_
       simp only[List.take_succ_cons,List.take_zero,List.drop_succ_cons,List.drop_zero]
       repeat still_step
       still_call (tput_q _ _ HRR.out.1 _)
       repeat still_step
       still_call (tput_q _ _ HRR.out.2.1 _)
       repeat still_step
       try refine wpStill_nil ?_
       go_wp2_with fail
       refine(tput_any _ _ HRR.out.2.2.1 _).mono ?_
       rintro _ _ ⟨rfl,rfl⟩
       rw[←HQ.out]
       obtain⟨wd,hwd⟩:=nmq wr.drew
       rw[←hwd]
       have hfd:Fr NoT wr wd:=by rw[hwd];exact(Fr.refl _ _).drew
       clear hwd
       obtain⟨hxd,d1,d2⟩:=HD.out _ hfd
       have hkd:=HKR.out.fr0 hfd
       have z2:=hkd.cell 2
       have zl:=hkd.lt
       simp only[getsL]at z2
       have hfd2:Fr NoT wr wd.drew:=hfd.drew
       have HFD2:=hdq hfd2
       clear hfd hkd hfd2 y2 yl e0 hxr
       go_wp2_with fail
       refine wp_region_still_tail 15 (by kernel_rfl) (by kernel_rfl) ?_
       simp only[List.take_succ_cons,List.take_zero,List.drop_succ_cons,List.drop_zero]
       repeat still_step
       still_call (HV1.out _ HFD2.out)
       repeat still_step
       still_call (tput_q _ _ HRR.out.2.2.2.2.1 _)
       repeat still_step
       try refine wpStill_nil ?_
       go_wp2_with fail
       refine(HB1.out _ HFD2.out).mono ?_
       rintro _ w5 ⟨rfl,hf5⟩
       have HF5:=hdq (HB.out.trans (HFD2.out.trans hf5))
       clear hf5 z2 zl hxd d1 d2
       go_wp2_with fail
       go_roundw
       case rel=>exact⟨k+1,by omega,by go_num,by rw[HNX.out],HF5⟩
       case measure=>simp[intOf];omega
      ·have hlt':¬(k:Int) < (n3:Int):=by omega
       have HT:=hdq (show t.procs.take k=t.procs from List.take_of_length_le (by rw[←HN.out.2.2.1];omega))
       rw[HT.out]
       have hfd:Fr NoT wr wr.drew:=(Fr.refl _ _).drew
       have HB1:=hdq (HBL.out t.main HOK.out.1 (putA (putsA Y (t.procs.flatMap prcT)) ⟨#[109,97,105,110]⟩) Am cm wr.drew ((HF1.out.trans hb.out).trans hfd) HX.out.main HR.out.2.2.2.2)
       rw[←HN.out.2.2.2]at HB1
       have HB:=hdq (hb.out.trans hfd)
       obtain⟨F,hF⟩:=nmq (putsA Y (t.procs.flatMap prcT))
       have HRM:=hdq HR.out.2.2.2.1
       rw[←hF]at HB1 HRM ⊢
       obtain⟨bt,hbt⟩:=nmq (blkT (txS t.main))
       rw[←hbt]at HB1 ⊢
       have HFE:=hdq (aiq hF hbt)
       clear hb hkr hfd hF hbt
       go_wp2_with fail
       refine wp_region_still_tail 4 (by kernel_rfl) (by kernel_rfl) ?_
       simp only[List.take_succ_cons,List.take_zero,List.drop_succ_cons,List.drop_zero]
       repeat still_step
       still_call (tput_q _ _ HRM.out _)
       repeat still_step
       try refine wpStill_nil ?_
       go_wp2_with fail
       refine HB1.out.mono ?_
       rintro _ w6 ⟨rfl,hf6⟩
       have HF6:=hdq (HF1.out.trans (HB.out.trans hf6))
       clear hf6 y2 y3 yl
       go_wp2_with fail
       go_ret
       exact⟨by rw[←HFE.out.1,←HFE.out.2];rfl,HF6.out⟩
theorem tprint_any (t:Tre) (w:World) (S:Nat→Prop) (Z:Prop) (Av Aa Ap Am:Option Addr) (cv ca cp cm:Nat) (he:TwEnv w) (hS:∀b,S b→b < w.heap.size) (hsz:SzT t) (hx:TrR w S Z t Av Aa Ap Am cv ca cp cm) (hlen:okTr t=true→sumT (treT t)≤140737488355328):
  Calls Tryz.prog 13 #[trV t Av Aa Ap Am cv ca cp cm] w fun e w'=>e= .returned (.tuple #[.string (if okTr t then putsA ⟨#[]⟩ (treT t)else⟨#[]⟩),.int .i64 (if okTr t then 0 else 8)])∧Fr NoT w w':=by
 have HM:=hdq (fun(W:World) (hf:Fr NoT w W)=>rmay_any t W S Z Av Aa Ap Am cv ca cp cm (fun b hb=>ltq (hS b hb) hf.size) hsz (hx.keep (hf.same fun b hb=>⟨hS b hb,id⟩)))
 have HT:=hdq (fun(ht:okTr t=true) (W:World) (hf:Fr NoT w W)=>ttext_any t ht W S Z Av Aa Ap Am cv ca cp cm (he.keep hf.plain) (fun b hb=>ltq (hS b hb) hf.size) (hx.keep (hf.same fun b hb=>⟨hS b hb,id⟩)) (hlen ht))
 obtain⟨n1,hn1⟩:=nmq t.vars.length
 obtain⟨n2,hn2⟩:=nmq t.arrays.length
 obtain⟨n3,hn3⟩:=nmq t.procs.length
 obtain⟨n4,hn4⟩:=nmq t.main.len
 unfold trV at HM HT ⊢
 rw[←hn1,←hn2,←hn3,←hn4]at HM HT ⊢
 have HF1:=hdq (show Fr NoT w (w.alloc (.cells #[.slice Av n1 cv,.slice Aa n2 ca,.slice Ap n3 cp,.slice Am n4 cm] 27))from(Fr.refl _ _).alloc _)
 have HK1:=hdq (Bk.new w 27 #[.slice Av n1 cv,.slice Aa n2 ca,.slice Ap n3 cp,.slice Am n4 cm])
 obtain⟨T,hT⟩:=nmq (putsA ⟨#[]⟩ (treT t))
 rw[←hT]at HT ⊢
 clear hn1 hn2 hn3 hn4 he hS hsz hx hlen hT
 cases hok:okTr t
 ·rw[hok]at HM
  clear hok HT
  go_enter Tryz.func13,Tryz.ntmps13
  go_wp2_with fail
  refine(HM.out _ HF1.out).mono ?_
  rintro _ w2 ⟨rfl,hf2⟩
  have HF2:=hdq (HF1.out.trans hf2)
  clear hf2
  go_wp2_with fail
  go_ret2
  exact⟨rfl,HF2.out⟩
 ·have HT1:=hdq (HT.out hok)
  rw[hok]at HM
  clear hok HT
  go_enter Tryz.func13,Tryz.ntmps13
  go_wp2_with fail
  refine(HM.out _ HF1.out).mono ?_
  rintro _ w2 ⟨rfl,hf2⟩
  have HF2:=hdq (HF1.out.trans hf2)
  have hk2:=HK1.out.fr0 hf2
  obtain⟨x0,x1,x2,x3,hl1⟩:=bk4 hk2
  clear hf2 hk2
  go_wp2_with fail
  refine(HT1.out _ HF2.out).mono ?_
  rintro _ w3 ⟨rfl,hf3⟩
  have HF3:=hdq (HF2.out.trans hf3)
  clear hf3 x0 x1 x2 x3 hl1
  go_wp2_with fail
  go_ret2
  exact⟨rfl,HF3.out⟩
theorem tcheck_any (t:Tre) (w:World) (S:Nat→Prop) (Z:Prop) (Av Aa Ap Am:Option Addr) (cv ca cp cm:Nat) (hS:∀b,S b→b < w.heap.size) (hsz:SzT t) (hx:TrR w S Z t Av Aa Ap Am cv ca cp cm):
  Calls Tryz.prog 16 #[trV t Av Aa Ap Am cv ca cp cm] w fun e w'=>e= .returned (.int .i64 (if okTr t then 0 else 8))∧Fr NoT w w':=by
 have HM:=hdq (fun(W:World) (hf:Fr NoT w W)=>rmay_any t W S Z Av Aa Ap Am cv ca cp cm (fun b hb=>ltq (hS b hb) hf.size) hsz (hx.keep (hf.same fun b hb=>⟨hS b hb,id⟩)))
 unfold trV at HM ⊢
 have HF1:=hdq (show Fr NoT w (w.alloc (.cells #[.slice Av t.vars.length cv,.slice Aa t.arrays.length ca,.slice Ap t.procs.length cp,.slice Am t.main.len cm] 27))from(Fr.refl _ _).alloc _)
 obtain⟨ok,hok⟩:=nmq (okTr t)
 rw[←hok]at HM ⊢
 clear hS hsz hx hok
 cases ok
 all_goals
  go_enter Tryz.func16,Tryz.ntmps16
  go_wp2_with fail
  refine(HM.out _ HF1.out).mono ?_
  rintro _ w2 ⟨rfl,hf2⟩
  have HF2:=hdq (HF1.out.trans hf2)
  clear hf2
  go_wp2_with fail
  go_ret
  exact⟨rfl,HF2.out⟩
end Go.Proofs.YtmopichdofgndaaGreatDoor
