/-
  check: a procedure's check.
-/
import Derived.Test.YtphlnpaikpjakaaGreatDoorJgCkD
set_option linter.unusedVariables false
set_option linter.unusedSimpArgs false
set_option maxHeartbeats 8000000
namespace Go.Proofs.YtphlnpaikpjakaaGreatDoor
open Go.RowKit Go.Shelf Go.Maps

theorem CkN.box {w:World} {P b N:Nat} {kn:Kn} {st:Int×Int} (h:CkN w P b N kn st):Bk w P 174 #[.map (some b),.int .i64 st.1,.int .i64 st.2]:=by
 obtain⟨n,hn,h⟩:=h
 exact h.box
theorem cwalkE_any (P b:Nat) (w:World) (hP:P < w.heap.size) (hb:b < w.heap.size):Calls Tryz.prog 103 #[.pointer (some ⟨P,0,none⟩)] w fun e w'=>
  ∃B1 B2,e= .returned (.func (.func 141) #[] #[.pointer (some ⟨B1,0,none⟩),.pointer (some ⟨B2,0,none⟩)])∧WkAt w' P b B1 B2∧Fr NoT w w':=
 (cwalk_any P b w hP hb).mono fun _ _ ⟨h1,h2,h3⟩=>⟨_,_,h1,h2,h3⟩

def declA (s:Cks) (x:Arr):Cks:=
 ((declC s x.nm.data.toList x.at_ (2,0)).1,askC (declC s x.nm.data.toList x.at_ (2,0)).2 (decide ((1:Int)≤x.size)&&decide (x.size≤(16:Int))) (x.at_,113))
def declArs:List Arr→Cks→Cks
 | [],s=>s
 |x::r,s=>declArs r (declA s x)
def declPrs:List Prc→Cks→Cks
 | [],s=>s
 |x::r,s=>declPrs r (declC s x.nm.data.toList x.at_ (4,0))
def procsC:List Prc→Cks→Cks×Bool
 | [],s=>(s,false)
 |x::r,s=>if(procC x.nm.data.toList x.params x.body x.at_ s).2.2 =0 then procsC r (procC x.nm.data.toList x.params x.body x.at_ s)else(procC x.nm.data.toList x.params x.body x.at_ s,true)
def declT (t:Tre):Cks:=declPrs t.procs (declArs t.arrays (declVs (1,0) t.vars (fun _=>none,(0,0))))
def fewT (t:Tre):Bool:=decide ((t.vars.length:Int)≤12)&&decide ((t.arrays.length:Int)≤4)&&decide ((t.procs.length:Int)≤8)
def treeC (t:Tre):Int×Int:=
 if okTr t then
  if fewT t then
   if(procsC t.procs (declT t)).2 then(procsC t.procs (declT t)).1.2 else stmtsC (procsC t.procs (declT t)).1.1 t.main (procsC t.procs (declT t)).1.2
  else(0,4)
 else(0,8)
theorem fewT_few {t:Tre} (h:fewT t=true):t.vars.length≤12∧t.arrays.length≤4∧t.procs.length≤8:=by
 unfold fewT at h
 simp only[Bool.and_eq_true,decide_eq_true_eq]at h
 omega
theorem declArs_step {xs:List Arr} {i:Nat} {s:Cks} {a0 a1 a2 ar} (hd:xs.drop i=(⟨a0,a1,a2⟩:Arr)::ar∧xs.drop (i+1)=ar):declArs (xs.drop i) s=declArs (xs.drop (i+1)) (declA s ⟨a0,a1,a2⟩):=by
 rw[hd.1,hd.2];rfl
theorem declPrs_step {xs:List Prc} {i:Nat} {s:Cks} {a0 a1 a2 a3 ar} (hd:xs.drop i=(⟨a0,a1,a2,a3⟩:Prc)::ar∧xs.drop (i+1)=ar):declPrs (xs.drop i) s=declPrs (xs.drop (i+1)) (declC s a0.data.toList a3 (4,0)):=by
 rw[hd.1,hd.2];rfl

def npP:List Prc→Nat
 | []=>0
 |x::r=>x.params.length+1+npP r
theorem npP_le {w:World} {S:Nat→Prop} {Z:Prop}:∀ {xs:List Prc} {b o:Nat},PrR w S Z xs b o→npP xs≤xs.length*140737488355329
 | [],_,_,_=>Nat.zero_le _
 |x::r,b,o,⟨_,⟨A,c,_,h⟩,_,hr⟩=>by
  have h1:=npP_le hr
  have h2:=h.2.1.2
  simp only[npP,List.length_cons]
  omega
def SzP (x:Prc):Prop:=x.nm.size≤9223372036854775807∧(∀y∈x.params,y.nm.size≤9223372036854775807)∧szS x.body
def CkQ (P b N:Nat) (q:Bool) (s:Cks) (W:World) (e:Ending) (w':World):Prop:=e= .returned (.bool q)∧CkN w' P b N s.1 s.2∧Fr (CkT P b) W w'

def AtE (p:Int×Int) (W:World) (e:Ending) (w':World):Prop:=e= .returned (.tuple #[.int .i64 p.1,.int .i64 p.2])∧Fr NoT W w'
theorem CkN.made (w:World):CkN (((w.alloc (.map #[] 0)).alloc (.cells #[.map (some w.heap.size),.int .i64 0,.int .i64 0] 174)).alloc (.cells #[.pointer (some ⟨w.heap.size+1,0,none⟩)] 171)) (w.heap.size+1) w.heap.size 0 (fun _=>none) (0,0):=by
 have h1:=KnM.made w
 have hf:Fr NoT (w.alloc (.map #[] 0)) (((w.alloc (.map #[] 0)).alloc (.cells #[.map (some w.heap.size),.int .i64 0,.int .i64 0] 174)).alloc (.cells #[.pointer (some ⟨w.heap.size+1,0,none⟩)] 171)):=((Fr.refl _ _).alloc _).alloc _
 exact⟨0,lrq _,⟨(Bk.new_at _ _ _ (by simp)).alloc _,h1.fr hf id,by omega⟩⟩
def ConPr (xs:List Prc):Prop:=∀(P b N C:Nat) (s0:Cks) (A:Option Addr) (c:Nat) (w:World) (S:Nat→Prop) (Z:Prop),CkN w P b N s0.1 s0.2→Bk w C 171 #[.pointer (some ⟨P,0,none⟩)]→¬CkT P b C→(∀x∈xs,SzP x)→
  (∀x,S x→x < w.heap.size∧¬CkT P b x)→N+npP xs < maxLen→SlR (fun b o=>PrR w S Z xs b o) xs.length 72 A c→
  Calls Tryz.prog 100 #[.slice A xs.length c,.func (.func 101) #[] #[.pointer (some ⟨C,0,none⟩)]] w (CkQ P b (N+npP xs) (procsC xs s0).2 (procsC xs s0).1 w)
set_option maxRecDepth 100000 in
theorem ctree_few (t:Tre) (w:World) (S:Nat→Prop) (Z:Prop) (Av Aa Ap Am:Option Addr) (cv ca cp cm:Nat) (hS:∀b,S b→b < w.heap.size) (hsz:SzT t) (hx:TrR w S Z t Av Aa Ap Am cv ca cp cm) (ht:okTr t=true) (hf:fewT t=true) (hpc:∀W,Fr NoT w W→Calls Tryz.prog 97 #[trV t Av Aa Ap Am cv ca cp cm] W (ErrI 0 W)) (hcon:ConPr t.procs):
  Calls Tryz.prog 56 #[trV t Av Aa Ap Am cv ca cp cm] w (AtE (treeC t) w):=by
 have hT:treeC t=if(procsC t.procs (declT t)).2 then(procsC t.procs (declT t)).1.2 else stmtsC (procsC t.procs (declT t)).1.1 t.main (procsC t.procs (declT t)).1.2 :=by
  unfold treeC;rw[if_pos ht,if_pos hf]
 unfold declT at hT
 obtain⟨⟨F1,F2⟩,hF⟩:=nmq (treeC t)
 rw[←hF]at hT ⊢
 have hf1:Fr NoT w (w.alloc (.cells #[.slice Av t.vars.length cv,.slice Aa t.arrays.length ca,.slice Ap t.procs.length cp,.slice Am t.main.len cm] 49)):=(Fr.refl _ _).alloc _
 have h1:=hpc _ hf1
 have H1:=hdq h1
 have HF1:=hdq hf1
 have HK1:=hdq (Bk.new w 49 #[.slice Av t.vars.length cv,.slice Aa t.arrays.length ca,.slice Ap t.procs.length cp,.slice Am t.main.len cm])
 have hfw:=fewT_few hf
 have hnp:npP t.procs≤1125899906842632:=by
  by_cases h0:t.procs.length=0
  ·have:t.procs= []:=List.eq_nil_of_length_eq_zero h0
   rw[this];exact Nat.zero_le _
  ·obtain⟨b,o,_,h2⟩:=hx.procs.2.2 (by omega)
   exact leq9 (npP_le h2) (Nat.mul_le_mul_right _ hfw.2.2)
 unfold trV at H1 ⊢
 have HX:=hdq hx
 have HS:=hdq hS
 have HSZ:=hdq hsz
 have HT:=hdq hT
 have HCP:=hdq hcon
 obtain⟨n1,hn1⟩:=nmq t.vars.length
 obtain⟨n2,hn2⟩:=nmq t.arrays.length
 obtain⟨n3,hn3⟩:=nmq t.procs.length
 obtain⟨n4,hn4⟩:=nmq t.main.len
 obtain⟨np,hnpe⟩:=nmq (npP t.procs)
 rw[←hnpe]at hnp
 rw[←hn1]at hfw H1 HF1 HK1 ⊢
 rw[←hn2]at hfw H1 HF1 HK1 ⊢
 rw[←hn3]at hfw H1 HF1 HK1 ⊢
 rw[←hn4]at H1 HF1 HK1 ⊢
 have HN1:=hdq hn1
 have HN2:=hdq hn2
 have HN3:=hdq hn3
 have HN4:=hdq hn4
 have HNP:=hdq hnpe
 obtain⟨q1,q2,q3⟩:=hfw
 have e1:decide ((12:Int) < n1)=false:=by simp;omega
 have e2:decide ((4:Int) < n2)=false:=by simp;omega
 have e3:decide ((8:Int) < n3)=false:=by simp;omega
 have hmm:= @run_makeMap Tryz.prog
 have hmf:= @makeF Tryz.prog
 have hent:Enters Tryz.prog 141:=enters_of Tryz.func141 (by kernel_rfl) rfl
 unfold Enters at hent
 have HW0:=hdq (rfl:w.heap.size=w.heap.size)
 clear hf1 h1 hx hsz hS ht hf hpc hcon hn1 hn2 hn3 hn4 hnpe hT hF
 go_enter Tryz.func56,Tryz.ntmps56
 go_wp2_with fail
 refine H1.out.mono ?_
 rintro _ w1 ⟨rfl,hb⟩
 have hk1:=HK1.out.fr0 hb
 obtain⟨b,hbb⟩:=nmq w1.heap.size
 obtain⟨w4,hw4⟩:=nmq (((w1.alloc (.map #[] 0)).alloc (.cells #[.map (some w1.heap.size),.int .i64 0,.int .i64 0] 174)).alloc (.cells #[.pointer (some ⟨w1.heap.size+1,0,none⟩)] 171))
 have hf4:Fr NoT w1 w4:=by rw[hw4];exact(((Fr.refl _ _).alloc _).alloc _).alloc _
 have hc4:CkN w4 (w1.heap.size+1) w1.heap.size 0 (fun _=>none) (0,0):=by rw[hw4];exact CkN.made w1
 have hC4:Bk w4 (w1.heap.size+1+1) 171 #[.pointer (some ⟨w1.heap.size+1,0,none⟩)]:=by rw[hw4];exact Bk.new_at _ _ _ (by simp)
 obtain⟨x0,x1,x2,x3,hl1⟩:=bk4 hk1
 have HF4:=hdq ((HF1.out.trans hb).trans hf4)
 have HK4:=hdq (hk1.fr0 hf4)
 have HW4:=hdq hw4
 have HC4:=hdq hc4
 have HB4:=hdq hC4
 have HX4:=hdq (HX.out.keep (HF4.out.same fun b hb=>⟨HS.out b hb,id⟩))
 have HS4:=hdq (show ∀x,S x→x < w4.heap.size∧¬CkT (w1.heap.size+1) w1.heap.size x from fun x hx=>⟨ltq (HS.out x hx) HF4.out.size,fun e=>by
  have h1:=HS.out x hx
  have h2:=(HF1.out.trans hb).size
  rcases e with e|e<;>omega⟩)
 have HNB:=hdq (show ¬CkT (w1.heap.size+1) w1.heap.size w.heap.size from fun e=>by rcases e with e|e<;>omega)
 have HNC:=hdq (show ¬CkT (w1.heap.size+1) w1.heap.size (w1.heap.size+1+1)from fun e=>by rcases e with e|e<;>omega)
 have HHI:=hdq (show ∀W,Fr (CkT (w1.heap.size+1) w1.heap.size) w4 W→Fr NoT w W from fun W h=>by
  have h2:=(HF1.out.trans hb).size
  exact⟨h.os.trans HF4.out.os,h.tape.trans HF4.out.tape,h.output.trans HF4.out.output,leq9 HF4.out.size h.size,fun i hi _=>(h.block i (ltq hi HF4.out.size) (fun e=>by rcases e with e|e<;>omega)).trans (HF4.out.block i hi id)⟩)
 have m0:=HK4.out.cell 0
 rw[hw4]at m0
 simp only[getsL]at m0
 clear hb hk1 hw4 hf4 hc4 hC4
 have HBB:=hdq hbb
 clear hbb
 simp only[if_true]
 go_wp2_with fail
 rw[←HW4.out]
 have hbb:=HBB.out
 rw[←hbb]at HC4 HB4 HS4 HNB HNC HHI ⊢
 clear hbb
 clear m0 x0 x1 x2 x3 hl1 H1 HF1 HK1 HBB
 go_loopw [38] (fun i wr=>∃(k:Nat) (s:Cks),k≤n1∧i= .int .i64 k∧Hid (Fr (CkT (b+1) b) w4 wr)∧Hid (CkN wr (b+1) b k s.1 s.2)∧Hid (declVs (1,0) t.vars (fun _=>none,(0,0))=declVs (1,0) (t.vars.drop k) s)) (fun i _=>n1 - (intOf i).toNat)
 case atStart=>exact⟨0,(fun _=>none,(0,0)),Nat.zero_le _,rfl,Fr.refl _ _,HC4.out,rfl⟩
 case round=>
  obtain⟨k,s,hk,rfl,hb,hcn,hall⟩:=hrel
  have hkc:=HB4.out.fr hb.out HNC.out
  have d0:=hkc.cell 0
  have dl:=hkc.lt
  simp only[getsL]at d0
  clear hkc
  by_cases hlt:k < n1
  ·obtain⟨⟨a0,a1⟩,ar,hd⟩:=drop_head1 (show k < t.vars.length from by rw[←HN1.out];exact hlt)
   obtain⟨B,o,rfl,hat⟩:=HX4.out.vars.2.2 (by rw[←HN1.out];omega)
   have hat1:=(VaR.keep (hb.out.same fun x hx=>HS4.out x hx) hat).drop k
   rw[hd.1]at hat1
   obtain⟨⟨hbS,_,r1,c0,c1⟩,_⟩:=hat1
   have hxr:B < wr.heap.size:=ltq (HS4.out _ hbS).1 hb.out.size
   have hlt':(k:Int) < (n1:Int):=by omega
   have hge:(0:Int)≤(k:Int):=by omega
   simp only at c0 c1
   have hf2:Fr NoT wr (wr.alloc (.cells #[.string a0,.int .i64 a1] 87)):=(Fr.refl _ _).alloc _
   have hd0:=cdeclare_any (b+1) b k s.1 s.2 a0 a1 (1,0) _ (hcn.out.fr0 hf2) (HSZ.out.vars _ (mem_drop1 hd.1)) (by unfold maxLen;omega)
   unfold thV at hd0
   simp only at hd0
   have HD:=hdq hd0
   have HST:=hdq (hall.out.trans (declVs_step hd))
   have HB:=hdq (hb.out.trans (hf2.any:Fr (CkT (b+1) b) wr _))
   clear hd hat hall hb hbS hcn hf2 hd0
   go_wp2_with fail
   refine HD.out.mono ?_
   rintro _ w3 ⟨rfl,h3,hf3⟩
   have HN3:=hdq (aiq h3 (HB.out.trans hf3))
   clear h3 hf3 c0 c1
   go_wp2_with fail
   go_roundw
   case rel=>exact⟨k+1,declC s a0.data.toList a1 (1,0),by omega,by go_num,HN3.out.2,HN3.out.1,HST.out⟩
   case measure=>simp[intOf];omega
  ·obtain rfl:k=n1:=by omega
   have hall1:declVs (1,0) t.vars (fun _=>none,(0,0))=s:=by rw[hall.out,List.drop_eq_nil_of_le (by rw[←HN1.out];omega)];rfl
   have HS1:=hdq hall1
   have hlt':¬(k:Int) < (k:Int):=by omega
   obtain⟨x0,x1,x2,x3,hl1⟩:=bk4 (HK4.out.fr hb.out HNB.out)
   have HB:=hdq hb.out
   have HCN:=hdq hcn.out
   clear hall hall1 hb hcn d0 dl
   go_wp2_with fail
   clear x0 x1 x2 x3 hl1
   obtain⟨wo,rfl⟩:∃wo:World,wo=wr:=⟨_,rfl⟩
   go_loopw [53] (fun i wr=>∃(j:Nat) (sj:Cks),j≤n2∧i= .int .i64 j∧Hid (Fr (CkT (b+1) b) w4 wr)∧Hid (CkN wr (b+1) b (k+j) sj.1 sj.2)∧Hid (declArs t.arrays s=declArs (t.arrays.drop j) sj)) (fun i _=>n2 - (intOf i).toNat)
   case atStart=>exact⟨0,s,Nat.zero_le _,rfl,HB.out,HCN.out,rfl⟩
   case round=>
    clear HB HCN
    obtain⟨j,sj,hj,rfl,hb,hcn,hall⟩:=hrel
    have hkc:=HB4.out.fr hb.out HNC.out
    have d0:=hkc.cell 0
    have dl:=hkc.lt
    simp only[getsL]at d0
    clear hkc
    by_cases hlt:j < n2
    ·obtain⟨⟨a0,a1,a2⟩,ar,hd⟩:=drop_head1 (show j < t.arrays.length from by rw[←HN2.out];exact hlt)
     obtain⟨B,o,rfl,hat⟩:=HX4.out.arrays.2.2 (by rw[←HN2.out];omega)
     have hat1:=(ArR.keep (hb.out.same fun x hx=>HS4.out x hx) hat).drop j
     rw[hd.1]at hat1
     obtain⟨⟨hbS,_,r1,r2,c0,c1,c2⟩,_⟩:=hat1
     have hxr:B < wr.heap.size:=ltq (HS4.out _ hbS).1 hb.out.size
     have hltj:(j:Int) < (n2:Int):=by omega
     have hgej:(0:Int)≤(j:Int):=by omega
     simp only at c0 c1 c2
     obtain⟨w2,hw2⟩:=nmq (wr.alloc (.cells #[.string a0,.int .i64 a1,.int .i64 a2] 89))
     have hf2:Fr NoT wr w2:=by rw[hw2];exact(Fr.refl _ _).alloc _
     have hk2:Bk w2 wr.heap.size 89 #[.string a0,.int .i64 a1,.int .i64 a2]:=by rw[hw2];exact Bk.new _ _ _
     have hd0:=cdeclare_any (b+1) b (k+j) sj.1 sj.2 a0 a2 (2,0) w2 (hcn.out.fr0 hf2) (HSZ.out.arrays _ (mem_drop1 hd.1)) (by unfold maxLen;omega)
     unfold thV at hd0
     simp only at hd0
     have hnl:=hcn.out.lt
     have HNR:=hdq (show ¬CkT (b+1) b wr.heap.size from fun e=>by rcases e with e|e<;>omega)
     have HD:=hdq hd0
     have HST:=hdq (hall.out.trans (declArs_step hd))
     have HB:=hdq (hb.out.trans (hf2.any:Fr (CkT (b+1) b) wr _))
     have HK2:=hdq hk2
     have HW2:=hdq hw2
     obtain⟨p1,hp1⟩:=nmq (decide ((1:Int)≤a1))
     obtain⟨p2,hp2⟩:=nmq (decide (a1≤(16:Int)))
     have HP:=hdq (show declA sj ⟨a0,a1,a2⟩=((declC sj a0.data.toList a2 (2,0)).1,askC (declC sj a0.data.toList a2 (2,0)).2 (p1&&p2) (a2,113))from by rw[hp1,hp2];rfl)
     have g1:=hp1.symm
     have g2:=hp2.symm
     clear hd hat hall hb hbS hcn hf2 hd0 hk2 hw2 hp1 hp2 hnl
     cases p1
     all_goals cases p2
     all_goals
      go_wp2_with fail
      rw[←HW2.out]
      refine HD.out.mono ?_
      rintro _ w3 ⟨rfl,h3,hf3⟩
      have hk3:=HK2.out.fr hf3 HNR.out
      have y1:=hk3.cell 1
      have y2:=hk3.cell 2
      have yl:=hk3.lt
      have hkc:=HB4.out.fr (HB.out.trans hf3) HNC.out
      have d3:=hkc.cell 0
      have dl3:=hkc.lt
      simp only[getsL]at y1 y2 d3
      have HASK:=hdq (fun is=>caskN_any (b+1) b _ _ _ is a2 113 w3 h3)
      have HB3:=hdq (HB.out.trans hf3)
      clear h3 hf3 hk3 hkc c0 c1 c2 d0 dl hxr
      go_wp2_with fail
      refine(HASK.out _).mono ?_
      rintro _ w5 ⟨rfl,h5,hf5⟩
      have HN5:=hdq (aiq h5 (HB3.out.trans hf5))
      clear h5 hf5 y1 y2 d3
      go_wp2_with fail
      go_roundw
      case rel=>exact⟨j+1,declA sj ⟨a0,a1,a2⟩,by omega,by go_num,HN5.out.2,by rw[HP.out];exact HN5.out.1,HST.out⟩
      case measure=>simp[intOf];omega
    ·obtain rfl:j=n2:=by omega
     have hall1:declArs t.arrays s=sj:=by rw[hall.out,List.drop_eq_nil_of_le (by rw[←HN2.out];omega)];rfl
     have HS2:=hdq hall1
     have hltj:¬(j:Int) < (j:Int):=by omega
     obtain⟨x0,x1,x2,x3,hl1⟩:=bk4 (HK4.out.fr hb.out HNB.out)
     have HB:=hdq hb.out
     have HCN:=hdq hcn.out
     clear hall hall1 hb hcn d0 dl
     go_wp2_with fail
     clear x0 x1 x2 x3 hl1
     obtain⟨wq,rfl⟩:∃wq:World,wq=wr:=⟨_,rfl⟩
     go_loopw [80] (fun i wr=>∃(l:Nat) (sl:Cks),l≤n3∧i= .int .i64 l∧Hid (Fr (CkT (b+1) b) w4 wr)∧Hid (CkN wr (b+1) b (k+j+l) sl.1 sl.2)∧Hid (declPrs t.procs sj=declPrs (t.procs.drop l) sl)) (fun i _=>n3 - (intOf i).toNat)
     case atStart=>exact⟨0,sj,Nat.zero_le _,rfl,HB.out,HCN.out,rfl⟩
     case round=>
      clear HB HCN
      obtain⟨l,sl,hl,rfl,hb,hcn,hall⟩:=hrel
      have hkc:=HB4.out.fr hb.out HNC.out
      have d0:=hkc.cell 0
      have dl:=hkc.lt
      simp only[getsL]at d0
      have HKC:=hdq hkc
      clear hkc
      by_cases hlt:l < n3
      ·obtain⟨⟨a0,a1,a2,a3⟩,ar,hd⟩:=drop_head1 (show l < t.procs.length from by rw[←HN3.out];exact hlt)
       obtain⟨B,o,rfl,hat⟩:=HX4.out.procs.2.2 (by rw[←HN3.out];omega)
       have hat1:=(PrR.keep (hb.out.same fun x hx=>HS4.out x hx) hat).drop l
       rw[hd.1]at hat1
       obtain⟨⟨hbS,_,r1,c0,c3⟩,⟨A1,q1,c1,_⟩,⟨A2,q2,c2,_⟩,_⟩:=hat1
       have hxr:B < wr.heap.size:=ltq (HS4.out _ hbS).1 hb.out.size
       have hltl:(l:Int) < (n3:Int):=by omega
       have hgel:(0:Int)≤(l:Int):=by omega
       simp only at c0 c1 c2 c3
       have hf2:Fr NoT wr (wr.alloc (.cells #[.string a0,.slice A1 a1.length q1,.slice A2 a2.len q2,.int .i64 a3] 114)):=(Fr.refl _ _).alloc _
       have hd0:=cdeclare_any (b+1) b (k+j+l) sl.1 sl.2 a0 a3 (4,0) _ (hcn.out.fr0 hf2) (HSZ.out.procs _ (mem_drop1 hd.1)).1 (by unfold maxLen;omega)
       unfold thV at hd0
       simp only at hd0
       have HD:=hdq hd0
       have HST:=hdq (hall.out.trans (declPrs_step hd))
       have HB:=hdq (hb.out.trans (hf2.any:Fr (CkT (b+1) b) wr _))
       clear hd hat hall hb hbS hcn hf2 hd0
       go_wp2_with fail
       refine HD.out.mono ?_
       rintro _ w3 ⟨rfl,h3,hf3⟩
       have HN3':=hdq (aiq h3 (HB.out.trans hf3))
       clear h3 hf3 c0 c1 c2 c3
       go_wp2_with fail
       go_roundw
       case rel=>exact⟨l+1,declC sl a0.data.toList a3 (4,0),by omega,by go_num,HN3'.out.2,HN3'.out.1,HST.out⟩
       case measure=>simp[intOf];omega
      ·obtain rfl:l=n3:=by omega
       have hall1:declPrs t.procs sj=sl:=by rw[hall.out,List.drop_eq_nil_of_le (by rw[←HN3.out];omega)];rfl
       have hltl:¬(l:Int) < (l:Int):=by omega
       obtain⟨x0,x1,x2,x3,hl1⟩:=bk4 (HK4.out.fr hb.out HNB.out)
       have hsw:∀W,Fr (CkT (b+1) b) w4 W→∀x,S x→x < W.heap.size∧¬CkT (b+1) b x:=fun W h x hx=>⟨ltq (HS4.out x hx).1 h.size,(HS4.out x hx).2⟩
       have hxw:∀W,Fr (CkT (b+1) b) w4 W→TrR W S Z t Av Aa Ap Am cv ca cp cm:=fun W h=>HX4.out.keep (h.same fun x hx=>HS4.out x hx)
       have HCON:=hdq (HCP.out (b+1) b (k+j+l) (b+1+1) sl Ap cp wr S Z hcn.out HKC.out HNC.out (fun x hx=>HSZ.out.procs x hx) (hsw _ hb.out) (by have:=HNP.out;unfold maxLen;omega) (hxw _ hb.out).procs)
       rw[←HN3.out]at HCON
       have HT2:=HT.out
       rw[HS1.out,HS2.out,hall1]at HT2
       obtain⟨⟨⟨kz,az,ez⟩,q⟩,hpz⟩:=nmq (procsC t.procs sl)
       rw[←hpz]at HT2 HCON
       simp only at HT2
       have HTZ:=hdq HT2
       have HSW:=hdq hsw
       have HXW:=hdq hxw
       have HB:=hdq hb.out
       obtain⟨NN,hNN⟩:=nmq (k+j+l+npP t.procs)
       rw[←hNN]at HCON
       clear hall hall1 hb hcn HT2 hpz hsw hxw HKC hNN
       go_wp2_with fail
       refine HCON.out.mono ?_
       rintro _ w5 ⟨rfl,h5,hf5⟩
       have hf45:=HB.out.trans hf5
       have hkc:=HB4.out.fr hf45 HNC.out
       have hkt:=HK4.out.fr hf45 HNB.out
       have HF45:=hdq hf45
       have H5:=hdq h5
       have HKC:=hdq hkc
       have HKT:=hdq hkt
       clear hf45 hkc hkt h5 hf5 x0 x1 x2 x3 hl1 d0 dl
       cases q
       ·have hTZ:=HTZ.out
        simp only[Bool.false_eq_true,if_false]at hTZ
        have hf2:Fr NoT w5 w5.drew:=(Fr.refl _ _).drew
        have HCW:=hdq (cwalkE_any (b+1) b w5.drew (H5.out.fr0 hf2).lt.1 (H5.out.fr0 hf2).lt.2)
        have hst:=fun(B1 B2:Nat) (W:World) (h:Fr NoT w5.drew W) (hw:WkAt W (b+1) b B1 B2)=>cstmts_any kz t.main HSZ.out.main (b+1) b NN B1 B2 (az,ez) W S Z Am cm ((H5.out.fr0 hf2).fr0 h) hw (HSW.out W (HF45.out.trans ((hf2.trans h).any))) (HXW.out W (HF45.out.trans ((hf2.trans h).any))).main
        rw[←hTZ,←HN4.out]at hst
        have HS3:=hdq hst
        have HFD:=hdq hf2
        have d5:=HKC.out.cell 0
        have dl5:=HKC.out.lt
        simp only[getsL]at d5
        obtain⟨x0,x1,x2,x3,hl1⟩:=bk4 HKT.out
        clear hTZ hst hf2
        go_wp2_with fail
        go_region_law
         (first
          |(go_simp
            go_at_call 103
            with_reducible refine HCW.out.mono ?_
            rintro _ w6 ⟨B1,B2,rfl,hw6,hf6⟩
            have hkt6:=(HKT.out.fr0 HFD.out).fr0 hf6
            have g3:=hkt6.cell 3
            have gl:=hkt6.lt
            simp only[getsL]at g3
            have HC6:=hdq (HS3.out B1 B2 w6 hf6 hw6)
            have HF6:=hdq (HFD.out.trans hf6)
            clear hw6 hf6 hkt6
            dsimp only)
          |(go_simp
            go_at_call 141
            with_reducible refine HC6.out.mono ?_
            rintro _ w7 ⟨rfl,h7,hf7⟩
            have HC7:=hdq h7
            have HF7:=hdq (HF45.out.trans ((HF6.out.any:Fr (CkT (b+1) b) w5 _).trans hf7))
            clear h7 hf7
            dsimp only))
        all_goals
         have hkc7:=HB4.out.fr HF7.out HNC.out
         have d7:=hkc7.cell 0
         have dl7:=hkc7.lt
         have hbx:=HC7.out.box
         have p1:=hbx.cell 1
         have p2:=hbx.cell 2
         have pl:=hbx.lt
         simp only[getsL]at d7 p1 p2
         clear hkc7 hbx d5 dl5 x0 x1 x2 x3 hl1
         try clear g3 gl
         go_wp2_with fail
         go_quiet (fail)
         go_wp2_with fail
         go_ret2
         exact⟨rfl,(HHI.out _ HF7.out).drewN _⟩
       ·have hTZ:=HTZ.out
        simp only[if_true]at hTZ
        obtain⟨rfl,rfl⟩:=Prod.mk.inj hTZ
        have d5:=HKC.out.cell 0
        have dl5:=HKC.out.lt
        have hbx:=H5.out.box
        have p1:=hbx.cell 1
        have p2:=hbx.cell 2
        have pl:=hbx.lt
        simp only[getsL]at d5 p1 p2
        clear hTZ hbx
        go_wp2_with fail
        go_quiet (fail)
        go_wp2_with fail
        go_ret2
        exact⟨rfl,(HHI.out _ HF45.out).drewN _⟩

def Sts.app:Sts→Sts→Sts
 | .nil,ys=>ys
 | .cons k nm args cond body els at_ r,ys=> .cons k nm args cond body els at_ (Sts.app r ys)

abbrev Nms:=List UInt8→Option ByteArray
def ofN (n:Nms) (nm:ByteArray):ByteArray:=(n nm.data.toList).getD nm
def exprN (n:Nms):Exs→Exs
 | .nil => .nil
 | .cons k nm m args at_ r=> .cons k (if k=2 then ofN n nm else nm) m (exprN n args) at_ (exprN n r)
def condN (n:Nms):Cds→Cds
 | .nil => .nil
 | .cons k args of_ at_ r=> .cons k (exprN n args) (condN n of_) at_ (condN n r)
theorem exprN_len (n:Nms):∀xs,(exprN n xs).len =xs.len
 | .nil =>rfl
 | .cons _ _ _ _ _ r=>by simp only[exprN,Exs.len,exprN_len n r]
theorem condN_len (n:Nms):∀xs,(condN n xs).len =xs.len
 | .nil =>rfl
 | .cons _ _ _ _ r=>by simp only[condN,Cds.len,condN_len n r]
structure Ist where
 calls:Nat
 vars:List Va
 many:Nat
def fullB (s:Ist):Bool:=decide (256 < s.many) || decide (32 < s.vars.length)
def dotB:ByteArray:=⟨#[46]⟩
def parN (p:ByteArray) (c:Nat) (v:ByteArray):ByteArray:=p++dotB++⟨(Lib.itoa c).toArray⟩++dotB++v
def setsN (p:ByteArray) (c:Nat) (n:Nms) (at_:Int):List Va→Exs→Sts
 |v::vs,.cons k nm m a b r=> .cons 2 (parN p c v.nm) (exprN n (.cons k nm m a b .nil)) .nil .nil .nil at_ (setsN p c n at_ vs r)
 |_,_=> .nil
def ownN (p:ByteArray) (c:Nat):List Va→Nms→Nms
 | [],o=>o
 |v::vs,o=>ownN p c vs (fun y=>if y=v.nm.data.toList then some (parN p c v.nm)else o y)
def inlS (call:ByteArray→Exs→Nms→Int→Ist→Sts×Ist):Sts→Nms→Ist→Sts×Ist
 | .nil,_,s=>(.nil,s)
 | .cons k nm args cond body els at_ r,n,s=>
  if fullB s then(.nil,s)
  else if k=9 then(Sts.app (call nm args n at_ s).1 (inlS call r n (call nm args n at_ s).2).1,(inlS call r n (call nm args n at_ s).2).2)
  else
   (.cons k (if k=3 then nm else ofN n nm) (exprN n args) (condN n cond) (inlS call body n ⟨s.calls,s.vars,s.many+1⟩).1 (inlS call els n (inlS call body n ⟨s.calls,s.vars,s.many+1⟩).2).1 at_
    (inlS call r n (inlS call els n (inlS call body n ⟨s.calls,s.vars,s.many+1⟩).2).2).1,(inlS call r n (inlS call els n (inlS call body n ⟨s.calls,s.vars,s.many+1⟩).2).2).2)
def callN (procs:List UInt8→Option Prc) (stm:Sts→Nms→Ist→Sts×Ist) (nm:ByteArray) (args:Exs) (n:Nms) (at_:Int) (s:Ist):Sts×Ist:=
 match procs nm.data.toList with
 |none=>(.nil,s)
 |some x=>
  let h:Sts:= .cons 1 ⟨#[]⟩ .nil .nil .nil .nil at_ (setsN x.nm (s.calls+1) n at_ x.params args)
  let q:=stm x.body (ownN x.nm (s.calls+1) x.params fun _=>none) ⟨s.calls+1,s.vars++x.params.map (fun v=>⟨parN x.nm (s.calls+1) v.nm,v.at_⟩),s.many+(x.params.length+1)⟩
  (Sts.app h q.1,q.2)
def inlF (procs:List UInt8→Option Prc):Nat→Sts→Nms→Ist→Sts×Ist
 |0=>inlS fun _ _ _ _ s=>(.nil,s)
 |f+1=>inlS (callN procs (inlF procs f))
def procsOf:List Prc→List UInt8→Option Prc
 | [],_=>none
 |x::r,y=>match procsOf r y with
  |some z=>some z
  |none=>if y=x.nm.data.toList then some x else none
def inlQ (t:Tre):Sts×Ist:=inlF (procsOf t.procs) t.procs.length t.main (fun _=>none) ⟨0,t.vars,0⟩
def noTre:Tre:=⟨[], [], [],.nil⟩
def inlT (t:Tre):Tre×Int:=
 if(treeC t).2 =0 then(if fullB (inlQ t).2 then(noTre,9)else(⟨(inlQ t).2.vars,t.arrays, [],(inlQ t).1⟩,0))else(noTre,(treeC t).2)
def LvB (procs:List UInt8→Option Prc) (low:Sts→Prop):Sts→Prop
 | .nil =>True
 | .cons k nm args _ body els _ r=>(k=9→∃x,procs nm.data.toList=some x∧x.params.length=args.len∧low x.body)∧LvB procs low body∧LvB procs low els∧LvB procs low r

open Go.RowKit Go.Shelf

theorem idxAr0 (A:Option Addr) (c:Nat) (g:Value) (w:World):Calls Tryz.prog 214 #[.slice A 0 c,g] w fun e w'=>e= .returned (.int .i64 (-1))∧w'=w:=by
 go_enter Tryz.func214,Tryz.ntmps214
 go_wp2_with fail
 go_loopw [8] (fun i wr=>i= .int .i64 0∧wr=w) (fun _ _=>0)
 case atStart=>exact⟨rfl,rfl⟩
 case round=>
  obtain⟨rfl,rfl⟩:=hrel
  go_wp2_with fail
  go_ret
  exact⟨rfl,rfl⟩
theorem conAr0 (A:Option Addr) (c:Nat) (g:Value) (w:World):Calls Tryz.prog 188 #[.slice A 0 c,g] w fun e w'=>e= .returned (.bool false)∧w'=w:=by
 go_enter Tryz.func188,Tryz.ntmps188
 go_wp2_with fail
 refine(idxAr0 A c g w).mono ?_
 rintro _ _ ⟨rfl,rfl⟩
 go_wp2_with fail
 go_ret
 exact⟨rfl,rfl⟩
theorem allAr0 (A:Option Addr) (c:Nat) (g:Nat) (cap:Array Value) (w:World):Calls Tryz.prog 135 #[.slice A 0 c,.func (.func g) #[] cap] w (EqPost true w):=by
 have hmf:= @makeF Tryz.prog
 have HC:=hdq (conAr0 A c (.func (.func 189) #[] #[.pointer (some ⟨w.heap.size,0,none⟩)]) (w.alloc (.cells #[.func (.func g) #[] cap] 221)))
 go_enter Tryz.func135,Tryz.ntmps135
 go_wp2_with fail
 refine HC.out.mono ?_
 rintro _ _ ⟨rfl,rfl⟩
 go_wp2_with fail
 go_ret
 exact⟨rfl,(Fr.refl _ _).alloc _⟩
theorem idxPr0 (A:Option Addr) (c:Nat) (g:Value) (w:World):Calls Tryz.prog 140 #[.slice A 0 c,g] w fun e w'=>e= .returned (.int .i64 (-1))∧w'=w:=by
 go_enter Tryz.func140,Tryz.ntmps140
 go_wp2_with fail
 go_loopw [8] (fun i wr=>i= .int .i64 0∧wr=w) (fun _ _=>0)
 case atStart=>exact⟨rfl,rfl⟩
 case round=>
  obtain⟨rfl,rfl⟩:=hrel
  go_wp2_with fail
  go_ret
  exact⟨rfl,rfl⟩
theorem conPr0' (A:Option Addr) (c:Nat) (g:Value) (w:World):Calls Tryz.prog 100 #[.slice A 0 c,g] w fun e w'=>e= .returned (.bool false)∧w'=w:=by
 go_enter Tryz.func100,Tryz.ntmps100
 go_wp2_with fail
 refine(idxPr0 A c g w).mono ?_
 rintro _ _ ⟨rfl,rfl⟩
 go_wp2_with fail
 go_ret
 exact⟨rfl,rfl⟩
theorem allPr0 (A:Option Addr) (c:Nat) (g:Nat) (cap:Array Value) (w:World):Calls Tryz.prog 137 #[.slice A 0 c,.func (.func g) #[] cap] w (EqPost true w):=by
 have hmf:= @makeF Tryz.prog
 have HC:=hdq (conPr0' A c (.func (.func 190) #[] #[.pointer (some ⟨w.heap.size,0,none⟩)]) (w.alloc (.cells #[.func (.func g) #[] cap] 181)))
 go_enter Tryz.func137,Tryz.ntmps137
 go_wp2_with fail
 refine HC.out.mono ?_
 rintro _ _ ⟨rfl,rfl⟩
 go_wp2_with fail
 go_ret
 exact⟨rfl,(Fr.refl _ _).alloc _⟩
def kdS:Sts→Prop
 | .nil =>True
 | .cons k _ _ _ body els _ r=>(k=2∨k=8)∧kdS body∧kdS els∧kdS r
theorem stmt_one0 (k:Int) (nm:ByteArray) (at_:Int) (A:Option Addr) (l c:Nat) (B:Option Addr) (m d:Nat) (D:Option Addr) (u e:Nat) (E:Option Addr) (v f:Nat) (r1 r2 r3 r4:Bool) (w:World) (hk:k=2∨k=8) (he:SpEnv w) (hs:nm.size≤9223372036854775807)
  (hl:l≤9223372036854775807) (hm:m≤9223372036854775807) (hu:u≤9223372036854775807) (hv:v≤9223372036854775807)
  (h1:AllC 184 185 w A l c r1) (h2:AllC 186 187 w B m d r2) (h3:AllC 133 134 w D u e r3) (h4:AllC 133 134 w E v f r4):
  Calls Tryz.prog 134 #[.agg #[.int .u8 k,.string nm,.slice A l c,.slice B m d,.slice D u e,.slice E v f,.int .i64 at_]] w (EqPost (decide (1≤k)&&decide (k≤9)&&nmdB (tabA stShp k).2.2.2 nm&&(decide ((tabA stShp k).1 < 0) || (l:Int)==(tabA stShp k).1)&&((m:Int)==(tabA stShp k).2.2.1)&&(k==7 || k==8 || u==0)&&(k==7 || v==0)&&r1&&r2&&r3&&r4) w):=by
 have k1:1≤k:=by omega
 have k2:k≤9:=by omega
 obtain⟨a,o,c2,b,hsh,hidx⟩:=stmts_at k k1 k2
 have hta:tabA stShp k=(a,o,c2,b):=by unfold tabA;rw[hsh];rfl
 have x1:decide (1≤k)=true:=by simpa using k1
 have x2:decide (k≤9)=true:=by simpa using k2
 rw[hta,x1,x2]
 simp only[Bool.true_and]
 rcases hk with rfl|rfl
 ·have:stShp[(2:Int).toNat]?=some (1,0,0,true):=rfl
  rw[this]at hsh
  simp only[Option.some.injEq,Prod.mk.injEq]at hsh
  have hn:decide (a < 0)=false:=by rw[←hsh.1];rfl
  have:=stmt_one_3 2 nm at_ A l c B m d D u e E v f r1 r2 r3 r4 w he hs hl hm hu hv h1 h2 h3 h4 k1 k2 (by decide) (by decide) a o c2 b hidx hn
  rw[hn,show((2:Int)==7)=false from rfl,show((2:Int)==8)=false from rfl]
  simpa only[Bool.false_or,Bool.true_or,Bool.and_true]using this
 ·have:stShp[(8:Int).toNat]?=some (0,0,1,false):=rfl
  rw[this]at hsh
  simp only[Option.some.injEq,Prod.mk.injEq]at hsh
  have hn:decide (a < 0)=false:=by rw[←hsh.1];rfl
  have:=stmt_one_2 8 nm at_ A l c B m d D u e E v f r1 r2 r3 r4 w he hs hl hm hu hv h1 h2 h3 h4 k1 k2 rfl a o c2 b hidx hn
  rw[hn,show((8:Int)==7)=false from rfl,show((8:Int)==8)=true from rfl]
  simpa only[Bool.false_or,Bool.true_or,Bool.and_true]using this
theorem stmt_asks0:∀(xs:Sts) (w:World) (S:Nat→Prop) (Z:Prop),SpEnv w→(∀b,S b→b < w.heap.size)→szS xs→kdS xs→AskSt 134 #[] w S Z okT xs
 | .nil,_,_,_,_,_,_,_=>fun i _ _ _ _ _ _ _ _ hd=>by cases i<;>simp[Sts.drop]at hd
 | .cons k nm args cond body els at_ rest,w,S,Z,he,hS,hsz,hkd=>fun i _ _ _ _ _ _ _ _ hd r1 W A2 q2 A3 q3 A4 q4 A5 q5 hw s2 s3 s4 s5=>by
  cases i with
  |zero=>
   simp only[Sts.drop]at hd
   injection hd with e1 e2 e3 e4 e5 e6 e7 e8
   subst e1 e2 e3 e4 e5 e6 e7 e8
   rw[Array.append_empty]
   have hS2:∀W2,Fr NoT W W2→∀b,S b→b < W2.heap.size:=fun W2 h2 b hb=>ltq (hS b hb) (hw.trans h2).size
   have hS3:∀b,S b→b < W.heap.size:=fun b hb=>ltq (hS b hb) hw.size
   refine stmt_one0 k nm at_ A2 args.len q2 A3 cond.len q3 A4 body.len q4 A5 els.len q5 (okX args) (okC cond) (okS body) (okS els) W hkd.1 (he.keep hw.plain) hsz.1 (leq9 s2.1 s2.2.1.1) (leq9 s3.1 s3.2.1.1) (leq9 s4.1 s4.2.1.1) (leq9 s5.1 s5.2.1.1) (fun W2 h2=>?_) (fun W2 h2=>?_) (fun W2 h2=>?_) (fun W2 h2=>?_)
   ·exact exprs_any args A2 q2 W2 S Z (he.keep (hw.trans h2).plain) (hS2 W2 h2) hsz.2.1 (s2.imp fun _ _ hx=>ExR.keep (h2.same fun b hb=>⟨hS3 b hb,id⟩) hx)
   ·exact conds_any cond A3 q3 W2 S Z (he.keep (hw.trans h2).plain) (hS2 W2 h2) hsz.2.2.1 (s3.imp fun _ _ hx=>CdR.keep (h2.same fun b hb=>⟨hS3 b hb,id⟩) hx)
   ·have:=allSt_any okT body A4 q4 134 #[] W2 S Z (hS2 W2 h2) (s4.imp fun _ _ hx=>StR.keep (h2.same fun b hb=>⟨hS3 b hb,id⟩) hx) (enters_of Tryz.func134 (by kernel_rfl) rfl) (stmt_asks0 body W2 S Z (he.keep (hw.trans h2).plain) (hS2 W2 h2) hsz.2.2.2.1 hkd.2.1)
    rw[okS_all]at this
    exact this
   ·have:=allSt_any okT els A5 q5 134 #[] W2 S Z (hS2 W2 h2) (s5.imp fun _ _ hx=>StR.keep (h2.same fun b hb=>⟨hS3 b hb,id⟩) hx) (enters_of Tryz.func134 (by kernel_rfl) rfl) (stmt_asks0 els W2 S Z (he.keep (hw.trans h2).plain) (hS2 W2 h2) hsz.2.2.2.2.1 hkd.2.2.1)
    rw[okS_all]at this
    exact this
  |succ i=>
   simp only[Sts.drop]at hd
   exact stmt_asks0 rest w S Z he hS hsz.2.2.2.2.2 hkd.2.2.2 i _ _ _ _ _ _ _ _ hd r1 W A2 q2 A3 q3 A4 q4 A5 q5 hw s2 s3 s4 s5
theorem conPr0:ConPr []:=fun P b N C s0 A c w S Z h0 h1 h2 h3 h4 h5 h6=>(conPr0' A c _ w).mono fun e w' ⟨k1,k2⟩=>by
 subst k2
 exact⟨k1,h0,Fr.refl _ _⟩
theorem ctree0 (t:Tre) (w:World) (S:Nat→Prop) (Z:Prop) (Av Aa Ap Am:Option Addr) (cv ca cp cm:Nat) (he:SpEnv w) (hS:∀b,S b→b < w.heap.size) (hsz:SzT t) (hx:TrR w S Z t Av Aa Ap Am cv ca cp cm) (ha:t.arrays= []) (hp:t.procs= []) (hk:kdS t.main) (ht:okTr t=true) (hf:fewT t=true):
  Calls Tryz.prog 56 #[trV t Av Aa Ap Am cv ca cp cm] w (AtE (treeC t) w):=by
 refine ctree_few t w S Z Av Aa Ap Am cv ca cp cm hS hsz hx ht hf (fun W hW=>?_) (by rw[hp];exact conPr0)
 have keep:∀W',Fr NoT W W'→TrR W' S Z t Av Aa Ap Am cv ca cp cm:=fun W' h=>hx.keep ((hW.trans h).same fun b hb=>⟨hS b hb,id⟩)
 have hSW:∀W',Fr NoT W W'→∀b,S b→b < W'.heap.size:=fun W' h b hb=>ltq (hS b hb) (hW.trans h).size
 have h:=pcheck_of t W S Z Av Aa Ap Am cv ca cp cm (he.keep hW.plain) (hSW W (Fr.refl _ _)) hsz (keep W (Fr.refl _ _))
  (fun W' h=>by
   have:=allSt_any okT t.main Am cm 134 #[] W' S Z (hSW W' h) (keep W' h).main (enters_of Tryz.func134 (by kernel_rfl) rfl) (stmt_asks0 t.main W' S Z (he.keep (hW.trans h).plain) (hSW W' h) hsz.main hk)
   rw[okS_all]at this
   exact this)
  (fun W' h=>by rw[ha];exact allAr0 Aa ca _ _ W')
  fun W' h hb=>by rw[hp];exact allPr0 Ap cp _ _ W'
 rw[ht]at h
 exact h
end Go.Proofs.YtphlnpaikpjakaaGreatDoor
