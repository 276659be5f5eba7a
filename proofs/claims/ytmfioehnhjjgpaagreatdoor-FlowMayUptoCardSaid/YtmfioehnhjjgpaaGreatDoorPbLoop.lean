/-
  print.bare at six types: a clone, turned in place. Printed by wip/gen_pb/gen.py.
-/
import Derived.Test.YtmfioehnhjjgpaaGreatDoorJgPbRow
import Derived.Test.YtmfioehnhjjgpaaGreatDoorPbClone
set_option linter.unusedVariables false
set_option linter.unusedSimpArgs false
set_option maxHeartbeats 1600000
set_option maxRecDepth 100000
namespace Go.Proofs.YtmfioehnhjjgpaaGreatDoor
open Go.RowKit Go.Shelf

theorem znI {w:World} {S:Nat→Prop} {x:Ex} {ys:List Value} (h:oneX w S x ys):ys.length=5:=by obtain⟨A,c,rfl,_⟩:=h;rfl
theorem znJ {w:World} {S:Nat→Prop} {x:Cn} {ys:List Value} (h:oneC w S x ys):ys.length=4:=by obtain⟨A,c,B,e,rfl,_⟩:=h;rfl
theorem znK {w:World} {S:Nat→Prop} {x:St} {ys:List Value} (h:oneS w S x ys):ys.length=7:=by obtain⟨A2,c2,A3,c3,A4,c4,A5,c5,rfl,_⟩:=h;rfl
theorem znL {w:World} {S:Nat→Prop} {x:Va} {ys:List Value} (h:oneV w S x ys):ys.length=2:=by obtain⟨rfl,_⟩:=h;rfl
theorem znM {w:World} {S:Nat→Prop} {x:Arr} {ys:List Value} (h:oneA w S x ys):ys.length=3:=by obtain⟨rfl,_⟩:=h;rfl
theorem znN {w:World} {S:Nat→Prop} {x:Prc} {ys:List Value} (h:oneP w S x ys):ys.length=4:=by obtain⟨A,c,B,e,rfl,_⟩:=h;rfl
theorem zqU (xs:List Ex) (hall:∀x∈xs,zbH oneX 5 68 Ex.brz x) (w:World) (S:Nat→Prop) (A:Option Addr) (c:Nat) (cs:List Value) (hS:∀b,S b→b < w.heap.size) (hl:xs.length≤9223372036854775807) (hb:xs.length*64≤140737488355328) (hcl:cs.length=xs.length*5) (hrow:RowR oneX w S xs cs) (hone:One1 cs) (hnil:A=none→xs.length=0) (hcs:∀ad,A=some ad→∀j u,cs[j]?=some u→w.cell? (ad.add j)=some u):
  Calls Tryz.prog 67 #[.slice A xs.length c,.func (.func 68) #[] #[]] w (BrP oneX Ex.brz xs w):=by
 have HCL:=hdq (ze8 A xs.length c cs w hl hb hcl hone hnil hcs)
 have HA:=hdq hall
 have HS:=hdq hS
 have HROW:=hdq (aiq hcl hrow)
 have hen:Enters Tryz.prog 68:=enters_of Tryz.func68 (by kernel_rfl) rfl
 unfold Enters at hen
 obtain⟨m,hm⟩:=nmq xs.length
 rw[←hm]at hl HCL ⊢
 have HM:=hdq hm
 clear hall hS hm hb hcl hrow hone hnil hcs
 go_enter Tryz.func67,Tryz.ntmps67
 go_wp2_with fail
 refine HCL.out.mono ?_
 rintro _ w1 ⟨v,rfl,hown,hf1,A1,c1,rfl⟩
 by_cases h0:m=0
 ·subst h0
  have HF1:=hdq hf1
  have HC1:=hdq (zb7 hown)
  clear hown hf1
  go_wp2_with fail
  go_loopw [10] (fun i wr=>wr=w1∧i= .int .i64 0) (fun _ _=>0)
  case atStart=>exact⟨rfl,rfl⟩
  case round=>
   obtain⟨rfl,rfl⟩:=hrel
   go_wp2_with fail
   go_ret
   exact⟨A1,c1,by rw[←HM.out];rfl,by rw[←HM.out];exact Nat.zero_le _,HC1.out,HF1.out,fun h=>absurd h (by rw[←HM.out];exact Nat.lt_irrefl 0)⟩
 ·obtain⟨g,cap,pad,e,hgL,hgl,hmc,hcm,hbk⟩:=za9 hown (Nat.pos_of_ne_zero h0)
  obtain⟨rfl,rfl⟩:A1=some ⟨g,0,none⟩∧c1=cap:=by
   injection e with e1 e2 e3
   exact⟨e1,e3⟩
  have HST:=hdq (show BrSt oneX 5 133 Ex.brz w S xs g w1 (cs++pad).toArray [] cs 0 from⟨hbk,hf1,by simp,by simp,fun j u hj=>by
   have:=(List.getElem?_eq_some_iff.1 hj).1
   rw[Nat.zero_mul,Nat.zero_add,List.getElem?_toArray,List.getElem?_append_left this];exact hj,rfl,HROW.out.2⟩)
  have HG:=hdq (aiq hgL (aiq hmc hcm))
  clear hown hf1 hbk e hgl hcm hgL hmc
  go_wp2_with fail
  go_loopw [10] (fun i wr=>∃k:Nat,k≤m∧i= .int .i64 k∧∃(cur:Array Value) (d1 d2:List Value),Hid (BrSt oneX 5 133 Ex.brz w S xs g wr cur d1 d2 k)) (fun i _=>m - (intOf i).toNat)
  case atStart=>exact⟨0,Nat.zero_le _,rfl,_,_,_,HST⟩
  case round=>
   clear HST
   obtain⟨k,hk,rfl,cur,d1,d2,hb⟩:=hrel
   by_cases hlt:k < m
   ·obtain⟨x,r,hd,hd1⟩:=zad (show k < xs.length from by rw[←HM.out];exact hlt)
    have hr2:=hb.out.r2
    rw[hd]at hr2
    obtain⟨ys,cs',rfl,h1,hr⟩:=hr2
    have hlt':(k:Int) < (m:Int):=by omega
    have hge:(0:Int)≤(k:Int):=by omega
    have hgw:w.heap.size≤g:=HG.out.1
    have hc2:=hb.out.c2
    have hym:ys.length=5:=znI h1
    have HC:=hdq (HA.out x (List.mem_of_mem_drop (i:=k) (by rw[hd];simp)) wr S ys g (k*5) 133 cur (fun b hb'=>⟨ltq (HS.out b hb') hb.out.fr.size,by have:=HS.out b hb';omega⟩) (zbp _ _ _ _ _ _ (hb.out.fr.same fun b hb'=>⟨HS.out b hb',id⟩) (fun _ h=>h) h1) hb.out.bk (fun j u hj=>hc2 j u (by rw[List.getElem?_append_left (List.getElem?_eq_some_iff.1 hj).1];exact hj)))
    have HD:=hdq (aiq hd (aiq hym hr))
    have hbl:=hb.out.bk.lt
    clear hd hd1 hr h1 hym hc2
    go_wp2_with fail
    refine HC.out.mono ?_
    rintro _ w2 ⟨rfl,zs,cur',hbk,hone,hz,hf2⟩
    have HNX:=hdq (hb.out.step zbp HD.out.1 HD.out.2.1 HD.out.2.2 hgw hbk hone hz hf2)
    clear hbk hone hz hf2 hb hbl
    go_wp2_with fail
    go_roundw
    case rel=>exact⟨k+1,by omega,by go_num,_,_,_,HNX⟩
    case measure=>simp[intOf];omega
   ·have hlt':¬(k:Int) < (m:Int):=by omega
    have hkm:k=m:=by omega
    subst hkm
    have hdn:BrSt oneX 5 133 Ex.brz w S xs g wr cur d1 d2 xs.length:=HM.out▸hb.out
    have HDN:=hdq (hdn.done zbp HG.out.1)
    have HF:=hdq hb.out.fr
    clear hdn hb
    go_wp2_with fail
    go_ret
    exact⟨_,_,by rw[←HM.out];rfl,by rw[←HM.out];exact HG.out.2.1,by have:=HG.out.2.2;unfold maxLen at this;omega,HF.out,fun _=>⟨g,d1,rfl,HDN.out⟩⟩
theorem zqV (xs:List Cn) (hall:∀x∈xs,zbH oneC 4 70 Cn.brz x) (w:World) (S:Nat→Prop) (A:Option Addr) (c:Nat) (cs:List Value) (hS:∀b,S b→b < w.heap.size) (hl:xs.length≤9223372036854775807) (hb:xs.length*64≤140737488355328) (hcl:cs.length=xs.length*4) (hrow:RowR oneC w S xs cs) (hone:One1 cs) (hnil:A=none→xs.length=0) (hcs:∀ad,A=some ad→∀j u,cs[j]?=some u→w.cell? (ad.add j)=some u):
  Calls Tryz.prog 69 #[.slice A xs.length c,.func (.func 70) #[] #[]] w (BrP oneC Cn.brz xs w):=by
 have HCL:=hdq (ze9 A xs.length c cs w hl hb hcl hone hnil hcs)
 have HA:=hdq hall
 have HS:=hdq hS
 have HROW:=hdq (aiq hcl hrow)
 have hen:Enters Tryz.prog 70:=enters_of Tryz.func70 (by kernel_rfl) rfl
 unfold Enters at hen
 obtain⟨m,hm⟩:=nmq xs.length
 rw[←hm]at hl HCL ⊢
 have HM:=hdq hm
 clear hall hS hm hb hcl hrow hone hnil hcs
 go_enter Tryz.func69,Tryz.ntmps69
 go_wp2_with fail
 refine HCL.out.mono ?_
 rintro _ w1 ⟨v,rfl,hown,hf1,A1,c1,rfl⟩
 by_cases h0:m=0
 ·subst h0
  have HF1:=hdq hf1
  have HC1:=hdq (zb7 hown)
  clear hown hf1
  go_wp2_with fail
  go_loopw [10] (fun i wr=>wr=w1∧i= .int .i64 0) (fun _ _=>0)
  case atStart=>exact⟨rfl,rfl⟩
  case round=>
   obtain⟨rfl,rfl⟩:=hrel
   go_wp2_with fail
   go_ret
   exact⟨A1,c1,by rw[←HM.out];rfl,by rw[←HM.out];exact Nat.zero_le _,HC1.out,HF1.out,fun h=>absurd h (by rw[←HM.out];exact Nat.lt_irrefl 0)⟩
 ·obtain⟨g,cap,pad,e,hgL,hgl,hmc,hcm,hbk⟩:=za9 hown (Nat.pos_of_ne_zero h0)
  obtain⟨rfl,rfl⟩:A1=some ⟨g,0,none⟩∧c1=cap:=by
   injection e with e1 e2 e3
   exact⟨e1,e3⟩
  have HST:=hdq (show BrSt oneC 4 137 Cn.brz w S xs g w1 (cs++pad).toArray [] cs 0 from⟨hbk,hf1,by simp,by simp,fun j u hj=>by
   have:=(List.getElem?_eq_some_iff.1 hj).1
   rw[Nat.zero_mul,Nat.zero_add,List.getElem?_toArray,List.getElem?_append_left this];exact hj,rfl,HROW.out.2⟩)
  have HG:=hdq (aiq hgL (aiq hmc hcm))
  clear hown hf1 hbk e hgl hcm hgL hmc
  go_wp2_with fail
  go_loopw [10] (fun i wr=>∃k:Nat,k≤m∧i= .int .i64 k∧∃(cur:Array Value) (d1 d2:List Value),Hid (BrSt oneC 4 137 Cn.brz w S xs g wr cur d1 d2 k)) (fun i _=>m - (intOf i).toNat)
  case atStart=>exact⟨0,Nat.zero_le _,rfl,_,_,_,HST⟩
  case round=>
   clear HST
   obtain⟨k,hk,rfl,cur,d1,d2,hb⟩:=hrel
   by_cases hlt:k < m
   ·obtain⟨x,r,hd,hd1⟩:=zad (show k < xs.length from by rw[←HM.out];exact hlt)
    have hr2:=hb.out.r2
    rw[hd]at hr2
    obtain⟨ys,cs',rfl,h1,hr⟩:=hr2
    have hlt':(k:Int) < (m:Int):=by omega
    have hge:(0:Int)≤(k:Int):=by omega
    have hgw:w.heap.size≤g:=HG.out.1
    have hc2:=hb.out.c2
    have hym:ys.length=4:=znJ h1
    have HC:=hdq (HA.out x (List.mem_of_mem_drop (i:=k) (by rw[hd];simp)) wr S ys g (k*4) 137 cur (fun b hb'=>⟨ltq (HS.out b hb') hb.out.fr.size,by have:=HS.out b hb';omega⟩) (zb5 _ _ _ _ _ _ (hb.out.fr.same fun b hb'=>⟨HS.out b hb',id⟩) (fun _ h=>h) h1) hb.out.bk (fun j u hj=>hc2 j u (by rw[List.getElem?_append_left (List.getElem?_eq_some_iff.1 hj).1];exact hj)))
    have HD:=hdq (aiq hd (aiq hym hr))
    have hbl:=hb.out.bk.lt
    clear hd hd1 hr h1 hym hc2
    go_wp2_with fail
    refine HC.out.mono ?_
    rintro _ w2 ⟨rfl,zs,cur',hbk,hone,hz,hf2⟩
    have HNX:=hdq (hb.out.step zb5 HD.out.1 HD.out.2.1 HD.out.2.2 hgw hbk hone hz hf2)
    clear hbk hone hz hf2 hb hbl
    go_wp2_with fail
    go_roundw
    case rel=>exact⟨k+1,by omega,by go_num,_,_,_,HNX⟩
    case measure=>simp[intOf];omega
   ·have hlt':¬(k:Int) < (m:Int):=by omega
    have hkm:k=m:=by omega
    subst hkm
    have hdn:BrSt oneC 4 137 Cn.brz w S xs g wr cur d1 d2 xs.length:=HM.out▸hb.out
    have HDN:=hdq (hdn.done zb5 HG.out.1)
    have HF:=hdq hb.out.fr
    clear hdn hb
    go_wp2_with fail
    go_ret
    exact⟨_,_,by rw[←HM.out];rfl,by rw[←HM.out];exact HG.out.2.1,by have:=HG.out.2.2;unfold maxLen at this;omega,HF.out,fun _=>⟨g,d1,rfl,HDN.out⟩⟩
theorem zqW (xs:List St) (hall:∀x∈xs,zbH oneS 7 31 St.brz x) (w:World) (S:Nat→Prop) (A:Option Addr) (c:Nat) (cs:List Value) (hS:∀b,S b→b < w.heap.size) (hl:xs.length≤9223372036854775807) (hb:xs.length*128≤140737488355328) (hcl:cs.length=xs.length*7) (hrow:RowR oneS w S xs cs) (hone:One1 cs) (hnil:A=none→xs.length=0) (hcs:∀ad,A=some ad→∀j u,cs[j]?=some u→w.cell? (ad.add j)=some u):
  Calls Tryz.prog 30 #[.slice A xs.length c,.func (.func 31) #[] #[]] w (BrP oneS St.brz xs w):=by
 have HCL:=hdq (zjP A xs.length c cs w hl hb hcl hone hnil hcs)
 have HA:=hdq hall
 have HS:=hdq hS
 have HROW:=hdq (aiq hcl hrow)
 have hen:Enters Tryz.prog 31:=enters_of Tryz.func31 (by kernel_rfl) rfl
 unfold Enters at hen
 obtain⟨m,hm⟩:=nmq xs.length
 rw[←hm]at hl HCL ⊢
 have HM:=hdq hm
 clear hall hS hm hb hcl hrow hone hnil hcs
 go_enter Tryz.func30,Tryz.ntmps30
 go_wp2_with fail
 refine HCL.out.mono ?_
 rintro _ w1 ⟨v,rfl,hown,hf1,A1,c1,rfl⟩
 by_cases h0:m=0
 ·subst h0
  have HF1:=hdq hf1
  have HC1:=hdq (zb7 hown)
  clear hown hf1
  go_wp2_with fail
  go_loopw [10] (fun i wr=>wr=w1∧i= .int .i64 0) (fun _ _=>0)
  case atStart=>exact⟨rfl,rfl⟩
  case round=>
   obtain⟨rfl,rfl⟩:=hrel
   go_wp2_with fail
   go_ret
   exact⟨A1,c1,by rw[←HM.out];rfl,by rw[←HM.out];exact Nat.zero_le _,HC1.out,HF1.out,fun h=>absurd h (by rw[←HM.out];exact Nat.lt_irrefl 0)⟩
 ·obtain⟨g,cap,pad,e,hgL,hgl,hmc,hcm,hbk⟩:=za9 hown (Nat.pos_of_ne_zero h0)
  obtain⟨rfl,rfl⟩:A1=some ⟨g,0,none⟩∧c1=cap:=by
   injection e with e1 e2 e3
   exact⟨e1,e3⟩
  have HST:=hdq (show BrSt oneS 7 86 St.brz w S xs g w1 (cs++pad).toArray [] cs 0 from⟨hbk,hf1,by simp,by simp,fun j u hj=>by
   have:=(List.getElem?_eq_some_iff.1 hj).1
   rw[Nat.zero_mul,Nat.zero_add,List.getElem?_toArray,List.getElem?_append_left this];exact hj,rfl,HROW.out.2⟩)
  have HG:=hdq (aiq hgL (aiq hmc hcm))
  clear hown hf1 hbk e hgl hcm hgL hmc
  go_wp2_with fail
  go_loopw [10] (fun i wr=>∃k:Nat,k≤m∧i= .int .i64 k∧∃(cur:Array Value) (d1 d2:List Value),Hid (BrSt oneS 7 86 St.brz w S xs g wr cur d1 d2 k)) (fun i _=>m - (intOf i).toNat)
  case atStart=>exact⟨0,Nat.zero_le _,rfl,_,_,_,HST⟩
  case round=>
   clear HST
   obtain⟨k,hk,rfl,cur,d1,d2,hb⟩:=hrel
   by_cases hlt:k < m
   ·obtain⟨x,r,hd,hd1⟩:=zad (show k < xs.length from by rw[←HM.out];exact hlt)
    have hr2:=hb.out.r2
    rw[hd]at hr2
    obtain⟨ys,cs',rfl,h1,hr⟩:=hr2
    have hlt':(k:Int) < (m:Int):=by omega
    have hge:(0:Int)≤(k:Int):=by omega
    have hgw:w.heap.size≤g:=HG.out.1
    have hc2:=hb.out.c2
    have hym:ys.length=7:=znK h1
    have HC:=hdq (HA.out x (List.mem_of_mem_drop (i:=k) (by rw[hd];simp)) wr S ys g (k*7) 86 cur (fun b hb'=>⟨ltq (HS.out b hb') hb.out.fr.size,by have:=HS.out b hb';omega⟩) (zaL _ _ _ _ _ _ (hb.out.fr.same fun b hb'=>⟨HS.out b hb',id⟩) (fun _ h=>h) h1) hb.out.bk (fun j u hj=>hc2 j u (by rw[List.getElem?_append_left (List.getElem?_eq_some_iff.1 hj).1];exact hj)))
    have HD:=hdq (aiq hd (aiq hym hr))
    have hbl:=hb.out.bk.lt
    clear hd hd1 hr h1 hym hc2
    go_wp2_with fail
    refine HC.out.mono ?_
    rintro _ w2 ⟨rfl,zs,cur',hbk,hone,hz,hf2⟩
    have HNX:=hdq (hb.out.step zaL HD.out.1 HD.out.2.1 HD.out.2.2 hgw hbk hone hz hf2)
    clear hbk hone hz hf2 hb hbl
    go_wp2_with fail
    go_roundw
    case rel=>exact⟨k+1,by omega,by go_num,_,_,_,HNX⟩
    case measure=>simp[intOf];omega
   ·have hlt':¬(k:Int) < (m:Int):=by omega
    have hkm:k=m:=by omega
    subst hkm
    have hdn:BrSt oneS 7 86 St.brz w S xs g wr cur d1 d2 xs.length:=HM.out▸hb.out
    have HDN:=hdq (hdn.done zaL HG.out.1)
    have HF:=hdq hb.out.fr
    clear hdn hb
    go_wp2_with fail
    go_ret
    exact⟨_,_,by rw[←HM.out];rfl,by rw[←HM.out];exact HG.out.2.1,by have:=HG.out.2.2;unfold maxLen at this;omega,HF.out,fun _=>⟨g,d1,rfl,HDN.out⟩⟩
theorem zqX (xs:List Va) (hall:∀x∈xs,zbH oneV 2 27 Va.bare x) (w:World) (S:Nat→Prop) (A:Option Addr) (c:Nat) (cs:List Value) (hS:∀b,S b→b < w.heap.size) (hl:xs.length≤9223372036854775807) (hb:xs.length*24≤140737488355328) (hcl:cs.length=xs.length*2) (hrow:RowR oneV w S xs cs) (hone:One1 cs) (hnil:A=none→xs.length=0) (hcs:∀ad,A=some ad→∀j u,cs[j]?=some u→w.cell? (ad.add j)=some u):
  Calls Tryz.prog 26 #[.slice A xs.length c,.func (.func 27) #[] #[]] w (BrP oneV Va.bare xs w):=by
 have HCL:=hdq (zfa A xs.length c cs w hl hb hcl hone hnil hcs)
 have HA:=hdq hall
 have HS:=hdq hS
 have HROW:=hdq (aiq hcl hrow)
 have hen:Enters Tryz.prog 27:=enters_of Tryz.func27 (by kernel_rfl) rfl
 unfold Enters at hen
 obtain⟨m,hm⟩:=nmq xs.length
 rw[←hm]at hl HCL ⊢
 have HM:=hdq hm
 clear hall hS hm hb hcl hrow hone hnil hcs
 go_enter Tryz.func26,Tryz.ntmps26
 go_wp2_with fail
 refine HCL.out.mono ?_
 rintro _ w1 ⟨v,rfl,hown,hf1,A1,c1,rfl⟩
 by_cases h0:m=0
 ·subst h0
  have HF1:=hdq hf1
  have HC1:=hdq (zb7 hown)
  clear hown hf1
  go_wp2_with fail
  go_loopw [10] (fun i wr=>wr=w1∧i= .int .i64 0) (fun _ _=>0)
  case atStart=>exact⟨rfl,rfl⟩
  case round=>
   obtain⟨rfl,rfl⟩:=hrel
   go_wp2_with fail
   go_ret
   exact⟨A1,c1,by rw[←HM.out];rfl,by rw[←HM.out];exact Nat.zero_le _,HC1.out,HF1.out,fun h=>absurd h (by rw[←HM.out];exact Nat.lt_irrefl 0)⟩
 ·obtain⟨g,cap,pad,e,hgL,hgl,hmc,hcm,hbk⟩:=za9 hown (Nat.pos_of_ne_zero h0)
  obtain⟨rfl,rfl⟩:A1=some ⟨g,0,none⟩∧c1=cap:=by
   injection e with e1 e2 e3
   exact⟨e1,e3⟩
  have HST:=hdq (show BrSt oneV 2 65 Va.bare w S xs g w1 (cs++pad).toArray [] cs 0 from⟨hbk,hf1,by simp,by simp,fun j u hj=>by
   have:=(List.getElem?_eq_some_iff.1 hj).1
   rw[Nat.zero_mul,Nat.zero_add,List.getElem?_toArray,List.getElem?_append_left this];exact hj,rfl,HROW.out.2⟩)
  have HG:=hdq (aiq hgL (aiq hmc hcm))
  clear hown hf1 hbk e hgl hcm hgL hmc
  go_wp2_with fail
  go_loopw [10] (fun i wr=>∃k:Nat,k≤m∧i= .int .i64 k∧∃(cur:Array Value) (d1 d2:List Value),Hid (BrSt oneV 2 65 Va.bare w S xs g wr cur d1 d2 k)) (fun i _=>m - (intOf i).toNat)
  case atStart=>exact⟨0,Nat.zero_le _,rfl,_,_,_,HST⟩
  case round=>
   clear HST
   obtain⟨k,hk,rfl,cur,d1,d2,hb⟩:=hrel
   by_cases hlt:k < m
   ·obtain⟨x,r,hd,hd1⟩:=zad (show k < xs.length from by rw[←HM.out];exact hlt)
    have hr2:=hb.out.r2
    rw[hd]at hr2
    obtain⟨ys,cs',rfl,h1,hr⟩:=hr2
    have hlt':(k:Int) < (m:Int):=by omega
    have hge:(0:Int)≤(k:Int):=by omega
    have hgw:w.heap.size≤g:=HG.out.1
    have hc2:=hb.out.c2
    have hym:ys.length=2:=znL h1
    have HC:=hdq (HA.out x (List.mem_of_mem_drop (i:=k) (by rw[hd];simp)) wr S ys g (k*2) 65 cur (fun b hb'=>⟨ltq (HS.out b hb') hb.out.fr.size,by have:=HS.out b hb';omega⟩) (zb6 _ _ _ _ _ _ (hb.out.fr.same fun b hb'=>⟨HS.out b hb',id⟩) (fun _ h=>h) h1) hb.out.bk (fun j u hj=>hc2 j u (by rw[List.getElem?_append_left (List.getElem?_eq_some_iff.1 hj).1];exact hj)))
    have HD:=hdq (aiq hd (aiq hym hr))
    have hbl:=hb.out.bk.lt
    clear hd hd1 hr h1 hym hc2
    go_wp2_with fail
    refine HC.out.mono ?_
    rintro _ w2 ⟨rfl,zs,cur',hbk,hone,hz,hf2⟩
    have HNX:=hdq (hb.out.step zb6 HD.out.1 HD.out.2.1 HD.out.2.2 hgw hbk hone hz hf2)
    clear hbk hone hz hf2 hb hbl
    go_wp2_with fail
    go_roundw
    case rel=>exact⟨k+1,by omega,by go_num,_,_,_,HNX⟩
    case measure=>simp[intOf];omega
   ·have hlt':¬(k:Int) < (m:Int):=by omega
    have hkm:k=m:=by omega
    subst hkm
    have hdn:BrSt oneV 2 65 Va.bare w S xs g wr cur d1 d2 xs.length:=HM.out▸hb.out
    have HDN:=hdq (hdn.done zb6 HG.out.1)
    have HF:=hdq hb.out.fr
    clear hdn hb
    go_wp2_with fail
    go_ret
    exact⟨_,_,by rw[←HM.out];rfl,by rw[←HM.out];exact HG.out.2.1,by have:=HG.out.2.2;unfold maxLen at this;omega,HF.out,fun _=>⟨g,d1,rfl,HDN.out⟩⟩
theorem zqY (xs:List Arr) (hall:∀x∈xs,zbH oneA 3 29 Arr.bare x) (w:World) (S:Nat→Prop) (A:Option Addr) (c:Nat) (cs:List Value) (hS:∀b,S b→b < w.heap.size) (hl:xs.length≤9223372036854775807) (hb:xs.length*32≤140737488355328) (hcl:cs.length=xs.length*3) (hrow:RowR oneA w S xs cs) (hone:One1 cs) (hnil:A=none→xs.length=0) (hcs:∀ad,A=some ad→∀j u,cs[j]?=some u→w.cell? (ad.add j)=some u):
  Calls Tryz.prog 28 #[.slice A xs.length c,.func (.func 29) #[] #[]] w (BrP oneA Arr.bare xs w):=by
 have HCL:=hdq (zfb A xs.length c cs w hl hb hcl hone hnil hcs)
 have HA:=hdq hall
 have HS:=hdq hS
 have HROW:=hdq (aiq hcl hrow)
 have hen:Enters Tryz.prog 29:=enters_of Tryz.func29 (by kernel_rfl) rfl
 unfold Enters at hen
 obtain⟨m,hm⟩:=nmq xs.length
 rw[←hm]at hl HCL ⊢
 have HM:=hdq hm
 clear hall hS hm hb hcl hrow hone hnil hcs
 go_enter Tryz.func28,Tryz.ntmps28
 go_wp2_with fail
 refine HCL.out.mono ?_
 rintro _ w1 ⟨v,rfl,hown,hf1,A1,c1,rfl⟩
 by_cases h0:m=0
 ·subst h0
  have HF1:=hdq hf1
  have HC1:=hdq (zb7 hown)
  clear hown hf1
  go_wp2_with fail
  go_loopw [10] (fun i wr=>wr=w1∧i= .int .i64 0) (fun _ _=>0)
  case atStart=>exact⟨rfl,rfl⟩
  case round=>
   obtain⟨rfl,rfl⟩:=hrel
   go_wp2_with fail
   go_ret
   exact⟨A1,c1,by rw[←HM.out];rfl,by rw[←HM.out];exact Nat.zero_le _,HC1.out,HF1.out,fun h=>absurd h (by rw[←HM.out];exact Nat.lt_irrefl 0)⟩
 ·obtain⟨g,cap,pad,e,hgL,hgl,hmc,hcm,hbk⟩:=za9 hown (Nat.pos_of_ne_zero h0)
  obtain⟨rfl,rfl⟩:A1=some ⟨g,0,none⟩∧c1=cap:=by
   injection e with e1 e2 e3
   exact⟨e1,e3⟩
  have HST:=hdq (show BrSt oneA 3 57 Arr.bare w S xs g w1 (cs++pad).toArray [] cs 0 from⟨hbk,hf1,by simp,by simp,fun j u hj=>by
   have:=(List.getElem?_eq_some_iff.1 hj).1
   rw[Nat.zero_mul,Nat.zero_add,List.getElem?_toArray,List.getElem?_append_left this];exact hj,rfl,HROW.out.2⟩)
  have HG:=hdq (aiq hgL (aiq hmc hcm))
  clear hown hf1 hbk e hgl hcm hgL hmc
  go_wp2_with fail
  go_loopw [10] (fun i wr=>∃k:Nat,k≤m∧i= .int .i64 k∧∃(cur:Array Value) (d1 d2:List Value),Hid (BrSt oneA 3 57 Arr.bare w S xs g wr cur d1 d2 k)) (fun i _=>m - (intOf i).toNat)
  case atStart=>exact⟨0,Nat.zero_le _,rfl,_,_,_,HST⟩
  case round=>
   clear HST
   obtain⟨k,hk,rfl,cur,d1,d2,hb⟩:=hrel
   by_cases hlt:k < m
   ·obtain⟨x,r,hd,hd1⟩:=zad (show k < xs.length from by rw[←HM.out];exact hlt)
    have hr2:=hb.out.r2
    rw[hd]at hr2
    obtain⟨ys,cs',rfl,h1,hr⟩:=hr2
    have hlt':(k:Int) < (m:Int):=by omega
    have hge:(0:Int)≤(k:Int):=by omega
    have hgw:w.heap.size≤g:=HG.out.1
    have hc2:=hb.out.c2
    have hym:ys.length=3:=znM h1
    have HC:=hdq (HA.out x (List.mem_of_mem_drop (i:=k) (by rw[hd];simp)) wr S ys g (k*3) 57 cur (fun b hb'=>⟨ltq (HS.out b hb') hb.out.fr.size,by have:=HS.out b hb';omega⟩) (zcN _ _ _ _ _ _ (hb.out.fr.same fun b hb'=>⟨HS.out b hb',id⟩) (fun _ h=>h) h1) hb.out.bk (fun j u hj=>hc2 j u (by rw[List.getElem?_append_left (List.getElem?_eq_some_iff.1 hj).1];exact hj)))
    have HD:=hdq (aiq hd (aiq hym hr))
    have hbl:=hb.out.bk.lt
    clear hd hd1 hr h1 hym hc2
    go_wp2_with fail
    refine HC.out.mono ?_
    rintro _ w2 ⟨rfl,zs,cur',hbk,hone,hz,hf2⟩
    have HNX:=hdq (hb.out.step zcN HD.out.1 HD.out.2.1 HD.out.2.2 hgw hbk hone hz hf2)
    clear hbk hone hz hf2 hb hbl
    go_wp2_with fail
    go_roundw
    case rel=>exact⟨k+1,by omega,by go_num,_,_,_,HNX⟩
    case measure=>simp[intOf];omega
   ·have hlt':¬(k:Int) < (m:Int):=by omega
    have hkm:k=m:=by omega
    subst hkm
    have hdn:BrSt oneA 3 57 Arr.bare w S xs g wr cur d1 d2 xs.length:=HM.out▸hb.out
    have HDN:=hdq (hdn.done zcN HG.out.1)
    have HF:=hdq hb.out.fr
    clear hdn hb
    go_wp2_with fail
    go_ret
    exact⟨_,_,by rw[←HM.out];rfl,by rw[←HM.out];exact HG.out.2.1,by have:=HG.out.2.2;unfold maxLen at this;omega,HF.out,fun _=>⟨g,d1,rfl,HDN.out⟩⟩
theorem zqZ (xs:List Prc) (hall:∀x∈xs,zbH oneP 4 33 Prc.bare x) (w:World) (S:Nat→Prop) (A:Option Addr) (c:Nat) (cs:List Value) (hS:∀b,S b→b < w.heap.size) (hl:xs.length≤9223372036854775807) (hb:xs.length*72≤140737488355328) (hcl:cs.length=xs.length*4) (hrow:RowR oneP w S xs cs) (hone:One1 cs) (hnil:A=none→xs.length=0) (hcs:∀ad,A=some ad→∀j u,cs[j]?=some u→w.cell? (ad.add j)=some u):
  Calls Tryz.prog 32 #[.slice A xs.length c,.func (.func 33) #[] #[]] w (BrP oneP Prc.bare xs w):=by
 have HCL:=hdq (zjQ A xs.length c cs w hl hb hcl hone hnil hcs)
 have HA:=hdq hall
 have HS:=hdq hS
 have HROW:=hdq (aiq hcl hrow)
 have hen:Enters Tryz.prog 33:=enters_of Tryz.func33 (by kernel_rfl) rfl
 unfold Enters at hen
 obtain⟨m,hm⟩:=nmq xs.length
 rw[←hm]at hl HCL ⊢
 have HM:=hdq hm
 clear hall hS hm hb hcl hrow hone hnil hcs
 go_enter Tryz.func32,Tryz.ntmps32
 go_wp2_with fail
 refine HCL.out.mono ?_
 rintro _ w1 ⟨v,rfl,hown,hf1,A1,c1,rfl⟩
 by_cases h0:m=0
 ·subst h0
  have HF1:=hdq hf1
  have HC1:=hdq (zb7 hown)
  clear hown hf1
  go_wp2_with fail
  go_loopw [10] (fun i wr=>wr=w1∧i= .int .i64 0) (fun _ _=>0)
  case atStart=>exact⟨rfl,rfl⟩
  case round=>
   obtain⟨rfl,rfl⟩:=hrel
   go_wp2_with fail
   go_ret
   exact⟨A1,c1,by rw[←HM.out];rfl,by rw[←HM.out];exact Nat.zero_le _,HC1.out,HF1.out,fun h=>absurd h (by rw[←HM.out];exact Nat.lt_irrefl 0)⟩
 ·obtain⟨g,cap,pad,e,hgL,hgl,hmc,hcm,hbk⟩:=za9 hown (Nat.pos_of_ne_zero h0)
  obtain⟨rfl,rfl⟩:A1=some ⟨g,0,none⟩∧c1=cap:=by
   injection e with e1 e2 e3
   exact⟨e1,e3⟩
  have HST:=hdq (show BrSt oneP 4 59 Prc.bare w S xs g w1 (cs++pad).toArray [] cs 0 from⟨hbk,hf1,by simp,by simp,fun j u hj=>by
   have:=(List.getElem?_eq_some_iff.1 hj).1
   rw[Nat.zero_mul,Nat.zero_add,List.getElem?_toArray,List.getElem?_append_left this];exact hj,rfl,HROW.out.2⟩)
  have HG:=hdq (aiq hgL (aiq hmc hcm))
  clear hown hf1 hbk e hgl hcm hgL hmc
  go_wp2_with fail
  go_loopw [10] (fun i wr=>∃k:Nat,k≤m∧i= .int .i64 k∧∃(cur:Array Value) (d1 d2:List Value),Hid (BrSt oneP 4 59 Prc.bare w S xs g wr cur d1 d2 k)) (fun i _=>m - (intOf i).toNat)
  case atStart=>exact⟨0,Nat.zero_le _,rfl,_,_,_,HST⟩
  case round=>
   clear HST
   obtain⟨k,hk,rfl,cur,d1,d2,hb⟩:=hrel
   by_cases hlt:k < m
   ·obtain⟨x,r,hd,hd1⟩:=zad (show k < xs.length from by rw[←HM.out];exact hlt)
    have hr2:=hb.out.r2
    rw[hd]at hr2
    obtain⟨ys,cs',rfl,h1,hr⟩:=hr2
    have hlt':(k:Int) < (m:Int):=by omega
    have hge:(0:Int)≤(k:Int):=by omega
    have hgw:w.heap.size≤g:=HG.out.1
    have hc2:=hb.out.c2
    have hym:ys.length=4:=znN h1
    have HC:=hdq (HA.out x (List.mem_of_mem_drop (i:=k) (by rw[hd];simp)) wr S ys g (k*4) 59 cur (fun b hb'=>⟨ltq (HS.out b hb') hb.out.fr.size,by have:=HS.out b hb';omega⟩) (zd1 _ _ _ _ _ _ (hb.out.fr.same fun b hb'=>⟨HS.out b hb',id⟩) (fun _ h=>h) h1) hb.out.bk (fun j u hj=>hc2 j u (by rw[List.getElem?_append_left (List.getElem?_eq_some_iff.1 hj).1];exact hj)))
    have HD:=hdq (aiq hd (aiq hym hr))
    have hbl:=hb.out.bk.lt
    clear hd hd1 hr h1 hym hc2
    go_wp2_with fail
    refine HC.out.mono ?_
    rintro _ w2 ⟨rfl,zs,cur',hbk,hone,hz,hf2⟩
    have HNX:=hdq (hb.out.step zd1 HD.out.1 HD.out.2.1 HD.out.2.2 hgw hbk hone hz hf2)
    clear hbk hone hz hf2 hb hbl
    go_wp2_with fail
    go_roundw
    case rel=>exact⟨k+1,by omega,by go_num,_,_,_,HNX⟩
    case measure=>simp[intOf];omega
   ·have hlt':¬(k:Int) < (m:Int):=by omega
    have hkm:k=m:=by omega
    subst hkm
    have hdn:BrSt oneP 4 59 Prc.bare w S xs g wr cur d1 d2 xs.length:=HM.out▸hb.out
    have HDN:=hdq (hdn.done zd1 HG.out.1)
    have HF:=hdq hb.out.fr
    clear hdn hb
    go_wp2_with fail
    go_ret
    exact⟨_,_,by rw[←HM.out];rfl,by rw[←HM.out];exact HG.out.2.1,by have:=HG.out.2.2;unfold maxLen at this;omega,HF.out,fun _=>⟨g,d1,rfl,HDN.out⟩⟩
end Go.Proofs.YtmfioehnhjjgpaaGreatDoor
