/-
  Things of a row turned in place, one behind another: what a loop over a clone keeps. No walk.
-/
import Derived.Test.YtmopichdofgndaaGreatDoorJnInE
import Derived.Test.YtmopichdofgndaaGreatDoorJnPq
import Derived.Test.YtmopichdofgndaaGreatDoorJnInC
set_option linter.unusedVariables false
set_option linter.unusedSimpArgs false
set_option maxHeartbeats 6400000
set_option maxRecDepth 100000
namespace Go.Proofs.YtmopichdofgndaaGreatDoor
open Go.RowKit Go.Shelf

def OneAtB (cur cur':Array Value) (o m:Nat) (zs:List Value):Prop:=cur'.size=cur.size∧zs.length=m∧(∀j u,zs[j]?=some u→cur'[o+j]?=some u)∧∀j,(j < o∨o+m≤j)→cur'[j]?=cur[j]?
section
variable {α:Type} {oneI one:World→(Nat→Prop)→α→List Value→Prop} {m:Nat} {br:α→α}
def BrOne (oneI one:World→(Nat→Prop)→α→List Value→Prop) (m f:Nat) (br:α→α) (x:α):Prop:=
 ∀(w:World) (S:Nat→Prop) (ys:List Value) (g o:Nat) (T:TypeId) (cur:Array Value),(∀b,S b→b < w.heap.size∧b≠g)→oneI w S x ys→Bk w g T cur→(∀j u,ys[j]?=some u→cur[o+j]?=some u)→
  Calls Tryz.prog f #[.pointer (some ⟨g,o,none⟩)] w fun e w'=>e= .returned (.tuple #[])∧∃zs cur',Bk w' g T cur'∧OneAtB cur cur' o m zs∧one w' (fun b=>w.heap.size≤b∧b < w'.heap.size) (br x) zs∧Fr (fun b=>b=g) w w'
structure BrSt (oneI one:World→(Nat→Prop)→α→List Value→Prop) (m:Nat) (T:TypeId) (br:α→α) (w:World) (S:Nat→Prop) (xs:List α) (g:Nat) (wr:World) (cur:Array Value) (cs1 cs2:List Value) (k:Nat):Prop where
 bk:Bk wr g T cur
 fr:Fr NoT w wr
 c1:∀(j:Nat) (u:Value),cs1[j]?=some u→cur[j]?=some u
 l1:cs1.length=k*m
 c2:∀(j:Nat) (u:Value),cs2[j]?=some u→cur[k*m+j]?=some u
 r1:RowR one wr (fun b=>w.heap.size≤b∧b < wr.heap.size∧b≠g) ((xs.take k).map br) cs1
 r2:RowR oneI w S (xs.drop k) cs2
theorem BrSt.step (ho:OneK one) {T:TypeId} {w:World} {S:Nat→Prop} {xs:List α} {g:Nat} {wr:World} {cur:Array Value} {cs1 ys cs2:List Value} {k:Nat} {x:α} {r:List α} (h:BrSt oneI one m T br w S xs g wr cur cs1 (ys++cs2) k) (hd:xs.drop k=x::r) (hm:ys.length=m) (hr:RowR oneI w S r cs2) (hgL:w.heap.size≤g)
  {w2:World} {cur':Array Value} {zs:List Value} (hbk:Bk w2 g T cur') (hone:OneAtB cur cur' (k*m) m zs) (hz:one w2 (fun b=>wr.heap.size≤b∧b < w2.heap.size) (br x) zs) (hf:Fr (fun b=>b=g) wr w2):
  BrSt oneI one m T br w S xs g w2 cur' (cs1++zs) cs2 (k+1):=by
 have hg:=h.bk.lt
 have hsz:=h.fr.size
 have hsz2:=hf.size
 obtain⟨e1,e2,e3,e4⟩:=hone
 have hl1:=h.l1
 have hk1:xs[k]?=some x:=by
  have:=congrArg List.head? hd
  rw[List.head?_drop]at this
  exact this
 refine⟨hbk,Fr.back1 h.fr (hf.mono fun b _ (e:b=g)=>(by omega:w.heap.size≤b)) (lrq _),fun j u hj=>?_,by rw[List.length_append,hl1,e2,Nat.succ_mul],fun j u hj=>?_,?_,?_⟩
 ·by_cases hlt:j < cs1.length
  ·rw[List.getElem?_append_left hlt]at hj
   rw[e4 j (.inl (by omega))]
   exact h.c1 j u hj
  ·rw[List.getElem?_append_right (by omega),hl1]at hj
   have:=e3 _ u hj
   rw[show k*m+(j - k*m)=j from by omega]at this
   exact this
 ·rw[Nat.succ_mul,e4 _ (.inr (by omega)),Nat.add_assoc]
  refine h.c2 (m+j) u ?_
  rw[List.getElem?_append_right (by omega),hm,show m+j - m=j from by omega]
  exact hj
 ·rw[List.take_add_one,hk1,Option.toList_some,List.map_append]
  exact RowR.snoc (ho _ _ _ _ _ _ (SameS.refl _ _) (fun b hb=>⟨by have:=hb.1;omega,hb.2,by have:=hb.1;omega⟩) hz) (RowR.imp ho (hf.same fun b hb=>⟨hb.2.1,hb.2.2⟩) (fun b hb=>⟨hb.1,by have:=hb.2.1;omega,hb.2.2⟩) h.r1)
 ·have:xs.drop (k+1)=r:=by rw[←List.drop_drop,hd];rfl
  rw[this];exact hr
def BrP (one:World→(Nat→Prop)→α→List Value→Prop) (br:α→α) (xs:List α) (w:World) (e:Ending) (w':World):Prop:=
 ∃A' c',e= .returned (.slice A' xs.length c')∧xs.length≤c'∧c'≤9223372036854775807∧Fr NoT w w'∧(0 < xs.length→∃g zs,A'=some ⟨g,0,none⟩∧(New w.heap.size w' g∧Thaw w' g)∧RowR one w' (New w.heap.size w') (xs.map br) zs∧∀j u,zs[j]?=some u→w'.cell? ⟨g,j,none⟩=some u)
theorem BrSt.done (ho:OneK one) {T:TypeId} {w:World} {S:Nat→Prop} {xs:List α} {g:Nat} {wr:World} {cur:Array Value} {cs1 cs2:List Value} (h:BrSt oneI one m T br w S xs g wr cur cs1 cs2 xs.length) (hgL:w.heap.size≤g):
  (New w.heap.size wr g∧Thaw wr g)∧RowR one wr (New w.heap.size wr) (xs.map br) cs1∧∀j u,cs1[j]?=some u→wr.cell? ⟨g,j,none⟩=some u:=by
 have h1:=h.r1
 rw[List.take_length]at h1
 exact⟨⟨⟨hgL,h.bk.lt⟩,Thaw.of h.bk⟩,RowR.imp ho (SameS.refl _ _) (fun b hb=>⟨hb.1,hb.2.1⟩) h1,fun j u hj=>(h.bk.cell j).trans (h.c1 j u hj)⟩
end
def Ex.brz (x:Ex):Ex:=⟨x.k,x.nm,x.n,x.args.bare,0⟩
def Cn.brz (x:Cn):Cn:=⟨x.k,x.args.bare,x.of_.bare,0⟩
def St.brz (x:St):St:=⟨x.k,x.nm,x.args.bare,x.cond.bare,x.body.bare,x.els.bare,0⟩
theorem exs_bare:∀xs:Exs,exsOf (xs.toL.map Ex.brz)=xs.bare
 | .nil =>rfl
 | .cons k nm n args at_ r=>by simp only[Exs.toL,List.map_cons,exsOf,exs_bare r,Exs.bare];rfl
theorem cds_bare:∀xs:Cds,cdsOf' (xs.toL.map Cn.brz)=xs.bare
 | .nil =>rfl
 | .cons k args of_ at_ r=>by simp only[Cds.toL,List.map_cons,cdsOf',cds_bare r,Cds.bare];rfl
end Go.Proofs.YtmopichdofgndaaGreatDoor

namespace Go.Proofs.YtmopichdofgndaaGreatDoor
open Go.RowKit Go.Shelf

theorem cloneS_any (A:Option Addr) (n c:Nat) (cs:List Value) (w:World) (hn:n≤9223372036854775807) (hb:n*128≤140737488355328) (hl:cs.length=n*7) (h1:One1 cs) (hA:A=none→n=0) (hc:∀ad,A=some ad→∀j u,cs[j]?=some u→w.cell? (ad.add j)=some u):
  Calls Tryz.prog 110 #[.slice A n c] w (CloneP w.heap.size 39 7 n cs w):=by
 obtain⟨i0,hi,hz0,hz1,hz2⟩:=info_parts infoSt
 have HI:=hdq (aiq hi (aiq hz0 (aiq hz1 hz2)))
 have HH:=hdq (aiq hb (aiq hl (aiq h1 (aiq hA hc))))
 clear hb hl h1 hA hc hi hz0 hz1 hz2
 cases A with
 |none=>
  have hnil:∀W,(binOp .eql 25 (.slice none n c) (.slice none 0 0)).run Tryz.prog W= .ok (.bool true) W:=fun W=>Lib.run_eql_slice_nil_nil W _ _ Tryz.underlying25
  go_enter Tryz.func110,Tryz.ntmps110
  go_wp2_with fail
  go_ret
  have h0:=HH.out.2.2.2.1 trivial
  subst h0
  have hl:=HH.out.2.1
  have e0:cs= []:=List.length_eq_zero_iff.1 (by omega)
  subst e0
  exact⟨_,rfl,World.ownsRow_nil _ _ _ _,Fr.refl _ _,none,0,rfl⟩
 |some ad=>
  have hnil:∀W,(binOp .eql 25 (.slice (some ad) n c) (.slice none 0 0)).run Tryz.prog W= .ok (.bool false) W:=fun W=>Lib.run_eql_slice_some_nil W _ _ _ Tryz.underlying25
  go_enter Tryz.func110,Tryz.ntmps110
  obtain⟨w1,hw1⟩:=nmq (w.alloc (.cells #[] 39))
  have hf1:Fr NoT w w1:=by rw[hw1];exact(Fr.refl _ _).alloc _
  have hown1:w1.ownsRow w.heap.size 39 7 (.slice (some ⟨w.heap.size,0,none⟩) 0 0) 0 []:=by
   rw[hw1];exact World.ownsRow_lit w #[] 0 (lrq _) (by decide) rfl
  have hnews:∀j u,cs[j]?=some u→w1.cell? (ad.add j)=some u:=fun j u hj=>by
   have h:=HH.out.2.2.2.2 ad rfl j u hj
   rw[←h]
   have hlt:(ad.add j).block < w.heap.size:=cell_low h
   exact hf1.cell hlt id
  have HF1:=hdq hf1
  have HOWN:=hdq hown1
  have HNEWS:=hdq hnews
  have HW1:=hdq hw1
  have hz:w.heap.size≤w1.heap.size:=hf1.size
  have hn1:0+n≤maxLen:=by unfold maxLen;omega
  have hn2:(0+n)*128≤140737488355328:=by rw[Nat.zero_add];exact HH.out.1
  clear hf1 hown1 hnews hw1
  go_wp2_with (at_builtin;rw[←HW1.out];refine wpList_append_own _ rfl _ _ 25 rfl w.heap.size 39 i0 (.agg zeroSt) 7 128 Tryz.underlying25 HI.out.1 HI.out.2.1 HI.out.2.2.1 HI.out.2.2.2 rfl (by decide) (.slice (some ⟨w.heap.size,0,none⟩) 0 0) 0 [] rfl HOWN.out ad n c cs rfl HH.out.2.1 HNEWS.out HH.out.2.2.1 hn1 hn2 hz ?_)
  intro v' w' hown hg _
  have HO:=hdq hown
  have HG:=hdq hg
  clear hown hg
  go_wp2_with fail
  go_ret
  refine⟨_,rfl,HO.out,HF1.out.back1 (Fr.grown HG.out fun g e _=>by simp[Value.ownBlock]at e;omega) (lrq _),?_⟩
  rcases HO.out.2 with⟨e1,e2⟩|⟨g,cap,cur,e1,_⟩
  ·exact⟨none,0,by rw[e1,e2];rfl⟩
  ·exact⟨_,cap,e1⟩
theorem cloneP_any (A:Option Addr) (n c:Nat) (cs:List Value) (w:World) (hn:n≤9223372036854775807) (hb:n*72≤140737488355328) (hl:cs.length=n*4) (h1:One1 cs) (hA:A=none→n=0) (hc:∀ad,A=some ad→∀j u,cs[j]?=some u→w.cell? (ad.add j)=some u):
  Calls Tryz.prog 115 #[.slice A n c] w (CloneP w.heap.size 68 4 n cs w):=by
 obtain⟨i0,hi,hz0,hz1,hz2⟩:=info_parts infoPc
 have HI:=hdq (aiq hi (aiq hz0 (aiq hz1 hz2)))
 have HH:=hdq (aiq hb (aiq hl (aiq h1 (aiq hA hc))))
 clear hb hl h1 hA hc hi hz0 hz1 hz2
 cases A with
 |none=>
  have hnil:∀W,(binOp .eql 24 (.slice none n c) (.slice none 0 0)).run Tryz.prog W= .ok (.bool true) W:=fun W=>Lib.run_eql_slice_nil_nil W _ _ Tryz.underlying24
  go_enter Tryz.func115,Tryz.ntmps115
  go_wp2_with fail
  go_ret
  have h0:=HH.out.2.2.2.1 trivial
  subst h0
  have hl:=HH.out.2.1
  have e0:cs= []:=List.length_eq_zero_iff.1 (by omega)
  subst e0
  exact⟨_,rfl,World.ownsRow_nil _ _ _ _,Fr.refl _ _,none,0,rfl⟩
 |some ad=>
  have hnil:∀W,(binOp .eql 24 (.slice (some ad) n c) (.slice none 0 0)).run Tryz.prog W= .ok (.bool false) W:=fun W=>Lib.run_eql_slice_some_nil W _ _ _ Tryz.underlying24
  go_enter Tryz.func115,Tryz.ntmps115
  obtain⟨w1,hw1⟩:=nmq (w.alloc (.cells #[] 68))
  have hf1:Fr NoT w w1:=by rw[hw1];exact(Fr.refl _ _).alloc _
  have hown1:w1.ownsRow w.heap.size 68 4 (.slice (some ⟨w.heap.size,0,none⟩) 0 0) 0 []:=by
   rw[hw1];exact World.ownsRow_lit w #[] 0 (lrq _) (by decide) rfl
  have hnews:∀j u,cs[j]?=some u→w1.cell? (ad.add j)=some u:=fun j u hj=>by
   have h:=HH.out.2.2.2.2 ad rfl j u hj
   rw[←h]
   have hlt:(ad.add j).block < w.heap.size:=cell_low h
   exact hf1.cell hlt id
  have HF1:=hdq hf1
  have HOWN:=hdq hown1
  have HNEWS:=hdq hnews
  have HW1:=hdq hw1
  have hz:w.heap.size≤w1.heap.size:=hf1.size
  have hn1:0+n≤maxLen:=by unfold maxLen;omega
  have hn2:(0+n)*72≤140737488355328:=by rw[Nat.zero_add];exact HH.out.1
  clear hf1 hown1 hnews hw1
  go_wp2_with (at_builtin;rw[←HW1.out];refine wpList_append_own _ rfl _ _ 24 rfl w.heap.size 68 i0 (.agg #[.string ⟨#[]⟩,.slice none 0 0,.slice none 0 0,.int .i64 0]) 4 72 Tryz.underlying24 HI.out.1 HI.out.2.1 HI.out.2.2.1 HI.out.2.2.2 rfl (by decide) (.slice (some ⟨w.heap.size,0,none⟩) 0 0) 0 [] rfl HOWN.out ad n c cs rfl HH.out.2.1 HNEWS.out HH.out.2.2.1 hn1 hn2 hz ?_)
  intro v' w' hown hg _
  have HO:=hdq hown
  have HG:=hdq hg
  clear hown hg
  go_wp2_with fail
  go_ret
  refine⟨_,rfl,HO.out,HF1.out.back1 (Fr.grown HG.out fun g e _=>by simp[Value.ownBlock]at e;omega) (lrq _),?_⟩
  rcases HO.out.2 with⟨e1,e2⟩|⟨g,cap,cur,e1,_⟩
  ·exact⟨none,0,by rw[e1,e2];rfl⟩
  ·exact⟨_,cap,e1⟩

theorem oneX_len {Z:Prop} {w:World} {S:Nat→Prop} {x:Ex} {ys:List Value} (h:oneXz Z w S x ys):ys.length=5:=by obtain⟨A,c,rfl,_⟩:=h;rfl
theorem oneC_len {Z:Prop} {w:World} {S:Nat→Prop} {x:Cn} {ys:List Value} (h:oneCz Z w S x ys):ys.length=4:=by obtain⟨A,c,B,e,rfl,_⟩:=h;rfl
theorem oneS_len {Z:Prop} {w:World} {S:Nat→Prop} {x:St} {ys:List Value} (h:oneSz Z w S x ys):ys.length=7:=by obtain⟨A2,c2,A3,c3,A4,c4,A5,c5,rfl,_⟩:=h;rfl
theorem oneV_len {w:World} {S:Nat→Prop} {x:Va} {ys:List Value} (h:oneV w S x ys):ys.length=2:=by obtain⟨rfl,_⟩:=h;rfl
theorem oneA_len {w:World} {S:Nat→Prop} {x:Arr} {ys:List Value} (h:oneA w S x ys):ys.length=3:=by obtain⟨rfl,_⟩:=h;rfl
theorem oneP_len {Z:Prop} {w:World} {S:Nat→Prop} {x:Prc} {ys:List Value} (h:onePz Z w S x ys):ys.length=4:=by obtain⟨A,c,B,e,rfl,_⟩:=h;rfl
theorem bareLX (xs:List Ex) (hall:∀x∈xs,BrOne (oneXz False) oneX 5 112 Ex.brz x) (w:World) (S:Nat→Prop) (A:Option Addr) (c:Nat) (cs:List Value) (hS:∀b,S b→b < w.heap.size) (hl:xs.length≤9223372036854775807) (hb:xs.length*64≤140737488355328) (hcl:cs.length=xs.length*5) (hrow:RowR (oneXz False) w S xs cs) (hone:One1 cs) (hnil:A=none→xs.length=0) (hcs:∀ad,A=some ad→∀j u,cs[j]?=some u→w.cell? (ad.add j)=some u):
  Calls Tryz.prog 111 #[.slice A xs.length c,.func (.func 112) #[] #[]] w (BrP oneX Ex.brz xs w):=by
 have HCL:=hdq (cloneX_any A xs.length c cs w hl hb hcl hone hnil hcs)
 have HA:=hdq hall
 have HS:=hdq hS
 have HROW:=hdq (aiq hcl hrow)
 have hen:Enters Tryz.prog 112:=enters_of Tryz.func112 (by kernel_rfl) rfl
 unfold Enters at hen
 obtain⟨m,hm⟩:=nmq xs.length
 rw[←hm]at hl HCL ⊢
 have HM:=hdq hm
 clear hall hS hm hb hcl hrow hone hnil hcs
 go_enter Tryz.func111,Tryz.ntmps111
 go_wp2_with fail
 refine HCL.out.mono ?_
 rintro _ w1 ⟨v,rfl,hown,hf1,A1,c1,rfl⟩
 by_cases h0:m=0
 ·subst h0
  have HF1:=hdq hf1
  have HC1:=hdq (row_cap hown)
  clear hown hf1
  go_wp2_with fail
  go_loopw [10] (fun i wr=>wr=w1∧i= .int .i64 0) (fun _ _=>0)
  case atStart=>exact⟨rfl,rfl⟩
  case round=>
   obtain⟨rfl,rfl⟩:=hrel
   go_wp2_with fail
   go_ret
   exact⟨A1,c1,by rw[←HM.out];rfl,by rw[←HM.out];exact Nat.zero_le _,HC1.out,HF1.out,fun h=>absurd h (by rw[←HM.out];exact Nat.lt_irrefl 0)⟩
 ·obtain⟨g,cap,pad,e,hgL,hgl,hmc,hcm,hbk⟩:=row_block hown (Nat.pos_of_ne_zero h0)
  obtain⟨rfl,rfl⟩:A1=some ⟨g,0,none⟩∧c1=cap:=by
   injection e with e1 e2 e3
   exact⟨e1,e3⟩
  have HST:=hdq (show BrSt (oneXz False) oneX 5 41 Ex.brz w S xs g w1 (cs++pad).toArray [] cs 0 from⟨hbk,hf1,by simp,by simp,fun j u hj=>by
   have:=(List.getElem?_eq_some_iff.1 hj).1
   rw[Nat.zero_mul,Nat.zero_add,List.getElem?_toArray,List.getElem?_append_left this];exact hj,rfl,HROW.out.2⟩)
  have HG:=hdq (aiq hgL (aiq hmc hcm))
  clear hown hf1 hbk e hgl hcm hgL hmc
  go_wp2_with fail
  go_loopw [10] (fun i wr=>∃k:Nat,k≤m∧i= .int .i64 k∧∃(cur:Array Value) (d1 d2:List Value),Hid (BrSt (oneXz False) oneX 5 41 Ex.brz w S xs g wr cur d1 d2 k)) (fun i _=>m - (intOf i).toNat)
  case atStart=>exact⟨0,Nat.zero_le _,rfl,_,_,_,HST⟩
  case round=>
   clear HST
   obtain⟨k,hk,rfl,cur,d1,d2,hb⟩:=hrel
   by_cases hlt:k < m
   ·obtain⟨x,r,hd,hd1⟩:=drop_head1 (show k < xs.length from by rw[←HM.out];exact hlt)
    have hr2:=hb.out.r2
    rw[hd]at hr2
    obtain⟨ys,cs',rfl,h1,hr⟩:=hr2
    have hlt':(k:Int) < (m:Int):=by omega
    have hge:(0:Int)≤(k:Int):=by omega
    have hgw:w.heap.size≤g:=HG.out.1
    have hc2:=hb.out.c2
    have hym:ys.length=5:=oneX_len h1
    have HC:=hdq (HA.out x (List.mem_of_mem_drop (i:=k) (by rw[hd];simp)) wr S ys g (k*5) 41 cur (fun b hb'=>⟨ltq (HS.out b hb') hb.out.fr.size,by have:=HS.out b hb';omega⟩) (oneX_keep _ _ _ _ _ _ (hb.out.fr.same fun b hb'=>⟨HS.out b hb',id⟩) (fun _ h=>h) h1) hb.out.bk (fun j u hj=>hc2 j u (by rw[List.getElem?_append_left (List.getElem?_eq_some_iff.1 hj).1];exact hj)))
    have HD:=hdq (aiq hd (aiq hym hr))
    have hbl:=hb.out.bk.lt
    clear hd hd1 hr h1 hym hc2
    go_wp2_with fail
    refine HC.out.mono ?_
    rintro _ w2 ⟨rfl,zs,cur',hbk,hone,hz,hf2⟩
    have HNX:=hdq (hb.out.step oneX_keep HD.out.1 HD.out.2.1 HD.out.2.2 hgw hbk hone hz hf2)
    clear hbk hone hz hf2 hb hbl
    go_wp2_with fail
    go_roundw
    case rel=>exact⟨k+1,by omega,by go_num,_,_,_,HNX⟩
    case measure=>simp[intOf];omega
   ·have hlt':¬(k:Int) < (m:Int):=by omega
    have hkm:k=m:=by omega
    subst hkm
    have hdn:BrSt (oneXz False) oneX 5 41 Ex.brz w S xs g wr cur d1 d2 xs.length:=HM.out▸hb.out
    have HDN:=hdq (hdn.done oneX_keep HG.out.1)
    have HF:=hdq hb.out.fr
    clear hdn hb
    go_wp2_with fail
    go_ret
    exact⟨_,_,by rw[←HM.out];rfl,by rw[←HM.out];exact HG.out.2.1,by have:=HG.out.2.2;unfold maxLen at this;omega,HF.out,fun _=>⟨g,d1,rfl,HDN.out⟩⟩
theorem bareLC (xs:List Cn) (hall:∀x∈xs,BrOne (oneCz False) oneC 4 114 Cn.brz x) (w:World) (S:Nat→Prop) (A:Option Addr) (c:Nat) (cs:List Value) (hS:∀b,S b→b < w.heap.size) (hl:xs.length≤9223372036854775807) (hb:xs.length*64≤140737488355328) (hcl:cs.length=xs.length*4) (hrow:RowR (oneCz False) w S xs cs) (hone:One1 cs) (hnil:A=none→xs.length=0) (hcs:∀ad,A=some ad→∀j u,cs[j]?=some u→w.cell? (ad.add j)=some u):
  Calls Tryz.prog 113 #[.slice A xs.length c,.func (.func 114) #[] #[]] w (BrP oneC Cn.brz xs w):=by
 have HCL:=hdq (cloneC_any A xs.length c cs w hl hb hcl hone hnil hcs)
 have HA:=hdq hall
 have HS:=hdq hS
 have HROW:=hdq (aiq hcl hrow)
 have hen:Enters Tryz.prog 114:=enters_of Tryz.func114 (by kernel_rfl) rfl
 unfold Enters at hen
 obtain⟨m,hm⟩:=nmq xs.length
 rw[←hm]at hl HCL ⊢
 have HM:=hdq hm
 clear hall hS hm hb hcl hrow hone hnil hcs
 go_enter Tryz.func113,Tryz.ntmps113
 go_wp2_with fail
 refine HCL.out.mono ?_
 rintro _ w1 ⟨v,rfl,hown,hf1,A1,c1,rfl⟩
 by_cases h0:m=0
 ·subst h0
  have HF1:=hdq hf1
  have HC1:=hdq (row_cap hown)
  clear hown hf1
  go_wp2_with fail
  go_loopw [10] (fun i wr=>wr=w1∧i= .int .i64 0) (fun _ _=>0)
  case atStart=>exact⟨rfl,rfl⟩
  case round=>
   obtain⟨rfl,rfl⟩:=hrel
   go_wp2_with fail
   go_ret
   exact⟨A1,c1,by rw[←HM.out];rfl,by rw[←HM.out];exact Nat.zero_le _,HC1.out,HF1.out,fun h=>absurd h (by rw[←HM.out];exact Nat.lt_irrefl 0)⟩
 ·obtain⟨g,cap,pad,e,hgL,hgl,hmc,hcm,hbk⟩:=row_block hown (Nat.pos_of_ne_zero h0)
  obtain⟨rfl,rfl⟩:A1=some ⟨g,0,none⟩∧c1=cap:=by
   injection e with e1 e2 e3
   exact⟨e1,e3⟩
  have HST:=hdq (show BrSt (oneCz False) oneC 4 160 Cn.brz w S xs g w1 (cs++pad).toArray [] cs 0 from⟨hbk,hf1,by simp,by simp,fun j u hj=>by
   have:=(List.getElem?_eq_some_iff.1 hj).1
   rw[Nat.zero_mul,Nat.zero_add,List.getElem?_toArray,List.getElem?_append_left this];exact hj,rfl,HROW.out.2⟩)
  have HG:=hdq (aiq hgL (aiq hmc hcm))
  clear hown hf1 hbk e hgl hcm hgL hmc
  go_wp2_with fail
  go_loopw [10] (fun i wr=>∃k:Nat,k≤m∧i= .int .i64 k∧∃(cur:Array Value) (d1 d2:List Value),Hid (BrSt (oneCz False) oneC 4 160 Cn.brz w S xs g wr cur d1 d2 k)) (fun i _=>m - (intOf i).toNat)
  case atStart=>exact⟨0,Nat.zero_le _,rfl,_,_,_,HST⟩
  case round=>
   clear HST
   obtain⟨k,hk,rfl,cur,d1,d2,hb⟩:=hrel
   by_cases hlt:k < m
   ·obtain⟨x,r,hd,hd1⟩:=drop_head1 (show k < xs.length from by rw[←HM.out];exact hlt)
    have hr2:=hb.out.r2
    rw[hd]at hr2
    obtain⟨ys,cs',rfl,h1,hr⟩:=hr2
    have hlt':(k:Int) < (m:Int):=by omega
    have hge:(0:Int)≤(k:Int):=by omega
    have hgw:w.heap.size≤g:=HG.out.1
    have hc2:=hb.out.c2
    have hym:ys.length=4:=oneC_len h1
    have HC:=hdq (HA.out x (List.mem_of_mem_drop (i:=k) (by rw[hd];simp)) wr S ys g (k*4) 160 cur (fun b hb'=>⟨ltq (HS.out b hb') hb.out.fr.size,by have:=HS.out b hb';omega⟩) (oneC_keep _ _ _ _ _ _ (hb.out.fr.same fun b hb'=>⟨HS.out b hb',id⟩) (fun _ h=>h) h1) hb.out.bk (fun j u hj=>hc2 j u (by rw[List.getElem?_append_left (List.getElem?_eq_some_iff.1 hj).1];exact hj)))
    have HD:=hdq (aiq hd (aiq hym hr))
    have hbl:=hb.out.bk.lt
    clear hd hd1 hr h1 hym hc2
    go_wp2_with fail
    refine HC.out.mono ?_
    rintro _ w2 ⟨rfl,zs,cur',hbk,hone,hz,hf2⟩
    have HNX:=hdq (hb.out.step oneC_keep HD.out.1 HD.out.2.1 HD.out.2.2 hgw hbk hone hz hf2)
    clear hbk hone hz hf2 hb hbl
    go_wp2_with fail
    go_roundw
    case rel=>exact⟨k+1,by omega,by go_num,_,_,_,HNX⟩
    case measure=>simp[intOf];omega
   ·have hlt':¬(k:Int) < (m:Int):=by omega
    have hkm:k=m:=by omega
    subst hkm
    have hdn:BrSt (oneCz False) oneC 4 160 Cn.brz w S xs g wr cur d1 d2 xs.length:=HM.out▸hb.out
    have HDN:=hdq (hdn.done oneC_keep HG.out.1)
    have HF:=hdq hb.out.fr
    clear hdn hb
    go_wp2_with fail
    go_ret
    exact⟨_,_,by rw[←HM.out];rfl,by rw[←HM.out];exact HG.out.2.1,by have:=HG.out.2.2;unfold maxLen at this;omega,HF.out,fun _=>⟨g,d1,rfl,HDN.out⟩⟩
theorem bareLS (xs:List St) (hall:∀x∈xs,BrOne (oneSz False) oneS 7 49 St.brz x) (w:World) (S:Nat→Prop) (A:Option Addr) (c:Nat) (cs:List Value) (hS:∀b,S b→b < w.heap.size) (hl:xs.length≤9223372036854775807) (hb:xs.length*128≤140737488355328) (hcl:cs.length=xs.length*7) (hrow:RowR (oneSz False) w S xs cs) (hone:One1 cs) (hnil:A=none→xs.length=0) (hcs:∀ad,A=some ad→∀j u,cs[j]?=some u→w.cell? (ad.add j)=some u):
  Calls Tryz.prog 48 #[.slice A xs.length c,.func (.func 49) #[] #[]] w (BrP oneS St.brz xs w):=by
 have HCL:=hdq (cloneS_any A xs.length c cs w hl hb hcl hone hnil hcs)
 have HA:=hdq hall
 have HS:=hdq hS
 have HROW:=hdq (aiq hcl hrow)
 have hen:Enters Tryz.prog 49:=enters_of Tryz.func49 (by kernel_rfl) rfl
 unfold Enters at hen
 obtain⟨m,hm⟩:=nmq xs.length
 rw[←hm]at hl HCL ⊢
 have HM:=hdq hm
 clear hall hS hm hb hcl hrow hone hnil hcs
 go_enter Tryz.func48,Tryz.ntmps48
 go_wp2_with fail
 refine HCL.out.mono ?_
 rintro _ w1 ⟨v,rfl,hown,hf1,A1,c1,rfl⟩
 by_cases h0:m=0
 ·subst h0
  have HF1:=hdq hf1
  have HC1:=hdq (row_cap hown)
  clear hown hf1
  go_wp2_with fail
  go_loopw [10] (fun i wr=>wr=w1∧i= .int .i64 0) (fun _ _=>0)
  case atStart=>exact⟨rfl,rfl⟩
  case round=>
   obtain⟨rfl,rfl⟩:=hrel
   go_wp2_with fail
   go_ret
   exact⟨A1,c1,by rw[←HM.out];rfl,by rw[←HM.out];exact Nat.zero_le _,HC1.out,HF1.out,fun h=>absurd h (by rw[←HM.out];exact Nat.lt_irrefl 0)⟩
 ·obtain⟨g,cap,pad,e,hgL,hgl,hmc,hcm,hbk⟩:=row_block hown (Nat.pos_of_ne_zero h0)
  obtain⟨rfl,rfl⟩:A1=some ⟨g,0,none⟩∧c1=cap:=by
   injection e with e1 e2 e3
   exact⟨e1,e3⟩
  have HST:=hdq (show BrSt (oneSz False) oneS 7 39 St.brz w S xs g w1 (cs++pad).toArray [] cs 0 from⟨hbk,hf1,by simp,by simp,fun j u hj=>by
   have:=(List.getElem?_eq_some_iff.1 hj).1
   rw[Nat.zero_mul,Nat.zero_add,List.getElem?_toArray,List.getElem?_append_left this];exact hj,rfl,HROW.out.2⟩)
  have HG:=hdq (aiq hgL (aiq hmc hcm))
  clear hown hf1 hbk e hgl hcm hgL hmc
  go_wp2_with fail
  go_loopw [10] (fun i wr=>∃k:Nat,k≤m∧i= .int .i64 k∧∃(cur:Array Value) (d1 d2:List Value),Hid (BrSt (oneSz False) oneS 7 39 St.brz w S xs g wr cur d1 d2 k)) (fun i _=>m - (intOf i).toNat)
  case atStart=>exact⟨0,Nat.zero_le _,rfl,_,_,_,HST⟩
  case round=>
   clear HST
   obtain⟨k,hk,rfl,cur,d1,d2,hb⟩:=hrel
   by_cases hlt:k < m
   ·obtain⟨x,r,hd,hd1⟩:=drop_head1 (show k < xs.length from by rw[←HM.out];exact hlt)
    have hr2:=hb.out.r2
    rw[hd]at hr2
    obtain⟨ys,cs',rfl,h1,hr⟩:=hr2
    have hlt':(k:Int) < (m:Int):=by omega
    have hge:(0:Int)≤(k:Int):=by omega
    have hgw:w.heap.size≤g:=HG.out.1
    have hc2:=hb.out.c2
    have hym:ys.length=7:=oneS_len h1
    have HC:=hdq (HA.out x (List.mem_of_mem_drop (i:=k) (by rw[hd];simp)) wr S ys g (k*7) 39 cur (fun b hb'=>⟨ltq (HS.out b hb') hb.out.fr.size,by have:=HS.out b hb';omega⟩) (oneS_keep _ _ _ _ _ _ (hb.out.fr.same fun b hb'=>⟨HS.out b hb',id⟩) (fun _ h=>h) h1) hb.out.bk (fun j u hj=>hc2 j u (by rw[List.getElem?_append_left (List.getElem?_eq_some_iff.1 hj).1];exact hj)))
    have HD:=hdq (aiq hd (aiq hym hr))
    have hbl:=hb.out.bk.lt
    clear hd hd1 hr h1 hym hc2
    go_wp2_with fail
    refine HC.out.mono ?_
    rintro _ w2 ⟨rfl,zs,cur',hbk,hone,hz,hf2⟩
    have HNX:=hdq (hb.out.step oneS_keep HD.out.1 HD.out.2.1 HD.out.2.2 hgw hbk hone hz hf2)
    clear hbk hone hz hf2 hb hbl
    go_wp2_with fail
    go_roundw
    case rel=>exact⟨k+1,by omega,by go_num,_,_,_,HNX⟩
    case measure=>simp[intOf];omega
   ·have hlt':¬(k:Int) < (m:Int):=by omega
    have hkm:k=m:=by omega
    subst hkm
    have hdn:BrSt (oneSz False) oneS 7 39 St.brz w S xs g wr cur d1 d2 xs.length:=HM.out▸hb.out
    have HDN:=hdq (hdn.done oneS_keep HG.out.1)
    have HF:=hdq hb.out.fr
    clear hdn hb
    go_wp2_with fail
    go_ret
    exact⟨_,_,by rw[←HM.out];rfl,by rw[←HM.out];exact HG.out.2.1,by have:=HG.out.2.2;unfold maxLen at this;omega,HF.out,fun _=>⟨g,d1,rfl,HDN.out⟩⟩
theorem bareLV (xs:List Va) (hall:∀x∈xs,BrOne oneV oneV 2 45 Va.bare x) (w:World) (S:Nat→Prop) (A:Option Addr) (c:Nat) (cs:List Value) (hS:∀b,S b→b < w.heap.size) (hl:xs.length≤9223372036854775807) (hb:xs.length*24≤140737488355328) (hcl:cs.length=xs.length*2) (hrow:RowR oneV w S xs cs) (hone:One1 cs) (hnil:A=none→xs.length=0) (hcs:∀ad,A=some ad→∀j u,cs[j]?=some u→w.cell? (ad.add j)=some u):
  Calls Tryz.prog 44 #[.slice A xs.length c,.func (.func 45) #[] #[]] w (BrP oneV Va.bare xs w):=by
 have HCL:=hdq (cloneV_any A xs.length c cs w hl hb hcl hone hnil hcs)
 have HA:=hdq hall
 have HS:=hdq hS
 have HROW:=hdq (aiq hcl hrow)
 have hen:Enters Tryz.prog 45:=enters_of Tryz.func45 (by kernel_rfl) rfl
 unfold Enters at hen
 obtain⟨m,hm⟩:=nmq xs.length
 rw[←hm]at hl HCL ⊢
 have HM:=hdq hm
 clear hall hS hm hb hcl hrow hone hnil hcs
 go_enter Tryz.func44,Tryz.ntmps44
 go_wp2_with fail
 refine HCL.out.mono ?_
 rintro _ w1 ⟨v,rfl,hown,hf1,A1,c1,rfl⟩
 by_cases h0:m=0
 ·subst h0
  have HF1:=hdq hf1
  have HC1:=hdq (row_cap hown)
  clear hown hf1
  go_wp2_with fail
  go_loopw [10] (fun i wr=>wr=w1∧i= .int .i64 0) (fun _ _=>0)
  case atStart=>exact⟨rfl,rfl⟩
  case round=>
   obtain⟨rfl,rfl⟩:=hrel
   go_wp2_with fail
   go_ret
   exact⟨A1,c1,by rw[←HM.out];rfl,by rw[←HM.out];exact Nat.zero_le _,HC1.out,HF1.out,fun h=>absurd h (by rw[←HM.out];exact Nat.lt_irrefl 0)⟩
 ·obtain⟨g,cap,pad,e,hgL,hgl,hmc,hcm,hbk⟩:=row_block hown (Nat.pos_of_ne_zero h0)
  obtain⟨rfl,rfl⟩:A1=some ⟨g,0,none⟩∧c1=cap:=by
   injection e with e1 e2 e3
   exact⟨e1,e3⟩
  have HST:=hdq (show BrSt oneV oneV 2 43 Va.bare w S xs g w1 (cs++pad).toArray [] cs 0 from⟨hbk,hf1,by simp,by simp,fun j u hj=>by
   have:=(List.getElem?_eq_some_iff.1 hj).1
   rw[Nat.zero_mul,Nat.zero_add,List.getElem?_toArray,List.getElem?_append_left this];exact hj,rfl,HROW.out.2⟩)
  have HG:=hdq (aiq hgL (aiq hmc hcm))
  clear hown hf1 hbk e hgl hcm hgL hmc
  go_wp2_with fail
  go_loopw [10] (fun i wr=>∃k:Nat,k≤m∧i= .int .i64 k∧∃(cur:Array Value) (d1 d2:List Value),Hid (BrSt oneV oneV 2 43 Va.bare w S xs g wr cur d1 d2 k)) (fun i _=>m - (intOf i).toNat)
  case atStart=>exact⟨0,Nat.zero_le _,rfl,_,_,_,HST⟩
  case round=>
   clear HST
   obtain⟨k,hk,rfl,cur,d1,d2,hb⟩:=hrel
   by_cases hlt:k < m
   ·obtain⟨x,r,hd,hd1⟩:=drop_head1 (show k < xs.length from by rw[←HM.out];exact hlt)
    have hr2:=hb.out.r2
    rw[hd]at hr2
    obtain⟨ys,cs',rfl,h1,hr⟩:=hr2
    have hlt':(k:Int) < (m:Int):=by omega
    have hge:(0:Int)≤(k:Int):=by omega
    have hgw:w.heap.size≤g:=HG.out.1
    have hc2:=hb.out.c2
    have hym:ys.length=2:=oneV_len h1
    have HC:=hdq (HA.out x (List.mem_of_mem_drop (i:=k) (by rw[hd];simp)) wr S ys g (k*2) 43 cur (fun b hb'=>⟨ltq (HS.out b hb') hb.out.fr.size,by have:=HS.out b hb';omega⟩) (oneV_keep _ _ _ _ _ _ (hb.out.fr.same fun b hb'=>⟨HS.out b hb',id⟩) (fun _ h=>h) h1) hb.out.bk (fun j u hj=>hc2 j u (by rw[List.getElem?_append_left (List.getElem?_eq_some_iff.1 hj).1];exact hj)))
    have HD:=hdq (aiq hd (aiq hym hr))
    have hbl:=hb.out.bk.lt
    clear hd hd1 hr h1 hym hc2
    go_wp2_with fail
    refine HC.out.mono ?_
    rintro _ w2 ⟨rfl,zs,cur',hbk,hone,hz,hf2⟩
    have HNX:=hdq (hb.out.step oneV_keep HD.out.1 HD.out.2.1 HD.out.2.2 hgw hbk hone hz hf2)
    clear hbk hone hz hf2 hb hbl
    go_wp2_with fail
    go_roundw
    case rel=>exact⟨k+1,by omega,by go_num,_,_,_,HNX⟩
    case measure=>simp[intOf];omega
   ·have hlt':¬(k:Int) < (m:Int):=by omega
    have hkm:k=m:=by omega
    subst hkm
    have hdn:BrSt oneV oneV 2 43 Va.bare w S xs g wr cur d1 d2 xs.length:=HM.out▸hb.out
    have HDN:=hdq (hdn.done oneV_keep HG.out.1)
    have HF:=hdq hb.out.fr
    clear hdn hb
    go_wp2_with fail
    go_ret
    exact⟨_,_,by rw[←HM.out];rfl,by rw[←HM.out];exact HG.out.2.1,by have:=HG.out.2.2;unfold maxLen at this;omega,HF.out,fun _=>⟨g,d1,rfl,HDN.out⟩⟩
theorem bareLA (xs:List Arr) (hall:∀x∈xs,BrOne oneA oneA 3 47 Arr.bare x) (w:World) (S:Nat→Prop) (A:Option Addr) (c:Nat) (cs:List Value) (hS:∀b,S b→b < w.heap.size) (hl:xs.length≤9223372036854775807) (hb:xs.length*32≤140737488355328) (hcl:cs.length=xs.length*3) (hrow:RowR oneA w S xs cs) (hone:One1 cs) (hnil:A=none→xs.length=0) (hcs:∀ad,A=some ad→∀j u,cs[j]?=some u→w.cell? (ad.add j)=some u):
  Calls Tryz.prog 46 #[.slice A xs.length c,.func (.func 47) #[] #[]] w (BrP oneA Arr.bare xs w):=by
 have HCL:=hdq (cloneA_any A xs.length c cs w hl hb hcl hone hnil hcs)
 have HA:=hdq hall
 have HS:=hdq hS
 have HROW:=hdq (aiq hcl hrow)
 have hen:Enters Tryz.prog 47:=enters_of Tryz.func47 (by kernel_rfl) rfl
 unfold Enters at hen
 obtain⟨m,hm⟩:=nmq xs.length
 rw[←hm]at hl HCL ⊢
 have HM:=hdq hm
 clear hall hS hm hb hcl hrow hone hnil hcs
 go_enter Tryz.func46,Tryz.ntmps46
 go_wp2_with fail
 refine HCL.out.mono ?_
 rintro _ w1 ⟨v,rfl,hown,hf1,A1,c1,rfl⟩
 by_cases h0:m=0
 ·subst h0
  have HF1:=hdq hf1
  have HC1:=hdq (row_cap hown)
  clear hown hf1
  go_wp2_with fail
  go_loopw [10] (fun i wr=>wr=w1∧i= .int .i64 0) (fun _ _=>0)
  case atStart=>exact⟨rfl,rfl⟩
  case round=>
   obtain⟨rfl,rfl⟩:=hrel
   go_wp2_with fail
   go_ret
   exact⟨A1,c1,by rw[←HM.out];rfl,by rw[←HM.out];exact Nat.zero_le _,HC1.out,HF1.out,fun h=>absurd h (by rw[←HM.out];exact Nat.lt_irrefl 0)⟩
 ·obtain⟨g,cap,pad,e,hgL,hgl,hmc,hcm,hbk⟩:=row_block hown (Nat.pos_of_ne_zero h0)
  obtain⟨rfl,rfl⟩:A1=some ⟨g,0,none⟩∧c1=cap:=by
   injection e with e1 e2 e3
   exact⟨e1,e3⟩
  have HST:=hdq (show BrSt oneA oneA 3 66 Arr.bare w S xs g w1 (cs++pad).toArray [] cs 0 from⟨hbk,hf1,by simp,by simp,fun j u hj=>by
   have:=(List.getElem?_eq_some_iff.1 hj).1
   rw[Nat.zero_mul,Nat.zero_add,List.getElem?_toArray,List.getElem?_append_left this];exact hj,rfl,HROW.out.2⟩)
  have HG:=hdq (aiq hgL (aiq hmc hcm))
  clear hown hf1 hbk e hgl hcm hgL hmc
  go_wp2_with fail
  go_loopw [10] (fun i wr=>∃k:Nat,k≤m∧i= .int .i64 k∧∃(cur:Array Value) (d1 d2:List Value),Hid (BrSt oneA oneA 3 66 Arr.bare w S xs g wr cur d1 d2 k)) (fun i _=>m - (intOf i).toNat)
  case atStart=>exact⟨0,Nat.zero_le _,rfl,_,_,_,HST⟩
  case round=>
   clear HST
   obtain⟨k,hk,rfl,cur,d1,d2,hb⟩:=hrel
   by_cases hlt:k < m
   ·obtain⟨x,r,hd,hd1⟩:=drop_head1 (show k < xs.length from by rw[←HM.out];exact hlt)
    have hr2:=hb.out.r2
    rw[hd]at hr2
    obtain⟨ys,cs',rfl,h1,hr⟩:=hr2
    have hlt':(k:Int) < (m:Int):=by omega
    have hge:(0:Int)≤(k:Int):=by omega
    have hgw:w.heap.size≤g:=HG.out.1
    have hc2:=hb.out.c2
    have hym:ys.length=3:=oneA_len h1
    have HC:=hdq (HA.out x (List.mem_of_mem_drop (i:=k) (by rw[hd];simp)) wr S ys g (k*3) 66 cur (fun b hb'=>⟨ltq (HS.out b hb') hb.out.fr.size,by have:=HS.out b hb';omega⟩) (oneA_keep _ _ _ _ _ _ (hb.out.fr.same fun b hb'=>⟨HS.out b hb',id⟩) (fun _ h=>h) h1) hb.out.bk (fun j u hj=>hc2 j u (by rw[List.getElem?_append_left (List.getElem?_eq_some_iff.1 hj).1];exact hj)))
    have HD:=hdq (aiq hd (aiq hym hr))
    have hbl:=hb.out.bk.lt
    clear hd hd1 hr h1 hym hc2
    go_wp2_with fail
    refine HC.out.mono ?_
    rintro _ w2 ⟨rfl,zs,cur',hbk,hone,hz,hf2⟩
    have HNX:=hdq (hb.out.step oneA_keep HD.out.1 HD.out.2.1 HD.out.2.2 hgw hbk hone hz hf2)
    clear hbk hone hz hf2 hb hbl
    go_wp2_with fail
    go_roundw
    case rel=>exact⟨k+1,by omega,by go_num,_,_,_,HNX⟩
    case measure=>simp[intOf];omega
   ·have hlt':¬(k:Int) < (m:Int):=by omega
    have hkm:k=m:=by omega
    subst hkm
    have hdn:BrSt oneA oneA 3 66 Arr.bare w S xs g wr cur d1 d2 xs.length:=HM.out▸hb.out
    have HDN:=hdq (hdn.done oneA_keep HG.out.1)
    have HF:=hdq hb.out.fr
    clear hdn hb
    go_wp2_with fail
    go_ret
    exact⟨_,_,by rw[←HM.out];rfl,by rw[←HM.out];exact HG.out.2.1,by have:=HG.out.2.2;unfold maxLen at this;omega,HF.out,fun _=>⟨g,d1,rfl,HDN.out⟩⟩
theorem bareLP (xs:List Prc) (hall:∀x∈xs,BrOne (onePz False) oneP 4 51 Prc.bare x) (w:World) (S:Nat→Prop) (A:Option Addr) (c:Nat) (cs:List Value) (hS:∀b,S b→b < w.heap.size) (hl:xs.length≤9223372036854775807) (hb:xs.length*72≤140737488355328) (hcl:cs.length=xs.length*4) (hrow:RowR (onePz False) w S xs cs) (hone:One1 cs) (hnil:A=none→xs.length=0) (hcs:∀ad,A=some ad→∀j u,cs[j]?=some u→w.cell? (ad.add j)=some u):
  Calls Tryz.prog 50 #[.slice A xs.length c,.func (.func 51) #[] #[]] w (BrP oneP Prc.bare xs w):=by
 have HCL:=hdq (cloneP_any A xs.length c cs w hl hb hcl hone hnil hcs)
 have HA:=hdq hall
 have HS:=hdq hS
 have HROW:=hdq (aiq hcl hrow)
 have hen:Enters Tryz.prog 51:=enters_of Tryz.func51 (by kernel_rfl) rfl
 unfold Enters at hen
 obtain⟨m,hm⟩:=nmq xs.length
 rw[←hm]at hl HCL ⊢
 have HM:=hdq hm
 clear hall hS hm hb hcl hrow hone hnil hcs
 go_enter Tryz.func50,Tryz.ntmps50
 go_wp2_with fail
 refine HCL.out.mono ?_
 rintro _ w1 ⟨v,rfl,hown,hf1,A1,c1,rfl⟩
 by_cases h0:m=0
 ·subst h0
  have HF1:=hdq hf1
  have HC1:=hdq (row_cap hown)
  clear hown hf1
  go_wp2_with fail
  go_loopw [10] (fun i wr=>wr=w1∧i= .int .i64 0) (fun _ _=>0)
  case atStart=>exact⟨rfl,rfl⟩
  case round=>
   obtain⟨rfl,rfl⟩:=hrel
   go_wp2_with fail
   go_ret
   exact⟨A1,c1,by rw[←HM.out];rfl,by rw[←HM.out];exact Nat.zero_le _,HC1.out,HF1.out,fun h=>absurd h (by rw[←HM.out];exact Nat.lt_irrefl 0)⟩
 ·obtain⟨g,cap,pad,e,hgL,hgl,hmc,hcm,hbk⟩:=row_block hown (Nat.pos_of_ne_zero h0)
  obtain⟨rfl,rfl⟩:A1=some ⟨g,0,none⟩∧c1=cap:=by
   injection e with e1 e2 e3
   exact⟨e1,e3⟩
  have HST:=hdq (show BrSt (onePz False) oneP 4 68 Prc.bare w S xs g w1 (cs++pad).toArray [] cs 0 from⟨hbk,hf1,by simp,by simp,fun j u hj=>by
   have:=(List.getElem?_eq_some_iff.1 hj).1
   rw[Nat.zero_mul,Nat.zero_add,List.getElem?_toArray,List.getElem?_append_left this];exact hj,rfl,HROW.out.2⟩)
  have HG:=hdq (aiq hgL (aiq hmc hcm))
  clear hown hf1 hbk e hgl hcm hgL hmc
  go_wp2_with fail
  go_loopw [10] (fun i wr=>∃k:Nat,k≤m∧i= .int .i64 k∧∃(cur:Array Value) (d1 d2:List Value),Hid (BrSt (onePz False) oneP 4 68 Prc.bare w S xs g wr cur d1 d2 k)) (fun i _=>m - (intOf i).toNat)
  case atStart=>exact⟨0,Nat.zero_le _,rfl,_,_,_,HST⟩
  case round=>
   clear HST
   obtain⟨k,hk,rfl,cur,d1,d2,hb⟩:=hrel
   by_cases hlt:k < m
   ·obtain⟨x,r,hd,hd1⟩:=drop_head1 (show k < xs.length from by rw[←HM.out];exact hlt)
    have hr2:=hb.out.r2
    rw[hd]at hr2
    obtain⟨ys,cs',rfl,h1,hr⟩:=hr2
    have hlt':(k:Int) < (m:Int):=by omega
    have hge:(0:Int)≤(k:Int):=by omega
    have hgw:w.heap.size≤g:=HG.out.1
    have hc2:=hb.out.c2
    have hym:ys.length=4:=oneP_len h1
    have HC:=hdq (HA.out x (List.mem_of_mem_drop (i:=k) (by rw[hd];simp)) wr S ys g (k*4) 68 cur (fun b hb'=>⟨ltq (HS.out b hb') hb.out.fr.size,by have:=HS.out b hb';omega⟩) (oneP_keep _ _ _ _ _ _ (hb.out.fr.same fun b hb'=>⟨HS.out b hb',id⟩) (fun _ h=>h) h1) hb.out.bk (fun j u hj=>hc2 j u (by rw[List.getElem?_append_left (List.getElem?_eq_some_iff.1 hj).1];exact hj)))
    have HD:=hdq (aiq hd (aiq hym hr))
    have hbl:=hb.out.bk.lt
    clear hd hd1 hr h1 hym hc2
    go_wp2_with fail
    refine HC.out.mono ?_
    rintro _ w2 ⟨rfl,zs,cur',hbk,hone,hz,hf2⟩
    have HNX:=hdq (hb.out.step oneP_keep HD.out.1 HD.out.2.1 HD.out.2.2 hgw hbk hone hz hf2)
    clear hbk hone hz hf2 hb hbl
    go_wp2_with fail
    go_roundw
    case rel=>exact⟨k+1,by omega,by go_num,_,_,_,HNX⟩
    case measure=>simp[intOf];omega
   ·have hlt':¬(k:Int) < (m:Int):=by omega
    have hkm:k=m:=by omega
    subst hkm
    have hdn:BrSt (onePz False) oneP 4 68 Prc.bare w S xs g wr cur d1 d2 xs.length:=HM.out▸hb.out
    have HDN:=hdq (hdn.done oneP_keep HG.out.1)
    have HF:=hdq hb.out.fr
    clear hdn hb
    go_wp2_with fail
    go_ret
    exact⟨_,_,by rw[←HM.out];rfl,by rw[←HM.out];exact HG.out.2.1,by have:=HG.out.2.2;unfold maxLen at this;omega,HF.out,fun _=>⟨g,d1,rfl,HDN.out⟩⟩

open Go.RowKit

def Sts.toL:Sts→List St
 | .nil => []
 | .cons k nm args cond body els at_ r=>⟨k,nm,args,cond,body,els,at_⟩::r.toL
theorem Sts.of_toL:∀xs:Sts,stsOf xs.toL=xs
 | .nil =>rfl
 | .cons k nm args cond body els at_ r=>by show Sts.cons _ _ _ _ _ _ _ (stsOf r.toL)=_;rw[Sts.of_toL r]
theorem Sts.toL_len:∀xs:Sts,xs.toL.length=xs.len
 | .nil =>rfl
 | .cons k nm args cond body els at_ r=>by simp[Sts.toL,Sts.len,Sts.toL_len r]
theorem sts_bare:∀xs:Sts,stsOf (xs.toL.map St.brz)=xs.bare
 | .nil =>rfl
 | .cons k nm args cond body els at_ r=>by simp only[Sts.toL,List.map_cons,stsOf,sts_bare r,Sts.bare];rfl
section
variable {w:World} {S:Nat→Prop} {Z:Prop}
theorem cellsS:∀ {xs:Sts} {b o:Nat},StR w S Z xs b o→∃cs:List Value,cs.length=xs.len*7∧RowR (oneSz False) w S xs.toL cs∧One1 cs∧∀j u,cs[j]?=some u→w.cell? ⟨b,o+j,none⟩=some u
 | .nil,_,_,_=>⟨[],rfl,rfl,by simp[One1],by simp⟩
 | .cons k nm args cond body els at_ rest,b,o,⟨⟨hb,_,r0,r1,h0,h1,h6⟩,⟨A,c,h2,hs⟩,⟨A2,c2,h3,hs2⟩,⟨A3,c3,h4,hs3⟩,⟨A4,c4,h5,hs4⟩,hr⟩=>by
  obtain⟨cs,hl,hrow,h1c,hcs⟩:=cellsS hr
  refine⟨[.int .u8 k,.string nm,.slice A args.len c,.slice A2 cond.len c2,.slice A3 body.len c3,.slice A4 els.len c4,.int .i64 at_]++cs,by simp[Sts.len,hl];omega,⟨_,cs,rfl,⟨A,c,A2,c2,A3,c3,A4,c4,rfl,r0,r1,hs.imp fun _ _=>ExR.lax,hs2.imp fun _ _=>CdR.lax,hs3.imp fun _ _=>StR.lax,hs4.imp fun _ _=>StR.lax⟩,hrow⟩,One1.app ?_ h1c,cells_cons (fun j u hj=>?_) hcs⟩
  ·intro u hu
   simp only[List.mem_cons,List.not_mem_nil,or_false]at hu
   rcases hu with rfl|rfl|rfl|rfl|rfl|rfl|rfl<;>rfl
  ·match j with
   |0=>simpa using hj▸h0
   |1=>simpa using hj▸h1
   |2=>simpa using hj▸h2
   |3=>simpa using hj▸h3
   |4=>simpa using hj▸h4
   |5=>simpa using hj▸h5
   |6=>simpa using hj▸h6
   |j+7=>simp at hj
theorem cellsP:∀ {xs:List Prc} {b o:Nat},PrR w S Z xs b o→∃cs:List Value,cs.length=xs.length*4∧RowR (onePz False) w S xs cs∧One1 cs∧∀j u,cs[j]?=some u→w.cell? ⟨b,o+j,none⟩=some u
 | [],_,_,_=>⟨[],rfl,rfl,by simp[One1],by simp⟩
 |v::r,b,o,⟨⟨hb,_,r0,h0,h3⟩,⟨A,c,h1,hs⟩,⟨A2,c2,h2,hs2⟩,hr⟩=>by
  obtain⟨cs,hl,hrow,h1c,hcs⟩:=cellsP hr
  refine⟨[.string v.nm,.slice A v.params.length c,.slice A2 v.body.len c2,.int .i64 v.at_]++cs,by simp[hl];omega,⟨_,cs,rfl,⟨A,c,A2,c2,rfl,r0,hs.imp fun _ _=>VaR.lax,hs2.imp fun _ _=>StR.lax⟩,hrow⟩,One1.app ?_ h1c,cells_cons (cells_get4 h0 h1 h2 h3) hcs⟩
  intro u hu
  simp only[List.mem_cons,List.not_mem_nil,or_false]at hu
  rcases hu with rfl|rfl|rfl|rfl<;>rfl
theorem slS {xs:Sts} {A:Option Addr} {c:Nat} (hx:SlR (fun b o=>StR w S Z xs b o) xs.len 128 A c):∃cs:List Value,cs.length=xs.len*7∧RowR (oneSz False) w S xs.toL cs∧One1 cs∧(A=none→xs.len=0)∧∀ad,A=some ad→∀j u,cs[j]?=some u→w.cell? (ad.add j)=some u:=by
 rcases Nat.eq_zero_or_pos xs.len with h0|h0
 ·cases xs with
  |nil=>exact⟨[],rfl,rfl,by simp[One1],fun _=>rfl,by simp⟩
  |cons=>simp[Sts.len]at h0
 ·obtain⟨b,o,rfl,hat⟩:=hx.2.2 h0
  obtain⟨cs,hl,hr,h1,hc⟩:=cellsS hat
  refine⟨cs,hl,hr,h1,fun h=>by simp at h,fun ad e j u hj=>?_⟩
  cases e
  rw[add_at]
  exact hc j u hj
theorem slP {xs:List Prc} {A:Option Addr} {c:Nat} (hx:SlR (PrR w S Z xs) xs.length 72 A c):∃cs:List Value,cs.length=xs.length*4∧RowR (onePz False) w S xs cs∧One1 cs∧(A=none→xs.length=0)∧∀ad,A=some ad→∀j u,cs[j]?=some u→w.cell? (ad.add j)=some u:=by
 rcases Nat.eq_zero_or_pos xs.length with h0|h0
 ·have:=List.length_eq_zero_iff.1 h0
  subst this
  exact⟨[],rfl,rfl,by simp[One1],fun _=>rfl,by simp⟩
 ·obtain⟨b,o,rfl,hat⟩:=hx.2.2 h0
  obtain⟨cs,hl,hr,h1,hc⟩:=cellsP hat
  refine⟨cs,hl,hr,h1,fun h=>by simp at h,fun ad e j u hj=>?_⟩
  cases e
  rw[add_at]
  exact hc j u hj
end
theorem OneAtB.refl {cur:Array Value} {o m:Nat} {zs:List Value} (hl:zs.length=m) (hc:∀j u,zs[j]?=some u→cur[o+j]?=some u):OneAtB cur cur o m zs:=⟨rfl,hl,hc,fun _ _=>rfl⟩
theorem OneAtB.set {cur cur':Array Value} {o m:Nat} {zs:List Value} (h:OneAtB cur cur' o m zs) (i:Nat) (v:Value) (hi:i < m):OneAtB cur (cur'.setIfInBounds (o+i) v) o m (zs.set i v):=by
 obtain⟨h1,h2,h3,h4⟩:=h
 have hz:o+i < cur'.size:=by
  have hi':i < zs.length:=by omega
  have:=h3 i zs[i] (List.getElem?_eq_getElem hi')
  exact(Array.getElem?_eq_some_iff.1 this).1
 refine⟨by simp[h1],by simp[h2],fun j u hj=>?_,fun j hj=>?_⟩
 ·by_cases e:i=j
  ·subst e
   rw[Array.getElem?_setIfInBounds_self_of_lt hz]
   rw[List.getElem?_set_self (by omega)]at hj
   exact hj
  ·rw[List.getElem?_set_ne e]at hj
   rw[Array.getElem?_setIfInBounds_ne (by omega)]
   exact h3 j u hj
 ·rw[Array.getElem?_setIfInBounds_ne (by omega)]
  exact h4 j hj
def BzX (xs:Exs):Prop:=∀(w:World) (S:Nat→Prop) (A:Option Addr) (c:Nat),(∀b,S b→b < w.heap.size)→SlR (fun b o=>ExR w S False xs b o) xs.len 64 A c→
 Calls Tryz.prog 111 #[.slice A xs.len c,.func (.func 112) #[] #[]] w fun e w'=>∃A' c',e= .returned (.slice A' xs.len c')∧SlR (fun b o=>ExR w' (New w.heap.size w') True xs.bare b o) xs.len 64 A' c'∧Fr NoT w w'
theorem brX_of (xs:Exs) (hall:∀x∈xs.toL,BrOne (oneXz False) oneX 5 112 Ex.brz x):BzX xs:=by
 intro w S A c hS hx
 obtain⟨cs,hcl,hrow,hone,hnil,hcs⟩:=slX hx
 have h:=bareLX xs.toL hall w S A c cs hS (by rw[Exs.toL_len];exact leq9 hx.1 hx.2.1.1) (by rw[Exs.toL_len];exact hx.2.1.2) (by rw[Exs.toL_len];exact hcl) hrow hone (by rw[Exs.toL_len];exact hnil) hcs
 rw[Exs.toL_len]at h
 refine h.mono ?_
 rintro e w' ⟨A',c',rfl,h1,h2,hf,hr⟩
 rw[Exs.toL_len]at h1 hr ⊢
 refine⟨A',c',rfl,⟨h1,⟨h2,hx.2.1.2⟩,fun h0=>?_⟩,hf⟩
 obtain⟨g,zs,rfl,hg,hrow,hcs⟩:=hr h0
 refine⟨g,0,rfl,?_⟩
 rw[←exs_bare]
 exact rowX hg hrow fun j u hj=>by rw[Nat.zero_add];exact hcs j u hj
def BzC (xs:Cds):Prop:=∀(w:World) (S:Nat→Prop) (A:Option Addr) (c:Nat),(∀b,S b→b < w.heap.size)→SlR (fun b o=>CdR w S False xs b o) xs.len 64 A c→
 Calls Tryz.prog 113 #[.slice A xs.len c,.func (.func 114) #[] #[]] w fun e w'=>∃A' c',e= .returned (.slice A' xs.len c')∧SlR (fun b o=>CdR w' (New w.heap.size w') True xs.bare b o) xs.len 64 A' c'∧Fr NoT w w'
theorem brC_of (xs:Cds) (hall:∀x∈xs.toL,BrOne (oneCz False) oneC 4 114 Cn.brz x):BzC xs:=by
 intro w S A c hS hx
 obtain⟨cs,hcl,hrow,hone,hnil,hcs⟩:=slC hx
 have h:=bareLC xs.toL hall w S A c cs hS (by rw[Cds.toL_len];exact leq9 hx.1 hx.2.1.1) (by rw[Cds.toL_len];exact hx.2.1.2) (by rw[Cds.toL_len];exact hcl) hrow hone (by rw[Cds.toL_len];exact hnil) hcs
 rw[Cds.toL_len]at h
 refine h.mono ?_
 rintro e w' ⟨A',c',rfl,h1,h2,hf,hr⟩
 rw[Cds.toL_len]at h1 hr ⊢
 refine⟨A',c',rfl,⟨h1,⟨h2,hx.2.1.2⟩,fun h0=>?_⟩,hf⟩
 obtain⟨g,zs,rfl,hg,hrow,hcs⟩:=hr h0
 refine⟨g,0,rfl,?_⟩
 rw[←cds_bare]
 exact rowC hg hrow fun j u hj=>by rw[Nat.zero_add];exact hcs j u hj
def BzS (xs:Sts):Prop:=∀(w:World) (S:Nat→Prop) (A:Option Addr) (c:Nat),(∀b,S b→b < w.heap.size)→SlR (fun b o=>StR w S False xs b o) xs.len 128 A c→
 Calls Tryz.prog 48 #[.slice A xs.len c,.func (.func 49) #[] #[]] w fun e w'=>∃A' c',e= .returned (.slice A' xs.len c')∧SlR (fun b o=>StR w' (New w.heap.size w') True xs.bare b o) xs.len 128 A' c'∧Fr NoT w w'
theorem brS_of (xs:Sts) (hall:∀x∈xs.toL,BrOne (oneSz False) oneS 7 49 St.brz x):BzS xs:=by
 intro w S A c hS hx
 obtain⟨cs,hcl,hrow,hone,hnil,hcs⟩:=slS hx
 have h:=bareLS xs.toL hall w S A c cs hS (by rw[Sts.toL_len];exact leq9 hx.1 hx.2.1.1) (by rw[Sts.toL_len];exact hx.2.1.2) (by rw[Sts.toL_len];exact hcl) hrow hone (by rw[Sts.toL_len];exact hnil) hcs
 rw[Sts.toL_len]at h
 refine h.mono ?_
 rintro e w' ⟨A',c',rfl,h1,h2,hf,hr⟩
 rw[Sts.toL_len]at h1 hr ⊢
 refine⟨A',c',rfl,⟨h1,⟨h2,hx.2.1.2⟩,fun h0=>?_⟩,hf⟩
 obtain⟨g,zs,rfl,hg,hrow,hcs⟩:=hr h0
 refine⟨g,0,rfl,?_⟩
 rw[←sts_bare]
 exact rowS hg hrow fun j u hj=>by rw[Nat.zero_add];exact hcs j u hj
def BzV (xs:List Va):Prop:=∀(w:World) (S:Nat→Prop) (A:Option Addr) (c:Nat),(∀b,S b→b < w.heap.size)→SlR (VaR w S False xs) xs.length 24 A c→
 Calls Tryz.prog 44 #[.slice A xs.length c,.func (.func 45) #[] #[]] w fun e w'=>∃A' c',e= .returned (.slice A' xs.length c')∧SlR (VaR w' (New w.heap.size w') True (xs.map Va.bare)) xs.length 24 A' c'∧Fr NoT w w'
theorem brV_of (xs:List Va) (hall:∀x∈xs,BrOne oneV oneV 2 45 Va.bare x):BzV xs:=by
 intro w S A c hS hx
 obtain⟨cs,hcl,hrow,hone,hnil,hcs⟩:=slV hx
 refine(bareLV xs hall w S A c cs hS (leq9 hx.1 hx.2.1.1) hx.2.1.2 hcl hrow hone hnil hcs).mono ?_
 rintro e w' ⟨A',c',rfl,h1,h2,hf,hr⟩
 refine⟨A',c',rfl,⟨h1,⟨h2,hx.2.1.2⟩,fun h0=>?_⟩,hf⟩
 obtain⟨g,zs,rfl,hg,hrow,hcs⟩:=hr h0
 exact⟨g,0,rfl,rowV hg hrow fun j u hj=>by rw[Nat.zero_add];exact hcs j u hj⟩
def BzA (xs:List Arr):Prop:=∀(w:World) (S:Nat→Prop) (A:Option Addr) (c:Nat),(∀b,S b→b < w.heap.size)→SlR (ArR w S False xs) xs.length 32 A c→
 Calls Tryz.prog 46 #[.slice A xs.length c,.func (.func 47) #[] #[]] w fun e w'=>∃A' c',e= .returned (.slice A' xs.length c')∧SlR (ArR w' (New w.heap.size w') True (xs.map Arr.bare)) xs.length 32 A' c'∧Fr NoT w w'
theorem brA_of (xs:List Arr) (hall:∀x∈xs,BrOne oneA oneA 3 47 Arr.bare x):BzA xs:=by
 intro w S A c hS hx
 obtain⟨cs,hcl,hrow,hone,hnil,hcs⟩:=slA hx
 refine(bareLA xs hall w S A c cs hS (leq9 hx.1 hx.2.1.1) hx.2.1.2 hcl hrow hone hnil hcs).mono ?_
 rintro e w' ⟨A',c',rfl,h1,h2,hf,hr⟩
 refine⟨A',c',rfl,⟨h1,⟨h2,hx.2.1.2⟩,fun h0=>?_⟩,hf⟩
 obtain⟨g,zs,rfl,hg,hrow,hcs⟩:=hr h0
 exact⟨g,0,rfl,rowA hg hrow fun j u hj=>by rw[Nat.zero_add];exact hcs j u hj⟩
def BzP (xs:List Prc):Prop:=∀(w:World) (S:Nat→Prop) (A:Option Addr) (c:Nat),(∀b,S b→b < w.heap.size)→SlR (PrR w S False xs) xs.length 72 A c→
 Calls Tryz.prog 50 #[.slice A xs.length c,.func (.func 51) #[] #[]] w fun e w'=>∃A' c',e= .returned (.slice A' xs.length c')∧SlR (PrR w' (New w.heap.size w') True (xs.map Prc.bare)) xs.length 72 A' c'∧Fr NoT w w'
theorem brP_of (xs:List Prc) (hall:∀x∈xs,BrOne (onePz False) oneP 4 51 Prc.bare x):BzP xs:=by
 intro w S A c hS hx
 obtain⟨cs,hcl,hrow,hone,hnil,hcs⟩:=slP hx
 refine(bareLP xs hall w S A c cs hS (leq9 hx.1 hx.2.1.1) hx.2.1.2 hcl hrow hone hnil hcs).mono ?_
 rintro e w' ⟨A',c',rfl,h1,h2,hf,hr⟩
 refine⟨A',c',rfl,⟨h1,⟨h2,hx.2.1.2⟩,fun h0=>?_⟩,hf⟩
 obtain⟨g,zs,rfl,hg,hrow,hcs⟩:=hr h0
 exact⟨g,0,rfl,rowP hg hrow fun j u hj=>by rw[Nat.zero_add];exact hcs j u hj⟩
end Go.Proofs.YtmopichdofgndaaGreatDoor

namespace Go.Proofs.YtmopichdofgndaaGreatDoor
open Go.RowKit Go.Shelf

theorem in64_0:in64 0:=by unfold in64;decide
def LowS (L:Nat) (w w':World):Prop:=SameS (fun b=>L≤b∧b < w.heap.size) w w'∧w.heap.size≤w'.heap.size
theorem LowS.set {L:Nat} {w w':World} {g:Nat} (h:LowS L w w') (hg:g < L) (i:Nat) (u:Value):LowS L w (w'.setCell ⟨g,i,none⟩ u):=by
 have k:=(Fr.own (Fr.refl (fun b=>b=g) w') i u).same (S:=fun b=>L≤b∧b < w.heap.size) fun b hb=>⟨by have:=h.2;omega,fun e=>by have e:b=g:=e;have:=hb.1;omega⟩
 exact⟨fun a ha=>⟨(k a ha).1.trans (h.1 a ha).1,(k a ha).2.trans (h.1 a ha).2⟩,by simpa using h.2⟩
theorem LowS.of {L:Nat} {w w':World} (h:Fr NoT w w'):LowS L w w':=⟨h.same fun b hb=>⟨hb.2,id⟩,h.size⟩
theorem LowS.step {L:Nat} {w w' w'':World} (h:LowS L w w') (hf:Fr NoT w' w''):LowS L w w'':=by
 have k:=hf.same (S:=fun b=>L≤b∧b < w.heap.size) fun b hb=>⟨by have:=h.2;omega,id⟩
 exact⟨fun a ha=>⟨(k a ha).1.trans (h.1 a ha).1,(k a ha).2.trans (h.1 a ha).2⟩,leq9 h.2 hf.size⟩
section
variable {L L' m:Nat} {w w':World} {A:Option Addr} {c:Nat}
theorem LowS.x {xs:Exs} (h:LowS L' w w') (hL:L≤L') (hx:SlR (fun b o=>ExR w (New L' w) True xs b o) m 64 A c):SlR (fun b o=>ExR w' (New L w') True xs b o) m 64 A c:=
 hx.imp fun _ _ k=>ExR.more (fun b hb=>⟨leq9 hL hb.1,ltq hb.2 h.2⟩) (ExR.keep h.1 k)
theorem LowS.cn {xs:Cds} (h:LowS L' w w') (hL:L≤L') (hx:SlR (fun b o=>CdR w (New L' w) True xs b o) m 64 A c):SlR (fun b o=>CdR w' (New L w') True xs b o) m 64 A c:=
 hx.imp fun _ _ k=>CdR.more (fun b hb=>⟨leq9 hL hb.1,ltq hb.2 h.2⟩) (CdR.keep h.1 k)
theorem LowS.s {xs:Sts} (h:LowS L' w w') (hL:L≤L') (hx:SlR (fun b o=>StR w (New L' w) True xs b o) m 128 A c):SlR (fun b o=>StR w' (New L w') True xs b o) m 128 A c:=
 hx.imp fun _ _ k=>StR.more (fun b hb=>⟨leq9 hL hb.1,ltq hb.2 h.2⟩) (StR.keep h.1 k)
theorem LowS.v {xs:List Va} (h:LowS L' w w') (hL:L≤L') (hx:SlR (VaR w (New L' w) True xs) m 24 A c):SlR (VaR w' (New L w') True xs) m 24 A c:=
 hx.imp fun _ _ k=>VaR.more (fun b hb=>⟨leq9 hL hb.1,ltq hb.2 h.2⟩) (VaR.keep h.1 k)
end
theorem brOneV (x:Va):BrOne oneV oneV 2 45 Va.bare x:=by
 intro w S ys g o T cur hS h hbk hc
 obtain⟨rfl,hat⟩:=h
 have c1:=(hbk.cell (o+1)).trans (hc 1 _ rfl)
 have f1:=hbk.frozen (o+1)
 have hgl:=hbk.lt
 have HBK:=hdq hbk
 have HC:=hdq hc
 clear hS hbk hc
 go_enter Tryz.func45,Tryz.ntmps45
 go_wp2_with fail
 go_end0
 have a1:=(OneAtB.refl (m:=2) rfl HC.out).set 1 (.int .i64 0) (by decide)
 exact⟨rfl,_,_,HBK.out.set_ (o+1) (.int .i64 0),a1,⟨rfl,in64_0⟩,(Fr.refl (fun b=>b=g) w).own _ _⟩
theorem brOneA (x:Arr):BrOne oneA oneA 3 47 Arr.bare x:=by
 intro w S ys g o T cur hS h hbk hc
 obtain⟨rfl,hsz,hat⟩:=h
 have c1:=(hbk.cell (o+2)).trans (hc 2 _ rfl)
 have f1:=hbk.frozen (o+2)
 have hgl:=hbk.lt
 have HBK:=hdq hbk
 have HC:=hdq hc
 clear hS hbk hc
 go_enter Tryz.func47,Tryz.ntmps47
 go_wp2_with fail
 go_end0
 have a1:=(OneAtB.refl (m:=3) rfl HC.out).set 2 (.int .i64 0) (by decide)
 exact⟨rfl,_,_,HBK.out.set_ (o+2) (.int .i64 0),a1,⟨rfl,hsz,in64_0⟩,(Fr.refl (fun b=>b=g) w).own _ _⟩
theorem brOneX (x:Ex) (hall:BzX x.args):BrOne (oneXz False) oneX 5 112 Ex.brz x:=by
 intro w S ys g o T cur hS h hbk hc
 obtain⟨A,c,rfl,hk,hn,hat,hsl⟩:=h
 have c3:=(hbk.cell (o+3)).trans (hc 3 _ rfl)
 have hgl:=hbk.lt
 have HX:=hdq (hall w S A c (fun b hb=>(hS b hb).1) hsl)
 have HBK:=hdq hbk
 have HC:=hdq hc
 have HK:=hdq (aiq hk hn)
 have HM:=hdq (bareX_len x.args)
 obtain⟨m,hm⟩:=nmq x.args.len
 rw[←hm]at c3 HX HC HM
 clear hS hbk hc hk hn hat hsl hall hm
 go_enter Tryz.func112,Tryz.ntmps112
 go_wp2_with fail
 refine HX.out.mono ?_
 rintro _ w1 ⟨A',c',rfl,hsl,hf⟩
 have k1:=HBK.out.fr0 hf
 have f3:=k1.frozen (o+3)
 have f4:=k1.frozen (o+4)
 have l1:=k1.lt
 have q3:=(k1.cell (o+3)).trans (HC.out 3 _ rfl)
 have q4:=(k1.cell (o+4)).trans (HC.out 4 _ rfl)
 have HK1:=hdq k1
 have HSL:=hdq hsl
 have HF:=hdq hf
 clear k1 hsl hf c3
 go_wp2_with fail
 go_end0
 have a1:=((OneAtB.refl (m:=5) rfl HC.out).set 4 (.int .i64 0) (by decide)).set 3 (.slice A' m c') (by decide)
 have a2:=(HK1.out.set_ (o+4) (.int .i64 0)).set_ (o+3) (.slice A' m c')
 have a3:=((HF.out.any:Fr (fun b=>b=g) w w1).own (o+4) (.int .i64 0)).own (o+3) (.slice A' m c')
 refine⟨rfl,_,_,a2,a1,⟨A',c',?_,HK.out.1,HK.out.2,in64_0,?_⟩,a3⟩
 ·show _=([.int .u8 x.k,.string x.nm,.int .i64 x.n,.slice A' x.args.bare.len c',.int .i64 0]:List Value)
  rw[HM.out];rfl
 show SlR _ x.args.bare.len 64 A' c'
 rw[HM.out]
 exact(((LowS.of (Fr.refl NoT w1)).set hgl _ _).set hgl _ _).x (lrq _) HSL.out
theorem brOneC (x:Cn) (h1:BzX x.args) (hall:BzC x.of_):BrOne (oneCz False) oneC 4 114 Cn.brz x:=by
 intro w S ys g o T cur hS h hbk hc
 obtain⟨A,c,B,d,rfl,hk,hat,hsl,hsl2⟩:=h
 have c1:=(hbk.cell (o+1)).trans (hc 1 _ rfl)
 have c2:=(hbk.cell (o+2)).trans (hc 2 _ rfl)
 have hgl:=hbk.lt
 have HX:=hdq (fun(W:World) (hf:Fr NoT w W)=>h1 W S A c (fun b hb=>ltq (hS b hb).1 hf.size) (hsl.imp fun _ _ h=>ExR.keep (hf.same fun b hb=>⟨(hS b hb).1,id⟩) h))
 have HC:=hdq (fun(W:World) (hf:Fr NoT w W)=>hall W S B d (fun b hb=>ltq (hS b hb).1 hf.size) (hsl2.imp fun _ _ h=>CdR.keep (hf.same fun b hb=>⟨(hS b hb).1,id⟩) h))
 have HBK:=hdq hbk
 have HCU:=hdq hc
 have HK:=hdq hk
 have HM:=hdq (aiq (bareX_len x.args) (bareC_len x.of_))
 obtain⟨m,hm⟩:=nmq x.args.len
 obtain⟨m2,hm2⟩:=nmq x.of_.len
 rw[←hm]at c1 HX HCU HM
 rw[←hm2]at c2 HC HCU HM
 clear hS hbk hc hsl hsl2 h1 hall hk hat hm hm2
 go_enter Tryz.func114,Tryz.ntmps114
 go_wp2_with fail
 refine wp_region_E (fun W'=>g < W'.heap.size∧W'.cell? ⟨g,o+1,none⟩=some (.slice A m c)∧W'.cell? ⟨g,o+2,none⟩=some (.slice B m2 d)) (fun i=>decide (i < 13)) (by kernel_rfl) ⟨hgl,c1,c2⟩ (fun hHeld=>?_)
 refine wpE_pu 0 ?_
 try simp only[putsL]
 refine wpE_pu 1 ?_
 try simp only[putsL]
 refine wpE_pu 2 ?_
 try simp only[putsL]
 refine wpE_pu 3 ?_
 try simp only[putsL]
 refine wpE_pu 4 ?_
 try simp only[putsL]
 refine wpE_pu 5 ?_
 try simp only[putsL]
 refine wpE_pu 8 ?_
 try simp only[putsL]
 refine wpE_pu 9 ?_
 try simp only[putsL]
 refine wpE_pu 10 ?_
 try simp only[putsL]
 refine wpE_tk 6 hHeld ?_
 try simp only[putsL]
 refine wpE_tk 11 hHeld ?_
 try simp only[putsL]
 refine wpE_next 7 rfl (by kernel_rfl) (fun KK hK=>?_)
 go_simp
 go_at_call 111
 refine(HX.out _ ((Fr.refl NoT w).drew)).mono ?_
 rintro _ w1 ⟨A',c',rfl,hsl,hf1⟩
 have HF1:=hdq (((Fr.refl NoT w).drew).trans hf1)
 have hk1:=HBK.out.fr0 HF1.out
 have hs1:g < w1.heap.size∧w1.cell? ⟨g,o+1,none⟩=some (.slice A m c)∧w1.cell? ⟨g,o+2,none⟩=some (.slice B m2 d):=⟨hk1.lt,(hk1.cell _).trans (HCU.out 1 _ rfl),(hk1.cell _).trans (HCU.out 2 _ rfl)⟩
 have HSL:=hdq hsl
 clear hHeld hsl hf1 hk1
 dsimp only
 refine hK _ _ (fun _ _=>hs1) ?_
 clear hK KK
 have hHeld:=hs1
 clear hs1
 try simp only[putsL]
 refine wpE_next 12 rfl (by kernel_rfl) (fun KK hK=>?_)
 go_simp
 go_at_call 113
 refine(HC.out _ HF1.out).mono ?_
 rintro _ w2 ⟨B',d',rfl,hsl2,hf2⟩
 have hk2:=(HBK.out.fr0 HF1.out).fr0 hf2
 have hgl2:=hk2.lt
 have f1:=hk2.frozen (o+1)
 have f2:=hk2.frozen (o+2)
 have f3:=hk2.frozen (o+3)
 have q1:=(hk2.cell (o+1)).trans (HCU.out 1 _ rfl)
 have q2:=(hk2.cell (o+2)).trans (HCU.out 2 _ rfl)
 have q3:=(hk2.cell (o+3)).trans (HCU.out 3 _ rfl)
 have HF2:=hdq hf2
 have HK2:=hdq hk2
 have HSL2:=hdq hsl2
 clear hsl2 hf2 hk2
 dsimp only
 refine hK _ _ (fun _ _=>⟨hgl2,q1,q2⟩) ?_
 clear hK KK hHeld
 try simp only[putsL]
 refine wpE_next 13 rfl (by kernel_rfl) (fun KK hK=>?_)
 go_simp
 refine hK _ _ (fun h=>absurd h (by decide)) ?_
 clear hK KK
 try simp only[putsL]
 refine wpE_next 14 rfl (by kernel_rfl) (fun KK hK=>?_)
 go_simp
 refine hK _ _ (fun h=>absurd h (by decide)) ?_
 clear hK KK
 try simp only[putsL]
 refine wpE_next 15 rfl (by kernel_rfl) (fun KK hK=>?_)
 go_simp
 refine hK _ _ (fun h=>absurd h (by decide)) ?_
 clear hK KK
 try simp only[putsL]
 refine wpE_next 16 rfl (by kernel_rfl) (fun KK hK=>?_)
 go_simp
 refine hK _ _ (fun h=>absurd h (by decide)) ?_
 clear hK KK
 try simp only[putsL]
 refine wpE_next 17 rfl (by kernel_rfl) (fun KK hK=>?_)
 go_simp
 refine hK _ _ (fun h=>absurd h (by decide)) ?_
 clear hK KK
 try simp only[putsL]
 refine wpE_next 18 rfl (by kernel_rfl) (fun KK hK=>?_)
 go_simp
 refine hK _ _ (fun h=>absurd h (by decide)) ?_
 clear hK KK
 try simp only[putsL]
 refine wpE_next 19 rfl (by kernel_rfl) (fun KK hK=>?_)
 go_simp
 refine hK _ _ (fun h=>absurd h (by decide)) ?_
 clear hK KK
 try simp only[putsL]
 refine wpE_next 20 rfl (by kernel_rfl) (fun KK hK=>?_)
 go_simp
 refine hK _ _ (fun h=>absurd h (by decide)) ?_
 clear hK KK
 try simp only[putsL]
 refine wpE_next 21 rfl (by kernel_rfl) (fun KK hK=>?_)
 go_simp
 refine hK _ _ (fun h=>absurd h (by decide)) ?_
 clear hK KK
 try simp only[putsL]
 refine wpE_done (by kernel_rfl) ?_
 go_wp2_with fail
 go_end0
 have h12:Fr NoT w w2:=HF1.out.trans HF2.out
 have a1:=(((OneAtB.refl (m:=4) rfl HCU.out).set 3 (.int .i64 0) (by decide)).set 1 (.slice A' m c') (by decide)).set 2 (.slice B' m2 d') (by decide)
 have a2:=((HK2.out.set_ (o+3) (.int .i64 0)).set_ (o+1) (.slice A' m c')).set_ (o+2) (.slice B' m2 d')
 have a3:=(((h12.any:Fr (fun b=>b=g) w w2).own (o+3) (.int .i64 0)).own (o+1) (.slice A' m c')).own (o+2) (.slice B' m2 d')
 refine⟨rfl,_,_,a2,a1,⟨A',c',B',d',?_,HK.out,in64_0,?_,?_⟩,a3⟩
 ·show _=([.int .u8 x.k,.slice A' x.args.bare.len c',.slice B' x.of_.bare.len d',.int .i64 0]:List Value)
  rw[HM.out.1,HM.out.2];rfl
 ·show SlR _ x.args.bare.len 64 A' c'
  rw[HM.out.1]
  exact((((LowS.of HF2.out).set hgl _ _).set hgl _ _).set hgl _ _).x (lrq _) HSL.out
 ·show SlR _ x.of_.bare.len 64 B' d'
  rw[HM.out.2]
  exact((((LowS.of (Fr.refl NoT w2)).set (ltq hgl HF1.out.size) _ _).set (ltq hgl HF1.out.size) _ _).set (ltq hgl HF1.out.size) _ _).cn HF1.out.size HSL2.out
theorem brOneP (x:Prc) (h1:BzV x.params) (hall:BzS x.body):BrOne (onePz False) oneP 4 51 Prc.bare x:=by
 intro w S ys g o T cur hS h hbk hc
 obtain⟨A,c,B,d,rfl,hat,hsl,hsl2⟩:=h
 have c1:=(hbk.cell (o+1)).trans (hc 1 _ rfl)
 have c2:=(hbk.cell (o+2)).trans (hc 2 _ rfl)
 have hgl:=hbk.lt
 have HX:=hdq (fun(W:World) (hf:Fr NoT w W)=>h1 W S A c (fun b hb=>ltq (hS b hb).1 hf.size) (hsl.imp fun _ _ h=>VaR.keep (hf.same fun b hb=>⟨(hS b hb).1,id⟩) h))
 have HC:=hdq (fun(W:World) (hf:Fr NoT w W)=>hall W S B d (fun b hb=>ltq (hS b hb).1 hf.size) (hsl2.imp fun _ _ h=>StR.keep (hf.same fun b hb=>⟨(hS b hb).1,id⟩) h))
 have HBK:=hdq hbk
 have HCU:=hdq hc
 have HM:=hdq (aiq (show(x.params.map Va.bare).length =x.params.length from List.length_map ..) (bareS_len x.body))
 obtain⟨m,hm⟩:=nmq x.params.length
 obtain⟨m2,hm2⟩:=nmq x.body.len
 rw[←hm]at c1 HX HCU HM
 rw[←hm2]at c2 HC HCU HM
 clear hS hbk hc hsl hsl2 h1 hall hat hm hm2
 go_enter Tryz.func51,Tryz.ntmps51
 go_wp2_with fail
 refine wp_region_E (fun W'=>g < W'.heap.size∧W'.cell? ⟨g,o+1,none⟩=some (.slice A m c)∧W'.cell? ⟨g,o+2,none⟩=some (.slice B m2 d)) (fun i=>decide (i < 13)) (by kernel_rfl) ⟨hgl,c1,c2⟩ (fun hHeld=>?_)
 refine wpE_pu 0 ?_
 try simp only[putsL]
 refine wpE_pu 1 ?_
 try simp only[putsL]
 refine wpE_pu 2 ?_
 try simp only[putsL]
 refine wpE_pu 3 ?_
 try simp only[putsL]
 refine wpE_pu 4 ?_
 try simp only[putsL]
 refine wpE_pu 5 ?_
 try simp only[putsL]
 refine wpE_pu 8 ?_
 try simp only[putsL]
 refine wpE_pu 9 ?_
 try simp only[putsL]
 refine wpE_pu 10 ?_
 try simp only[putsL]
 refine wpE_tk 6 hHeld ?_
 try simp only[putsL]
 refine wpE_tk 11 hHeld ?_
 try simp only[putsL]
 refine wpE_next 7 rfl (by kernel_rfl) (fun KK hK=>?_)
 go_simp
 go_at_call 44
 refine(HX.out _ ((Fr.refl NoT w).drew)).mono ?_
 rintro _ w1 ⟨A',c',rfl,hsl,hf1⟩
 have HF1:=hdq (((Fr.refl NoT w).drew).trans hf1)
 have hk1:=HBK.out.fr0 HF1.out
 have hs1:g < w1.heap.size∧w1.cell? ⟨g,o+1,none⟩=some (.slice A m c)∧w1.cell? ⟨g,o+2,none⟩=some (.slice B m2 d):=⟨hk1.lt,(hk1.cell _).trans (HCU.out 1 _ rfl),(hk1.cell _).trans (HCU.out 2 _ rfl)⟩
 have HSL:=hdq hsl
 clear hHeld hsl hf1 hk1
 dsimp only
 refine hK _ _ (fun _ _=>hs1) ?_
 clear hK KK
 have hHeld:=hs1
 clear hs1
 try simp only[putsL]
 refine wpE_next 12 rfl (by kernel_rfl) (fun KK hK=>?_)
 go_simp
 go_at_call 48
 refine(HC.out _ HF1.out).mono ?_
 rintro _ w2 ⟨B',d',rfl,hsl2,hf2⟩
 have hk2:=(HBK.out.fr0 HF1.out).fr0 hf2
 have hgl2:=hk2.lt
 have f1:=hk2.frozen (o+1)
 have f2:=hk2.frozen (o+2)
 have f3:=hk2.frozen (o+3)
 have q1:=(hk2.cell (o+1)).trans (HCU.out 1 _ rfl)
 have q2:=(hk2.cell (o+2)).trans (HCU.out 2 _ rfl)
 have q3:=(hk2.cell (o+3)).trans (HCU.out 3 _ rfl)
 have HF2:=hdq hf2
 have HK2:=hdq hk2
 have HSL2:=hdq hsl2
 clear hsl2 hf2 hk2
 dsimp only
 refine hK _ _ (fun _ _=>⟨hgl2,q1,q2⟩) ?_
 clear hK KK hHeld
 try simp only[putsL]
 refine wpE_next 13 rfl (by kernel_rfl) (fun KK hK=>?_)
 go_simp
 refine hK _ _ (fun h=>absurd h (by decide)) ?_
 clear hK KK
 try simp only[putsL]
 refine wpE_next 14 rfl (by kernel_rfl) (fun KK hK=>?_)
 go_simp
 refine hK _ _ (fun h=>absurd h (by decide)) ?_
 clear hK KK
 try simp only[putsL]
 refine wpE_next 15 rfl (by kernel_rfl) (fun KK hK=>?_)
 go_simp
 refine hK _ _ (fun h=>absurd h (by decide)) ?_
 clear hK KK
 try simp only[putsL]
 refine wpE_next 16 rfl (by kernel_rfl) (fun KK hK=>?_)
 go_simp
 refine hK _ _ (fun h=>absurd h (by decide)) ?_
 clear hK KK
 try simp only[putsL]
 refine wpE_next 17 rfl (by kernel_rfl) (fun KK hK=>?_)
 go_simp
 refine hK _ _ (fun h=>absurd h (by decide)) ?_
 clear hK KK
 try simp only[putsL]
 refine wpE_next 18 rfl (by kernel_rfl) (fun KK hK=>?_)
 go_simp
 refine hK _ _ (fun h=>absurd h (by decide)) ?_
 clear hK KK
 try simp only[putsL]
 refine wpE_next 19 rfl (by kernel_rfl) (fun KK hK=>?_)
 go_simp
 refine hK _ _ (fun h=>absurd h (by decide)) ?_
 clear hK KK
 try simp only[putsL]
 refine wpE_next 20 rfl (by kernel_rfl) (fun KK hK=>?_)
 go_simp
 refine hK _ _ (fun h=>absurd h (by decide)) ?_
 clear hK KK
 try simp only[putsL]
 refine wpE_next 21 rfl (by kernel_rfl) (fun KK hK=>?_)
 go_simp
 refine hK _ _ (fun h=>absurd h (by decide)) ?_
 clear hK KK
 try simp only[putsL]
 refine wpE_done (by kernel_rfl) ?_
 go_wp2_with fail
 go_end0
 have h12:Fr NoT w w2:=HF1.out.trans HF2.out
 have a1:=(((OneAtB.refl (m:=4) rfl HCU.out).set 3 (.int .i64 0) (by decide)).set 1 (.slice A' m c') (by decide)).set 2 (.slice B' m2 d') (by decide)
 have a2:=((HK2.out.set_ (o+3) (.int .i64 0)).set_ (o+1) (.slice A' m c')).set_ (o+2) (.slice B' m2 d')
 have a3:=(((h12.any:Fr (fun b=>b=g) w w2).own (o+3) (.int .i64 0)).own (o+1) (.slice A' m c')).own (o+2) (.slice B' m2 d')
 refine⟨rfl,_,_,a2,a1,⟨A',c',B',d',?_,in64_0,?_,?_⟩,a3⟩
 ·show _=([.string x.nm,.slice A' (x.params.map Va.bare).length c',.slice B' x.body.bare.len d',.int .i64 0]:List Value)
  rw[HM.out.1,HM.out.2];rfl
 ·show SlR _ (x.params.map Va.bare).length 24 A' c'
  rw[HM.out.1]
  exact((((LowS.of HF2.out).set hgl _ _).set hgl _ _).set hgl _ _).v (lrq _) HSL.out
 ·show SlR _ x.body.bare.len 128 B' d'
  rw[HM.out.2]
  exact((((LowS.of (Fr.refl NoT w2)).set (ltq hgl HF1.out.size) _ _).set (ltq hgl HF1.out.size) _ _).set (ltq hgl HF1.out.size) _ _).s HF1.out.size HSL2.out
end Go.Proofs.YtmopichdofgndaaGreatDoor

namespace Go.Proofs.YtmopichdofgndaaGreatDoor
open Go.RowKit Go.Shelf

theorem brOneS (x:St) (h1:BzX x.args) (h2:BzC x.cond) (h3:BzS x.body) (h4:BzS x.els):BrOne (oneSz False) oneS 7 49 St.brz x:=by
 intro w S ys g o T cur hS h hbk hc
 obtain⟨A2,p2,A3,p3,A4,p4,A5,p5,rfl,hk,hat,s2,s3,s4,s5⟩:=h
 have c2:=(hbk.cell (o+2)).trans (hc 2 _ rfl)
 have c3:=(hbk.cell (o+3)).trans (hc 3 _ rfl)
 have hgl:=hbk.lt
 have hsame:=fun(W:World) (hf:Fr (fun b=>b=g) w W)=>hf.same (S:=S) fun b hb=>⟨(hS b hb).1,fun e=>(hS b hb).2 e⟩
 have hlow:=fun(W:World) (hf:Fr (fun b=>b=g) w W) b (hb:S b)=>ltq (hS b hb).1 hf.size
 have H1:=hdq (fun(W:World) (hf:Fr (fun b=>b=g) w W)=>h1 W S A2 p2 (hlow W hf) (s2.imp fun _ _ h=>ExR.keep (hsame W hf) h))
 have H2:=hdq (fun(W:World) (hf:Fr (fun b=>b=g) w W)=>h2 W S A3 p3 (hlow W hf) (s3.imp fun _ _ h=>CdR.keep (hsame W hf) h))
 have H3:=hdq (fun(W:World) (hf:Fr (fun b=>b=g) w W)=>h3 W S A4 p4 (hlow W hf) (s4.imp fun _ _ h=>StR.keep (hsame W hf) h))
 have H4:=hdq (fun(W:World) (hf:Fr (fun b=>b=g) w W)=>h4 W S A5 p5 (hlow W hf) (s5.imp fun _ _ h=>StR.keep (hsame W hf) h))
 have HBK:=hdq hbk
 have HCU:=hdq hc
 have HK:=hdq hk
 have HM:=hdq (aiq (bareX_len x.args) (aiq (bareC_len x.cond) (aiq (bareS_len x.body) (bareS_len x.els))))
 obtain⟨m2,hm2⟩:=nmq x.args.len
 obtain⟨m3,hm3⟩:=nmq x.cond.len
 obtain⟨m4,hm4⟩:=nmq x.body.len
 obtain⟨m5,hm5⟩:=nmq x.els.len
 rw[←hm2]at c2 H1 HCU HM
 rw[←hm3]at c3 H2 HCU HM
 rw[←hm4]at H3 HCU HM
 rw[←hm5]at H4 HCU HM
 clear hS hbk hc s2 s3 s4 s5 h1 h2 h3 h4 hk hat hsame hlow hm2 hm3 hm4 hm5
 go_enter Tryz.func49,Tryz.ntmps49
 go_wp2_with fail
 refine wp_region_E (fun W'=>g < W'.heap.size∧W'.cell? ⟨g,o+2,none⟩=some (.slice A2 m2 p2)∧W'.cell? ⟨g,o+3,none⟩=some (.slice A3 m3 p3)) (fun i=>decide (i < 13)) (by kernel_rfl) ⟨hgl,c2,c3⟩ (fun hHeld=>?_)
 refine wpE_pu 0 ?_
 try simp only[putsL]
 refine wpE_pu 1 ?_
 try simp only[putsL]
 refine wpE_pu 2 ?_
 try simp only[putsL]
 refine wpE_pu 3 ?_
 try simp only[putsL]
 refine wpE_pu 4 ?_
 try simp only[putsL]
 refine wpE_pu 5 ?_
 try simp only[putsL]
 refine wpE_pu 8 ?_
 try simp only[putsL]
 refine wpE_pu 9 ?_
 try simp only[putsL]
 refine wpE_pu 10 ?_
 try simp only[putsL]
 refine wpE_tk 6 hHeld ?_
 try simp only[putsL]
 refine wpE_tk 11 hHeld ?_
 try simp only[putsL]
 refine wpE_next 7 rfl (by kernel_rfl) (fun KK hK=>?_)
 go_simp
 go_at_call 111
 refine(H1.out _ ((Fr.refl (fun b=>b=g) w).drew)).mono ?_
 rintro _ w1 ⟨B2,q2,rfl,hsl,hf1⟩
 have HF1:=hdq (((Fr.refl NoT w).drew).trans hf1)
 have hk1:=HBK.out.fr0 HF1.out
 have hs1:g < w1.heap.size∧w1.cell? ⟨g,o+2,none⟩=some (.slice A2 m2 p2)∧w1.cell? ⟨g,o+3,none⟩=some (.slice A3 m3 p3):=⟨hk1.lt,(hk1.cell _).trans (HCU.out 2 _ rfl),(hk1.cell _).trans (HCU.out 3 _ rfl)⟩
 have HSL2:=hdq hsl
 clear hHeld hsl hf1 hk1
 dsimp only
 refine hK _ _ (fun _ _=>hs1) ?_
 clear hK KK
 have hHeld:=hs1
 clear hs1
 try simp only[putsL]
 refine wpE_next 12 rfl (by kernel_rfl) (fun KK hK=>?_)
 go_simp
 go_at_call 113
 refine(H2.out _ HF1.out.any).mono ?_
 rintro _ w2 ⟨B3,q3,rfl,hsl3,hf2⟩
 have hk2:=(HBK.out.fr0 HF1.out).fr0 hf2
 have hgl2:=hk2.lt
 have f2:=hk2.frozen (o+2)
 have f3:=hk2.frozen (o+3)
 have f6:=hk2.frozen (o+6)
 have g2:=(hk2.cell (o+2)).trans (HCU.out 2 _ rfl)
 have g3:=(hk2.cell (o+3)).trans (HCU.out 3 _ rfl)
 have g6:=(hk2.cell (o+6)).trans (HCU.out 6 _ rfl)
 have HF2:=hdq hf2
 have HK2:=hdq hk2
 have HSL3:=hdq hsl3
 clear hsl3 hf2 hk2
 dsimp only
 refine hK _ _ (fun _ _=>⟨hgl2,g2,g3⟩) ?_
 clear hK KK hHeld
 try simp only[putsL]
 refine wpE_next 13 rfl (by kernel_rfl) (fun KK hK=>?_)
 go_simp
 refine hK _ _ (fun h=>absurd h (by decide)) ?_
 clear hK KK
 try simp only[putsL]
 refine wpE_next 14 rfl (by kernel_rfl) (fun KK hK=>?_)
 go_simp
 refine hK _ _ (fun h=>absurd h (by decide)) ?_
 clear hK KK
 try simp only[putsL]
 refine wpE_next 15 rfl (by kernel_rfl) (fun KK hK=>?_)
 go_simp
 refine hK _ _ (fun h=>absurd h (by decide)) ?_
 clear hK KK
 try simp only[putsL]
 refine wpE_next 16 rfl (by kernel_rfl) (fun KK hK=>?_)
 go_simp
 refine hK _ _ (fun h=>absurd h (by decide)) ?_
 clear hK KK
 try simp only[putsL]
 refine wpE_next 17 rfl (by kernel_rfl) (fun KK hK=>?_)
 go_simp
 refine hK _ _ (fun h=>absurd h (by decide)) ?_
 clear hK KK
 try simp only[putsL]
 refine wpE_next 18 rfl (by kernel_rfl) (fun KK hK=>?_)
 go_simp
 refine hK _ _ (fun h=>absurd h (by decide)) ?_
 clear hK KK
 try simp only[putsL]
 refine wpE_next 19 rfl (by kernel_rfl) (fun KK hK=>?_)
 go_simp
 refine hK _ _ (fun h=>absurd h (by decide)) ?_
 clear hK KK
 try simp only[putsL]
 refine wpE_next 20 rfl (by kernel_rfl) (fun KK hK=>?_)
 go_simp
 refine hK _ _ (fun h=>absurd h (by decide)) ?_
 clear hK KK
 try simp only[putsL]
 refine wpE_next 21 rfl (by kernel_rfl) (fun KK hK=>?_)
 go_simp
 refine hK _ _ (fun h=>absurd h (by decide)) ?_
 clear hK KK
 try simp only[putsL]
 refine wpE_done (by kernel_rfl) ?_
 obtain⟨w3,hw3⟩:=nmq (((w2.setCell ⟨g,o+6,none⟩ (.int .i64 0)).setCell ⟨g,o+2,none⟩ (.slice B2 m2 q2)).setCell ⟨g,o+3,none⟩ (.slice B3 m3 q3))
 have h12:Fr NoT w w2:=HF1.out.trans HF2.out
 have a1:=(((OneAtB.refl (m:=7) rfl HCU.out).set 6 (.int .i64 0) (by decide)).set 2 (.slice B2 m2 q2) (by decide)).set 3 (.slice B3 m3 q3) (by decide)
 have a2:=((HK2.out.set_ (o+6) (.int .i64 0)).set_ (o+2) (.slice B2 m2 q2)).set_ (o+3) (.slice B3 m3 q3)
 have a3:=(((h12.any:Fr (fun b=>b=g) w w2).own (o+6) (.int .i64 0)).own (o+2) (.slice B2 m2 q2)).own (o+3) (.slice B3 m3 q3)
 have l1:=(((LowS.of HF2.out).set hgl (o+6) (.int .i64 0)).set hgl (o+2) (.slice B2 m2 q2)).set hgl (o+3) (.slice B3 m3 q3)
 have hgw1:g < w1.heap.size:=ltq hgl HF1.out.size
 have l2:=(((LowS.of (L:=w1.heap.size) (Fr.refl NoT w2)).set hgw1 (o+6) (.int .i64 0)).set hgw1 (o+2) (.slice B2 m2 q2)).set hgw1 (o+3) (.slice B3 m3 q3)
 rw[←hw3]at a2 a3 l1 l2
 have HA:=hdq a1
 have HL:=hdq (aiq l1 l2)
 have HF3:=hdq a3
 have HK3:=hdq a2
 have HW3:=hdq hw3
 have c4:=(a2.cell (o+4)).trans (a1.2.2.1 4 _ rfl)
 have c5:=(a2.cell (o+5)).trans (a1.2.2.1 5 _ rfl)
 have hgl3:=a2.lt
 clear a1 a2 a3 l1 l2 hw3 h12 f2 f3 f6 g2 g3 g6 hgl2
 rw[←HW3.out]
 go_wp2_with fail
 refine wp_region_E (fun W'=>g < W'.heap.size∧W'.cell? ⟨g,o+4,none⟩=some (.slice A4 m4 p4)∧W'.cell? ⟨g,o+5,none⟩=some (.slice A5 m5 p5)) (fun i=>decide (i < 12)) (by kernel_rfl) ⟨hgl3,c4,c5⟩ (fun hHeld=>?_)
 refine wpE_pu 0 ?_
 try simp only[putsL]
 refine wpE_pu 1 ?_
 try simp only[putsL]
 refine wpE_pu 2 ?_
 try simp only[putsL]
 refine wpE_pu 3 ?_
 try simp only[putsL]
 refine wpE_pu 4 ?_
 try simp only[putsL]
 refine wpE_pu 7 ?_
 try simp only[putsL]
 refine wpE_pu 8 ?_
 try simp only[putsL]
 refine wpE_pu 9 ?_
 try simp only[putsL]
 refine wpE_tk 5 hHeld ?_
 try simp only[putsL]
 refine wpE_tk 10 hHeld ?_
 try simp only[putsL]
 refine wpE_next 6 rfl (by kernel_rfl) (fun KK hK=>?_)
 go_simp
 go_at_call 48
 refine(H3.out _ (HF3.out.drew)).mono ?_
 rintro _ w4 ⟨B4,q4,rfl,hsl4,hf4⟩
 have HF4:=hdq (((Fr.refl NoT w3).drew).trans hf4)
 have hk4:=HK3.out.fr0 HF4.out
 have hs4:g < w4.heap.size∧w4.cell? ⟨g,o+4,none⟩=some (.slice A4 m4 p4)∧w4.cell? ⟨g,o+5,none⟩=some (.slice A5 m5 p5):=⟨hk4.lt,(hk4.cell _).trans (HA.out.2.2.1 4 _ rfl),(hk4.cell _).trans (HA.out.2.2.1 5 _ rfl)⟩
 have HSL4:=hdq hsl4
 clear hHeld hsl4 hf4 hk4
 dsimp only
 refine hK _ _ (fun _ _=>hs4) ?_
 clear hK KK
 have hHeld:=hs4
 clear hs4
 try simp only[putsL]
 refine wpE_next 11 rfl (by kernel_rfl) (fun KK hK=>?_)
 go_simp
 go_at_call 48
 refine(H4.out _ (HF3.out.trans HF4.out.any)).mono ?_
 rintro _ w5 ⟨B5,q5,rfl,hsl5,hf5⟩
 have hk5:=(HK3.out.fr0 HF4.out).fr0 hf5
 have hgl5:=hk5.lt
 have f4:=hk5.frozen (o+4)
 have f5:=hk5.frozen (o+5)
 have g4:=(hk5.cell (o+4)).trans (HA.out.2.2.1 4 _ rfl)
 have g5:=(hk5.cell (o+5)).trans (HA.out.2.2.1 5 _ rfl)
 have HF5:=hdq hf5
 have HK5:=hdq hk5
 have HSL5:=hdq hsl5
 clear hsl5 hf5 hk5
 dsimp only
 refine hK _ _ (fun _ _=>⟨hgl5,g4,g5⟩) ?_
 clear hK KK hHeld
 try simp only[putsL]
 refine wpE_next 12 rfl (by kernel_rfl) (fun KK hK=>?_)
 go_simp
 refine hK _ _ (fun h=>absurd h (by decide)) ?_
 clear hK KK
 try simp only[putsL]
 refine wpE_next 13 rfl (by kernel_rfl) (fun KK hK=>?_)
 go_simp
 refine hK _ _ (fun h=>absurd h (by decide)) ?_
 clear hK KK
 try simp only[putsL]
 refine wpE_next 14 rfl (by kernel_rfl) (fun KK hK=>?_)
 go_simp
 refine hK _ _ (fun h=>absurd h (by decide)) ?_
 clear hK KK
 try simp only[putsL]
 refine wpE_next 15 rfl (by kernel_rfl) (fun KK hK=>?_)
 go_simp
 refine hK _ _ (fun h=>absurd h (by decide)) ?_
 clear hK KK
 try simp only[putsL]
 refine wpE_next 16 rfl (by kernel_rfl) (fun KK hK=>?_)
 go_simp
 refine hK _ _ (fun h=>absurd h (by decide)) ?_
 clear hK KK
 try simp only[putsL]
 refine wpE_next 17 rfl (by kernel_rfl) (fun KK hK=>?_)
 go_simp
 refine hK _ _ (fun h=>absurd h (by decide)) ?_
 clear hK KK
 try simp only[putsL]
 refine wpE_done (by kernel_rfl) ?_
 go_wp2_with fail
 go_end0
 have h35:Fr NoT w3 w5:=HF4.out.trans HF5.out
 have a1:=(HA.out.set 4 (.slice B4 m4 q4) (by decide)).set 5 (.slice B5 m5 q5) (by decide)
 have a2:=(HK5.out.set_ (o+4) (.slice B4 m4 q4)).set_ (o+5) (.slice B5 m5 q5)
 have a3:=((HF3.out.trans (h35.any:Fr (fun b=>b=g) w3 w5)).own (o+4) (.slice B4 m4 q4)).own (o+5) (.slice B5 m5 q5)
 have hw13:w1.heap.size≤w3.heap.size:=HL.out.1.2
 have hww3:w.heap.size≤w3.heap.size:=HF3.out.size
 have hgw1:g < w1.heap.size:=ltq hgl HF1.out.size
 have hg4:g < w4.heap.size:=ltq hgl3 HF4.out.size
 refine⟨rfl,_,_,a2,a1,⟨B2,q2,B3,q3,B4,q4,B5,q5,?_,HK.out,in64_0,?_,?_,?_,?_⟩,a3⟩
 ·show _=([.int .u8 x.k,.string x.nm,.slice B2 x.args.bare.len q2,.slice B3 x.cond.bare.len q3,.slice B4 x.body.bare.len q4,.slice B5 x.els.bare.len q5,.int .i64 0]:List Value)
  rw[HM.out.1,HM.out.2.1,HM.out.2.2.1,HM.out.2.2.2];rfl
 ·show SlR _ x.args.bare.len 64 B2 q2
  rw[HM.out.1]
  exact(((HL.out.1.step h35).set hgl _ _).set hgl _ _).x (lrq _) HSL2.out
 ·show SlR _ x.cond.bare.len 64 B3 q3
  rw[HM.out.2.1]
  exact(((HL.out.2.step h35).set hgw1 _ _).set hgw1 _ _).cn HF1.out.size HSL3.out
 ·show SlR _ x.body.bare.len 128 B4 q4
  rw[HM.out.2.2.1]
  exact(((LowS.of (L:=w3.heap.size) HF5.out).set hgl3 _ _).set hgl3 _ _).s hww3 HSL4.out
 ·show SlR _ x.els.bare.len 128 B5 q5
  rw[HM.out.2.2.2]
  exact(((LowS.of (L:=w4.heap.size) (Fr.refl NoT w5)).set hg4 _ _).set hg4 _ _).s (leq9 hww3 HF4.out.size) HSL5.out
theorem bzX_rec:∀(xs:Exs),∀x∈xs.toL,BrOne (oneXz False) oneX 5 112 Ex.brz x
 | .nil,x,h=>by simp[Exs.toL]at h
 | .cons k nm n args at_ rest,x,h=>by
  rcases List.mem_cons.1 h with e|h
  ·subst e;exact brOneX _ (brX_of args (bzX_rec args))
  ·exact bzX_rec rest x h
theorem bzX_any (xs:Exs):BzX xs:=brX_of xs (bzX_rec xs)
theorem bzC_rec:∀(xs:Cds),∀x∈xs.toL,BrOne (oneCz False) oneC 4 114 Cn.brz x
 | .nil,x,h=>by simp[Cds.toL]at h
 | .cons k args of_ at_ rest,x,h=>by
  rcases List.mem_cons.1 h with e|h
  ·subst e;exact brOneC _ (bzX_any args) (brC_of of_ (bzC_rec of_))
  ·exact bzC_rec rest x h
theorem bzC_any (xs:Cds):BzC xs:=brC_of xs (bzC_rec xs)
theorem bzS_rec:∀(xs:Sts),∀x∈xs.toL,BrOne (oneSz False) oneS 7 49 St.brz x
 | .nil,x,h=>by simp[Sts.toL]at h
 | .cons k nm args cond body els at_ rest,x,h=>by
  rcases List.mem_cons.1 h with e|h
  ·subst e;exact brOneS _ (bzX_any args) (bzC_any cond) (brS_of body (bzS_rec body)) (brS_of els (bzS_rec els))
  ·exact bzS_rec rest x h
theorem bzS_any (xs:Sts):BzS xs:=brS_of xs (bzS_rec xs)
theorem bzV_any (xs:List Va):BzV xs:=brV_of xs fun x _=>brOneV x
theorem bzA_any (xs:List Arr):BzA xs:=brA_of xs fun x _=>brOneA x
theorem bzP_any (xs:List Prc):BzP xs:=brP_of xs fun x _=>brOneP x (bzV_any _) (bzS_any _)

section
variable {w:World} {S:Nat→Prop} {Z:Prop}
theorem ArR.lax:∀ {xs:List Arr} {b o:Nat},ArR w S Z xs b o→ArR w S False xs b o
 | [],_,_,_=>trivial
 |_::_,b,o,⟨⟨hb,_,h⟩,hr⟩=>⟨⟨hb,fun h=>h.elim,h⟩,ArR.lax hr⟩
theorem PrR.lax:∀ {xs:List Prc} {b o:Nat},PrR w S Z xs b o→PrR w S False xs b o
 | [],_,_,_=>trivial
 |_::_,b,o,⟨⟨hb,_,h⟩,⟨A,c,h1,s1⟩,⟨B,d,h2,s2⟩,hr⟩=>⟨⟨hb,fun h=>h.elim,h⟩,⟨A,c,h1,s1.imp fun _ _=>VaR.lax⟩,⟨B,d,h2,s2.imp fun _ _=>StR.lax⟩,PrR.lax hr⟩
theorem TrR.lax {t:Tre} {Av Aa Ap Am:Option Addr} {cv ca cp cm:Nat} (h:TrR w S Z t Av Aa Ap Am cv ca cp cm):TrR w S False t Av Aa Ap Am cv ca cp cm:=
 ⟨h.vars.imp fun _ _=>VaR.lax,h.arrays.imp fun _ _=>ArR.lax,h.procs.imp fun _ _=>PrR.lax,h.main.imp fun _ _=>StR.lax⟩
end
theorem fr_thenB {T U:Nat→Prop} {a b c:World} (h:Fr T a b) (k:Fr U b c) (ht:∀i,i < a.heap.size→U i→T i):Fr T a c:=
 ⟨k.os.trans h.os,k.tape.trans h.tape,k.output.trans h.output,leq9 h.size k.size,fun i hi hn=>(k.block i (ltq hi h.size) fun hu=>hn (ht i hi hu)).trans (h.block i hi hn)⟩
theorem LowS.a {L L' m:Nat} {w w':World} {A:Option Addr} {c:Nat} {xs:List Arr} (h:LowS L' w w') (hL:L≤L') (hx:SlR (ArR w (New L' w) True xs) m 32 A c):SlR (ArR w' (New L w') True xs) m 32 A c:=
 hx.imp fun _ _ k=>ArR.more (fun b hb=>⟨leq9 hL hb.1,ltq hb.2 h.2⟩) (ArR.keep h.1 k)
theorem LowS.p {L L' m:Nat} {w w':World} {A:Option Addr} {c:Nat} {xs:List Prc} (h:LowS L' w w') (hL:L≤L') (hx:SlR (PrR w (New L' w) True xs) m 72 A c):SlR (PrR w' (New L w') True xs) m 72 A c:=
 hx.imp fun _ _ k=>PrR.more (fun b hb=>⟨leq9 hL hb.1,ltq hb.2 h.2⟩) (PrR.keep h.1 k)
theorem infoTz:(Tryz.prog.info? 27).map (·.size)=some 4:=by kernel_rfl
def PbP (t:Tre) (W:World) (e:Ending) (w':World):Prop:=∃Av Aa Ap Am cv ca cp cm,e= .returned (trV t Av Aa Ap Am cv ca cp cm)∧TrR w' (New W.heap.size w') True t Av Aa Ap Am cv ca cp cm∧Fr NoT W w'
theorem pbare_any (t:Tre) (w:World) (S:Nat→Prop) (Z:Prop) (Av Aa Ap Am:Option Addr) (cv ca cp cm:Nat) (hS:∀b,S b→b < w.heap.size) (hx:TrR w S Z t Av Aa Ap Am cv ca cp cm):
  Calls Tryz.prog 14 #[trV t Av Aa Ap Am cv ca cp cm] w (PbP t.bare w):=by
 unfold trV
 replace hx:=hx.lax
 have hX:=fun(W:World) (hf:Fr NoT w W)=>hx.keep (hf.same fun b hb=>⟨hS b hb,id⟩)
 have hSW:=fun(W:World) (hf:Fr NoT w W) b (hb:S b)=>ltq (hS b hb) hf.size
 obtain⟨n1,hn1⟩:=nmq t.vars.length
 obtain⟨n2,hn2⟩:=nmq t.arrays.length
 obtain⟨n3,hn3⟩:=nmq t.procs.length
 obtain⟨n4,hn4⟩:=nmq t.main.len
 have h1:=fun(W:World) (hf:Fr NoT w W)=>bzV_any t.vars W S Av cv (hSW W hf) (hX W hf).vars
 have h2:=fun(W:World) (hf:Fr NoT w W)=>bzA_any t.arrays W S Aa ca (hSW W hf) (hX W hf).arrays
 have h3:=fun(W:World) (hf:Fr NoT w W)=>bzP_any t.procs W S Ap cp (hSW W hf) (hX W hf).procs
 have h4:=fun(W:World) (hf:Fr NoT w W)=>bzS_any t.main W S Am cm (hSW W hf) (hX W hf).main
 have HM:=hdq (show t.bare.vars.length=n1∧t.bare.arrays.length=n2∧t.bare.procs.length=n3∧t.bare.main.len=n4 from
  ⟨by rw[hn1];exact List.length_map ..,by rw[hn2];exact List.length_map ..,by rw[hn3];exact List.length_map ..,by rw[hn4];exact bareS_len _⟩)
 rw[←hn1]at h1
 rw[←hn2]at h2
 rw[←hn3]at h3
 rw[←hn4]at h4
 rw[←hn1,←hn2,←hn3,←hn4]
 have H1:=hdq h1
 have H2:=hdq h2
 have H3:=hdq h3
 have H4:=hdq h4
 obtain⟨w1,hw1⟩:=nmq ((w.alloc (.cells #[.slice Av n1 cv,.slice Aa n2 ca,.slice Ap n3 cp,.slice Am n4 cm] 27)).alloc (.cells #[.slice none 0 0,.slice none 0 0,.slice none 0 0,.slice none 0 0] 27))
 have hfr1:Fr NoT w w1:=by rw[hw1];exact((Fr.refl _ _).alloc _).alloc _
 have k1:Bk w1 w.heap.size 27 #[.slice Av n1 cv,.slice Aa n2 ca,.slice Ap n3 cp,.slice Am n4 cm]:=by
  rw[hw1];exact(Bk.new _ _ _).fr0 ((Fr.refl _ _).alloc _)
 have k2:Bk w1 (w.heap.size+1) 27 #[.slice none 0 0,.slice none 0 0,.slice none 0 0,.slice none 0 0]:=by
  rw[hw1];exact Bk.new_at _ _ _ (by simp)
 have hz1:w1.heap.size=w.heap.size+1+1:=by rw[hw1];simp
 have HF1:=hdq hfr1
 have HK1:=hdq k1
 have HK2:=hdq k2
 have HW1:=hdq hw1
 have HZ1:=hdq hz1
 have y0:=k1.cell 0
 have y1:=k1.cell 1
 have y2:=k1.cell 2
 have y3:=k1.cell 3
 have hyl:=k1.lt
 simp only[getsL]at y0 y1 y2 y3
 have HHELD:=hdq (fun(W:World) (hf:Fr NoT w1 W)=>(show w.heap.size < W.heap.size∧W.cell? ⟨w.heap.size,0,none⟩=some (.slice Av n1 cv)∧W.cell? ⟨w.heap.size,1,none⟩=some (.slice Aa n2 ca)∧W.cell? ⟨w.heap.size,2,none⟩=some (.slice Ap n3 cp)∧W.cell? ⟨w.heap.size,3,none⟩=some (.slice Am n4 cm)from
  ⟨ltq hyl hf.size,(hf.cell (p:=⟨w.heap.size,0,none⟩) hyl id).trans y0,(hf.cell (p:=⟨w.heap.size,1,none⟩) hyl id).trans y1,(hf.cell (p:=⟨w.heap.size,2,none⟩) hyl id).trans y2,(hf.cell (p:=⟨w.heap.size,3,none⟩) hyl id).trans y3⟩))
 clear hx hS hn1 hn2 hn3 hn4 hw1 hfr1 k1 k2 hX hSW h1 h2 h3 h4 hz1
 go_enter Tryz.func14,Tryz.ntmps14
 go_wp2_with fail
 rw[←HW1.out]
 refine wp_region_E (fun W'=>w.heap.size < W'.heap.size∧W'.cell? ⟨w.heap.size,0,none⟩=some (.slice Av n1 cv)∧W'.cell? ⟨w.heap.size,1,none⟩=some (.slice Aa n2 ca)∧W'.cell? ⟨w.heap.size,2,none⟩=some (.slice Ap n3 cp)∧W'.cell? ⟨w.heap.size,3,none⟩=some (.slice Am n4 cm)) (fun i=>decide (i < 12)) (by kernel_rfl) (HHELD.out _ ((Fr.refl NoT w1).drew)) (fun hHeld=>?_)
 clear y0 y1 y2 y3 hyl
 refine wpE_pu 0 ?_
 try simp only[putsL]
 refine wpE_pu 3 ?_
 try simp only[putsL]
 refine wpE_pu 6 ?_
 try simp only[putsL]
 refine wpE_pu 9 ?_
 try simp only[putsL]
 refine wpE_tk 1 hHeld ?_
 try simp only[putsL]
 refine wpE_tk 4 hHeld ?_
 try simp only[putsL]
 refine wpE_tk 7 hHeld ?_
 try simp only[putsL]
 refine wpE_tk 10 hHeld ?_
 try simp only[putsL]
 refine wpE_next 2 rfl (by kernel_rfl) (fun KK hK=>?_)
 go_simp
 go_at_call 44
 refine(H1.out _ (HF1.out.trans ((Fr.refl NoT w1).drew))).mono ?_
 rintro _ w2 ⟨B2,q2,rfl,hsl,hf⟩
 have HFL2:=hdq hf
 have HF2:=hdq (((Fr.refl NoT w1).drew :Fr NoT w1 _).trans hf)
 have HSL2:=hdq hsl
 have hs:=HHELD.out _ HF2.out
 clear hHeld hsl hf
 dsimp only
 refine hK _ _ (fun _ _=>hs) ?_
 clear hK KK
 have hHeld:=hs
 clear hs
 try simp only[putsL]
 refine wpE_next 5 rfl (by kernel_rfl) (fun KK hK=>?_)
 go_simp
 go_at_call 46
 refine(H2.out _ (HF1.out.trans (HF2.out))).mono ?_
 rintro _ w3 ⟨B3,q3,rfl,hsl,hf⟩
 have HFL3:=hdq hf
 have HF3:=hdq ((HF2.out:Fr NoT w1 _).trans hf)
 have HSL3:=hdq hsl
 have hs:=HHELD.out _ HF3.out
 clear hHeld hsl hf
 dsimp only
 refine hK _ _ (fun _ _=>hs) ?_
 clear hK KK
 have hHeld:=hs
 clear hs
 try simp only[putsL]
 refine wpE_next 8 rfl (by kernel_rfl) (fun KK hK=>?_)
 go_simp
 go_at_call 48
 refine(H4.out _ (HF1.out.trans (HF3.out))).mono ?_
 rintro _ w4 ⟨B4,q4,rfl,hsl,hf⟩
 have HFL4:=hdq hf
 have HF4:=hdq ((HF3.out:Fr NoT w1 _).trans hf)
 have HSL4:=hdq hsl
 have hs:=HHELD.out _ HF4.out
 clear hHeld hsl hf
 dsimp only
 refine hK _ _ (fun _ _=>hs) ?_
 clear hK KK
 have hHeld:=hs
 clear hs
 try simp only[putsL]
 refine wpE_next 11 rfl (by kernel_rfl) (fun KK hK=>?_)
 go_simp
 go_at_call 50
 refine(H3.out _ (HF1.out.trans (HF4.out))).mono ?_
 rintro _ w5 ⟨B5,q5,rfl,hsl,hf⟩
 have HFL5:=hdq hf
 have HF5:=hdq ((HF4.out:Fr NoT w1 _).trans hf)
 have HSL5:=hdq hsl
 have hs:=HHELD.out _ HF5.out
 clear hHeld hsl hf
 have hk5:=HK2.out.fr0 HF5.out
 have z0:=hk5.frozen 0
 have z1:=hk5.frozen 1
 have z2:=hk5.frozen 2
 have z3:=hk5.frozen 3
 have y0:=hk5.cell 0
 have y1:=hk5.cell 1
 have y2:=hk5.cell 2
 have y3:=hk5.cell 3
 have yl:=hk5.lt
 simp only[getsL]at y0 y1 y2 y3
 have HK5:=hdq hk5
 clear hk5
 dsimp only
 refine hK _ _ (fun _ _=>hs) ?_
 clear hK KK
 clear hs
 try simp only[putsL]
 refine wpE_pu 12 ?_
 try simp only[putsL]
 refine wpE_next 13 rfl (by kernel_rfl) (fun KK hK=>?_)
 go_simp
 refine hK _ _ (fun h=>absurd h (by decide)) ?_
 clear hK KK
 try simp only[putsL]
 refine wpE_done (by kernel_rfl) ?_
 obtain⟨wf,hwf⟩:=nmq ((((w5.setCell ⟨w.heap.size+1,0,none⟩ (.slice B2 n1 q2)).setCell ⟨w.heap.size+1,1,none⟩ (.slice B3 n2 q3)).setCell ⟨w.heap.size+1,2,none⟩ (.slice B5 n3 q5)).setCell ⟨w.heap.size+1,3,none⟩ (.slice B4 n4 q4))
 have hg:w.heap.size+1 < w1.heap.size:=by have:=HZ1.out;omega
 have hff0:Fr (fun i=>i=w.heap.size+1) w5 wf:=by rw[hwf];exact Fr.own (Fr.own (Fr.own (Fr.own (Fr.refl _ _) _ _) _ _) _ _) _ _
 have hff:Fr NoT w wf:=fr_thenB (HF1.out.trans HF5.out) hff0 fun i hi e=>by have e:i=w.heap.size+1:=e;omega
 have hkf:Bk wf (w.heap.size+1) 27 #[.slice B2 n1 q2,.slice B3 n2 q3,.slice B5 n3 q5,.slice B4 n4 q4]:=by
  have:=(((HK5.out.set_ 0 (.slice B2 n1 q2)).set_ 1 (.slice B3 n2 q3)).set_ 2 (.slice B5 n3 q5)).set_ 3 (.slice B4 n4 q4)
  rw[hwf];simpa using this
 have hlow:∀(k:Nat) (W:World),w1.heap.size≤k→LowS k W w5→LowS k W wf:=fun k W hk h=>by
  rw[hwf];exact(((h.set (by omega) _ _).set (by omega) _ _).set (by omega) _ _).set (by omega) _ _
 have HFF:=hdq hff
 have HKF:=hdq hkf
 have HLOW:=hdq hlow
 have HWF:=hdq hwf
 rw[←HWF.out]
 clear hwf hff hff0 hkf hlow hg z0 z1 z2 z3 y0 y1 y2 y3 yl
 go_wp2_with fail
 have hww:w.heap.size≤w1.heap.size:=HF1.out.size
 refine bodyPost_ret (results_cell_row (p:=2) (ty:=27) rfl _ _ (w.heap.size+1) 27 _ (0,0) _ rfl HKF.out Tryz.underlying27 rfl infoTz) rfl ⟨B2,B3,B5,B4,q2,q3,q5,q4,?_,⟨?_,?_,?_,?_⟩,HFF.out⟩
 ·unfold trV
  rw[HM.out.1,HM.out.2.1,HM.out.2.2.1,HM.out.2.2.2]
 ·rw[HM.out.1]
  exact(HLOW.out w1.heap.size w2 (lrq _) ((LowS.of HFL3.out).step (HFL4.out.trans HFL5.out))).v hww HSL2.out
 ·rw[HM.out.2.1]
  exact(HLOW.out w2.heap.size w3 HF2.out.size (LowS.of (HFL4.out.trans HFL5.out))).a (leq9 hww HF2.out.size) HSL3.out
 ·rw[HM.out.2.2.1]
  exact(HLOW.out w4.heap.size w5 HF4.out.size (LowS.of (Fr.refl NoT w5))).p (leq9 hww HF4.out.size) HSL5.out
 ·rw[HM.out.2.2.2]
  exact(HLOW.out w3.heap.size w4 HF3.out.size (LowS.of HFL5.out)).s (leq9 hww HF3.out.size) HSL4.out
end Go.Proofs.YtmopichdofgndaaGreatDoor
