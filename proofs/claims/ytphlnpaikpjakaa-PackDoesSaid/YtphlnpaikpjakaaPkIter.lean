/-
  pack.scalars: an edge's scalars, as an iterator: its contract.
-/
import Derived.Test.YtphlnpaikpjakaaJnCk3
import Derived.RangeFuncNested
import Derived.RangeFuncBound
import Derived.RangeFuncCalls
import Derived.RangeFuncLeaves
import Derived.Shelf.RegionOpen
import Derived.OwnWalkIn
import Derived.TacticsInMore
import Derived.LoopNIn
import Derived.LoopIn
set_option linter.unusedVariables false
set_option linter.unusedSimpArgs false
set_option maxHeartbeats 3200000
set_option maxRecDepth 100000
namespace Go.Proofs.Ytphlnpaikpjakaa
open Go.RowKit Go.Shelf
attribute [local go_sem] Oper.semAt_some

def readX:Exs→List Int
 | .nil => []
 | .cons k _ n args _ rest=>(if k=2 then [n]else [])++(readX args++readX rest)
theorem readX_drop {xs:Exs} {i:Nat} {k:Int} {nm:ByteArray} {n:Int} {args:Exs} {at_:Int} {rest:Exs} (h:Exs.drop i xs= .cons k nm n args at_ rest):
  readX (Exs.drop i xs)=(if k=2 then [n]else [])++(readX args++readX (Exs.drop (i+1) xs)):=by
 rw[Exs.drop_succ i xs h,h]
 rfl
def scalE (e:Ed):List Int:=readX e.args++(if e.kind=3∨e.kind=5 then [e.n]else [])

def KpT (n₀:Nat) (W W':World):Prop:=Below n₀ W W'∧W.heap.size≤W'.heap.size∧∀(k:Nat) (cs:Array Value) (t:TypeId) (fr:Nat×Nat),W.heap[k]?=some (.cells cs t fr)→t≠3→t≠22→W'.heap[k]?=W.heap[k]?
theorem KpT.refl (n₀:Nat) (W:World):KpT n₀ W W:=⟨Below.refl _ _,lrq _,fun _ _ _ _ _ _ _=>rfl⟩
theorem KpT.trans {n₀:Nat} {A B C:World} (h:KpT n₀ A B) (k:KpT n₀ B C):KpT n₀ A C:=
 ⟨h.1.trans k.1,leq9 h.2.1 k.2.1,fun i cs t fr hi h1 h2=>by
  have e:=h.2.2 i cs t fr hi h1 h2
  exact(k.2.2 i cs t fr (e.trans hi) h1 h2).trans e⟩
theorem KpT.alloc {n₀:Nat} {A B:World} (h:KpT n₀ A B) (hn:n₀≤A.heap.size) (o:Obj):KpT n₀ A (B.alloc o):=
 ⟨h.1.alloc (leq9 hn h.2.1) _,leq9 h.2.1 (by simp),fun i cs t fr hi h1 h2=>by
  have e:=h.2.2 i cs t fr hi h1 h2
  exact(Below.heap_alloc B o i (by have:=(Array.getElem?_eq_some_iff.1 (e.trans hi)).1;exact this)).trans e⟩
def ThrP (n₀:Nat) (J Jx:List Int→World→Prop) (pre out:List Int) (W:World) (e:Ending) (W':World):Prop:=
 (e= .returned (.bool true)∧J (pre++out) W'∧KpT n₀ W W')∨(e= .returned (.bool false)∧∃q,Jx q W')
def YldP (l n₀:Nat) (S:List Int) (N:Nat) (J Jx:List Int→World→Prop):Prop:=
 ∀m pre x W,x∈S→J pre W→pre.length < N→YieldAt Fence.wide m Try.prog l #[.int .i64 x] W (ThrP n₀ J Jx pre [x] W)
def ThrB (l:Nat) (W:World) (q1 q2:Nat):Prop:=
 W.heap[q1]?=some (.cells #[.func (.yield l) #[] #[]] 66 (0,0))∧W.heap[q2]?=some (.cells #[.func (.func 37) #[] #[.pointer (some ⟨q1,0,none⟩),.pointer (some ⟨q2,0,none⟩)]] 73 (0,0))
theorem ThrB.keep {l n₀:Nat} {W W':World} {q1 q2:Nat} (h:ThrB l W q1 q2) (hk:KpT n₀ W W'):ThrB l W' q1 q2:=
 ⟨(hk.2.2 _ _ _ _ h.1 (by decide) (by decide)).trans h.1,(hk.2.2 _ _ _ _ h.2 (by decide) (by decide)).trans h.2⟩
theorem ThrB.alloc {l:Nat} {W:World} {q1 q2:Nat} (h:ThrB l W q1 q2) (o:Obj):ThrB l (W.alloc o) q1 q2:=
 ⟨(Below.heap_alloc W o _ (Array.getElem?_eq_some_iff.1 h.1).1).trans h.1,(Below.heap_alloc W o _ (Array.getElem?_eq_some_iff.1 h.2).1).trans h.2⟩
def Thr (xs:Exs):Prop:=∀(l n₀:Nat) (S:List Int) (N:Nat) (J Jx:List Int→World→Prop),YldP l n₀ S N J Jx→(∀s W o,J s W→J s (W.alloc o))→
 ∀(n:Nat) (A:Option Addr) (c:Nat) (pre:List Int) (W:World) (q1 q2:Nat),n₀≤W.heap.size→ExSl W n₀ xs A c→ThrB l W q1 q2→J pre W→pre.length+(readX xs).length ≤N→(∀x∈readX xs,x∈S)→
  CallsIn Fence.wide n Try.prog 37 #[.slice A xs.len c,.pointer (some ⟨q1,0,none⟩),.pointer (some ⟨q2,0,none⟩)] W (ThrP n₀ J Jx pre (readX xs) W)
def ThrAll (xs:Exs):Prop:=∀(i:Nat) (k:Int) (nm:ByteArray) (n:Int) (args:Exs) (at_:Int) (rest:Exs),Exs.drop i xs= .cons k nm n args at_ rest→Thr args

theorem wide_depth (k:Nat):Fence.wide.depth.isSome=true→1≤k:=fun h=>by cases h
theorem thr_core (xs:Exs) (hall:ThrAll xs):Thr xs:=by
 intro l n₀ S N J Jx hY hJ n A c pre W q1 q2 hn0 hx hb h0 hN hS
 have hl:xs.len≤9223372036854775807:=leq9 hx.1 hx.2.1
 have HALL:=hdq hall
 have HX:=hdq hx
 have HY:=hdq hY
 have HJ:=hdq hJ
 have HB:=hdq hb
 have H0:=hdq h0
 have HN:=hdq hN
 have HS:=hdq hS
 clear hall hx hY hJ hb h0 hN hS
 have hf9:Fence.wide.fn 37:=trivial
 refine callsIn_of_wp Try.func37 rfl hf9 ?_ rfl
 simp only[Try.ntmps37,List.size_toArray,List.length_cons,List.length_nil,Nat.reduceAdd,Nat.reduceSub,Array.replicate_succ,Array.replicate_zero,List.push_toArray,List.append_toArray,List.nil_append,List.cons_append]
 gi_wp2_with fail
 gi_loopw [9] (fun v wr=>∃(i:Nat) (dn:List Int),i≤xs.len∧v= .int .i64 i∧Hid (readX xs=dn++readX (Exs.drop i xs)∧J (pre++dn) wr∧KpT n₀ W wr)) (fun v _=>xs.len - (intOf v).toNat)
 case atStart=>exact⟨0, [],Nat.zero_le _,rfl,by cases xs<;>rfl,by rw[List.append_nil];exact H0.out,KpT.refl _ _⟩
 case round=>
  obtain⟨i,dn,hi,rfl,hrel⟩:=hrel
  by_cases hlt:i < xs.len
  ·obtain⟨a0,a1,a2,a3,a4,a5,hd⟩:=Exs.drop_cons hlt
   obtain⟨hrd,hj,hkp⟩:=hrel.out
   obtain⟨b,o,rfl,hat⟩:=HX.out.2.2 (by omega)
   obtain⟨hbB,c0,c1,c2,⟨A',c',c3,hsl⟩,c4,_⟩:=(hat.keep (Same.of hkp.1 (lrq _))).at_ hd
   have hbl:b < wr.heap.size:=ltq hbB (leq9 hn0 hkp.2.1)
   have hrd2:=readX_drop hd
   have hbx:=HB.out.keep hkp
   obtain⟨w6,hw6⟩:=nmq (wr.alloc (.cells #[.int .u8 a0,.string a1,.int .i64 a2,.slice A' a3.len c',.int .i64 a4] 63))
   have hb6:w6.heap[wr.heap.size]?=some (.cells #[.int .u8 a0,.string a1,.int .i64 a2,.slice A' a3.len c',.int .i64 a4] 63 (0,0)):=by rw[hw6];exact heap_alloc_new wr _
   have hk6:KpT n₀ W w6:=by rw[hw6];exact hkp.alloc hn0 _
   have hj6:J (pre++dn) w6:=by rw[hw6];exact HJ.out _ _ _ hj
   have hx6:ThrB l w6 q1 q2:=by rw[hw6];exact hbx.alloc _
   have hq1:=hx6.1
   have hlen:=HN.out
   rw[hrd,hrd2]at hlen
   have hmem:=HS.out
   rw[hrd,hrd2]at hmem
   have HALLi:=hdq (HALL.out i a0 a1 a2 a3 a4 a5 hd)
   have y1:wr.cell? ⟨q1,0,none⟩=some (.func (.yield l) #[] #[]):=cell_of_row wr q1 0 _ _ _ hbx.1
   have yl1:q1 < wr.heap.size:=(Array.getElem?_eq_some_iff.1 hbx.1).1
   have y2:wr.cell? ⟨q2,0,none⟩=some (.func (.func 37) #[] #[.pointer (some ⟨q1,0,none⟩),.pointer (some ⟨q2,0,none⟩)]):=cell_of_row wr q2 0 _ _ _ hbx.2
   have yl2:q2 < wr.heap.size:=(Array.getElem?_eq_some_iff.1 hbx.2).1
   by_cases hk2:a0=2
   ·subst hk2
    rw[if_pos rfl]at hlen hmem hrd2
    obtain⟨fn,tmps,assign,body,hy,hR⟩:=HY.out (n - 1) (pre++dn) a2 w6 (hmem a2 (by simp)) hj6 (by simp at hlen ⊢;omega)
    have HR:=hdq hR
    have HK6:=hdq hk6
    have HB6:=hdq hb6
    have HX6:=hdq hx6
    have HSL:=hdq (hsl.keep (Same.of ((KpT.refl n₀ wr).alloc (leq9 hn0 hkp.2.1) (.cells #[.int .u8 2,.string a1,.int .i64 a2,.slice A' a3.len c',.int .i64 a4] 63)).1 (lrq _)))
    rw[←hw6]at HSL
    have HW6:=hdq hw6
    rw[hw6]at hy
    clear hR hk6 hb6 hx6 hsl hj6 hj hkp hbx hq1 hd
    gi_wp2_with fail
    refine⟨wide_depth _,?_⟩
    rw[←HW6.out]
    refine HR.out.mono ?_
    rintro e w7 (⟨rfl,hj7,hk7⟩|⟨rfl,q,hq⟩)
    rotate_left
    ·gi_wp2_with fail
     refine⟨fun _ h=>(by cases h),?_⟩
     gi_wp2_with fail
     go_ret
     exact .inr ⟨rfl,q,hq⟩
    have hbk7:=(hk7.2.2 _ _ _ _ HB6.out (by decide) (by decide)).trans HB6.out
    have d3:w7.cell? ⟨wr.heap.size,3,none⟩=some (.slice A' a3.len c'):=cell_of_row w7 wr.heap.size 3 _ _ _ hbk7
    have dl:wr.heap.size < w7.heap.size:=(Array.getElem?_eq_some_iff.1 hbk7).1
    have hx7:=HX6.out.keep hk7
    have z2:w7.cell? ⟨q2,0,none⟩=some (.func (.func 37) #[] #[.pointer (some ⟨q1,0,none⟩),.pointer (some ⟨q2,0,none⟩)]):=cell_of_row w7 q2 0 _ _ _ hx7.2
    have zl2:q2 < w7.heap.size:=(Array.getElem?_eq_some_iff.1 hx7.2).1
    have HC:=hdq (HALLi.out l n₀ S N J Jx HY.out HJ.out (n - 1) A' c' (pre++dn++ [a2]) w7 q1 q2 (leq9 hn0 (leq9 HK6.out.2.1 hk7.2.1)) (HSL.out.keep (Same.of hk7.1 (lrq _))) hx7 hj7 (by simp at hlen ⊢;omega) (fun x hx=>hmem x (by simp[hx])))
    have HK7:=hdq (HK6.out.trans hk7)
    have HRD:=hdq hrd2
    have HRD1:=hdq hrd
    clear hj7 hk7 hbk7 hx7 hlen hmem hrd2 hrd y1 y2 c0 c1 c2 c3 c4
    gi_wp2_with fail
    refine⟨wide_depth _,?_⟩
    gi_at_call 37
    refine HC.out.mono ?_
    rintro e w8 (⟨rfl,hj8,hk8⟩|⟨rfl,q,hq⟩)
    rotate_left
    ·gi_wp2_with fail
     go_ret
     exact .inr ⟨rfl,q,hq⟩
    have HJ8:=hdq hj8
    have HK8:=hdq (HK7.out.trans hk8)
    clear hj8 hk8 d3 z2
    gi_wp2_with fail
    go_roundw
    case rel=>exact⟨i+1,dn++([a2]++readX a3),by omega,by go_num,hdq ⟨by rw[HRD1.out,HRD.out];simp,by have:=HJ8.out;simpa using this,HK8.out⟩⟩
    case measure=>simp[intOf];omega
   ·rw[if_neg hk2]at hlen hmem hrd2
    have hsl6:ExSl w6 n₀ a3 A' c':=by rw[hw6];exact hsl.keep (Same.of ((KpT.refl n₀ wr).alloc (leq9 hn0 hkp.2.1) _).1 (lrq _))
    have HC:=hdq (HALLi.out l n₀ S N J Jx HY.out HJ.out (n - 1) A' c' (pre++dn) w6 q1 q2 (leq9 hn0 hk6.2.1) hsl6 hx6 hj6 (by simp at hlen ⊢;omega) (fun x hx=>hmem x (by simp[hx])))
    have HK6:=hdq hk6
    have HW6:=hdq hw6
    have HRD:=hdq hrd2
    have HRD1:=hdq hrd
    have hk3:¬(a0==2)=true:=by simpa using hk2
    clear hk6 hb6 hx6 hsl hj6 hj hkp hbx hq1 hd hw6 hsl6 hlen hmem hrd2 hrd
    gi_wp2_with fail
    repeat
     refine⟨fun _ h=>(by cases h),?_⟩
     gi_wp2_with fail
    refine⟨wide_depth _,?_⟩
    gi_at_call 37
    rw[←HW6.out]
    refine HC.out.mono ?_
    rintro e w8 (⟨rfl,hj8,hk8⟩|⟨rfl,q,hq⟩)
    rotate_left
    ·gi_wp2_with fail
     go_ret
     exact .inr ⟨rfl,q,hq⟩
    have HJ8:=hdq hj8
    have HK8:=hdq (HK6.out.trans hk8)
    clear hj8 hk8
    gi_wp2_with fail
    go_roundw
    case rel=>exact⟨i+1,dn++readX a3,by omega,by go_num,hdq ⟨by rw[HRD1.out,HRD.out];simp,by have:=HJ8.out;simpa using this,HK8.out⟩⟩
    case measure=>simp[intOf];omega
  ·obtain⟨hrd,hj,hkp⟩:=hrel.out
   have hi':i=xs.len:=by omega
   have HRD:=hdq hrd
   have HJR:=hdq hj
   have HKP:=hdq hkp
   have HI:=hdq hi'
   clear hi' hrd hj hkp hrel
   gi_wp2_with fail
   go_ret
   refine .inl ⟨rfl,?_,HKP.out⟩
   have h:=HRD.out
   rw[HI.out,Exs.drop_nil (lrq _)]at h
   rw[h]
   simpa[readX]using HJR.out
theorem thr_all:∀xs:Exs,ThrAll xs
 | .nil =>fun i _ _ _ _ _ _ hd=>by cases i<;>simp[Exs.drop]at hd
 | .cons k nm n args at_ rest=>fun i k' nm' n' args' at' rest' hd=>by
  cases i with
  |zero=>
   simp only[Exs.drop]at hd
   injection hd with e1 e2 e3 e4 e5 e6
   subst e4
   exact thr_core args (thr_all args)
  |succ i=>
   simp only[Exs.drop]at hd
   exact thr_all rest i k' nm' n' args' at' rest' hd
theorem thr_any (xs:Exs):Thr xs:=thr_core xs (thr_all xs)

def ItrP (J Jx:List Int→World→Prop) (out:List Int) (e:Ending) (W':World):Prop:=(∃v,e= .returned v)∧(J out W'∨∃q,Jx q W')
theorem scal1_in (e:Ed) (l n₀:Nat) (J Jx:List Int→World→Prop) (hY:YldP l n₀ (scalE e) (scalE e).length J Jx) (hJ:∀s W o,J s W→J s (W.alloc o)) (n eb:Nat) (A:Option Addr) (c:Nat) (W:World) (hn0:n₀≤W.heap.size)
  (hx:ExSl W n₀ e.args A c) (hb:W.heap[eb]?=some (.cells #[.int .i64 e.from_,.int .i64 e.to_,.int .u8 e.kind,.int .i64 e.n,.int .u8 e.cmp,.slice A e.args.len c,.int .i64 e.at_] 46 (0,0))) (h0:J [] W):
  CallsIn Fence.wide n Try.prog 36 #[.func (.yield l) #[] #[],.pointer (some ⟨eb,0,none⟩)] W (ItrP J Jx (scalE e)):=by
 have hf9:Fence.wide.fn 36:=trivial
 have hmf:= @makeF Try.prog
 have hel:eb < W.heap.size:=(Array.getElem?_eq_some_iff.1 hb).1
 refine callsIn_of_wp Try.func36 rfl hf9 ?_ rfl
 simp only[Try.ntmps36,List.size_toArray,List.length_cons,List.length_nil,Nat.reduceAdd,Nat.reduceSub,Array.replicate_succ,Array.replicate_zero,List.push_toArray,List.append_toArray,List.nil_append,List.cons_append]
 have c5:W.cell? ⟨eb,5,none⟩=some (.slice A e.args.len c):=cell_of_row W eb 5 _ _ _ hb
 have hf8:Fence.wide.fn 37:=trivial
 obtain⟨w2,hw2⟩:=nmq ((W.alloc (.cells #[.func (.yield l) #[] #[]] 66)).alloc (.cells #[.func (.func 37) #[] #[.pointer (some ⟨W.heap.size,0,none⟩),.pointer (some ⟨W.heap.size+1,0,none⟩)]] 73))
 have hk2:KpT n₀ W w2:=by rw[hw2];exact((KpT.refl n₀ W).alloc hn0 _).alloc hn0 _
 have hb2:ThrB l w2 W.heap.size (W.heap.size+1):=by
  rw[hw2]
  refine⟨(Below.heap_alloc _ _ _ (by simp)).trans (heap_alloc_new W _),?_⟩
  have h:=heap_alloc_new (W.alloc (.cells #[.func (.yield l) #[] #[]] 66)) (.cells #[.func (.func 37) #[] #[.pointer (some ⟨W.heap.size,0,none⟩),.pointer (some ⟨W.heap.size+1,0,none⟩)]] 73)
  rw[World.size_alloc]at h
  exact h
 have hj2:J [] w2:=by rw[hw2];exact hJ _ _ _ (hJ _ _ _ h0)
 have HC:=hdq (thr_any e.args l n₀ (scalE e) (scalE e).length J Jx hY hJ (n - 1) A c [] w2 W.heap.size (W.heap.size+1) (leq9 hn0 hk2.2.1) (hx.keep (Same.of hk2.1 (lrq _))) hb2 hj2 (by simp[scalE]) (fun x hx=>by simp[scalE,hx]))
 have HK2:=hdq hk2
 have HB2:=hdq hb2
 have HW2:=hdq hw2
 have HB:=hdq hb
 have HY:=hdq hY
 have HJ:=hdq hJ
 obtain⟨sc,hsc⟩:=nmq (scalE e)
 have HSC:=hdq hsc
 rw[←hsc]
 clear hk2 hb2 hj2 hw2 hx hb h0 hY hJ hsc
 gi_wp2_with fail
 refine⟨wide_depth _,?_⟩
 gi_at_call 37
 rw[←HW2.out]
 refine HC.out.mono ?_
 rintro _ w3 (⟨rfl,hj3,hk3⟩|⟨rfl,q,hq⟩)
 rotate_left
 ·gi_wp2_with fail
  go_end0
  exact⟨⟨_,rfl⟩,.inr ⟨q,hq⟩⟩
 have hk23:=HK2.out.trans hk3
 have hbe:=(hk23.2.2 _ _ _ _ HB.out (by decide) (by decide)).trans HB.out
 have d2:w3.cell? ⟨eb,2,none⟩=some (.int .u8 e.kind):=cell_of_row w3 eb 2 _ _ _ hbe
 have d3:w3.cell? ⟨eb,3,none⟩=some (.int .i64 e.n):=cell_of_row w3 eb 3 _ _ _ hbe
 have dl:eb < w3.heap.size:=(Array.getElem?_eq_some_iff.1 hbe).1
 have hx3:=HB2.out.keep hk3
 have z1:w3.cell? ⟨W.heap.size,0,none⟩=some (.func (.yield l) #[] #[]):=cell_of_row w3 _ 0 _ _ _ hx3.1
 have zl1:W.heap.size < w3.heap.size:=(Array.getElem?_eq_some_iff.1 hx3.1).1
 have HJ3:=hdq hj3
 clear hj3 hk3 hk23 hbe hx3 c5
 obtain⟨ek,hek⟩:=nmq e.kind
 obtain⟨en,hen⟩:=nmq e.n
 rw[←hek]at d2
 rw[←hen]at d3
 have HEK:=hdq hek
 have HEN:=hdq hen
 clear hek hen
 have hcase:(ek=3∨ek=5)∨(¬ek=3∧¬ek=5):=by omega
 rcases hcase with h35|⟨h3,h5⟩
 ·have hsE:sc=readX e.args++ [en]:=by
   rw[HSC.out]
   unfold scalE
   rw[←HEK.out,if_pos h35,HEN.out]
  obtain⟨fn,tmps,assign,body,hy,hR⟩:=HY.out (n - 1) ([]++readX e.args) en w3 (by rw[←HSC.out,hsE];simp) HJ3.out (by rw[←HSC.out,hsE];simp)
  have HR:=hdq hR
  have HSE:=hdq hsE
  clear hR hsE
  rcases h35 with rfl|rfl
  all_goals
   gi_wp2_with fail
   repeat
    refine⟨fun _ h=>(by cases h),?_⟩
    gi_wp2_with fail
   refine⟨wide_depth _,?_⟩
   refine HR.out.mono ?_
   rintro _ w4 (⟨rfl,hj4,hk4⟩|⟨rfl,q,hq⟩)
   ·have HJ4:=hdq hj4
    clear hj4 hk4
    gi_wp2_with fail
    go_end0
    exact⟨⟨_,rfl⟩,.inl (by rw[HSE.out];simpa using HJ4.out)⟩
   ·gi_wp2_with fail
    go_end0
    exact⟨⟨_,rfl⟩,.inr ⟨q,hq⟩⟩
 ·have hsE:sc=readX e.args:=by
   rw[HSC.out]
   unfold scalE
   rw[←HEK.out,if_neg (by omega),List.append_nil]
  have HSE:=hdq hsE
  have g3:(ek==3)=false:=by simpa using h3
  have g5:(ek==5)=false:=by simpa using h5
  clear hsE
  gi_wp2_with fail
  go_end0
  exact⟨⟨_,rfl⟩,.inl (by rw[HSE.out];simpa using HJ3.out)⟩
theorem scal_in (e:Ed) (A:Option Addr) (c:Nat) (w:World):
  Calls Try.prog 14 #[edV e A c] w fun en w'=>en= .returned (.func (.func 36) #[] #[.pointer (some ⟨w.heap.size,0,none⟩)])∧w'=w.alloc (.cells #[.int .i64 e.from_,.int .i64 e.to_,.int .u8 e.kind,.int .i64 e.n,.int .u8 e.cmp,.slice A e.args.len c,.int .i64 e.at_] 46):=by
 have hmf:= @makeF Try.prog
 unfold edV
 go_enter Try.func14,Try.ntmps14
 go_wp2_with fail
 go_ret
 exact⟨rfl,rfl⟩
end Go.Proofs.Ytphlnpaikpjakaa
