/-
  law13.FlowCounts: the plain law: a graph has as many edges of each deed as there are statements. No walk.
-/
import Derived.Test.YtobegfbdedgmpaaGreatDoorJnFg6
import Derived.Test.YtobegfbdedgmpaaGreatDoorJgFg2
set_option linter.unusedVariables false
set_option linter.unusedSimpArgs false
namespace Go.Proofs.YtobegfbdedgmpaaGreatDoor
open Go.RowKit Go.Shelf

def cntK (k:Int):Sts→Nat
 | .nil =>0
 | .cons k' _ _ _ body els _ r=>(if k'=k then 1 else 0)+cntK k body+cntK k els+cntK k r
def cntE (K:Int) (l:List Ed):Nat:=(l.filter fun e=>e.kind==K).length
def shK:Sts→Prop
 | .nil =>True
 | .cons k _ _ _ body els _ r=>(k=7∨k=8∨body= .nil)∧(k=7∨els= .nil)∧shK body∧shK els∧shK r
theorem len_nil:∀ {xs:Sts},(xs.len:Int)=0→xs= .nil
 | .nil,_=>rfl
 | .cons _ _ _ _ _ _ _ r,h=>by simp only[Sts.len]at h;omega
theorem shK_of:∀ {xs:Sts},okS xs=true→shK xs
 | .nil,_=>trivial
 | .cons k nm args cond body els at_ r,h=>by
  simp only[okS,Bool.and_eq_true,Bool.or_eq_true,decide_eq_true_eq,beq_iff_eq]at h
  obtain⟨⟨⟨⟨⟨⟨⟨⟨⟨⟨⟨h1,h2⟩,h3⟩,h4⟩,h5⟩,h6⟩,h7⟩,h8⟩,h9⟩,h10⟩,h11⟩,h12⟩:=h
  refine⟨?_,?_,shK_of h10,shK_of h11,shK_of h12⟩
  ·rcases h6 with(h|h)|h
   ·exact .inl h
   ·exact .inr (.inl h)
   ·exact .inr (.inr (len_nil (by omega)))
  ·rcases h7 with h|h
   ·exact .inl h
   ·exact .inr (len_nil (by omega))
theorem shK_app:∀ {xs ys:Sts},shK xs→shK ys→shK (Sts.app xs ys)
 | .nil,_,_,h=>h
 | .cons _ _ _ _ _ _ _ _,_,⟨h1,h2,h3,h4,h5⟩,h=>⟨h1,h2,h3,h4,shK_app h5 h⟩
theorem inlS_sh {call:ByteArray→Exs→Nms→Int→Ist→Sts×Ist} (hc:∀nm args n at_ s,shK (call nm args n at_ s).1):∀(xs:Sts) (n:Nms) (s:Ist),shK xs→shK (inlS call xs n s).1
 | .nil,n,s,_=>trivial
 | .cons k nm args cond body els at_ r,n,s,⟨h1,h2,h3,h4,h5⟩=>by
  unfold inlS
  split
  ·exact trivial
  split
  ·exact shK_app (hc _ _ _ _ _) (inlS_sh hc r n _ h5)
  ·refine⟨?_,?_,inlS_sh hc body n _ h3,inlS_sh hc els n _ h4,inlS_sh hc r n _ h5⟩
   ·rcases h1 with h|h|h
    ·exact .inl h
    ·exact .inr (.inl h)
    ·subst h;exact .inr (.inr rfl)
   ·rcases h2 with h|h
    ·exact .inl h
    ·subst h;exact .inr rfl
theorem setsN_sh (p:ByteArray) (c:Nat) (n:Nms) (at_:Int):∀(vs:List Va) (xs:Exs),shK (setsN p c n at_ vs xs)
 |v::vs,.cons k nm m a b r=>⟨.inr (.inr rfl),.inr rfl,trivial,trivial,setsN_sh p c n at_ vs r⟩
 |v::vs,.nil =>trivial
 | [],_=>by simp[setsN,shK]
theorem inlF_sh {procs:List UInt8→Option Prc} (hq:∀y x,procs y=some x→shK x.body):∀(f:Nat) (xs:Sts) (n:Nms) (s:Ist),shK xs→shK (inlF procs f xs n s).1
 |0,xs,n,s,h=>inlS_sh (call:=fun _ _ _ _ s=>(.nil,s)) (fun _ _ _ _ _=>trivial) xs n s h
 |f+1,xs,n,s,h=>inlS_sh (fun nm args n at_ s=>by
  unfold callN
  cases e:procs nm.data.toList with
  |none=>exact trivial
  |some x=>exact shK_app ⟨.inr (.inr rfl),.inr rfl,trivial,trivial,setsN_sh _ _ _ _ _ _⟩ (inlF_sh hq f x.body _ _ (hq _ _ e))) xs n s h
theorem inlT_sh {t:Tre} (h:(inlT t).2 =0):shK (inlT t).1.main :=by
 unfold inlT at h ⊢
 split at h
 ·rename_i h0
  rw[if_pos h0]
  split at h
  ·exact absurd h (by decide)
  ·rename_i hf
   rw[if_neg hf]
   have hok:=treeC_no h0
   have ht:=hok.tree
   unfold okTr okPs allPr at ht
   simp only[Bool.and_eq_true,List.all_eq_true]at ht
   exact inlF_sh (fun y x e=>by
    obtain⟨hx,_⟩:=procsOf_in e
    exact shK_of (ht.2 x hx).2) t.procs.length t.main _ _ (shK_of ht.1.1.2)
 ·rename_i h0
  exact absurd h h0
/-! edges -/
def Cn_ (K:Int) (N:Nat) (s s':FgS):Prop:=cntE K s'.edges=cntE K s.edges+N
section
variable {K:Int} {N M:Nat} {s s1 s2:FgS}
theorem Cn_.trans (h:Cn_ K N s s1) (k:Cn_ K M s1 s2):Cn_ K (N+M) s s2:=by unfold Cn_ at*;omega
theorem Cn_.as (h:Cn_ K N s s1) (e:N=M):Cn_ K M s s1:=e▸h
theorem cn_node (s:FgS):Cn_ K 0 s s.node:=rfl
theorem cn_put (sc ar:NoN) (s:FgS) (a b c d e f:Int) (xs:Exs):Cn_ K (if d=K then 1 else 0) s (s.put sc ar a b c d e f xs):=by
 unfold Cn_ cntE FgS.put
 rw[List.filter_append,List.length_append]
 by_cases h:d=K
 ·simp[h]
 ·simp[h]
theorem cn_put0 (sc ar:NoN) (s:FgS) (a b c d e f:Int) (xs:Exs) (h:d≠K):Cn_ K 0 s (s.put sc ar a b c d e f xs):=(cn_put sc ar s a b c d e f xs).as (if_neg h)
theorem cn_ways (sc ar:NoN) (h1:K≠1) (h6:K≠6):∀(xs:Cds) (i:Nat) (f y n:Int) (s:FgS),Cn_ K 0 s (nthW (waysC sc ar xs) i f y n s)
 | .nil,i,f,y,n,s=>by
  simp only[waysC,nthW,List.getD_eq_getElem?_getD,List.getElem?_nil,Option.getD_none]
  exact rfl
 | .cons k args of_ at_ r,i+1,f,y,n,s=>by
  have:=cn_ways sc ar h1 h6 r i f y n s
  simpa only[waysC,nthW,List.getD_cons_succ]using this
 | .cons k args of_ at_ r,0,f,y,n,s=>by
  have ho:=cn_ways sc ar h1 h6 of_
  show Cn_ K 0 s (wayC sc ar k args (waysC sc ar of_) at_ f y n s)
  unfold wayC
  split
  ·exact cn_put0 _ _ _ _ _ _ _ _ _ _ (Ne.symm h1)
  split
  ·exact cn_put0 _ _ _ _ _ _ _ _ _ _ (Ne.symm h1)
  split
  ·exact ho 0 _ _ _ _
  split
  ·exact((cn_node s).trans (ho 0 _ _ _ _)).trans (ho 1 _ _ _ _)
  split
  ·exact((cn_node s).trans (ho 0 _ _ _ _)).trans (ho 1 _ _ _ _)
  ·exact(cn_put0 _ _ _ _ _ _ _ _ _ _ (Ne.symm h6)).trans (cn_put0 _ _ _ _ _ _ _ _ _ _ (Ne.symm h6))
def ownK (K k:Int):Nat:=if K=3∧k=2∨K=4∧k=3∨K=5∧k=4∨K=2∧k=8∨K=2∧k=1∨K=8∧k=5∨K=7∧k=6 then 1 else 0
def totK (K:Int):Sts→Nat
 | .nil =>0
 | .cons k _ _ _ body els _ r=>ownK K k+totK K body+totK K els+totK K r
theorem cn_stm (sc ar:NoN) (hK:K=2∨K=3∨K=4∨K=5∨K=7∨K=8) (k:Int) (nm:ByteArray) (args:Exs) (cond:Cds) (body els:Sts) (a f t:Int) (s:FgS)
  (hb:∀f t a s,Cn_ K (totK K body) s (blkF sc ar (mksS sc ar body) f t a s)) (he:∀f t a s,Cn_ K (totK K els) s (blkF sc ar (mksS sc ar els) f t a s))
  (h1:1≤k) (h8:k≤8) (s1:k=7∨k=8∨body= .nil) (s2:k=7∨els= .nil):
  Cn_ K (ownK K k+totK K body+totK K els) s (stmF sc ar k nm args (waysC sc ar cond) (mksS sc ar body) (mksS sc ar els) a f t s):=by
 have hw:=cn_ways sc ar (K:=K) (by omega) (by omega) cond
 have hp:=fun(d:Int) (a b c e f:Int) (xs:Exs) (s:FgS)=>cn_put (K:=K) sc ar s a b c d e f xs
 have hp1:=fun(a b c e f:Int) (xs:Exs) (s:FgS)=>cn_put0 (K:=K) sc ar s a b c 1 e f xs (by omega)
 rcases(show k=1∨k=2∨k=3∨k=4∨k=5∨k=6∨k=7∨k=8 from by omega)with rfl|rfl|rfl|rfl|rfl|rfl|rfl|rfl
 ·obtain rfl:body= .nil :=by rcases s1 with h|h|h<;>first|exact h|(exfalso;omega)
  obtain rfl:els= .nil :=by rcases s2 with h|h<;>first|exact h|(exfalso;omega)
  exact(hp 2 _ _ _ _ _ _ _).as (by rcases hK with rfl|rfl|rfl|rfl|rfl|rfl<;>rfl)
 ·obtain rfl:body= .nil :=by rcases s1 with h|h|h<;>first|exact h|(exfalso;omega)
  obtain rfl:els= .nil :=by rcases s2 with h|h<;>first|exact h|(exfalso;omega)
  exact(hp 3 _ _ _ _ _ _ _).as (by rcases hK with rfl|rfl|rfl|rfl|rfl|rfl<;>rfl)
 ·obtain rfl:body= .nil :=by rcases s1 with h|h|h<;>first|exact h|(exfalso;omega)
  obtain rfl:els= .nil :=by rcases s2 with h|h<;>first|exact h|(exfalso;omega)
  exact(hp 4 _ _ _ _ _ _ _).as (by rcases hK with rfl|rfl|rfl|rfl|rfl|rfl<;>rfl)
 ·obtain rfl:body= .nil :=by rcases s1 with h|h|h<;>first|exact h|(exfalso;omega)
  obtain rfl:els= .nil :=by rcases s2 with h|h<;>first|exact h|(exfalso;omega)
  exact(hp 5 _ _ _ _ _ _ _).as (by rcases hK with rfl|rfl|rfl|rfl|rfl|rfl<;>rfl)
 ·obtain rfl:body= .nil :=by rcases s1 with h|h|h<;>first|exact h|(exfalso;omega)
  obtain rfl:els= .nil :=by rcases s2 with h|h<;>first|exact h|(exfalso;omega)
  exact(((cn_node s).trans (hw 0 _ _ _ _)).trans (hp 8 _ _ _ _ _ _ _)).as (by rcases hK with rfl|rfl|rfl|rfl|rfl|rfl<;>rfl)
 ·obtain rfl:body= .nil :=by rcases s1 with h|h|h<;>first|exact h|(exfalso;omega)
  obtain rfl:els= .nil :=by rcases s2 with h|h<;>first|exact h|(exfalso;omega)
  exact(((cn_node s).trans (hw 0 _ _ _ _)).trans (hp 7 _ _ _ _ _ _ _)).as (by rcases hK with rfl|rfl|rfl|rfl|rfl|rfl<;>rfl)
 ·exact(((((cn_node s).trans (cn_node _)).trans (hw 0 _ _ _ _)).trans (hb _ _ _ _)).trans (he _ _ _ _)).as (by rcases hK with rfl|rfl|rfl|rfl|rfl|rfl<;>simp[ownK])
 ·obtain rfl:els= .nil :=by rcases s2 with h|h<;>first|exact h|(exfalso;omega)
  exact(((((((cn_node s).trans (cn_node _)).trans (cn_node _)).trans (hp1 _ _ _ _ _ _ _)).trans (hp 2 _ _ _ _ _ _ _)).trans (hw 0 _ _ _ _)).trans (hb _ _ _ _)).as (by rcases hK with rfl|rfl|rfl|rfl|rfl|rfl<;>simp[ownK,totK])
theorem cn_blk (sc ar:NoN) (hK:K=2∨K=3∨K=4∨K=5∨K=7∨K=8):∀(xs:Sts) (f t a:Int) (s:FgS),wfS xs→shK xs→Cn_ K (totK K xs) s (blkF sc ar (mksS sc ar xs) f t a s)
 | .nil,f,t,a,s,_,_=>by
  simp only[mksS,blkF]
  exact cn_put0 _ _ _ _ _ _ _ _ _ _ (by omega)
 | .cons k nm args cond body els at_ .nil,f,t,a,s,hw,hs=>by
  obtain⟨⟨k1,k8⟩,_,_,_,_,w1,w2,_⟩:=hw
  obtain⟨s1,s2,s3,s4,_⟩:=hs
  simp only[mksS,blkF]
  exact(cn_stm sc ar hK k nm args cond body els at_ f t s (fun f t a s=>cn_blk sc ar hK body f t a s w1 s3) (fun f t a s=>cn_blk sc ar hK els f t a s w2 s4) k1 k8 s1 s2).as (by simp only[totK];omega)
 | .cons k nm args cond body els at_ (.cons k' nm' args' cond' body' els' at' r),f,t,a,s,hw,hs=>by
  obtain⟨⟨k1,k8⟩,_,_,_,_,w1,w2,w3⟩:=hw
  obtain⟨s1,s2,s3,s4,s5⟩:=hs
  have h:=fun f t a s=>cn_blk sc ar hK (.cons k' nm' args' cond' body' els' at' r) f t a s w3 s5
  simp only[mksS,blkF]at h ⊢
  exact(((cn_node s).trans (cn_stm sc ar hK k nm args cond body els at_ f s.nodes s.node (fun f t a s=>cn_blk sc ar hK body f t a s w1 s3) (fun f t a s=>cn_blk sc ar hK els f t a s w2 s4) k1 k8 s1 s2)).trans (h _ _ _ _)).as (by simp only[totK];omega)
end
theorem totK_is:∀xs:Sts,totK 3 xs=cntK 2 xs∧totK 4 xs=cntK 3 xs∧totK 5 xs=cntK 4 xs∧totK 2 xs=cntK 8 xs+cntK 1 xs∧totK 8 xs=cntK 5 xs∧totK 7 xs=cntK 6 xs
 | .nil =>⟨rfl,rfl,rfl,rfl,rfl,rfl⟩
 | .cons k _ _ _ body els _ r=>by
  obtain⟨a1,a2,a3,a4,a5,a6⟩:=totK_is body
  obtain⟨b1,b2,b3,b4,b5,b6⟩:=totK_is els
  obtain⟨c1,c2,c3,c4,c5,c6⟩:=totK_is r
  simp only[totK,cntK,ownK]
  refine⟨?_,?_,?_,?_,?_,?_⟩
  all_goals
   simp
   (repeat' split)<;>omega
theorem graph_counts {t:Tre} (hg:(graT t).2 =0) (h:(inlT t).2 =0) (hw:wfS (inlT t).1.main):
  cntE 3 (graT t).1.edges =cntK 2 (inlT t).1.main ∧cntE 4 (graT t).1.edges =cntK 3 (inlT t).1.main ∧cntE 5 (graT t).1.edges =cntK 4 (inlT t).1.main ∧cntE 2 (graT t).1.edges =cntK 8 (inlT t).1.main +cntK 1 (inlT t).1.main ∧cntE 8 (graT t).1.edges =cntK 5 (inlT t).1.main ∧cntE 7 (graT t).1.edges =cntK 6 (inlT t).1.main :=by
 have he:(graT t).1.edges =(grF (inlT t).1).edges :=by
  unfold graT at hg ⊢
  rw[if_pos h]at hg ⊢
  split at hg
  ·exact absurd hg (by decide)
  ·rename_i hn
   rw[if_neg hn]
 rw[he]
 obtain⟨c1,c2,c3,c4,c5,c6⟩:=totK_is (inlT t).1.main
 have hk:=fun(K:Int) (hK:K=2∨K=3∨K=4∨K=5∨K=7∨K=8)=>cn_blk (K:=K) (numsV ((inlT t).1.vars.map (·.nm.data.toList))) (numsV ((inlT t).1.arrays.map (·.nm.data.toList))) hK (inlT t).1.main 0 1 0 ⟨2, []⟩ hw (inlT_sh h)
 have hz:∀K,cntE K ([]:List Ed)=0:=fun K=>rfl
 have hq:∀K,(K=2∨K=3∨K=4∨K=5∨K=7∨K=8)→cntE K (grF (inlT t).1).edges =totK K (inlT t).1.main :=fun K hK=>by
  have:=hk K hK
  unfold Cn_ at this
  rw[hz,Nat.zero_add]at this
  exact this
 rw[hq 3 (by omega),hq 4 (by omega),hq 5 (by omega),hq 2 (by omega),hq 8 (by omega),hq 7 (by omega)]
 exact⟨c1,c2,c3,c4,c5,c6⟩
end Go.Proofs.YtobegfbdedgmpaaGreatDoor
