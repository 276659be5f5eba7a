/-
  The plain law of a tree's graph, as to its ways: every node has the right edges, none comes round by skips alone. No walk.
-/
import Derived.Test.YtmfioehnhjjgpaaGreatDoorJnFg6
set_option linter.unusedVariables false
set_option linter.unusedSimpArgs false
namespace Go.Proofs.YtmfioehnhjjgpaaGreatDoor
open Go.RowKit Go.Shelf

structure Cm (D E:Int→Prop) (L:List Ed):Prop where
 from_:∀e∈L,D e.from_
 to_:∀e∈L,e.kind=1→E e.to_
 right:∀e∈L,zbj (outE L e.from_)=true
 rank:∀rk:Int→Nat,∃rk':Int→Nat,(∀x,¬D x→rk' x=rk x)∧∀e∈L,e.kind=1→rk' e.to_ < rk' e.from_
theorem znB (l r:List Ed) (x:Int):outE (l++r) x=outE l x++outE r x:=by unfold outE;rw[List.filter_append]
theorem zlM {D E:Int→Prop} {l:List Ed} (h:Cm D E l) {x:Int} (hx:¬D x):outE l x= []:=by
 unfold outE
 rw[List.filter_eq_nil_iff]
 intro e he h2
 exact hx (by have:=h.from_ e he;rwa [show e.from_=x from by simpa using h2]at this)
section
variable {D D1 D2 E E1 E2:Int→Prop} {L L1 L2:List Ed}
theorem Cm.app (h1:Cm D1 E1 L1) (h2:Cm D2 E2 L2) (hd:∀x,D1 x→¬D2 x) (he:(∀x,E2 x→¬D1 x)∨(∀x,E1 x→¬D2 x)):Cm (fun x=>D1 x∨D2 x) (fun x=>E1 x∨E2 x) (L1++L2):=by
 refine⟨fun e hm=>?_,fun e hm hk=>?_,fun e hm=>?_,fun rk=>?_⟩
 ·rcases List.mem_append.1 hm with hm|hm
  ·exact .inl (h1.from_ e hm)
  ·exact .inr (h2.from_ e hm)
 ·rcases List.mem_append.1 hm with hm|hm
  ·exact .inl (h1.to_ e hm hk)
  ·exact .inr (h2.to_ e hm hk)
 ·rw[znB]
  rcases List.mem_append.1 hm with hm|hm
  ·rw[zlM h2 (hd _ (h1.from_ e hm)),List.append_nil]
   exact h1.right e hm
  ·rw[zlM h1 (fun h=>hd _ h (h2.from_ e hm)),List.nil_append]
   exact h2.right e hm
 ·rcases he with he|he
  ·obtain⟨r2,g2,k2⟩:=h2.rank rk
   obtain⟨r1,g1,k1⟩:=h1.rank r2
   refine⟨r1,fun x hx=>(g1 x fun h=>hx (.inl h)).trans (g2 x fun h=>hx (.inr h)),fun e hm hk=>?_⟩
   rcases List.mem_append.1 hm with hm|hm
   ·exact k1 e hm hk
   ·rw[g1 _ (he _ (h2.to_ e hm hk)),g1 _ (fun h=>hd _ h (h2.from_ e hm))]
    exact k2 e hm hk
  ·obtain⟨r1,g1,k1⟩:=h1.rank rk
   obtain⟨r2,g2,k2⟩:=h2.rank r1
   refine⟨r2,fun x hx=>(g2 x fun h=>hx (.inr h)).trans (g1 x fun h=>hx (.inl h)),fun e hm hk=>?_⟩
   rcases List.mem_append.1 hm with hm|hm
   ·rw[g2 _ (he _ (h1.to_ e hm hk)),g2 _ (hd _ (h1.from_ e hm))]
    exact k1 e hm hk
   ·exact k2 e hm hk
theorem Cm.mono (h:Cm D1 E1 L) (hd:∀x,D1 x→D x) (he:∀x,E1 x→E x):Cm D E L:=
 ⟨fun e hm=>hd _ (h.from_ e hm),fun e hm hk=>he _ (h.to_ e hm hk),h.right,fun rk=>by
  obtain⟨r,g,k⟩:=h.rank rk
  exact⟨r,fun x hx=>g x fun h=>hx (hd x h),k⟩⟩
end
theorem cm_nil:Cm (fun _=>False) (fun _=>False) []:=⟨by simp,by simp,by simp,fun rk=>⟨rk,fun _ _=>rfl,by simp⟩⟩
theorem zes {f t k n c a:Int} {xs:Exs} (hk:k≠6) (hf:f≠t):Cm (fun x=>x=f) (fun x=>k=1∧x=t) [⟨f,t,k,n,c,xs,a⟩]:=by
 refine⟨by simp,by simp,?_,fun rk=>⟨fun x=>if x=f then rk t+1 else rk x,fun x hx=>if_neg hx,?_⟩⟩
 ·intro e he
  obtain rfl:=List.mem_singleton.1 he
  simp[outE,zbj,hk]
 ·intro e he _
  obtain rfl:=List.mem_singleton.1 he
  simp[Ne.symm hf]
theorem zcF:∀xs:Exs,zb0 xs xs=true
 | .nil =>rfl
 | .cons k nm n args at_ r=>by simp only[zb0,zcF args,zcF r];simp
theorem zqQ {k:Int}:oppK k=oppC k:=by
 unfold oppK oppC
 repeat' split
 all_goals first|rfl|(exfalso;omega)
theorem cm_two {f y n k a b:Int} {xs:Exs}:Cm (fun x=>x=f) (fun _=>False) [⟨f,y,6,0,k,xs,a⟩,⟨f,n,6,0,oppK k,xs,b⟩]:=by
 refine⟨by simp,by simp,?_,fun rk=>⟨rk,fun _ _=>rfl,by simp⟩⟩
 intro e he
 have:e.from_=f:=by
  rcases List.mem_cons.1 he with rfl|he
  ·rfl
  ·obtain rfl:=List.mem_singleton.1 he;rfl
 rw[this]
 simp[outE,zbj,zcF,zqQ]
structure Pt (f y n:Int) (s s':FgS):Prop where
 nodes:s.nodes≤s'.nodes
 ex:∃L,s'.edges=s.edges++L∧Cm (fun x=>x=f∨(s.nodes≤x∧x < s'.nodes)) (fun x=>x=y∨x=n∨(s.nodes≤x∧x < s'.nodes)) L∧∀e∈L,e.to_=1∨e.to_=y∨e.to_=n∨(s.nodes≤e.to_∧e.to_ < s'.nodes)
theorem Pt.none (f y n:Int) (s:FgS):Pt f y n s s:=⟨Int.le_refl _, [],by simp,cm_nil.mono (fun _ h=>h.elim) (fun _ h=>h.elim),by simp⟩
theorem zhe (sc ar:NoN) {f t:Int} (a k n c:Int) (xs:Exs) (s:FgS) (hk:k≠6) (hf:f≠t):Pt f t t s (s.put sc ar f t a k n c xs):=
 ⟨Int.le_refl _,_,rfl,(zes hk hf).mono (fun _ h=> .inl h) (fun _ h=> .inl h.2),fun e he=>by obtain rfl:=List.mem_singleton.1 he;exact .inr (.inl rfl)⟩
theorem Pt.seq {f y n y1 n1 m y2 n2:Int} {s s1 s2 s3:FgS} (h1:Pt f y1 n1 s1 s2) (h2:Pt m y2 n2 s2 s3) (he:s1.edges=s.edges) (hn:s.nodes≤s1.nodes) (hf:f < s.nodes) (hm:s.nodes≤m∧m < s1.nodes)
  (hy1:y1=y∨y1=n∨(s.nodes≤y1∧y1 < s1.nodes)) (hn1:n1=y∨n1=n∨(s.nodes≤n1∧n1 < s1.nodes)) (hy2:y2=y∨y2=n) (hn2:n2=y∨n2=n)
  (hfy:f≠y) (hfn:f≠n) (hy:y < s.nodes) (hnn:n < s.nodes):Pt f y n s s3:=by
 obtain⟨q1,L1,e1,c1,t1⟩:=h1
 obtain⟨q2,L2,e2,c2,t2⟩:=h2
 refine⟨by omega,L1++L2,by rw[e2,e1,he,List.append_assoc],?_,?_⟩
 ·refine(Cm.app c1 c2 ?_ (.inl ?_)).mono ?_ ?_
  all_goals
   intro x hx
   omega
 ·intro e hm'
  rcases List.mem_append.1 hm' with hm'|hm'
  ·have:=t1 e hm';omega
  ·have:=t2 e hm';omega
theorem zhY (sc ar:NoN):∀(xs:Cds) (i:Nat) (f y n:Int) (s:FgS),2≤s.nodes→f < s.nodes→y < s.nodes→n < s.nodes→f≠y→f≠n→Pt f y n s (nthW (zal sc ar xs) i f y n s)
 | .nil,i,f,y,n,s,_,_,_,_,_,_=>by
  simp only[zal,nthW,List.getD_eq_getElem?_getD,List.getElem?_nil,Option.getD_none]
  exact Pt.none _ _ _ _
 | .cons k args of_ at_ r,i+1,f,y,n,s,h0,h1,h2,h3,h4,h5=>by
  have:=zhY sc ar r i f y n s h0 h1 h2 h3 h4 h5
  simpa only[zal,nthW,List.getD_cons_succ]using this
 | .cons k args of_ at_ r,0,f,y,n,s,h0,h1,h2,h3,h4,h5=>by
  have ho:=zhY sc ar of_
  have hz:s.node.nodes=s.nodes+1:=rfl
  show Pt f y n s (wayC sc ar k args (zal sc ar of_) at_ f y n s)
  unfold wayC
  split
  ·exact⟨Int.le_refl _,_,rfl,(zes (by decide) h4).mono (fun _ h=> .inl h) (fun _ h=> .inl h.2),fun e he=>by obtain rfl:=List.mem_singleton.1 he;exact .inr (.inl rfl)⟩
  split
  ·exact⟨Int.le_refl _,_,rfl,(zes (by decide) h5).mono (fun _ h=> .inl h) (fun _ h=> .inr (.inl h.2)),fun e he=>by obtain rfl:=List.mem_singleton.1 he;exact .inr (.inr (.inl rfl))⟩
  split
  ·obtain⟨q,L,e,c,t⟩:=ho 0 f n y s h0 h1 h3 h2 h5 h4
   exact⟨q,L,e,c.mono (fun _ h=>h) (fun x h=>by omega),fun e he=>by have:=t e he;omega⟩
  split
  ·have g1:=ho 0 f s.nodes n s.node (by omega) (by omega) (by omega) (by omega) (by omega) h5
   have g2:=ho 1 s.nodes y n (nthW (zal sc ar of_) 0 f s.nodes n s.node) (by have:=g1.nodes;omega) (by have:=g1.nodes;omega) (by have:=g1.nodes;omega) (by have:=g1.nodes;omega) (by omega) (by omega)
   exact Pt.seq g1 g2 rfl (by omega) h1 (by omega) (by omega) (by omega) (by omega) (by omega) h4 h5 h2 h3
  split
  ·have g1:=ho 0 f y s.nodes s.node (by omega) (by omega) (by omega) (by omega) h4 (by omega)
   have g2:=ho 1 s.nodes y n (nthW (zal sc ar of_) 0 f y s.nodes s.node) (by have:=g1.nodes;omega) (by have:=g1.nodes;omega) (by have:=g1.nodes;omega) (by have:=g1.nodes;omega) (by omega) (by omega)
   exact Pt.seq g1 g2 rfl (by omega) h1 (by omega) (by omega) (by omega) (by omega) (by omega) h4 h5 h2 h3
  ·refine⟨Int.le_refl _, [⟨f,y,6,0,k,numX sc ar args,at_⟩,⟨f,n,6,0,oppK k,numX sc ar args,at_⟩],?_,cm_two.mono (fun _ h=> .inl h) (fun _ h=>h.elim),?_⟩
   ·simp only[FgS.put,List.append_assoc,List.cons_append,List.nil_append]
   ·intro e he
    rcases List.mem_cons.1 he with rfl|he
    ·exact .inr (.inl rfl)
    ·obtain rfl:=List.mem_singleton.1 he
     exact .inr (.inr (.inl rfl))
theorem zow (sc ar:NoN) (k:Int) (nm:ByteArray) (args:Exs) (cond:Cds) (b e:List Mk) (a f t:Int) (s:FgS)
  (hb:∀f t a s,2≤s.nodes→f < s.nodes→t < s.nodes→f≠t→Pt f t t s (blkF sc ar b f t a s)) (he:∀f t a s,2≤s.nodes→f < s.nodes→t < s.nodes→f≠t→Pt f t t s (blkF sc ar e f t a s))
  (h0:2≤s.nodes) (h1:f < s.nodes) (h2:t < s.nodes) (h4:f≠t):Pt f t t s (stmF sc ar k nm args (zal sc ar cond) b e a f t s):=by
 have hw:=zhY sc ar cond 0
 have hz:s.node.nodes=s.nodes+1:=rfl
 have hz2:s.node.node.nodes=s.nodes+2:=by show s.nodes+1+1=_;omega
 unfold stmF
 split
 ·exact zhe sc ar a 2 0 0 .nil s (by decide) h4
 split
 ·exact zhe sc ar a 3 _ 0 args s (by decide) h4
 split
 ·exact zhe sc ar a 4 _ 0 args s (by decide) h4
 split
 ·exact zhe sc ar a 5 _ 0 .nil s (by decide) h4
 split
 ·have g1:=hw f t s.nodes s.node (by omega) (by omega) (by omega) (by omega) h4 (by omega)
  obtain⟨q,L,e1,c1,t1⟩:=g1
  refine⟨by show s.nodes≤(nthW (zal sc ar cond) 0 f t s.nodes s.node).nodes;omega,L++ [⟨s.nodes,1,8,0,0,.nil,a⟩],?_,?_,?_⟩
  ·show(nthW (zal sc ar cond) 0 f t s.nodes s.node).edges ++_=_
   rw[e1,List.append_assoc];rfl
  ·refine(Cm.app c1 (zes (f:=s.nodes) (t:=1) (k:=8) (n:=0) (c:=0) (a:=a) (xs:= .nil) (by decide) (by omega)) ?_ (.inl ?_)).mono ?_ ?_
   ·intro x hx;omega
   ·intro x hx;omega
   ·intro x hx
    show x=f∨(s.nodes≤x∧x < (nthW (zal sc ar cond) 0 f t s.nodes s.node).nodes)
    omega
   ·intro x hx
    show x=t∨x=t∨(s.nodes≤x∧x < (nthW (zal sc ar cond) 0 f t s.nodes s.node).nodes)
    omega
  ·intro e hm
   show e.to_=1∨e.to_=t∨e.to_=t∨(s.nodes≤e.to_∧e.to_ < (nthW (zal sc ar cond) 0 f t s.nodes s.node).nodes)
   rcases List.mem_append.1 hm with hm|hm
   ·have:=t1 e hm;omega
   ·obtain rfl:=List.mem_singleton.1 hm;exact .inl rfl
 split
 ·have g1:=hw f t s.nodes s.node (by omega) (by omega) (by omega) (by omega) h4 (by omega)
  obtain⟨q,L,e1,c1,t1⟩:=g1
  refine⟨by show s.nodes≤(nthW (zal sc ar cond) 0 f t s.nodes s.node).nodes;omega,L++ [⟨s.nodes,1,7,0,0,.nil,a⟩],?_,?_,?_⟩
  ·show(nthW (zal sc ar cond) 0 f t s.nodes s.node).edges ++_=_
   rw[e1,List.append_assoc];rfl
  ·refine(Cm.app c1 (zes (f:=s.nodes) (t:=1) (k:=7) (n:=0) (c:=0) (a:=a) (xs:= .nil) (by decide) (by omega)) ?_ (.inl ?_)).mono ?_ ?_
   ·intro x hx;omega
   ·intro x hx;omega
   ·intro x hx
    show x=f∨(s.nodes≤x∧x < (nthW (zal sc ar cond) 0 f t s.nodes s.node).nodes)
    omega
   ·intro x hx
    show x=t∨x=t∨(s.nodes≤x∧x < (nthW (zal sc ar cond) 0 f t s.nodes s.node).nodes)
    omega
  ·intro e hm
   show e.to_=1∨e.to_=t∨e.to_=t∨(s.nodes≤e.to_∧e.to_ < (nthW (zal sc ar cond) 0 f t s.nodes s.node).nodes)
   rcases List.mem_append.1 hm with hm|hm
   ·have:=t1 e hm;omega
   ·obtain rfl:=List.mem_singleton.1 hm;exact .inl rfl
 split
 ·have g1:=hw f s.nodes (s.nodes+1) s.node.node (by omega) (by omega) (by omega) (by omega) (by omega) (by omega)
  have n1:=g1.nodes
  have g2:=hb s.nodes t a (nthW (zal sc ar cond) 0 f s.nodes (s.nodes+1) s.node.node) (by omega) (by omega) (by omega) (by omega)
  have n2:=g2.nodes
  have g3:=he (s.nodes+1) t a (blkF sc ar b s.nodes t a (nthW (zal sc ar cond) 0 f s.nodes (s.nodes+1) s.node.node)) (by omega) (by omega) (by omega) (by omega)
  obtain⟨q1,L1,e1,c1,t1⟩:=g1
  obtain⟨q2,L2,e2,c2,t2⟩:=g2
  obtain⟨q3,L3,e3,c3,t3⟩:=g3
  refine⟨by omega,L1++(L2++L3),by rw[e3,e2,e1];simp only[List.append_assoc];rfl,?_,?_⟩
  ·refine(Cm.app c1 (Cm.app c2 c3 ?_ (.inl ?_)) ?_ (.inl ?_)).mono ?_ ?_
   all_goals
    intro x hx
    omega
  ·intro e hm
   rcases List.mem_append.1 hm with hm|hm
   ·have:=t1 e hm;omega
   rcases List.mem_append.1 hm with hm|hm
   ·have:=t2 e hm;omega
   ·have:=t3 e hm;omega
 split
 ·have hp:((s.node.node.node.put sc ar f s.nodes a 1 0 0 .nil).put sc ar s.nodes (s.nodes+1) a 2 0 0 .nil).nodes =s.nodes+3:=by show s.nodes+1+1+1=_;omega
  have g1:=hw (s.nodes+1) (s.nodes+2) t ((s.node.node.node.put sc ar f s.nodes a 1 0 0 .nil).put sc ar s.nodes (s.nodes+1) a 2 0 0 .nil) (by omega) (by omega) (by omega) (by omega) (by omega) (by omega)
  have n1:=g1.nodes
  have g2:=hb (s.nodes+2) s.nodes a (nthW (zal sc ar cond) 0 (s.nodes+1) (s.nodes+2) t ((s.node.node.node.put sc ar f s.nodes a 1 0 0 .nil).put sc ar s.nodes (s.nodes+1) a 2 0 0 .nil)) (by omega) (by omega) (by omega) (by omega)
  obtain⟨q1,L1,e1,c1,t1⟩:=g1
  obtain⟨q2,L2,e2,c2,t2⟩:=g2
  refine⟨by omega, [⟨f,s.nodes,1,0,0,.nil,a⟩]++([⟨s.nodes,s.nodes+1,2,0,0,.nil,a⟩]++(L1++L2)),?_,?_,?_⟩
  ·rw[e2,e1]
   show(s.edges++_++_++L1)++L2=_
   simp only[List.append_assoc];rfl
  ·have c3:=Cm.app (zes (f:=s.nodes) (t:=s.nodes+1) (k:=2) (n:=0) (c:=0) (a:=a) (xs:= .nil) (by decide) (by omega)) (Cm.app c1 c2 (by intro x hx;omega) (.inl (by intro x hx;omega))) (by intro x hx;omega) (.inr (by intro x hx;omega))
   refine(Cm.app (zes (f:=f) (t:=s.nodes) (k:=1) (n:=0) (c:=0) (a:=a) (xs:= .nil) (by decide) (by omega)) c3 ?_ (.inl ?_)).mono ?_ ?_
   all_goals
    intro x hx
    omega
  ·intro e hm
   rcases List.mem_append.1 hm with hm|hm
   ·obtain rfl:=List.mem_singleton.1 hm
    refine .inr (.inr (.inr ⟨Int.le_refl _,?_⟩))
    show s.nodes < _
    omega
   rcases List.mem_append.1 hm with hm|hm
   ·obtain rfl:=List.mem_singleton.1 hm
    refine .inr (.inr (.inr ⟨?_,?_⟩))
    ·show s.nodes≤s.nodes+1
     omega
    ·show s.nodes+1 < _
     omega
   rcases List.mem_append.1 hm with hm|hm
   ·have:=t1 e hm;omega
   ·have:=t2 e hm;omega
 ·exact Pt.none _ _ _ _
theorem zff (sc ar:NoN):∀(xs:Sts) (f t a:Int) (s:FgS),2≤s.nodes→f < s.nodes→t < s.nodes→f≠t→Pt f t t s (blkF sc ar (mksS sc ar xs) f t a s)
 | .nil,f,t,a,s,h0,h1,h2,h4=>by
  simp only[mksS,blkF]
  exact zhe sc ar a 1 0 0 .nil s (by decide) h4
 | .cons k nm args cond body els at_ .nil,f,t,a,s,h0,h1,h2,h4=>by
  simp only[mksS,blkF]
  exact zow sc ar k nm args cond _ _ at_ f t s (zff sc ar body) (zff sc ar els) h0 h1 h2 h4
 | .cons k nm args cond body els at_ (.cons k' nm' args' cond' body' els' at' r),f,t,a,s,h0,h1,h2,h4=>by
  have hz:s.node.nodes=s.nodes+1:=rfl
  have h:=zff sc ar (.cons k' nm' args' cond' body' els' at' r)
  have g1:=zow sc ar k nm args cond _ _ at_ f s.nodes s.node (zff sc ar body) (zff sc ar els) (by omega) (by omega) (by omega) (by omega)
  have n1:=g1.nodes
  simp only[mksS,blkF]at h ⊢
  have g2:=h s.nodes t a (stmF sc ar k nm args (zal sc ar cond) (mksS sc ar body) (mksS sc ar els) at_ f s.nodes s.node) (by omega) (by omega) (by omega) (by omega)
  exact Pt.seq g1 g2 rfl (by omega) h1 (by omega) (by omega) (by omega) (by omega) (by omega) h4 h4 h2 h2
theorem zfg {l:List Ed} {rk:Int→Nat} (h:∀e∈l,e.kind=1→rk e.to_ < rk e.from_) (node:Int):∀(n:Nat) (x:Int),walkR l node x n=true→rk node < rk x
 |0,_,h1=>by simp[walkR]at h1
 |n+1,x,h1=>by
  simp only[walkR]at h1
  split at h1
  ·rename_i e ho
   have hm:e∈outE l x:=by rw[ho];exact List.mem_singleton.2 rfl
   unfold outE at hm
   obtain⟨hm,hx⟩:=List.mem_filter.1 hm
   have hx:e.from_=x:=by simpa using hx
   split at h1
   ·rename_i hk
    have hd:=h e hm hk
    rw[hx]at hd
    split at h1
    ·rename_i ht
     rw[ht]at hd
     exact hd
    ·exact Nat.lt_trans (zfg h node n e.to_ h1) hd
   ·exact absurd h1 (by decide)
  ·exact absurd h1 (by decide)
theorem znC (t:Tre):2≤(grF t).nodes ∧(∀e∈(grF t).edges,(0≤e.from_∧e.from_ < (grF t).nodes)∧(0≤e.to_∧e.to_ < (grF t).nodes))∧∀e∈(grF t).edges,za6 (grF t).edges 1 e.from_=true:=by
 have h:=zff (zaE (t.vars.map (·.nm.data.toList))) (zaE (t.arrays.map (·.nm.data.toList))) t.main 0 1 0 ⟨2, []⟩ (by decide) (by decide) (by decide) (by decide)
 obtain⟨q,L,e1,c1,t1⟩:=h
 have e1:(grF t).edges =L:=e1
 have q:2≤(grF t).nodes :=q
 have hf:∀e∈L,e.from_=0∨(2≤e.from_∧e.from_ < (grF t).nodes):=c1.from_
 have ht:∀e∈L,e.to_=1∨e.to_=1∨e.to_=1∨(2≤e.to_∧e.to_ < (grF t).nodes):=t1
 rw[e1]
 refine⟨q,fun e he=>?_,fun e he=>?_⟩
 ·have h1:=hf e he
  have h2:=ht e he
  omega
 ·obtain⟨rk,_,hr⟩:=c1.rank fun _=>0
  have h1:=hf e he
  unfold za6
  simp only[Bool.and_eq_true]
  refine⟨⟨?_,c1.right e he⟩,?_⟩
  ·have:e.from_≠1:=by omega
   simpa using this
  ·cases hw:walkR L e.from_ e.from_ L.length
   ·rfl
   ·exact absurd (zfg hr _ _ _ hw) (Nat.lt_irrefl _)
end Go.Proofs.YtmfioehnhjjgpaaGreatDoor
