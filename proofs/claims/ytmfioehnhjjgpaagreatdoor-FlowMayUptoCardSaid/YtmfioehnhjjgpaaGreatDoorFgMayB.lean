/-
  The plain law of a bare tree's graph: places turn nothing but places. No walk.
-/
import Derived.Test.YtmfioehnhjjgpaaGreatDoorJnFg6
import Derived.Test.YtmfioehnhjjgpaaGreatDoorClBare
set_option linter.unusedVariables false
set_option linter.unusedSimpArgs false
namespace Go.Proofs.YtmfioehnhjjgpaaGreatDoor
open Go.RowKit Go.Shelf

theorem zbT (n:Nms):∀xs:Exs,zaO n xs.bare=(zaO n xs).bare
 | .nil =>rfl
 | .cons k nm m args at_ r=>by simp only[Exs.bare,zaO,zbT n args,zbT n r]
theorem zdu (n:Nms):∀xs:Cds,zbb n xs.bare=(zbb n xs).bare
 | .nil =>rfl
 | .cons k args of_ at_ r=>by simp only[Cds.bare,zbb,zbT,zdu n of_,zdu n r]
theorem zf4:∀xs ys:Sts,(Sts.app xs ys).bare =Sts.app xs.bare ys.bare
 | .nil,_=>rfl
 | .cons k nm args cond body els at_ r,ys=>by simp only[Sts.app,Sts.bare,zf4 r ys]
theorem zfm (p:ByteArray) (c:Nat) (n:Nms) (a:Int):∀(vs:List Va) (xs:Exs),zbx p c n 0 (vs.map Va.bare) xs.bare=(zbx p c n a vs xs).bare
 |v::vs,.cons k nm m args b r=>by
  have h:=zfm p c n a vs r
  have e:=zbT n (.cons k nm m args b .nil)
  simp only[Exs.bare]at e
  simp only[List.map_cons,Exs.bare,zbx,Sts.bare,h,e]
  rfl
 |v::vs,.nil =>rfl
 | [],xs=>by simp[zbx,Sts.bare]
theorem zhj (p:ByteArray) (c:Nat):∀(vs:List Va) (o:Nms),ownN p c (vs.map Va.bare) o=ownN p c vs o
 | [],_=>rfl
 |v::vs,o=>zhj p c vs _
theorem zdA:∀(l:List Prc) (y:List UInt8),zah (l.map Prc.bare) y=(zah l y).map Prc.bare
 | [],_=>rfl
 |x::r,y=>by
  simp only[List.map_cons,zah,zdA r y]
  cases zah r y with
  |some z=>rfl
  |none=>
   simp only[Option.map_none]
   show(if y=x.nm.data.toList then some x.bare else none)=_
   split<;>rfl
def Ist.bare (s:Ist):Ist:=⟨s.calls,s.vars.map Va.bare,s.many⟩
theorem zfn (s:Ist):zbs s.bare=zbs s:=by unfold zbs Ist.bare;simp
def brQ (q:Sts×Ist):Sts×Ist:=(q.1.bare,q.2.bare)
theorem zbU {call call':ByteArray→Exs→Nms→Int→Ist→Sts×Ist} (hc:∀nm args n at_ s,call' nm args.bare n 0 s.bare=brQ (call nm args n at_ s)):∀(xs:Sts) (n:Nms) (s:Ist),inlS call' xs.bare n s.bare=brQ (inlS call xs n s)
 | .nil,n,s=>rfl
 | .cons k nm args cond body els at_ r,n,s=>by
  have h1:=zbU hc r n (call nm args n at_ s).2
  have h2:=zbU hc body n ⟨s.calls,s.vars,s.many+1⟩
  have h3:=zbU hc els n (inlS call body n ⟨s.calls,s.vars,s.many+1⟩).2
  have h4:=zbU hc r n (inlS call els n (inlS call body n ⟨s.calls,s.vars,s.many+1⟩).2).2
  have h2':inlS call' body.bare n ⟨s.bare.calls,s.bare.vars,s.bare.many+1⟩=brQ (inlS call body n ⟨s.calls,s.vars,s.many+1⟩):=h2
  simp only[Sts.bare]
  unfold inlS
  rw[zfn]
  split
  ·rfl
  split
  ·rw[hc nm args n at_ s]
   show(Sts.app (call nm args n at_ s).1.bare (inlS call' r.bare n (call nm args n at_ s).2.bare).1,(inlS call' r.bare n (call nm args n at_ s).2.bare).2)=_
   rw[h1]
   unfold brQ
   simp only[zf4]
  ·rw[h2']
   simp only[brQ]at h3 h4 ⊢
   rw[h3]
   simp only
   rw[h4]
   simp only[Sts.bare,zbT,zdu]
theorem zjN {procs procs':List UInt8→Option Prc} (hp:∀y,procs' y=(procs y).map Prc.bare) {stm stm':Sts→Nms→Ist→Sts×Ist} (hs:∀xs n s,stm' xs.bare n s.bare=brQ (stm xs n s)) (nm:ByteArray) (args:Exs) (n:Nms) (at_:Int) (s:Ist):
  zcB procs' stm' nm args.bare n 0 s.bare=brQ (zcB procs stm nm args n at_ s):=by
 unfold zcB
 rw[hp]
 cases procs nm.data.toList with
 |none=>rfl
 |some x=>
  have h:=hs x.body (ownN x.nm (s.calls+1) x.params fun _=>none) ⟨s.calls+1,s.vars++x.params.map (fun v=>⟨parN x.nm (s.calls+1) v.nm,v.at_⟩),s.many+(x.params.length+1)⟩
  have h':stm' x.bare.body (ownN x.bare.nm (s.bare.calls+1) x.bare.params fun _=>none) ⟨s.bare.calls+1,s.bare.vars++x.bare.params.map (fun v=>⟨parN x.bare.nm (s.bare.calls+1) v.nm,v.at_⟩),s.bare.many+(x.bare.params.length+1)⟩=brQ (stm x.body (ownN x.nm (s.calls+1) x.params fun _=>none) ⟨s.calls+1,s.vars++x.params.map (fun v=>⟨parN x.nm (s.calls+1) v.nm,v.at_⟩),s.many+(x.params.length+1)⟩):=by
   rw[←h]
   show stm' x.body.bare (ownN x.nm (s.calls+1) (x.params.map Va.bare) fun _=>none) ⟨s.calls+1,s.vars.map Va.bare++(x.params.map Va.bare).map (fun v=>⟨parN x.nm (s.calls+1) v.nm,v.at_⟩),s.many+((x.params.map Va.bare).length +1)⟩=_
   rw[zhj,List.length_map]
   unfold Ist.bare
   simp only[List.map_append,List.map_map]
   rfl
  simp only[Option.map_some]
  rw[h']
  unfold brQ
  simp only[zf4]
  refine Prod.ext ?_ rfl
  show Sts.app (.cons 1 ⟨#[]⟩ .nil .nil .nil .nil 0 (zbx x.nm (s.calls+1) n 0 (x.params.map Va.bare) args.bare)) _=_
  rw[zfm x.nm (s.calls+1) n at_ x.params args]
  rfl
theorem zhk {procs procs':List UInt8→Option Prc} (hp:∀y,procs' y=(procs y).map Prc.bare):∀(f:Nat) (xs:Sts) (n:Nms) (s:Ist),inlF procs' f xs.bare n s.bare=brQ (inlF procs f xs n s)
 |0,xs,n,s=>zbU (call:=fun _ _ _ _ s=>(.nil,s)) (call':=fun _ _ _ _ s=>(.nil,s)) (fun _ _ _ _ _=>rfl) xs n s
 |f+1,xs,n,s=>zbU (zjN hp (zhk hp f)) xs n s
theorem zlY (t:Tre):inlQ t.bare=brQ (inlQ t):=by
 have h:=zhk (zdA t.procs) t.procs.length t.main (fun _=>none) ⟨0,t.vars,0⟩
 unfold inlQ
 rw[←h]
 show inlF (zah (t.procs.map Prc.bare)) (t.procs.map Prc.bare).length t.main.bare _ _=_
 rw[List.length_map]
 rfl
theorem zlZ (t:Tre):inlT t.bare=((inlT t).1.bare,(inlT t).2):=by
 unfold inlT
 rw[←zpC t,zlY]
 split
 ·show(if zbs (inlQ t).2.bare =true then _ else _)=_
  rw[zfn]
  split<;>rfl
 ·rfl
/-! graphs -/
theorem zet (sc ar:NoN):∀xs:Exs,numX sc ar xs.bare=(numX sc ar xs).bare
 | .nil =>rfl
 | .cons k nm m args at_ r=>by simp only[Exs.bare,numX,zet sc ar args,zet sc ar r]
def Ed.bz (e:Ed):Ed:=⟨e.from_,e.to_,e.kind,e.n,e.cmp,e.args.bare,0⟩
def FgS.bz (s:FgS):FgS:=⟨s.nodes,s.edges.map Ed.bz⟩
section
variable (sc ar:NoN)
theorem zhl (f t a k n c:Int) (xs:Exs) (s:FgS):s.bz.put sc ar f t 0 k n c xs.bare=(s.put sc ar f t a k n c xs).bz :=by
 unfold FgS.put FgS.bz
 simp only[List.map_append,List.map_cons,List.map_nil,zet,Ed.bz]
theorem zbY (f t a k n c:Int) (s:FgS):s.bz.put sc ar f t 0 k n c .nil =(s.put sc ar f t a k n c .nil).bz :=zhl sc ar f t a k n c .nil s
theorem zh2:∀(xs:Cds) (i:Nat) (f y n:Int) (s:FgS),nthW (zal sc ar xs.bare) i f y n s.bz=(nthW (zal sc ar xs) i f y n s).bz
 | .nil,i,f,y,n,s=>by
  simp only[Cds.bare,zal,nthW,List.getD_eq_getElem?_getD,List.getElem?_nil,Option.getD_none]
 | .cons k args of_ at_ r,i+1,f,y,n,s=>by
  have:=zh2 r i f y n s
  simpa only[Cds.bare,zal,nthW,List.getD_cons_succ]using this
 | .cons k args of_ at_ r,0,f,y,n,s=>by
  have ho:=zh2 of_
  show wayC sc ar k args.bare (zal sc ar of_.bare) 0 f y n s.bz=(wayC sc ar k args (zal sc ar of_) at_ f y n s).bz
  unfold wayC
  split
  ·exact zbY sc ar _ _ _ _ _ _ _
  split
  ·exact zbY sc ar _ _ _ _ _ _ _
  split
  ·exact ho 0 _ _ _ _
  split
  ·exact(congrArg _ (ho 0 f s.nodes n s.node)).trans (ho 1 _ _ _ _)
  split
  ·exact(congrArg _ (ho 0 f y s.nodes s.node)).trans (ho 1 _ _ _ _)
  ·rw[zhl sc ar f y at_,zhl sc ar f n at_]
theorem zoA (k:Int) (nm:ByteArray) (args:Exs) (cond:Cds) {b b' e e':List Mk} (a f t:Int) (s:FgS) (hb:∀f t a s,blkF sc ar b' f t 0 s.bz=(blkF sc ar b f t a s).bz) (he:∀f t a s,blkF sc ar e' f t 0 s.bz=(blkF sc ar e f t a s).bz):
  stmF sc ar k nm args.bare (zal sc ar cond.bare) b' e' 0 f t s.bz=(stmF sc ar k nm args (zal sc ar cond) b e a f t s).bz :=by
 have hw:=zh2 sc ar cond 0
 unfold stmF
 split
 ·exact zbY sc ar _ _ _ _ _ _ _
 split
 ·exact zhl sc ar _ _ _ _ _ _ _ _
 split
 ·exact zhl sc ar _ _ _ _ _ _ _ _
 split
 ·exact zbY sc ar _ _ _ _ _ _ _
 split
 ·have h:=hw f t s.nodes s.node
  show FgS.put sc ar s.nodes 1 0 8 0 0 .nil (nthW (zal sc ar cond.bare) 0 f t s.nodes s.node.bz)=_
  rw[h]
  exact zbY sc ar _ _ _ _ _ _ _
 split
 ·have h:=hw f t s.nodes s.node
  show FgS.put sc ar s.nodes 1 0 7 0 0 .nil (nthW (zal sc ar cond.bare) 0 f t s.nodes s.node.bz)=_
  rw[h]
  exact zbY sc ar _ _ _ _ _ _ _
 split
 ·show blkF sc ar e' (s.nodes+1) t 0 (blkF sc ar b' s.nodes t 0 (nthW (zal sc ar cond.bare) 0 f s.nodes (s.nodes+1) s.node.node.bz))=_
  rw[hw,hb _ _ a,he _ _ a]
 split
 ·show blkF sc ar b' (s.nodes+2) s.nodes 0 (nthW (zal sc ar cond.bare) 0 (s.nodes+1) (s.nodes+2) t ((s.node.node.node.bz.put sc ar f s.nodes 0 1 0 0 .nil).put sc ar s.nodes (s.nodes+1) 0 2 0 0 .nil))=_
  rw[zbY sc ar f s.nodes a,zbY sc ar s.nodes (s.nodes+1) a,hw,hb _ _ a]
 ·rfl
theorem zfo:∀(xs:Sts) (f t a:Int) (s:FgS),blkF sc ar (mksS sc ar xs.bare) f t 0 s.bz=(blkF sc ar (mksS sc ar xs) f t a s).bz
 | .nil,f,t,a,s=>by
  simp only[Sts.bare,mksS,blkF]
  exact zbY sc ar _ _ _ _ _ _ _
 | .cons k nm args cond body els at_ .nil,f,t,a,s=>by
  simp only[Sts.bare,mksS,blkF]
  exact zoA sc ar k nm args cond at_ f t s (zfo body) (zfo els)
 | .cons k nm args cond body els at_ (.cons k' nm' args' cond' body' els' at' r),f,t,a,s=>by
  have h:=zfo (.cons k' nm' args' cond' body' els' at' r)
  have hs:=zoA sc ar k nm args cond at_ f s.nodes s.node (zfo body) (zfo els)
  simp only[Sts.bare,mksS,blkF]at h ⊢
  rw[←h s.nodes t a]
  exact congrArg _ hs
end
theorem znH (t:Tre):grF t.bare=(grF t).bz :=by
 have e1:(t.bare.vars.map (·.nm.data.toList))=t.vars.map (·.nm.data.toList):=by
  show(t.vars.map Va.bare).map _=_
  rw[List.map_map];rfl
 have e2:(t.bare.arrays.map (·.nm.data.toList))=t.arrays.map (·.nm.data.toList):=by
  show(t.arrays.map Arr.bare).map _=_
  rw[List.map_map];rfl
 unfold grF
 rw[e1,e2]
 exact zfo _ _ t.main 0 1 0 ⟨2, []⟩
theorem zl0 (t:Tre):(graT t.bare).2 =(graT t).2 ∧(graT t.bare).1.nodes =(graT t).1.nodes ∧(graT t.bare).1.vars =(graT t).1.vars ∧(graT t.bare).1.edges =(graT t).1.edges.map Ed.bz:=by
 unfold graT
 rw[zlZ]
 simp only[znH]
 split
 ·have e:((grF (inlT t).1).bz.edges.length)=(grF (inlT t).1).edges.length :=by unfold FgS.bz;simp
  have e':(grF (inlT t).1).bz.nodes =(grF (inlT t).1).nodes :=rfl
  rw[e,e']
  split
  ·exact⟨rfl,rfl,rfl,rfl⟩
  ·refine⟨rfl,rfl,?_,rfl⟩
   show(((inlT t).1.vars.map Va.bare).length :Int)=_
   rw[List.length_map]
 ·exact⟨rfl,rfl,rfl,rfl⟩
end Go.Proofs.YtmfioehnhjjgpaaGreatDoor
