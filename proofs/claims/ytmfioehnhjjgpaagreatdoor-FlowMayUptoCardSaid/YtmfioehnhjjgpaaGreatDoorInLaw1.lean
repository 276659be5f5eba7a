/-
  Plain laws of inlining: no calls are left; how many statements there are; new names are apart. No walk.
-/
import Derived.Test.YtmfioehnhjjgpaaGreatDoorJgCl
import Derived.Lib.ItoaLen
set_option linter.unusedVariables false
set_option linter.unusedSimpArgs false
namespace Go.Proofs.YtmfioehnhjjgpaaGreatDoor
open Go.RowKit Go.Shelf Go.Maps

def cntS:Sts→Nat
 | .nil =>0
 | .cons _ _ _ _ body els _ r=>1+cntS body+cntS els+cntS r
def anyS:Sts→Bool
 | .nil =>false
 | .cons k _ _ _ body els _ r=>anyS body || anyS els || k==9 || anyS r
theorem zfI:∀(xs ys:Sts),cntS (Sts.app xs ys)=cntS xs+cntS ys
 | .nil,ys=>by simp[Sts.app,cntS]
 | .cons _ _ _ _ body els _ r,ys=>by simp only[Sts.app,cntS,zfI r ys];omega
theorem zfJ:∀(xs ys:Sts),anyS (Sts.app xs ys)=(anyS xs || anyS ys)
 | .nil,ys=>by simp[Sts.app,anyS]
 | .cons _ _ _ _ body els _ r,ys=>by simp only[Sts.app,anyS,zfJ r ys,Bool.or_assoc]
theorem zgO (p:ByteArray) (c:Nat) (n:Nms) (at_:Int):∀(vs:List Va) (xs:Exs),anyS (zbx p c n at_ vs xs)=false
 |v::vs,.cons k nm m a b r=>by simp[zbx,anyS,zgO p c n at_ vs r]
 |v::vs,.nil =>by simp[zbx,anyS]
 | [],_=>by simp[zbx,anyS]
theorem zgP (p:ByteArray) (c:Nat) (n:Nms) (at_:Int):∀(vs:List Va) (xs:Exs),vs.length=xs.len→cntS (zbx p c n at_ vs xs)=vs.length
 |v::vs,.cons k nm m a b r,h=>by
  have:=zgP p c n at_ vs r (by simpa[Exs.len]using h)
  simp only[zbx,cntS,this,List.length_cons];omega
 |v::vs,.nil,h=>by simp[Exs.len]at h
 | [],_,h=>by simp[zbx,cntS]
theorem zbP {call:ByteArray→Exs→Nms→Int→Ist→Sts×Ist} (hc:∀nm args n at_ s,anyS (call nm args n at_ s).1 =false):∀(xs:Sts) (n:Nms) (s:Ist),anyS (inlS call xs n s).1 =false
 | .nil,n,s=>rfl
 | .cons k nm args cond body els at_ r,n,s=>by
  unfold inlS
  split
  ·rfl
  split
  ·simp only[zfJ,hc,zbP hc r,Bool.or_self]
  ·rename_i h1 h2
   simp only[anyS,zbP hc r,zbP hc body,zbP hc els,Bool.or_false,Bool.false_or]
   simpa using h2
theorem zgQ (procs:List UInt8→Option Prc):∀(f:Nat) (xs:Sts) (n:Nms) (s:Ist),anyS (inlF procs f xs n s).1 =false
 |0,xs,n,s=>zbP (fun _ _ _ _ _=>rfl) xs n s
 |f+1,xs,n,s=>zbP (fun nm args n at_ s=>by
  unfold zcB
  cases procs nm.data.toList with
  |none=>rfl
  |some x=>simp only[zfJ,zgQ procs f,anyS,zgO,Bool.or_self,Bool.or_false,beq_eq_false_iff_ne,ne_eq];decide) xs n s
theorem zbm {procs:List UInt8→Option Prc} {low:Sts→Prop} {call:ByteArray→Exs→Nms→Int→Ist→Sts×Ist} (hc:∀(nm:ByteArray) args n at_ s,(∃x,procs nm.data.toList=some x∧x.params.length=args.len∧low x.body)→(call nm args n at_ s).2.many =s.many+cntS (call nm args n at_ s).1):
  ∀(xs:Sts) (n:Nms) (s:Ist),LvB procs low xs→(inlS call xs n s).2.many =s.many+cntS (inlS call xs n s).1
 | .nil,n,s,_=>rfl
 | .cons k nm args cond body els at_ r,n,s,⟨h0,h1,h2,h3⟩=>by
  unfold inlS
  split
  ·rfl
  split
  ·rename_i _ h9
   have a:=hc nm args n at_ s (h0 h9)
   have b:=zbm hc r n (call nm args n at_ s).2 h3
   simp only[zfI]
   omega
  ·have a:=zbm hc body n ⟨s.calls,s.vars,s.many+1⟩ h1
   have b:=zbm hc els n (inlS call body n ⟨s.calls,s.vars,s.many+1⟩).2 h2
   have c:=zbm hc r n (inlS call els n (inlS call body n ⟨s.calls,s.vars,s.many+1⟩).2).2 h3
   simp only[cntS]at a b c ⊢
   omega
theorem ze1 (procs:List UInt8→Option Prc):∀(f:Nat) (xs:Sts) (n:Nms) (s:Ist),Lv procs f xs→(inlF procs f xs n s).2.many =s.many+cntS (inlF procs f xs n s).1
 |0,xs,n,s,h=>zbm (procs:=procs) (low:=fun _=>False) (fun _ _ _ _ _ ⟨_,_,_,h⟩=>h.elim) xs n s h
 |f+1,xs,n,s,h=>zbm (procs:=procs) (low:=Lv procs f) (fun nm args n at_ s ⟨x,e,hl,hlow⟩=>by
  unfold zcB
  rw[e]
  have a:=ze1 procs f x.body (ownN x.nm (s.calls+1) x.params fun _=>none) ⟨s.calls+1,s.vars++x.params.map (fun v=>⟨parN x.nm (s.calls+1) v.nm,v.at_⟩),s.many+(x.params.length+1)⟩ hlow
  simp only[zfI,cntS,zgP _ _ _ _ _ _ hl]at a ⊢
  omega) xs n s h
/-! ### names -/
def dotF (b:ByteArray):Prop:=(46:UInt8)∉b.data.toList
theorem zek:∀ {l l' r r':List UInt8},(46:UInt8)∉l→(46:UInt8)∉l'→l++46::r=l'++46::r'→l=l'∧r=r'
 | [], [],r,r',_,_,h=>⟨rfl,by simpa using h⟩
 | [],x::l',r,r',_,h',h=>by
  simp only[List.nil_append,List.cons_append,List.cons.injEq]at h
  exact absurd h.1 (fun e=>h' (by simp[←e]))
 |x::l, [],r,r',h',_,h=>by
  simp only[List.nil_append,List.cons_append,List.cons.injEq]at h
  exact absurd h.1 (fun e=>h' (by simp[e]))
 |x::l,y::l',r,r',hl,hl',h=>by
  simp only[List.cons_append,List.cons.injEq]at h
  have:=zek (l:=l) (l':=l') (fun m=>hl (by simp[m])) (fun m=>hl' (by simp[m])) h.2
  exact⟨by rw[h.1,this.1],this.2⟩
theorem zjt (u:Nat):zbZ (Lib.decDigits u):=by
 induction u using Nat.strongRecOn with
 |_ u ih=>
  rw[Lib.decDigits]
  split
  ·intro b hb
   simp only[List.mem_singleton]at hb
   subst hb
   rw[zaT]
   have:(UInt8.ofNat (48+u)).toNat =48+u:=by simp;omega
   omega
  ·intro b hb
   rcases List.mem_append.1 hb with hb|hb
   ·exact ih (u / 10) (by omega) b hb
   ·simp only[List.mem_singleton]at hb
    subst hb
    rw[zaT]
    have:(UInt8.ofNat (48+u % 10)).toNat =48+u % 10:=by simp;omega
    omega
theorem ze2 (u:Nat):decV (Lib.decDigits u)=u:=by
 induction u using Nat.strongRecOn with
 |_ u ih=>
  rw[Lib.decDigits]
  split
  ·have:(UInt8.ofNat (48+u)).toNat =48+u:=by simp;omega
   simp only[zcH,zbJ,this]
   simp[decA]
  ·have:(UInt8.ofNat (48+u % 10)).toNat =48+u % 10:=by simp;omega
   have h:=ih (u / 10) (by omega)
   rw[zcH]at h ⊢
   rw[zc9,h,this]
   omega
theorem zgR (c:Nat):(46:UInt8)∉Lib.itoa (c:Int):=by
 rw[Lib.itoa_nonneg]
 intro h
 have:=(zaT _).1 (zjt c _ h)
 have h6:(46:UInt8).toNat =46:=by decide
 omega
theorem zna {c d:Nat} (h:Lib.itoa (c:Int)=Lib.itoa (d:Int)):c=d:=by
 rw[Lib.itoa_nonneg,Lib.itoa_nonneg]at h
 rw[←ze2 c,h,ze2]
theorem zcb (p:ByteArray) (c:Nat) (v:ByteArray):(parN p c v).data.toList =p.data.toList++46::(Lib.itoa (c:Int)++46::v.data.toList):=by
 simp[parN,dotB,ByteArray.data_append]
theorem zir {p q:ByteArray} {c d:Nat} {u v:ByteArray} (hp:dotF p) (hq:dotF q) (h:(parN p c u).data.toList =(parN q d v).data.toList):p.data.toList=q.data.toList∧c=d∧u.data.toList=v.data.toList:=by
 rw[zcb,zcb]at h
 obtain⟨h1,h2⟩:=zek hp hq h
 obtain⟨h3,h4⟩:=zek (zgR c) (zgR d) h2
 exact⟨h1,zna h3,h4⟩
theorem zgS {p:UInt8→Bool}:∀ {l:List UInt8},runB p l=l.length→∀b∈l,p b=true
 | [],_,b,hb=>by simp at hb
 |x::r,h,b,hb=>by
  unfold runB at h
  by_cases hx:p x=true
  ·rw[List.takeWhile_cons_of_pos hx]at h
   rcases List.mem_cons.1 hb with rfl|hb
   ·exact hx
   ·exact zgS (l:=r) (by unfold runB;simpa using h) b hb
  ·rw[List.takeWhile_cons_of_neg hx]at h
   simp at h
theorem zgT {b:ByteArray} (h:zaN b.data.toList=true):dotF b:=fun hm=>by
 unfold zaN at h
 simp only[Bool.and_eq_true,beq_iff_eq]at h
 have:=zgS h.1.1.1.1 _ hm
 simp[isWd,ziQ,zax]at this
theorem zhN (p:ByteArray) (c:Nat) (v:ByteArray):zaN (parN p c v).data.toList =false:=by
 cases h:zaN (parN p c v).data.toList with
 |false=>rfl
 |true=>exact absurd (zgT h) (fun hd=>hd (by rw[zcb];simp))
structure NewsOk (a b:Nat) (news:List Va):Prop where
 mem:∀v∈news,∃(x u:ByteArray) (c:Nat),a < c∧c≤b∧dotF x∧v.nm=parN x c u∧x.size≤16∧u.size≤16
 apart:(nmV news).Nodup
theorem NewsOk.nil (a b:Nat):NewsOk a b []:=⟨by simp,by simp[nmV]⟩
theorem NewsOk.app {a b c:Nat} {l m:List Va} (hab:a≤b) (hbc:b≤c) (hl:NewsOk a b l) (hm:NewsOk b c m):NewsOk a c (l++m):=by
 refine⟨fun v hv=>?_,?_⟩
 ·rcases List.mem_append.1 hv with hv|hv
  ·obtain⟨x,u,d,h1,h2,h3⟩:=hl.mem v hv
   exact⟨x,u,d,h1,by omega,h3⟩
  ·obtain⟨x,u,d,h1,h2,h3⟩:=hm.mem v hv
   exact⟨x,u,d,by omega,h2,h3⟩
 ·unfold nmV
  rw[List.map_append,List.nodup_append]
  refine⟨hl.apart,hm.apart,fun y hy z hz e=>?_⟩
  obtain⟨v,hv,rfl⟩:=List.mem_map.1 hy
  obtain⟨v',hv',rfl⟩:=List.mem_map.1 hz
  obtain⟨x,u,d,h1,h2,h3,h4,_⟩:=hl.mem v hv
  obtain⟨x',u',d',h1',h2',h3',h4',_⟩:=hm.mem v' hv'
  rw[h4,h4']at e
  have:=(zir h3 h3' e).2.1
  omega
def NewsP (s s':Ist):Prop:=s.calls≤s'.calls∧s'.calls+s.many≤s.calls+s'.many∧∃news,s'.vars=s.vars++news∧NewsOk s.calls s'.calls news
theorem NewsP.refl (s:Ist):NewsP s s:=⟨lrq _,lrq _, [],by simp,NewsOk.nil _ _⟩
theorem NewsP.trans {a b c:Ist} (h:NewsP a b) (k:NewsP b c):NewsP a c:=by
 obtain⟨h1,hm1,l,h2,h3⟩:=h
 obtain⟨k1,km1,m,k2,k3⟩:=k
 exact⟨leq9 h1 k1,by omega,l++m,by rw[k2,h2,List.append_assoc],h3.app h1 k1 k3⟩
theorem zaK {call:ByteArray→Exs→Nms→Int→Ist→Sts×Ist} (hc:∀nm args n at_ s,NewsP s (call nm args n at_ s).2):∀(xs:Sts) (n:Nms) (s:Ist),NewsP s (inlS call xs n s).2
 | .nil,n,s=>NewsP.refl s
 | .cons k nm args cond body els at_ r,n,s=>by
  unfold inlS
  split
  ·exact NewsP.refl s
  split
  ·exact(hc _ _ _ _ _).trans (zaK hc r n _)
  ·have a:=zaK hc body n ⟨s.calls,s.vars,s.many+1⟩
   have a':NewsP s (inlS call body n ⟨s.calls,s.vars,s.many+1⟩).2 :=⟨a.1,by have:=a.2.1;simp only at this;omega,a.2.2⟩
   exact(a'.trans (zaK hc els n _)).trans (zaK hc r n _)
def zdl (procs:List UInt8→Option Prc):Prop:=∀y x,procs y=some x→dotF x.nm∧(nmV x.params).Nodup ∧x.nm.size≤16∧∀v∈x.params,v.nm.size≤16
theorem zdm {procs:List UInt8→Option Prc} (hp:zdl procs) {stm:Sts→Nms→Ist→Sts×Ist} (hs:∀xs n s,NewsP s (stm xs n s).2) (nm:ByteArray) (args:Exs) (n:Nms) (at_:Int) (s:Ist):NewsP s (zcB procs stm nm args n at_ s).2 :=by
 unfold zcB
 cases e:procs nm.data.toList with
 |none=>exact NewsP.refl s
 |some x=>
  obtain⟨h1,h2,hz1,hz2⟩:=hp _ _ e
  have h3:=hs x.body (ownN x.nm (s.calls+1) x.params fun _=>none) ⟨s.calls+1,s.vars++x.params.map (fun v=>⟨parN x.nm (s.calls+1) v.nm,v.at_⟩),s.many+(x.params.length+1)⟩
  refine NewsP.trans ?_ h3
  refine⟨Nat.le_succ _,by simp only;omega,_,rfl,⟨fun v hv=>?_,?_⟩⟩
  ·obtain⟨u,hu,rfl⟩:=List.mem_map.1 hv
   exact⟨x.nm,u.nm,s.calls+1,Nat.lt_succ_self _,lrq _,h1,rfl,hz1,hz2 u hu⟩
  ·unfold nmV at h2 ⊢
   rw[List.map_map]
   rw[List.nodup_iff_pairwise_ne,List.pairwise_map]at h2 ⊢
   exact h2.imp fun {u v} huv e=>huv (zir h1 h1 e).2.2
theorem zcc {procs:List UInt8→Option Prc} (hp:zdl procs):∀(f:Nat) (xs:Sts) (n:Nms) (s:Ist),NewsP s (inlF procs f xs n s).2
 |0,xs,n,s=>zaK (fun _ _ _ _ s=>NewsP.refl s) xs n s
 |f+1,xs,n,s=>zaK (zdm hp (zcc hp f)) xs n s
theorem ze3:∀ {xs:List Prc} {kn:Kn},zgK xs kn→∀x∈xs,(nmV x.params).Nodup
 | [],_,_,_,h=>by simp at h
 |p::r,kn,⟨⟨_,h2,_⟩,h4⟩,x,hx=>by
  rcases List.mem_cons.1 hx with rfl|hx
  ·exact(freshL_iff.1 h2).2
  ·exact ze3 h4 x hx
theorem zfK {t:Tre} (h:OkT t):zdl (zah t.procs):=fun y x e=>by
 obtain⟨hx,_⟩:=zbO e
 have ht:=h.tree
 unfold okTr okPs zb9 at ht
 simp only[Bool.and_eq_true,List.all_eq_true]at ht
 have hs:∀ {b:ByteArray},zaN b.data.toList=true→b.size≤16:=fun {b} h=>by
  unfold zaN at h
  simp only[Bool.and_eq_true,decide_eq_true_eq,beq_iff_eq]at h
  have h1:=h.1.1.1.1
  have h2:=h.1.1.2
  rw[zaW]at h1
  omega
 exact⟨zgT (ht.2 x hx).1.1,ze3 h.each x hx,hs (ht.2 x hx).1.1,fun v hv=>hs (by have:=(ht.2 x hx).1.2;unfold okVs zcw at this;simp only[List.all_eq_true]at this;exact this v hv)⟩
theorem zfL {t:Tre} (h:OkT t) (hf:zbs (inlQ t).2 =false):
  anyS (inlQ t).1 =false∧cntS (inlQ t).1 ≤256∧(inlQ t).2.vars.length ≤32∧∃news,(inlQ t).2.vars =t.vars++news∧(∀v∈news,zaN v.nm.data.toList=false)∧(nmV (t.vars++news)).Nodup ∧∀v∈news,v.nm.size≤64:=by
 have hc:=ze1 (zah t.procs) t.procs.length t.main (fun _=>none) ⟨0,t.vars,0⟩ (ziq h)
 obtain⟨_,hcm,news,hn,hok⟩:=zcc (zfK h) t.procs.length t.main (fun _=>none) ⟨0,t.vars,0⟩
 have hm:(inlQ t).2.many =0+cntS (inlQ t).1 :=hc
 unfold zbs at hf
 simp only[Bool.or_eq_false_iff,decide_eq_false_iff_not]at hf
 have hno:∀v∈news,zaN v.nm.data.toList=false:=fun v hv=>by
  obtain⟨x,u,c,_,_,_,e,_⟩:=hok.mem v hv
  rw[e];exact zhN _ _ _
 refine⟨zgQ _ _ _ _ _,by omega,by omega,news,hn,hno,?_,fun v hv=>?_⟩
 rotate_left
 ·obtain⟨x,u,c,_,hc2,_,e,h1,h2⟩:=hok.mem v hv
  have hq:c≤256:=by
   have a1:(inlQ t).2.calls +0≤0+(inlQ t).2.many :=hcm
   have a2:c≤(inlQ t).2.calls :=hc2
   omega
  have h3:=Lib.itoa_length_le (c:Int) (by omega) (by omega)
  have h4:v.nm.size=x.size+(((Lib.itoa (c:Int)).length +(u.size+1))+1):=by
   rw[e,←zaW,zcb]
   simp only[List.length_append,List.length_cons,zaW]
  omega
 unfold nmV
 rw[List.map_append,List.nodup_append]
 refine⟨(freshL_iff.1 h.vars).2,hok.apart,fun y hy z hz e=>?_⟩
 obtain⟨v,hv,rfl⟩:=List.mem_map.1 hy
 obtain⟨v',hv',rfl⟩:=List.mem_map.1 hz
 have ht:=h.tree
 unfold okTr okVs zcw at ht
 simp only[Bool.and_eq_true,List.all_eq_true]at ht
 have h1:=ht.1.1.1 v hv
 have h2:=hno v' hv'
 rw[e,h2]at h1
 cases h1
end Go.Proofs.YtmfioehnhjjgpaaGreatDoor
