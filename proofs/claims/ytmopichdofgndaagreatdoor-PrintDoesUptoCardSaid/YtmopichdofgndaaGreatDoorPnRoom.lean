/-
  How long a tree's text is at most, by how much of it there is; numbers of a tree in memory. No walk.
-/
import Derived.Test.YtmopichdofgndaaGreatDoorTrBulk
import Derived.Test.YtmopichdofgndaaGreatDoorJnPnG
import Derived.Lib.ItoaLen
set_option linter.unusedVariables false
set_option linter.unusedSimpArgs false
namespace Go.Proofs.YtmopichdofgndaaGreatDoor
open Go.RowKit

def totX:List (Nat×Tx)→Nat
 | []=>0
 |p::r=>sumT p.2+10+totX r
def totS:List Tx→Nat
 | []=>0
 |p::r=>sumT p+10+totS r
theorem sumT_cons (t:List UInt8) (r:Tx):sumT (t::r)=t.length+1+sumT r:=rfl
theorem nth_two:∀l:List (Nat×Tx),sumT (nthX l 0).2 +sumT (nthX l 1).2 ≤totX l
 | []=>by simp[nthX,sumT]
 | [a]=>by simp[nthX,sumT,totX]
 |a::b::r=>by simp[nthX,totX];omega
theorem nth_0 (l:List (Nat×Tx)):sumT (nthX l 0).2 ≤totX l:=by have:=nth_two l;omega
theorem arE_len (n:Nat) (p:Nat×Tx):sumT (arE n p)≤sumT p.2+4:=by
 unfold arE
 split
 ·simp only[sumT_cons,sumT_app,List.length_cons,List.length_nil,sumT];omega
 ·omega
theorem arC_len (n:Nat) (p:Nat×Tx):sumT (arC n p)≤sumT p.2+4:=by
 unfold arC
 split
 ·simp only[sumT_cons,sumT_app,List.length_cons,List.length_nil,sumT];omega
 ·omega
theorem sgnE_len (k:Int):(sgnE k).length ≤2:=by
 unfold sgnE
 repeat' split
 all_goals simp
theorem sgnC_len (k:Int):(sgnC k).length ≤2:=by
 unfold sgnC
 repeat' split
 all_goals simp
theorem itoa_20 {n:Int} (h0:0≤n) (h1:n≤9223372036854775807):(Lib.itoa n).length ≤21:=by
 have:=Lib.itoa_length_le n (by omega) (by omega)
 omega
theorem innE_len {k:Int} {nm:ByteArray} {n:Int} {a:List (Nat×Tx)} (h0:0≤n) (h1:n≤9223372036854775807):sumT (innE k nm n a)≤30+nm.size+totX a:=by
 have a0:=arE_len 0 (nthX a 0)
 have a4:=arE_len 4 (nthX a 0)
 have al:=arE_len (lvlE k) (nthX a 0)
 have ar:=arE_len (lvlE k+1) (nthX a 1)
 have t:=nth_two a
 have i:=itoa_20 h0 h1
 have g:=sgnE_len k
 have hs:nm.data.toList.length=nm.size:=by rw[Array.length_toList];rfl
 unfold innE
 repeat' split
 all_goals simp only[sumT_cons,sumT_app,List.length_cons,List.length_nil,sumT,hs]
 all_goals omega
theorem innC_len {k:Int} {a c:List (Nat×Tx)}:sumT (innC k a c)≤40+totX a+totX c:=by
 have a0:=arE_len 0 (nthX a 0)
 have a1:=arE_len 0 (nthX a 1)
 have c3:=arC_len 3 (nthX c 0)
 have c2:=arC_len 2 (nthX c 0)
 have c1:=arC_len 1 (nthX c 0)
 have d3:=arC_len 3 (nthX c 1)
 have d2:=arC_len 2 (nthX c 1)
 have t:=nth_two a
 have u:=nth_two c
 have g:=sgnC_len k
 unfold innC
 repeat' split
 all_goals simp only[sumT_cons,sumT_app,List.length_cons,List.length_nil,sumT]
 all_goals omega
theorem betw_len:∀l:List Tx,sumT (betw l)≤totS l
 | []=>by simp[betw,sumT]
 | [x]=>by simp[betw,totS]
 |x::y::r=>by
  have:=betw_len (y::r)
  simp only[betw,sumT_app,sumT_cons,List.length_cons,List.length_nil]
  simp only[totS]at this ⊢
  omega
theorem flat_len:∀l:List Tx,sumT l.flatten≤totS l
 | []=>by simp[sumT]
 |x::r=>by
  have:=flat_len r
  simp only[List.flatten_cons,sumT_app,totS]
  omega
theorem blkT_len (l:List Tx):sumT (blkT l)≤4+totS l:=by
 have:=flat_len l
 unfold blkT
 simp only[sumT_cons,sumT_app,List.length_cons,List.length_nil,sumT]
 omega
theorem map_arE:∀l:List (Nat×Tx),totS (l.map (arE 0))≤2*totX l
 | []=>by simp[totS]
 |p::r=>by
  have:=map_arE r
  have h:=arE_len 0 p
  simp only[List.map_cons,totS,totX]
  omega
theorem askT_len (w:List UInt8) (c:List (Nat×Tx)):sumT (askT w c)≤w.length+12+totX c:=by
 have h:=arC_len 0 (nthX c 0)
 have h2:=nth_0 c
 unfold askT
 simp only[sumT_cons,sumT_app,List.length_cons,List.length_nil,sumT]
 omega
theorem innS_len {k:Int} {nm:List UInt8} {a c:List (Nat×Tx)} {b e:List Tx}:sumT (innS k nm a c b e)≤60+nm.length+2*totX a+totX c+totS b+totS e:=by
 have a0:=arE_len 0 (nthX a 0)
 have a1:=arE_len 0 (nthX a 1)
 have t:=nth_two a
 have hb:=blkT_len b
 have he:=blkT_len e
 have h1:=askT_len [105,102] c
 have h2:=askT_len [119,104,105,108,101] c
 have h3:=askT_len [97,115,115,117,109,101] c
 have h4:=askT_len [97,115,115,101,114,116] c
 have h5:=betw_len (a.map (arE 0))
 have h6:=map_arE a
 simp only[List.length_cons,List.length_nil]at h1 h2 h3 h4
 unfold innS
 repeat' split
 all_goals simp only[sumT_cons,sumT_app,List.length_cons,List.length_nil,sumT]
 all_goals omega
theorem totX_le:∀ {xs:Exs},okX xs=true→rgX xs→totX (txX xs)≤40*mX xs
 | .nil,_,_=>by simp[txX,totX]
 | .cons k nm n args at_ r,h,⟨r0,r1,r2⟩=>by
  simp only[okX,Bool.and_eq_true,decide_eq_true_eq]at h
  have h0:0≤n:=h.1.1.1.1.1.2
  have i1:=totX_le h.1.2 r1
  have i2:=totX_le h.2 r2
  have i3:=innE_len (k:=k) (nm:=nm) (a:=txX args) h0 r0
  simp only[txX,totX,mX]
  omega
theorem totC_le:∀ {xs:Cds},okC xs=true→rgC xs→totX (txC xs)≤50*mC xs
 | .nil,_,_=>by simp[txC,totX]
 | .cons k args of_ at_ r,h,⟨r0,r1,r2⟩=>by
  simp only[okC,Bool.and_eq_true]at h
  have i1:=totX_le h.1.1.2 r0
  have i2:=totC_le h.1.2 r1
  have i3:=totC_le h.2 r2
  have i4:=innC_len (k:=k) (a:=txX args) (c:=txC of_)
  simp only[txC,totX,mC]
  omega
theorem totS_le:∀ {xs:Sts},okS xs=true→rgS xs→totS (txS xs)≤100*mS xs
 | .nil,_,_=>by simp[txS,totS]
 | .cons k nm args cond body els at_ r,h,⟨r0,r1,r2,r3,r4⟩=>by
  simp only[okS,Bool.and_eq_true]at h
  have i1:=totX_le h.1.1.1.1.2 r0
  have i2:=totC_le h.1.1.1.2 r1
  have i3:=totS_le h.1.1.2 r2
  have i4:=totS_le h.1.2 r3
  have i5:=totS_le h.2 r4
  have i6:=innS_len (k:=k) (nm:=nm.data.toList) (a:=txX args) (c:=txC cond) (b:=txS body) (e:=txS els)
  have hs:nm.data.toList.length=nm.size:=by rw[Array.length_toList];rfl
  simp only[txS,totS,mS]
  omega
theorem namT_len:∀vs:List Va,totS (vs.map fun v=> [v.nm.data.toList])≤20*mV vs
 | []=>by simp[totS]
 |v::r=>by
  have:=namT_len r
  have hs:v.nm.data.toList.length=v.nm.size:=by rw[Array.length_toList];rfl
  simp only[List.map_cons,totS,sumT,mV,hs]
  omega
theorem arrT_len:∀ {xs:List Arr},(∀x∈xs,0≤x.size∧x.size≤9223372036854775807)→totS (xs.map arrT)≤50*mA xs
 | [],_=>by simp[totS]
 |x::r,h=>by
  have:=arrT_len (xs:=r) fun y hy=>h y (List.mem_cons_of_mem _ hy)
  have h1:=h x (List.mem_cons_self ..)
  have i:=itoa_20 h1.1 h1.2
  have hs:x.nm.data.toList.length=x.nm.size:=by rw[Array.length_toList];rfl
  simp only[List.map_cons,totS,arrT,sumT,mA,hs,List.length_cons,List.length_nil]
  omega
theorem prcs_len:∀ {ps:List Prc},(∀p∈ps,okS p.body=true∧rgS p.body)→sumT (ps.flatMap prcT)≤100*mP ps
 | [],_=>by simp[sumT]
 |p::r,h=>by
  have:=prcs_len (ps:=r) fun y hy=>h y (List.mem_cons_of_mem _ hy)
  have h1:=h p (List.mem_cons_self ..)
  have i1:=totS_le h1.1 h1.2
  have i2:=namT_len p.params
  have i3:=betw_len (p.params.map fun v=> [v.nm.data.toList])
  have i4:=blkT_len (txS p.body)
  have hs:p.nm.data.toList.length=p.nm.size:=by rw[Array.length_toList];rfl
  simp only[List.flatMap_cons,sumT_app,prcT,namT,sumT_cons,List.length_cons,List.length_nil,hs,mP]
  omega
theorem treT_room {t:Tre} (h:okTr t=true) (hr:RgT t):sumT (treT t)≤100*mT t+100:=by
 unfold okTr at h
 simp only[Bool.and_eq_true]at h
 obtain⟨⟨⟨h1,h2⟩,h3⟩,h4⟩:=h
 have i1:=totS_le h2 hr.main
 have i2:=namT_len t.vars
 have i3:=betw_len (t.vars.map fun v=> [v.nm.data.toList])
 have i4:=arrT_len (xs:=t.arrays) fun x hx=>⟨by
  have:=List.all_eq_true.1 h3 x hx
  simp only[Bool.and_eq_true,decide_eq_true_eq]at this
  exact this.2,hr.arrays x hx⟩
 have i5:=betw_len (t.arrays.map arrT)
 have i6:=prcs_len (ps:=t.procs) fun p hp=>⟨by
  have:=List.all_eq_true.1 h4 p hp
  simp only[Bool.and_eq_true]at this
  exact this.2,hr.procs p hp⟩
 have i7:=blkT_len (txS t.main)
 have j1:sumT (varsT t.vars)≤20+totS (t.vars.map fun v=> [v.nm.data.toList]):=by
  unfold varsT namT
  split
  ·simp[sumT]
  ·simp only[sumT_cons,sumT_app,List.length_cons,List.length_nil,sumT];omega
 have j2:sumT (arrsT t.arrays)≤20+totS (t.arrays.map arrT):=by
  unfold arrsT
  split
  ·simp[sumT]
  ·simp only[sumT_cons,sumT_app,List.length_cons,List.length_nil,sumT];omega
 unfold treT mT
 simp only[sumT_app,sumT_cons,List.length_cons,List.length_nil]
 omega
/-! numbers of a tree in memory -/
section
variable {w:World} {S:Nat→Prop} {Z:Prop}
theorem rgX_of:∀ {xs:Exs} {b o:Nat},ExR w S Z xs b o→rgX xs
 | .nil,_,_,_=>trivial
 | .cons k nm n args at_ r,b,o,⟨⟨_,_,_,h,_⟩,⟨A,c,_,hs⟩,hr⟩=>⟨h.2,by
  by_cases hl:0 < args.len
  ·obtain⟨b',o',_,hx⟩:=hs.2.2 hl
   exact rgX_of hx
  ·cases args with
   |nil=>trivial
   |cons _ _ _ _ _ _=>exact absurd (Nat.succ_pos _) hl,rgX_of hr⟩
theorem rgX_sl {xs:Exs} {A:Option Addr} {c:Nat} (hs:SlR (fun b o=>ExR w S Z xs b o) xs.len 64 A c):rgX xs:=by
 cases xs with
 |nil=>trivial
 |cons _ _ _ _ _ _=>
  obtain⟨b',o',_,hx⟩:=hs.2.2 (Nat.succ_pos _)
  exact rgX_of hx
theorem rgC_of:∀ {xs:Cds} {b o:Nat},CdR w S Z xs b o→rgC xs
 | .nil,_,_,_=>trivial
 | .cons k args of_ at_ r,b,o,⟨_,⟨A,c,_,hs⟩,⟨A2,c2,_,hs2⟩,hr⟩=>⟨rgX_sl hs,by
  by_cases hl:0 < of_.len
  ·obtain⟨b',o',_,hx⟩:=hs2.2.2 hl
   exact rgC_of hx
  ·cases of_ with
   |nil=>trivial
   |cons _ _ _ _ _=>exact absurd (Nat.succ_pos _) hl,rgC_of hr⟩
theorem rgC_sl {xs:Cds} {A:Option Addr} {c:Nat} (hs:SlR (fun b o=>CdR w S Z xs b o) xs.len 64 A c):rgC xs:=by
 cases xs with
 |nil=>trivial
 |cons _ _ _ _ _=>
  obtain⟨b',o',_,hx⟩:=hs.2.2 (Nat.succ_pos _)
  exact rgC_of hx
theorem rgS_of:∀ {xs:Sts} {b o:Nat},StR w S Z xs b o→rgS xs
 | .nil,_,_,_=>trivial
 | .cons k nm args cond body els at_ r,b,o,⟨_,⟨A,c,_,hs⟩,⟨A2,c2,_,hs2⟩,⟨A3,c3,_,hs3⟩,⟨A4,c4,_,hs4⟩,hr⟩=>⟨rgX_sl hs,rgC_sl hs2,by
  by_cases hl:0 < body.len
  ·obtain⟨b',o',_,hx⟩:=hs3.2.2 hl
   exact rgS_of hx
  ·cases body with
   |nil=>trivial
   |cons _ _ _ _ _ _ _ _=>exact absurd (Nat.succ_pos _) hl,by
  by_cases hl:0 < els.len
  ·obtain⟨b',o',_,hx⟩:=hs4.2.2 hl
   exact rgS_of hx
  ·cases els with
   |nil=>trivial
   |cons _ _ _ _ _ _ _ _=>exact absurd (Nat.succ_pos _) hl,rgS_of hr⟩
theorem rgS_sl {xs:Sts} {A:Option Addr} {c:Nat} (hs:SlR (fun b o=>StR w S Z xs b o) xs.len 128 A c):rgS xs:=by
 cases xs with
 |nil=>trivial
 |cons _ _ _ _ _ _ _ _=>
  obtain⟨b',o',_,hx⟩:=hs.2.2 (Nat.succ_pos _)
  exact rgS_of hx
theorem rgA_of:∀ {xs:List Arr} {b o:Nat},ArR w S Z xs b o→∀x∈xs,x.size≤9223372036854775807
 | [],_,_,_,_,h=>by simp at h
 |x::r,b,o,h,y,hy=>by
  rcases List.mem_cons.1 hy with rfl|hy
  ·exact h.1.2.2.1.2
  ·exact rgA_of h.2 y hy
theorem rgP_of:∀ {xs:List Prc} {b o:Nat},PrR w S Z xs b o→∀x∈xs,rgS x.body
 | [],_,_,_,_,h=>by simp at h
 |x::r,b,o,⟨_,_,⟨A,c,_,hs⟩,hr⟩,y,hy=>by
  rcases List.mem_cons.1 hy with rfl|hy
  ·exact rgS_sl hs
  ·exact rgP_of hr y hy
theorem rgT_of {t:Tre} {Av Aa Ap Am:Option Addr} {cv ca cp cm:Nat} (h:TrR w S Z t Av Aa Ap Am cv ca cp cm):RgT t:=by
 refine⟨fun x hx=>?_,fun x hx=>?_,rgS_sl h.main⟩
 ·obtain⟨b,o,_,hh⟩:=h.arrays.2.2 (List.length_pos_iff.2 fun e=>by rw[e]at hx;simp at hx)
  exact rgA_of hh x hx
 ·obtain⟨b,o,_,hh⟩:=h.procs.2.2 (List.length_pos_iff.2 fun e=>by rw[e]at hx;simp at hx)
  exact rgP_of hh x hx
end
end Go.Proofs.YtmopichdofgndaaGreatDoor
