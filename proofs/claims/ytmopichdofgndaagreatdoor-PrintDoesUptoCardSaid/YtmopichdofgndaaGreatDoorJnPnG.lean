/-
  The text of a tree, plainly: its tokens, and how they are written. No program.
-/
import Derived.Test.YtmopichdofgndaaGreatDoorJgGrC
set_option linter.unusedVariables false
set_option linter.unusedSimpArgs false
namespace Go.Proofs.YtmopichdofgndaaGreatDoor
open Go.RowKit

abbrev Tx:=List (List UInt8)
def putT (s:List UInt8×Bool) (t:List UInt8):List UInt8×Bool:=(s.1++(if s.2&&isWd (t.headD 0)then 32::t else t),isWd (t.getLastD 0))
def putsT (s:List UInt8×Bool) (ts:List (List UInt8)):List UInt8×Bool:=ts.foldl putT s
theorem putsT_app (s:List UInt8×Bool) (a b:List (List UInt8)):putsT s (a++b)=putsT (putsT s a) b:=List.foldl_append ..
def sumT:List (List UInt8)→Nat
 | []=>0
 |t::r=>t.length+1+sumT r
theorem sumT_app:∀(a b:List (List UInt8)),sumT (a++b)=sumT a+sumT b
 | [],b=>by simp[sumT]
 |t::r,b=>by simp only[List.cons_append,sumT,sumT_app r b];omega
theorem putT_len (s:List UInt8×Bool) (t:List UInt8):(putT s t).1.length ≤s.1.length+(t.length+1):=by
 unfold putT
 simp only[List.length_append]
 split<;>simp
theorem putsT_len:∀(ts:List (List UInt8)) (s:List UInt8×Bool),(putsT s ts).1.length ≤s.1.length+sumT ts
 | [],s=>by simp[putsT,sumT]
 |t::r,s=>by
  have h:=putsT_len r (putT s t)
  have h2:=putT_len s t
  simp only[sumT]
  show(putsT (putT s t) r).1.length ≤_
  omega
def lvlE (k:Int):Nat:=if 10≤k then 1 else if 7≤k then 3 else if 5≤k then 2 else 4
def hgtC (k:Int):Nat:=if k=11 then 1 else if k=10 then 2 else 3
def sgnE (k:Int):List UInt8:=if k=5 then [43]else if k=6 then [45]else if k=7 then [42]else if k=8 then [47]else if k=9 then [37]else if k=10 then [60,60]else [62,62]
def sgnC (k:Int):List UInt8:=if k=3 then [60]else if k=4 then [60,61]else if k=5 then [62]else if k=6 then [62,61]else if k=7 then [61,61]else [33,61]
def arE (least:Nat) (p:Nat×Tx):Tx:=if p.1 < least then [40]::(p.2++ [[41]])else p.2
def arC (least:Nat) (p:Nat×Tx):Tx:=if p.1 < least then [91]::(p.2++ [[93]])else p.2
def nthX (l:List (Nat×Tx)) (i:Nat):Nat×Tx:=l.getD i (4, [])
def innE (k:Int) (nm:ByteArray) (n:Int) (a:List (Nat×Tx)):Tx:=
 if k=1 then [Lib.itoa n]else if k=2 then [nm.data.toList]else if k=3 then nm.data.toList:: [91]::(arE 0 (nthX a 0)++ [[93]])
 else if k=4 then [45]::arE 4 (nthX a 0)else arE (lvlE k) (nthX a 0)++sgnE k::arE (lvlE k+1) (nthX a 1)
def txX:Exs→List (Nat×Tx)
 | .nil => []
 | .cons k nm n args _ r=>(lvlE k,innE k nm n (txX args))::txX r
def innC (k:Int) (a c:List (Nat×Tx)):Tx:=
 if k=1 then [[116,114,117,101]]else if k=2 then [[102,97,108,115,101]]else if k=9 then [33]::arC 3 (nthX c 0)
 else if k=10 then arC 2 (nthX c 0)++ [38,38]::arC 3 (nthX c 1)else if k=11 then arC 1 (nthX c 0)++ [124,124]::arC 2 (nthX c 1)
 else arE 0 (nthX a 0)++sgnC k::arE 0 (nthX a 1)
def txC:Cds→List (Nat×Tx)
 | .nil => []
 | .cons k args of_ _ r=>(hgtC k,innC k (txX args) (txC of_))::txC r
def betw:List Tx→Tx
 | []=> []
 | [x]=>x
 |x::y::r=>x++ [44]::betw (y::r)
def blkT (l:List Tx):Tx:= [123]::(l.flatten++ [[125]])
def askT (w:List UInt8) (c:List (Nat×Tx)):Tx:=w:: [40]::(arC 0 (nthX c 0)++ [[41]])
def innS (k:Int) (nm:List UInt8) (a c:List (Nat×Tx)) (b e:List Tx):Tx:=
 if k=7 then askT [105,102] c++(blkT b++(if e= []then []else [101,108,115,101]::blkT e))
 else if k=8 then askT [119,104,105,108,101] c++blkT b
 else if k=5 then askT [97,115,115,117,109,101] c++ [[59]]
 else if k=6 then askT [97,115,115,101,114,116] c++ [[59]]
 else if k=1 then [[115,107,105,112], [59]]
 else if k=4 then [[105,110,112,117,116],nm, [59]]
 else if k=9 then [99,97,108,108]::nm:: [40]::(betw (a.map (arE 0))++ [[41], [59]])
 else if k=3 then nm:: [91]::(arE 0 (nthX a 0)++ [93]:: [61]::(arE 0 (nthX a 1)++ [[59]]))
 else nm:: [61]::(arE 0 (nthX a 0)++ [[59]])
def txS:Sts→List Tx
 | .nil => []
 | .cons k nm args cond body els _ r=>innS k nm.data.toList (txX args) (txC cond) (txS body) (txS els)::txS r
def namT (vs:List Va):Tx:=betw (vs.map fun v=> [v.nm.data.toList])
def arrT (x:Arr):Tx:= [x.nm.data.toList, [91],Lib.itoa x.size, [93]]
def varsT (vs:List Va):Tx:=if vs= []then []else [118,97,114]::(namT vs++ [[59]])
def arrsT (xs:List Arr):Tx:=if xs= []then []else [97,114,114,97,121]::(betw (xs.map arrT)++ [[59]])
def prcT (p:Prc):Tx:= [112,114,111,99]::p.nm.data.toList:: [40]::(namT p.params++ [41]::blkT (txS p.body))
def treT (t:Tre):Tx:=varsT t.vars++(arrsT t.arrays++(t.procs.flatMap prcT++ [109,97,105,110]::blkT (txS t.main)))
def printB (t:Tre):List UInt8:=(putsT ([],false) (treT t)).1
theorem txX_len:∀xs,(txX xs).length =xs.len
 | .nil =>rfl
 | .cons _ _ _ _ _ r=>by simp only[txX,List.length_cons,Exs.len,txX_len r]
theorem txS_len:∀xs,(txS xs).length =xs.len
 | .nil =>rfl
 | .cons _ _ _ _ _ _ _ r=>by simp only[txS,List.length_cons,Sts.len,txS_len r]
theorem txS_nil {xs:Sts}:txS xs= []↔xs.len=0:=by rw[←txS_len,List.length_eq_zero_iff]

open Go.RowKit Go.Shelf

def TkOk (u:List UInt8):Prop:=(firstT u).2 =(u.length,0)
instance (u:List UInt8):Decidable (TkOk u):=inferInstanceAs (Decidable ((firstT u).2 =(u.length,0)))
def tkOf (u:List UInt8):Tk:=⟨(firstT u).1,u,0⟩
def isCl (u:List UInt8):Bool:=decide (u∈([[60], [62], [61], [33]]:List (List UInt8)))
def noCl (c:UInt8):Bool:=c != 60&&c != 61&&c != 62
theorem TkOk.ne {u:List UInt8} (h:TkOk u):u≠ []:=fun e=>by
 subst e
 exact absurd (firstT_pos (l:= []) (by rw[h])) (by rw[show(firstT []).2.1 =0 from by rw[h];rfl];omega)
def hdOk (r:Tx):Bool:=noCl ((r.headD []).headD 0)
def Chn:Tx→Prop
 | []=>True
 |t::r=>TkOk t∧(isCl t=true→hdOk r=true)∧Chn r

theorem Chn.app:∀ {a b:Tx},Chn a→Chn b→(isCl (a.getLastD [])=true→hdOk b=true)→Chn (a++b)
 | [],b,_,hb,_=>hb
 | [t],b,ha,hb,h=>⟨ha.1,fun e=>h e,hb⟩
 |t::u::r,b,ha,hb,h=>⟨ha.1,ha.2.1,Chn.app (a:=u::r) ha.2.2 hb (fun e=>h e)⟩
structure Good (a:Tx):Prop where
 ne:a≠ []
 chn:Chn a
 hd:hdOk a=true
 last:isCl (a.getLastD [])=false
theorem hdOk_app {a b:Tx} (h:a≠ []):hdOk (a++b)=hdOk a:=by
 cases a with
 |nil=>exact absurd rfl h
 |cons t r=>rfl
theorem getLastD_app {a b:Tx} (h:b≠ []):(a++b).getLastD []=b.getLastD []:=by
 rw[List.getLastD_eq_getLast?,List.getLastD_eq_getLast?,List.getLast?_append]
 cases hb:b.getLast? with
 |none=>exact absurd (List.getLast?_eq_none_iff.1 hb) h
 |some x=>rfl
theorem Good.app {a b:Tx} (ha:Good a) (hb:Good b):Good (a++b):=
 ⟨by simp[ha.ne],Chn.app ha.chn hb.chn (fun e=>by rw[ha.last]at e;simp at e),by rw[hdOk_app ha.ne];exact ha.hd,by rw[getLastD_app hb.ne];exact hb.last⟩
theorem Good.tok {t:List UInt8} {b:Tx} (ht:TkOk t) (h1:noCl (t.headD 0)=true) (hb:Good b):Good (t::b):=
 ⟨by simp,⟨ht,fun _=>hb.hd,hb.chn⟩,h1,by
  have:=getLastD_app (a:= [t]) hb.ne
  rw[show t::b= [t]++b from rfl,this]
  exact hb.last⟩
theorem Good.one {t:List UInt8} (ht:TkOk t) (h1:noCl (t.headD 0)=true) (h2:isCl t=false):Good [t]:=
 ⟨by simp,⟨ht,fun e=>by rw[h2]at e;simp at e,trivial⟩,h1,h2⟩
theorem Good.mid {a b:Tx} {t:List UInt8} (ha:Good a) (ht:TkOk t) (hb:Good b):Good (a++t::b):=
 ⟨by simp,Chn.app ha.chn ⟨ht,fun _=>hb.hd,hb.chn⟩ (fun e=>by rw[ha.last]at e;simp at e),by rw[hdOk_app ha.ne];exact ha.hd,by
  rw[getLastD_app (by simp)]
  have:=getLastD_app (a:= [t]) hb.ne
  rw[show t::b= [t]++b from rfl,this]
  exact hb.last⟩
theorem wd_noCl {c:UInt8} (h:isWd c=true):noCl c=true:=by
 unfold noCl
 simp only[Bool.and_eq_true,bne_iff_ne,ne_eq]
 refine⟨⟨?_,?_⟩,?_⟩<;>(rintro rfl;exact absurd h (by decide))
theorem wd_cl {u:List UInt8} (h:isWd (u.headD 0)=true):isCl u=false:=by
 cases hc:isCl u
 ·rfl
 ·unfold isCl at hc
  simp only[decide_eq_true_eq,List.mem_cons,List.not_mem_nil,or_false]at hc
  rcases hc with rfl|rfl|rfl|rfl<;>exact absurd h (by decide)
theorem Good.word {t:List UInt8} {b:Tx} (ht:TkOk t) (h1:isWd (t.headD 0)=true) (hb:Good b):Good (t::b):= .tok ht (wd_noCl h1) hb
theorem Good.word1 {t:List UInt8} (ht:TkOk t) (h1:isWd (t.headD 0)=true):Good [t]:= .one ht (wd_noCl h1) (wd_cl h1)
theorem name_tk {u:List UInt8} (h:nameB u=true):TkOk u∧(firstT u).1 =1∧isWd (u.headD 0)=true∧isN (tkOf u)∧txt (tkOf u)=⟨u.toArray⟩:=by
 obtain⟨b,r,e,hb,hd,_⟩:=name_first h
 have h0:=h
 unfold nameB at h
 simp only[Bool.and_eq_true,beq_iff_eq,decide_eq_true_eq]at h
 have hn:¬0 < runB isDig u:=by rw[e,runB_zero hd];omega
 have hf:firstT u=(1,u.length,0):=by rw[fT_none hn,if_neg (by omega),if_pos (by omega),h.1.1.1.1]
 refine⟨by unfold TkOk;rw[hf],by rw[hf],by rw[e];exact hb,⟨by unfold tkOf;rw[hf],h0⟩,rfl⟩
theorem dec_dig (u:Nat):allDig (Lib.decDigits u):=by
 induction u using Nat.strongRecOn with
 |_ u ih=>
  rw[Lib.decDigits]
  split
  ·intro b hb
   simp only[List.mem_singleton]at hb
   subst hb
   rw[isDig_iff]
   have:(UInt8.ofNat (48+u)).toNat =48+u:=by simp;omega
   omega
  ·intro b hb
   rcases List.mem_append.1 hb with hb|hb
   ·exact ih (u / 10) (by omega) b hb
   ·simp only[List.mem_singleton]at hb
    subst hb
    rw[isDig_iff]
    have:(UInt8.ofNat (48+u % 10)).toNat =48+u % 10:=by simp;omega
    omega
theorem dec_val (u:Nat):decV (Lib.decDigits u)=u:=by
 induction u using Nat.strongRecOn with
 |_ u ih=>
  rw[Lib.decDigits]
  split
  ·have:(UInt8.ofNat (48+u)).toNat =48+u:=by simp;omega
   simp only[decV_A,decA_cons,this]
   simp[decA]
  ·have:(UInt8.ofNat (48+u % 10)).toNat =48+u % 10:=by simp;omega
   have h:=ih (u / 10) (by omega)
   rw[decV_A]at h ⊢
   rw[decA_split,h,this]
   omega
theorem dec_ne (u:Nat):Lib.decDigits u≠ []:=by
 rw[Lib.decDigits]
 split<;>simp
theorem num_tk {n:Int} (h0:0≤n) (h1:n≤9223372036854775807):TkOk (Lib.itoa n)∧(firstT (Lib.itoa n)).1 =2∧isWd ((Lib.itoa n).headD 0)=true∧((decV (Lib.itoa n):Nat):Int)=n:=by
 obtain⟨u,rfl⟩:∃u:Nat,n=u:=⟨n.toNat,by omega⟩
 rw[Lib.itoa_nonneg]
 have hd:=dec_dig u
 have hne:=dec_ne u
 have hv:=dec_val u
 have hnum:numB (Lib.decDigits u)=true:=by
  have hs:=itoa_same _ hd hne
  rw[hv,Lib.itoa_nonneg]at hs
  simp only[beq_self_eq_true]at hs
  unfold numB
  rw[hv,←hs]
  simp
  omega
 have hall:∀b∈Lib.decDigits u,isDig b=true:=hd
 have e1:runB isDig (Lib.decDigits u)=(Lib.decDigits u).length :=by
  have:=runB_pre isDig (Lib.decDigits u) [] hall
  rw[List.append_nil]at this
  rw[this];rfl
 have hlen:0 < (Lib.decDigits u).length :=List.length_pos_iff.2 hne
 have hwle:=runB_le isWd (Lib.decDigits u)
 have hf:firstT (Lib.decDigits u)=(2,(Lib.decDigits u).length,0):=by
  rw[fT_num (by omega),e1,List.take_length,hnum,if_pos]
  simp
  omega
 refine⟨by unfold TkOk;rw[hf],by rw[hf],?_,by rw[hv]⟩
 cases hc:Lib.decDigits u with
 |nil=>exact absurd hc hne
 |cons a r=>exact isDig_wd (hall a (by rw[hc];simp))
theorem isT_of {s:List UInt8} (h:(firstT s).1 ≠2):isT (tkOf s) s:=⟨rfl,h⟩

def PcGn (D:Nat) (c:List Tk) (x:Prc):Prop:=∃t o e d b ps xs,c=t::o::(d++e::b)∧isN t∧isT o [40]∧ListG VaG d ps∧isT e [41]∧BlG D b xs∧x=⟨txt t,ps,stsOf xs,t.at_⟩
inductive PsGn (D:Nat):List Tk→List Prc→Prop where
 |nil:PsGn D [] []
 |cons (t:Tk) (c d:List Tk) (p:Prc) (ps:List Prc):isT t [112,114,111,99]→PcGn D c p→PsGn D d ps→PsGn D (t::(c++d)) (p::ps)
def TrGn (D:Nat) (c:List Tk) (t:Tre):Prop:=∃a b m d xs,c=a++(b++m::d)∧HdG a t.vars t.arrays∧PsGn D b t.procs∧isT m [109,97,105,110]∧BlG D d xs∧t.main=stsOf xs
/-! with less levels -/
def Dp {α:Type} (x y:PR α):Prop:=(∃a,x= .err 91 a)∨x=y

/-! how many levels are needed -/
def arD (least:Nat) (p:Nat×Nat):Nat:=if p.1 < least then p.2+1 else p.2
def nthD (l:List (Nat×Nat)) (i:Nat):Nat×Nat:=l.getD i (4,0)
def inD (k:Int) (a:List (Nat×Nat)):Nat:=
  if k=1 then 0 else if k=2 then 0 else if k=3 then arD 0 (nthD a 0)+1 else if k=4 then arD 4 (nthD a 0)+1 else max (arD (lvlE k) (nthD a 0)) (arD (lvlE k+1) (nthD a 1))
def ndX:Exs→List (Nat×Nat)
  | .nil => []
  | .cons k _ _ args _ r=>(lvlE k,inD k (ndX args))::ndX r
def inDC (k:Int) (a c:List (Nat×Nat)):Nat:=
  if k=1 then 0 else if k=2 then 0 else if k=9 then arD 3 (nthD c 0)+1
  else if k=10 then max (arD 2 (nthD c 0)) (arD 3 (nthD c 1))else if k=11 then max (arD 1 (nthD c 0)) (arD 2 (nthD c 1))
  else max (arD 0 (nthD a 0)) (arD 0 (nthD a 1))
def ndC:Cds→List (Nat×Nat)
  | .nil => []
  | .cons k args of_ _ r=>(hgtC k,inDC k (ndX args) (ndC of_))::ndC r
def maxL (l:List Nat):Nat:=l.foldr max 0
def inDS (k:Int) (a c:List (Nat×Nat)) (b e:List Nat):Nat:=
  if k=7 then max (arD 0 (nthD c 0)) (max (maxL b+1) (if e= []then 0 else maxL e+1))
  else if k=8 then max (arD 0 (nthD c 0)) (maxL b+1)
  else if k=5 then arD 0 (nthD c 0)
  else if k=6 then arD 0 (nthD c 0)
  else if k=1 then 0 else if k=4 then 0
  else if k=9 then maxL (a.map (arD 0))
  else if k=3 then max (arD 0 (nthD a 0)+1) (arD 0 (nthD a 1))
  else arD 0 (nthD a 0)
def ndS:Sts→List Nat
  | .nil => []
  | .cons k _ args cond body els _ r=>inDS k (ndX args) (ndC cond) (ndS body) (ndS els)::ndS r
def ndTr (t:Tre):Nat:=max (maxL (t.procs.map fun p=>maxL (ndS p.body)+1)) (maxL (ndS t.main)+1)
theorem maxL_le {l:List Nat} {m:Nat}:maxL l≤m↔∀x∈l,x≤m:=by
  induction l with
  |nil=>simp[maxL]
  |cons a r ih=>
    unfold maxL at ih ⊢
    simp only[List.foldr_cons,List.mem_cons,forall_eq_or_imp]
    rw[←ih]
    omega
/-! numbers are of 64 bits -/
def rgX:Exs→Prop
  | .nil =>True
  | .cons _ _ n args _ r=>n≤9223372036854775807∧rgX args∧rgX r
def rgC:Cds→Prop
  | .nil =>True
  | .cons _ args of_ _ r=>rgX args∧rgC of_∧rgC r
def rgS:Sts→Prop
  | .nil =>True
  | .cons _ _ args cond body els _ r=>rgX args∧rgC cond∧rgS body∧rgS els∧rgS r
structure RgT (t:Tre):Prop where
  arrays:∀x∈t.arrays,x.size≤9223372036854775807
  procs:∀x∈t.procs,rgS x.body
  main:rgS t.main
/-! expressions -/
structure GE1 (p:Nat×Tx) (q:Nat×Nat) (x:Ex):Prop where
  eq:p.1=q.1
  one:1≤p.1
  good:Good p.2
  gram:∀d,q.2≤d→ExG d p.1 (p.2.map tkOf) x
theorem gpar {a:Tx} (h:Good a):Good ([40]::(a++ [[41]])):= .tok (by decide+kernel) (by decide) (h.app (.one (by decide+kernel) (by decide) (by decide)))
theorem gbr {a:Tx} (h:Good a):Good ([91]::(a++ [[93]])):= .tok (by decide+kernel) (by decide) (h.app (.one (by decide+kernel) (by decide) (by decide)))
theorem GE1.ar {p:Nat×Tx} {q:Nat×Nat} {x:Ex} (h:GE1 p q x) (least:Nat):Good (arE least p)∧∀d,arD least q≤d→ExG d least ((arE least p).map tkOf) x:=by
  unfold arE arD
  rw[←h.eq]
  by_cases hl:p.1 < least
  · rw[if_pos hl,if_pos hl]
    refine⟨gpar h.good,fun d hd=>?_⟩
    obtain⟨d,rfl⟩:∃y,d=y+1:=⟨d - 1,by omega⟩
    rw[List.map_cons,List.map_append]
    exact .par d least _ _ _ x (isT_of (by decide+kernel)) ((h.gram d (by omega)).low h.one) (isT_of (by decide+kernel))
  · rw[if_neg hl,if_neg hl]
    exact⟨h.good,fun d hd=>(h.gram d hd).low (by omega)⟩
theorem GE1.zero {p:Nat×Tx} {q:Nat×Nat} {x:Ex} (h:GE1 p q x):Good (arE 0 p)∧∀d,arD 0 q≤d→ExG d 1 ((arE 0 p).map tkOf) x:=by
  have:=h.one
  have e:arE 0 p=arE 1 p:=by unfold arE;rw[if_neg (by omega),if_neg (by omega)]
  have e2:arD 0 q=arD 1 q:=by have:=h.eq;unfold arD;rw[if_neg (by omega),if_neg (by omega)]
  rw[e,e2]
  exact h.ar 1
def GX:Exs→Prop
  | .nil =>True
  | .cons k nm n args _ r=>GE1 (lvlE k,innE k nm n (txX args)) (lvlE k,inD k (ndX args)) ⟨k,nm,n,args.bare,0⟩∧GX r
theorem nm_no {nm:ByteArray} (h:nmdB false nm=true):nm=noB:=by
  unfold nmdB at h
  simp only[Bool.false_eq_true,if_false,beq_iff_eq]at h
  rw[ByteArray.toList_eq]at h
  have:nm.data= #[]:=by
    apply Array.toList_inj.1
    simpa using h
  cases nm
  simp only at this
  subst this
  rfl
theorem nm_yes {nm:ByteArray} (h:nmdB true nm=true):nameB nm.data.toList=true:=by
  unfold nmdB at h
  simpa using h
theorem txt_nm (nm:ByteArray):txt (tkOf nm.data.toList)=nm:=by
  cases nm
  rfl
theorem len0 {a:Exs} (h:a.len=0):a= .nil :=by
  cases a with
  |nil=>rfl
  |cons=>simp[Exs.len]at h
theorem len1 {a:Exs} (h:a.len=1):∃k nm n b at_,a= .cons k nm n b at_ .nil :=by
  cases a with
  |nil=>simp[Exs.len]at h
  |cons k nm n b at_ r=>exact⟨k,nm,n,b,at_,by rw[len0 (a:=r) (by simpa[Exs.len]using h)]⟩
theorem len2 {a:Exs} (h:a.len=2):∃k nm n b at_ k' nm' n' b' at',a= .cons k nm n b at_ (.cons k' nm' n' b' at' .nil):=by
  cases a with
  |nil=>simp[Exs.len]at h
  |cons k nm n b at_ r=>
    obtain⟨k',nm',n',b',at',e⟩:=len1 (a:=r) (by simpa[Exs.len]using h)
    exact⟨k,nm,n,b,at_,k',nm',n',b',at',by rw[e]⟩
theorem sgnE_tk:∀k:Fin 12,5≤k.val→TkOk (sgnE (k.val:Int))∧(firstT (sgnE (k.val:Int))).1 ≠2:=by decide+kernel
theorem sgnC_tk:∀k:Fin 9,3≤k.val→TkOk (sgnC (k.val:Int))∧(firstT (sgnC (k.val:Int))).1 ≠2:=by decide+kernel
theorem lvlE_L {k:Int} (h1:5≤k) (h2:k≤11):lvlE k=opL k:=by
  unfold lvlE opL
  repeat' split
  all_goals omega
theorem gX:∀xs:Exs,okX xs=true→rgX xs→GX xs
  | .nil,_,_=>trivial
  | .cons k nm n args at_ r,h,hr=>by
    simp only[okX,Bool.and_eq_true,Bool.or_eq_true,decide_eq_true_eq,beq_iff_eq]at h
    obtain⟨⟨⟨⟨⟨⟨⟨h1,h2⟩,h3⟩,h4⟩,h5⟩,h6⟩,h7⟩,h8⟩:=h
    refine⟨?_,gX r h8 hr.2.2⟩
    have ih:=gX args h7 hr.2.1
    have hn:k≠1→n=0:=fun e=>by rcases h4 with h4|h4<;>omega
    have hk:k=1∨k=2∨k=3∨k=4∨5≤k:=by omega
    rcases hk with rfl|rfl|rfl|rfl|h5k
    · obtain rfl:=nm_no h5
      obtain rfl:=len0 (a:=args) (by simpa[tabA,exShp]using h6)
      obtain⟨g1,g2,g3,g4⟩:=num_tk h3 hr.1
      refine⟨rfl,(show 1≤lvlE 1 from by decide),.word1 g1 g3,fun d _=>?_⟩
      have:=ExG.num d 4 (tkOf (Lib.itoa n)) g2
      rw[show(decV (tkOf (Lib.itoa n)).text :Int)=n from g4]at this
      exact this
    · obtain rfl:=hn (by decide)
      obtain rfl:=len0 (a:=args) (by simpa[tabA,exShp]using h6)
      obtain⟨g1,g2,g3,g4,g5⟩:=name_tk (nm_yes h5)
      refine⟨rfl,(show 1≤lvlE 2 from by decide),.word1 g1 g3,fun d _=>?_⟩
      have:=ExG.var d 4 (tkOf nm.data.toList) g4
      rw[txt_nm]at this
      exact this
    · obtain rfl:=hn (by decide)
      obtain⟨k',nm',n',b',at',rfl⟩:=len1 (a:=args) (by simp[tabA,exShp]at h6;omega)
      obtain⟨g1,g2,g3,g4,g5⟩:=name_tk (nm_yes h5)
      obtain⟨i1,i2⟩:=ih.1.zero
      refine⟨rfl,(show 1≤lvlE 3 from by decide),.word g1 g3 (gbr i1),fun d hd=>?_⟩
      obtain⟨d,rfl⟩:∃y,d=y+1:=⟨d - 1,by simp only[inD]at hd;simp at hd;omega⟩
      have:=ExG.load d 4 (tkOf nm.data.toList) (tkOf [91]) (tkOf [93]) _ _ g4 (isT_of (by decide+kernel)) (i2 d (by simp[inD]at hd;simpa[ndX,nthD]using hd)) (isT_of (by decide+kernel))
      rw[txt_nm]at this
      have e:innE 3 nm 0 (txX (.cons k' nm' n' b' at' .nil))=nm.data.toList:: [91]::(arE 0 (lvlE k',innE k' nm' n' (txX b'))++ [[93]]):=rfl
      show ExG (d+1) 4 ((innE 3 nm 0 _).map tkOf) _
      rw[e]
      simp only[List.map_cons,List.map_append,List.map_nil]
      exact this
    · obtain rfl:=hn (by decide)
      obtain rfl:=nm_no h5
      obtain⟨k',nm',n',b',at',rfl⟩:=len1 (a:=args) (by simp[tabA,exShp]at h6;omega)
      obtain⟨i1,i2⟩:=ih.1.ar 4
      refine⟨rfl,(show 1≤lvlE 4 from by decide),.tok (by decide+kernel) (by decide) i1,fun d hd=>?_⟩
      obtain⟨d,rfl⟩:∃y,d=y+1:=⟨d - 1,by simp only[inD]at hd;simp at hd;omega⟩
      exact ExG.neg d 4 (tkOf [45]) _ _ (isT_of (by decide+kernel)) (i2 d (by simp[inD]at hd;simpa[ndX,nthD]using hd))
    · obtain rfl:=hn (by omega)
      have hnm:nm=noB:=nm_no (by
        have:(tabA exShp k).2.2.2 =false:=by
          have hk:k=5∨k=6∨k=7∨k=8∨k=9∨k=10∨k=11:=by omega
          rcases hk with rfl|rfl|rfl|rfl|rfl|rfl|rfl<;>rfl
        rw[this]at h5
        exact h5)
      subst hnm
      obtain⟨k1,nm1,n1,b1,at1,k2,nm2,n2,b2,at2,rfl⟩:=len2 (a:=args) (by
        have:(tabA exShp k).1 =2:=by
          have hk:k=5∨k=6∨k=7∨k=8∨k=9∨k=10∨k=11:=by omega
          rcases hk with rfl|rfl|rfl|rfl|rfl|rfl|rfl<;>rfl
        rw[this]at h6
        omega)
      have hL : lvlE k ≤ 3 ∧ 1 ≤ lvlE k := by unfold lvlE; repeat' split
                                              all_goals omega
      obtain⟨i1,i2⟩:=ih.1.ar (lvlE k)
      obtain⟨j1,j2⟩:=ih.2.1.ar (lvlE k+1)
      have hs:=sgnE_tk ⟨k.toNat,by omega⟩ (by simp only;omega)
      rw[show(((⟨k.toNat,by omega⟩:Fin 12).val :Nat):Int)=k from by simp only;omega]at hs
      have e:innE k noB 0 (txX (.cons k1 nm1 n1 b1 at1 (.cons k2 nm2 n2 b2 at2 .nil)))=arE (lvlE k) (lvlE k1,innE k1 nm1 n1 (txX b1))++sgnE k::arE (lvlE k+1) (lvlE k2,innE k2 nm2 n2 (txX b2)):=by
        unfold innE
        rw[if_neg (by omega),if_neg (by omega),if_neg (by omega),if_neg (by omega)]
        rfl
      have ed:inD k (ndX (.cons k1 nm1 n1 b1 at1 (.cons k2 nm2 n2 b2 at2 .nil)))=max (arD (lvlE k) (lvlE k1,inD k1 (ndX b1))) (arD (lvlE k+1) (lvlE k2,inD k2 (ndX b2))):=by
        unfold inD
        rw[if_neg (by omega),if_neg (by omega),if_neg (by omega),if_neg (by omega)]
        rfl
      rw[e,ed]
      refine⟨rfl,hL.2,.mid i1 hs.1 j1,fun d hd=>?_⟩
      simp only[List.map_cons,List.map_append]
      simp only at hd
      have:=ExG.two d (lvlE k) k (tkOf (sgnE k)) _ _ _ _ h5k h2 (by rw[lvlE_L h5k h2];exact lrq _) (by rw[←lvlE_L h5k h2];exact i2 d (by omega)) (isT_of hs.2) (by rw[←lvlE_L h5k h2];exact j2 d (by omega))
      exact this

structure GC1 (p:Nat×Tx) (q:Nat×Nat) (x:Cn):Prop where
 eq:p.1=q.1
 one:1≤p.1
 good:Good p.2
 gram:∀d,q.2≤d→CoG d p.1 (p.2.map tkOf) x
theorem GC1.ar {p:Nat×Tx} {q:Nat×Nat} {x:Cn} (h:GC1 p q x) (least:Nat):Good (arC least p)∧∀d,arD least q≤d→CoG d least ((arC least p).map tkOf) x:=by
 unfold arC arD
 rw[←h.eq]
 by_cases hl:p.1 < least
 ·rw[if_pos hl,if_pos hl]
  refine⟨gbr h.good,fun d hd=>?_⟩
  obtain⟨d,rfl⟩:∃y,d=y+1:=⟨d - 1,by omega⟩
  rw[List.map_cons,List.map_append]
  exact .br d least _ _ _ x (isT_of (by decide+kernel)) ((h.gram d (by omega)).low h.one) (isT_of (by decide+kernel))
 ·rw[if_neg hl,if_neg hl]
  exact⟨h.good,fun d hd=>(h.gram d hd).low (by omega)⟩
theorem GC1.zero {p:Nat×Tx} {q:Nat×Nat} {x:Cn} (h:GC1 p q x):Good (arC 0 p)∧∀d,arD 0 q≤d→CoG d 1 ((arC 0 p).map tkOf) x:=by
 have:=h.one
 have e:arC 0 p=arC 1 p:=by unfold arC;rw[if_neg (by omega),if_neg (by omega)]
 have e2:arD 0 q=arD 1 q:=by have:=h.eq;unfold arD;rw[if_neg (by omega),if_neg (by omega)]
 rw[e,e2]
 exact h.ar 1
def GC:Cds→Prop
 | .nil =>True
 | .cons k args of_ _ r=>GC1 (hgtC k,innC k (txX args) (txC of_)) (hgtC k,inDC k (ndX args) (ndC of_)) ⟨k,args.bare,of_.bare,0⟩∧GC r
theorem lenC0 {a:Cds} (h:a.len=0):a= .nil :=by
 cases a with
 |nil=>rfl
 |cons=>simp[Cds.len]at h
theorem lenC1 {a:Cds} (h:a.len=1):∃k b o at_,a= .cons k b o at_ .nil :=by
 cases a with
 |nil=>simp[Cds.len]at h
 |cons k b o at_ r=>exact⟨k,b,o,at_,by rw[lenC0 (a:=r) (by simpa[Cds.len]using h)]⟩
theorem lenC2 {a:Cds} (h:a.len=2):∃k b o at_ k' b' o' at',a= .cons k b o at_ (.cons k' b' o' at' .nil):=by
 cases a with
 |nil=>simp[Cds.len]at h
 |cons k b o at_ r=>
  obtain⟨k',b',o',at',e⟩:=lenC1 (a:=r) (by simpa[Cds.len]using h)
  exact⟨k,b,o,at_,k',b',o',at',by rw[e]⟩
theorem gC:∀xs:Cds,okC xs=true→rgC xs→GC xs
 | .nil,_,_=>trivial
 | .cons k args of_ at_ r,h,hr=>by
  simp only[okC,Bool.and_eq_true,decide_eq_true_eq,beq_iff_eq]at h
  obtain⟨⟨⟨⟨⟨⟨h1,h2⟩,h3⟩,h4⟩,h5⟩,h6⟩,h7⟩:=h
  refine⟨?_,gC r h7 hr.2.2⟩
  have ihx:=gX args h5 hr.1
  have ih:=gC of_ h6 hr.2.1
  have hk:k=1∨k=2∨k=9∨k=10∨k=11∨(3≤k∧k≤8):=by omega
  rcases hk with rfl|rfl|rfl|rfl|rfl|⟨k3,k8⟩
  ·obtain rfl:=len0 (a:=args) (by simpa[tabA,cdShp]using h3)
   obtain rfl:=lenC0 (a:=of_) (by simpa[tabA,cdShp]using h4)
   exact⟨rfl,(show 1≤hgtC 1 from by decide),.word1 (by decide+kernel) (by decide),fun d _=>CoG.yes d 3 (tkOf [116,114,117,101]) (isT_of (by decide+kernel))⟩
  ·obtain rfl:=len0 (a:=args) (by simpa[tabA,cdShp]using h3)
   obtain rfl:=lenC0 (a:=of_) (by simpa[tabA,cdShp]using h4)
   exact⟨rfl,(show 1≤hgtC 2 from by decide),.word1 (by decide+kernel) (by decide),fun d _=>CoG.no d 3 (tkOf [102,97,108,115,101]) (isT_of (by decide+kernel))⟩
  ·obtain rfl:=len0 (a:=args) (by simpa[tabA,cdShp]using h3)
   obtain⟨k',b',o',at',rfl⟩:=lenC1 (a:=of_) (by simp[tabA,cdShp]at h4;omega)
   obtain⟨i1,i2⟩:=ih.1.ar 3
   refine⟨rfl,(show 1≤hgtC 9 from by decide),.tok (by decide+kernel) (by decide) i1,fun d hd=>?_⟩
   obtain⟨d,rfl⟩:∃y,d=y+1:=⟨d - 1,by simp only[inDC]at hd;simp at hd;omega⟩
   exact CoG.not d 3 (tkOf [33]) _ _ (isT_of (by decide+kernel)) (i2 d (by simp[inDC]at hd;simpa[ndC,nthD]using hd))
  ·obtain rfl:=len0 (a:=args) (by simpa[tabA,cdShp]using h3)
   obtain⟨k1,b1,o1,at1,k2,b2,o2,at2,rfl⟩:=lenC2 (a:=of_) (by simp[tabA,cdShp]at h4;omega)
   obtain⟨i1,i2⟩:=ih.1.ar 2
   obtain⟨j1,j2⟩:=ih.2.1.ar 3
   have e:innC 10 (txX .nil) (txC (.cons k1 b1 o1 at1 (.cons k2 b2 o2 at2 .nil)))=arC 2 (hgtC k1,innC k1 (txX b1) (txC o1))++ [38,38]::arC 3 (hgtC k2,innC k2 (txX b2) (txC o2)):=rfl
   have ed:inDC 10 (ndX .nil) (ndC (.cons k1 b1 o1 at1 (.cons k2 b2 o2 at2 .nil)))=max (arD 2 (hgtC k1,inDC k1 (ndX b1) (ndC o1))) (arD 3 (hgtC k2,inDC k2 (ndX b2) (ndC o2))):=rfl
   rw[e,ed]
   refine⟨rfl,(show 1≤hgtC 10 from by decide),.mid i1 (by decide+kernel) j1,fun d hd=>?_⟩
   simp only at hd
   simp only[List.map_cons,List.map_append]
   exact CoG.and d 2 (tkOf [38,38]) _ _ _ _ (lrq _) (i2 d (by omega)) (isT_of (by decide+kernel)) (j2 d (by omega))
  ·obtain rfl:=len0 (a:=args) (by simpa[tabA,cdShp]using h3)
   obtain⟨k1,b1,o1,at1,k2,b2,o2,at2,rfl⟩:=lenC2 (a:=of_) (by simp[tabA,cdShp]at h4;omega)
   obtain⟨i1,i2⟩:=ih.1.ar 1
   obtain⟨j1,j2⟩:=ih.2.1.ar 2
   have e:innC 11 (txX .nil) (txC (.cons k1 b1 o1 at1 (.cons k2 b2 o2 at2 .nil)))=arC 1 (hgtC k1,innC k1 (txX b1) (txC o1))++ [124,124]::arC 2 (hgtC k2,innC k2 (txX b2) (txC o2)):=rfl
   have ed:inDC 11 (ndX .nil) (ndC (.cons k1 b1 o1 at1 (.cons k2 b2 o2 at2 .nil)))=max (arD 1 (hgtC k1,inDC k1 (ndX b1) (ndC o1))) (arD 2 (hgtC k2,inDC k2 (ndX b2) (ndC o2))):=rfl
   rw[e,ed]
   refine⟨rfl,(show 1≤hgtC 11 from by decide),.mid i1 (by decide+kernel) j1,fun d hd=>?_⟩
   simp only at hd
   simp only[List.map_cons,List.map_append]
   exact CoG.or d 1 (tkOf [124,124]) _ _ _ _ (lrq _) (i2 d (by omega)) (isT_of (by decide+kernel)) (j2 d (by omega))
  ·have hkk:k=3∨k=4∨k=5∨k=6∨k=7∨k=8:=by omega
   obtain rfl:=lenC0 (a:=of_) (by
    have:(tabA cdShp k).2.1 =0:=by rcases hkk with rfl|rfl|rfl|rfl|rfl|rfl<;>rfl
    rw[this]at h4
    omega)
   obtain⟨k1,nm1,n1,b1,at1,k2,nm2,n2,b2,at2,rfl⟩:=len2 (a:=args) (by
    have:(tabA cdShp k).1 =2:=by rcases hkk with rfl|rfl|rfl|rfl|rfl|rfl<;>rfl
    rw[this]at h3
    omega)
   have hL:1≤hgtC k:=by
    unfold hgtC
    split
    ·decide
    ·split<;>decide
   obtain⟨i1,i2⟩:=ihx.1.zero
   obtain⟨j1,j2⟩:=ihx.2.1.zero
   have hs:=sgnC_tk ⟨k.toNat,by omega⟩ (by simp only;omega)
   rw[show(((⟨k.toNat,by omega⟩:Fin 9).val :Nat):Int)=k from by simp only;omega]at hs
   have e:innC k (txX (.cons k1 nm1 n1 b1 at1 (.cons k2 nm2 n2 b2 at2 .nil))) (txC .nil)=arE 0 (lvlE k1,innE k1 nm1 n1 (txX b1))++sgnC k::arE 0 (lvlE k2,innE k2 nm2 n2 (txX b2)):=by
    unfold innC
    rw[if_neg (by omega),if_neg (by omega),if_neg (by omega),if_neg (by omega),if_neg (by omega)]
    rfl
   have ed:inDC k (ndX (.cons k1 nm1 n1 b1 at1 (.cons k2 nm2 n2 b2 at2 .nil))) (ndC .nil)=max (arD 0 (lvlE k1,inD k1 (ndX b1))) (arD 0 (lvlE k2,inD k2 (ndX b2))):=by
    unfold inDC
    rw[if_neg (by omega),if_neg (by omega),if_neg (by omega),if_neg (by omega),if_neg (by omega)]
    rfl
   rw[e,ed]
   refine⟨rfl,hL,.mid i1 hs.1 j1,fun d hd=>?_⟩
   simp only at hd
   simp only[List.map_cons,List.map_append]
   exact CoG.cmp d _ k (tkOf (sgnC k)) _ _ _ _ k3 k8 (i2 d (by omega)) (isT_of hs.2) (j2 d (by omega))

structure GS1 (p:Tx) (q:Nat) (x:St):Prop where
 good:Good p
 gram:∀d,q≤d→StG d (p.map tkOf) x
def GS:Sts→Prop
 | .nil =>True
 | .cons k nm args cond body els _ r=>GS1 (innS k nm.data.toList (txX args) (txC cond) (txS body) (txS els)) (inDS k (ndX args) (ndC cond) (ndS body) (ndS els)) ⟨k,nm,args.bare,cond.bare,body.bare,els.bare,0⟩∧GS r
theorem gflat {z:Tx} (hz:Good z):∀l:List Tx,(∀x∈l,Good x)→Good (l.flatten++z)
 | [],_=>by simpa using hz
 |a::r,h=>by
  rw[List.flatten_cons,List.append_assoc]
  exact(h a (by simp)).app (gflat hz r fun x hx=>h x (by simp[hx]))
theorem gblk {l:List Tx} (h:∀x∈l,Good x):Good (blkT l):= .tok (by decide+kernel) (by decide) (gflat (.one (by decide+kernel) (by decide) (by decide)) l h)
theorem GS.ss:∀ {xs:Sts},GS xs→(∀x∈txS xs,Good x)∧∀D,maxL (ndS xs)≤D→∃l,stsOf l=xs.bare∧SsG D ((txS xs).flatten.map tkOf) l
 | .nil,_=>⟨fun x hx=>by simp[txS]at hx,fun D _=>⟨[],rfl,.nil D⟩⟩
 | .cons k nm args cond body els at_ r,h=>by
  obtain⟨i1,i2⟩:=GS.ss h.2
  refine⟨fun x hx=>?_,fun D hD=>?_⟩
  ·simp only[txS,List.mem_cons]at hx
   rcases hx with rfl|hx
   ·exact h.1.good
   ·exact i1 x hx
  ·have hm:=maxL_le.1 hD
   simp only[ndS,List.mem_cons]at hm
   obtain⟨l,g1,g2⟩:=i2 D (maxL_le.2 fun x hx=>hm x (.inr hx))
   refine⟨⟨k,nm,args.bare,cond.bare,body.bare,els.bare,0⟩::l,?_,?_⟩
   ·simp only[stsOf,g1]
    rfl
   ·simp only[txS,List.flatten_cons,List.map_append]
    exact .cons D _ _ _ _ (h.1.gram D (hm _ (.inl rfl))) g2
theorem GS.blk {xs:Sts} (h:GS xs):Good (blkT (txS xs))∧∀D,maxL (ndS xs)+1≤D→∃l,stsOf l=xs.bare∧BlG D ((blkT (txS xs)).map tkOf) l:=by
 obtain⟨h1,h2⟩:=h.ss
 refine⟨gblk h1,fun D hD=>?_⟩
 obtain⟨D,rfl⟩:∃y,D=y+1:=⟨D - 1,by omega⟩
 obtain⟨l,g1,g2⟩:=h2 D (by omega)
 refine⟨l,g1,?_⟩
 unfold blkT
 rw[List.map_cons,List.map_append]
 exact .mk D _ _ _ _ (isT_of (by decide+kernel)) g2 (isT_of (by decide+kernel))
theorem gask {w:List UInt8} {k:Int} {args:Exs} {of_:Cds} {at_:Int} (hw:TkOk w) (hw2:isWd (w.headD 0)=true) (h:GC (.cons k args of_ at_ .nil)):
  Good (askT w (txC (.cons k args of_ at_ .nil)))∧∀d,arD 0 (nthD (ndC (.cons k args of_ at_ .nil)) 0)≤d→∃c,(askT w (txC (.cons k args of_ at_ .nil))).map tkOf=tkOf w::c∧AskG d c (Cds.bare (.cons k args of_ at_ .nil)):=by
 obtain⟨i1,i2⟩:=h.1.zero
 refine⟨.word hw hw2 (gpar i1),fun d hd=>⟨_,rfl,_,_,_,_,?_,isT_of (s:= [40]) (by decide+kernel),i2 d hd,isT_of (s:= [41]) (by decide+kernel),rfl⟩⟩
 rw[List.map_cons,List.map_append]
 rfl
theorem gargs:∀(xs:Exs),GX xs→0 < xs.len→Good (betw ((txX xs).map (arE 0)))∧∀d,maxL ((ndX xs).map (arD 0))≤d→∃l,exsOf l=xs.bare∧SomeG (ExG d 1) ((betw ((txX xs).map (arE 0))).map tkOf) l
 | .nil,_,h=>by simp[Exs.len]at h
 | .cons k nm n b at_ .nil,h,_=>by
  obtain⟨i1,i2⟩:=h.1.zero
  refine⟨i1,fun d hd=>⟨[_],rfl,.one _ _ (i2 d ?_)⟩⟩
  have:=maxL_le.1 hd
  exact this _ (by simp[ndX])
 | .cons k nm n b at_ (.cons k' nm' n' b' at' r),h,_=>by
  obtain⟨i1,i2⟩:=h.1.zero
  obtain⟨j1,j2⟩:=gargs (.cons k' nm' n' b' at' r) h.2 (by simp[Exs.len])
  have e:betw ((txX (.cons k nm n b at_ (.cons k' nm' n' b' at' r))).map (arE 0))=arE 0 (lvlE k,innE k nm n (txX b))++ [44]::betw ((txX (.cons k' nm' n' b' at' r)).map (arE 0)):=rfl
  rw[e]
  refine⟨.mid i1 (by decide+kernel) j1,fun d hd=>?_⟩
  have hm:=maxL_le.1 hd
  rw[show(ndX (.cons k nm n b at_ (.cons k' nm' n' b' at' r))).map (arD 0)=arD 0 (lvlE k,inD k (ndX b))::(ndX (.cons k' nm' n' b' at' r)).map (arD 0)from rfl]at hm
  obtain⟨l,g1,g2⟩:=j2 d (maxL_le.2 fun x hx=>hm x (List.mem_cons_of_mem _ hx))
  refine⟨⟨k,nm,n,b.bare,0⟩::l,?_,?_⟩
  ·simp only[exsOf,g1]
   rfl
  ·rw[List.map_append,List.map_cons]
   exact .more _ _ _ _ _ (i2 d (hm _ (List.mem_cons_self ..))) (isT_of (by decide+kernel)) g2
theorem Good.eq_ {t:List UInt8} {b:Tx} (ht:TkOk t) (h1:noCl (t.headD 0)=true) (hc:isCl t=false) (hb:Good b):Good (t:: [61]::b):=
 ⟨by simp,⟨ht,fun e=>(by rw[hc]at e;simp at e),(by decide+kernel:TkOk [61]),fun _=>hb.hd,hb.chn⟩,h1,by
  rw[show t:: [61]::b= [t, [61]]++b from rfl,getLastD_app hb.ne]
  exact hb.last⟩
theorem gend:Good [[59]]:= .one (by decide+kernel) (by decide) (by decide)
theorem gS:∀xs:Sts,okS xs=true→rgS xs→GS xs
 | .nil,_,_=>trivial
 | .cons k nm args cond body els at_ r,h,hr=>by
  simp only[okS,Bool.and_eq_true,Bool.or_eq_true,decide_eq_true_eq,beq_iff_eq]at h
  obtain⟨⟨⟨⟨⟨⟨⟨⟨⟨⟨⟨h1,h2⟩,h3⟩,h4⟩,h5⟩,h6⟩,h7⟩,h8⟩,h9⟩,h10⟩,h11⟩,h12⟩:=h
  refine⟨?_,gS r h12 hr.2.2.2.2⟩
  have ihx:=gX args h8 hr.1
  have ihc:=gC cond h9 hr.2.1
  have ihb:=gS body h10 hr.2.2.1
  have ihe:=gS els h11 hr.2.2.2.1
  have lb:k≠7→k≠8→body= .nil :=fun a b=>by
   rcases h6 with(h6|h6)|h6
   ·exact absurd h6 a
   ·exact absurd h6 b
   ·cases body with
    |nil=>rfl
    |cons=>simp[Sts.len]at h6
  have le:k≠7→els= .nil :=fun a=>by
   rcases h7 with h7|h7
   ·exact absurd h7 a
   ·cases els with
    |nil=>rfl
    |cons=>simp[Sts.len]at h7
  have hk:k=1∨k=2∨k=3∨k=4∨k=5∨k=6∨k=7∨k=8∨k=9:=by omega
  rcases hk with rfl|rfl|rfl|rfl|rfl|rfl|rfl|rfl|rfl
  ·obtain rfl:=lb (by decide) (by decide)
   obtain rfl:=le (by decide)
   obtain rfl:=nm_no h3
   obtain rfl:=len0 (a:=args) (by simpa[tabA,stShp]using h4)
   obtain rfl:=lenC0 (a:=cond) (by simpa[tabA,stShp]using h5)
   exact⟨.word (by decide+kernel) (by decide) gend,fun d _=> .skip d (tkOf [115,107,105,112]) (tkOf [59]) rfl (isT_of (by decide+kernel))⟩
  ·obtain rfl:=lb (by decide) (by decide)
   obtain rfl:=le (by decide)
   obtain⟨g1,g2,g3,g4,g5⟩:=name_tk (nm_yes h3)
   obtain rfl:=lenC0 (a:=cond) (by simpa[tabA,stShp]using h5)
   obtain⟨k',nm',n',b',at',rfl⟩:=len1 (a:=args) (by simp[tabA,stShp]at h4;omega)
   obtain⟨i1,i2⟩:=ihx.1.zero
   refine⟨.eq_ g1 (wd_noCl g3) (wd_cl g3) (i1.app gend),fun d hd=>?_⟩
   have:=StG.set d (tkOf nm.data.toList) (tkOf [61]) (tkOf [59]) _ _ g4 (isT_of (by decide+kernel)) (i2 d (by simpa[inDS,ndX,nthD]using hd)) (isT_of (by decide+kernel))
   rw[txt_nm]at this
   rw[show innS 2 nm.data.toList (txX (.cons k' nm' n' b' at' .nil)) (txC .nil) (txS .nil) (txS .nil)=nm.data.toList:: [61]::(arE 0 (lvlE k',innE k' nm' n' (txX b'))++ [[59]])from rfl]
   simp only[List.map_cons,List.map_append,List.map_nil]
   exact this
  ·obtain rfl:=lb (by decide) (by decide)
   obtain rfl:=le (by decide)
   obtain⟨g1,g2,g3,g4,g5⟩:=name_tk (nm_yes h3)
   obtain rfl:=lenC0 (a:=cond) (by simpa[tabA,stShp]using h5)
   obtain⟨k1,nm1,n1,b1,at1,k2,nm2,n2,b2,at2,rfl⟩:=len2 (a:=args) (by simp[tabA,stShp]at h4;omega)
   obtain⟨i1,i2⟩:=ihx.1.zero
   obtain⟨j1,j2⟩:=ihx.2.1.zero
   rw[show innS 3 nm.data.toList (txX (.cons k1 nm1 n1 b1 at1 (.cons k2 nm2 n2 b2 at2 .nil))) (txC .nil) (txS .nil) (txS .nil)=nm.data.toList:: [91]::(arE 0 (lvlE k1,innE k1 nm1 n1 (txX b1))++ [93]:: [61]::(arE 0 (lvlE k2,innE k2 nm2 n2 (txX b2))++ [[59]]))from rfl,
    show inDS 3 (ndX (.cons k1 nm1 n1 b1 at1 (.cons k2 nm2 n2 b2 at2 .nil))) (ndC .nil) (ndS .nil) (ndS .nil)=max (arD 0 (lvlE k1,inD k1 (ndX b1))+1) (arD 0 (lvlE k2,inD k2 (ndX b2)))from rfl]
   refine⟨.word g1 g3 (.tok (by decide+kernel) (by decide) (i1.app (.eq_ (by decide+kernel) (by decide) (by decide) (j1.app gend)))),fun d hd=>?_⟩
   obtain⟨d,rfl⟩:∃y,d=y+1:=⟨d - 1,by omega⟩
   have:=StG.store d (tkOf nm.data.toList) (tkOf [91]) (tkOf [93]) (tkOf [61]) (tkOf [59]) _ _ _ _ g4 (isT_of (by decide+kernel)) (i2 d (by omega)) (isT_of (by decide+kernel)) (isT_of (by decide+kernel)) (j2 (d+1) (by omega)) (isT_of (by decide+kernel))
   rw[txt_nm]at this
   simp only[List.map_cons,List.map_append,List.map_nil]
   exact this
  ·obtain rfl:=lb (by decide) (by decide)
   obtain rfl:=le (by decide)
   obtain⟨g1,g2,g3,g4,g5⟩:=name_tk (nm_yes h3)
   obtain rfl:=len0 (a:=args) (by simpa[tabA,stShp]using h4)
   obtain rfl:=lenC0 (a:=cond) (by simpa[tabA,stShp]using h5)
   refine⟨.word (by decide+kernel) (by decide) (.word g1 g3 gend),fun d _=>?_⟩
   have:=StG.input d (tkOf [105,110,112,117,116]) (tkOf nm.data.toList) (tkOf [59]) rfl g4 (isT_of (by decide+kernel))
   rw[txt_nm]at this
   exact this
  ·obtain rfl:=lb (by decide) (by decide)
   obtain rfl:=le (by decide)
   obtain rfl:=nm_no h3
   obtain rfl:=len0 (a:=args) (by simpa[tabA,stShp]using h4)
   obtain⟨k',b',o',at',rfl⟩:=lenC1 (a:=cond) (by simp[tabA,stShp]at h5;omega)
   obtain⟨i1,i2⟩:=gask (at_:=at') (w:= [97,115,115,117,109,101]) (by decide+kernel) (by decide) ⟨ihc.1,trivial⟩
   refine⟨i1.app gend,fun d hd=>?_⟩
   obtain⟨c,e1,e2⟩:=i2 d hd
   rw[show innS 5 noB.data.toList (txX .nil) (txC (.cons k' b' o' at' .nil)) (txS .nil) (txS .nil)=askT [97,115,115,117,109,101] (txC (.cons k' b' o' at' .nil))++ [[59]]from rfl,List.map_append,e1]
   exact StG.assume d (tkOf [97,115,115,117,109,101]) (tkOf [59]) c _ rfl e2 (isT_of (by decide+kernel))
  ·obtain rfl:=lb (by decide) (by decide)
   obtain rfl:=le (by decide)
   obtain rfl:=nm_no h3
   obtain rfl:=len0 (a:=args) (by simpa[tabA,stShp]using h4)
   obtain⟨k',b',o',at',rfl⟩:=lenC1 (a:=cond) (by simp[tabA,stShp]at h5;omega)
   obtain⟨i1,i2⟩:=gask (at_:=at') (w:= [97,115,115,101,114,116]) (by decide+kernel) (by decide) ⟨ihc.1,trivial⟩
   refine⟨i1.app gend,fun d hd=>?_⟩
   obtain⟨c,e1,e2⟩:=i2 d hd
   rw[show innS 6 noB.data.toList (txX .nil) (txC (.cons k' b' o' at' .nil)) (txS .nil) (txS .nil)=askT [97,115,115,101,114,116] (txC (.cons k' b' o' at' .nil))++ [[59]]from rfl,List.map_append,e1]
   exact StG.assert d (tkOf [97,115,115,101,114,116]) (tkOf [59]) c _ rfl e2 (isT_of (by decide+kernel))
  ·obtain rfl:=nm_no h3
   obtain rfl:=len0 (a:=args) (by simpa[tabA,stShp]using h4)
   obtain⟨k',b',o',at',rfl⟩:=lenC1 (a:=cond) (by simp[tabA,stShp]at h5;omega)
   obtain⟨i1,i2⟩:=gask (at_:=at') (w:= [105,102]) (by decide+kernel) (by decide) ⟨ihc.1,trivial⟩
   obtain⟨b1,b2⟩:=ihb.blk
   obtain⟨c1,c2⟩:=ihe.blk
   have e:innS 7 noB.data.toList (txX .nil) (txC (.cons k' b' o' at' .nil)) (txS body) (txS els)=askT [105,102] (txC (.cons k' b' o' at' .nil))++(blkT (txS body)++(if txS els= []then []else [101,108,115,101]::blkT (txS els))):=rfl
   have ed:inDS 7 (ndX .nil) (ndC (.cons k' b' o' at' .nil)) (ndS body) (ndS els)=max (arD 0 (nthD (ndC (.cons k' b' o' at' .nil)) 0)) (max (maxL (ndS body)+1) (if ndS els= []then 0 else maxL (ndS els)+1)):=rfl
   rw[e,ed]
   by_cases he:els= .nil
   ·subst he
    rw[if_pos (show txS Sts.nil= []from rfl),if_pos (show ndS Sts.nil= []from rfl),List.append_nil]
    refine⟨i1.app b1,fun d hd=>?_⟩
    obtain⟨c,e1,e2⟩:=i2 d (by omega)
    obtain⟨l,e3,e4⟩:=b2 d (by omega)
    rw[List.map_append,e1]
    have:=StG.ifs d (tkOf [105,102]) c _ _ l rfl e2 e4
    rw[e3]at this
    exact this
   ·have hn:txS els≠ []∧ndS els≠ []:=by
     cases els with
     |nil=>exact absurd rfl he
     |cons=>simp[txS,ndS]
    rw[if_neg hn.1,if_neg hn.2]
    refine⟨i1.app (b1.app (.word (by decide+kernel) (by decide) c1)),fun d hd=>?_⟩
    obtain⟨c,e1,e2⟩:=i2 d (by omega)
    obtain⟨l,e3,e4⟩:=b2 d (by omega)
    obtain⟨m,e5,e6⟩:=c2 d (by omega)
    rw[List.map_append,e1,List.map_append,List.map_cons]
    have:=StG.ifelse d (tkOf [105,102]) (tkOf [101,108,115,101]) c _ _ _ l m rfl e2 e4 (isT_of (by decide+kernel)) e6
    rw[e3,e5]at this
    exact this
  ·obtain rfl:=le (by decide)
   obtain rfl:=nm_no h3
   obtain rfl:=len0 (a:=args) (by simpa[tabA,stShp]using h4)
   obtain⟨k',b',o',at',rfl⟩:=lenC1 (a:=cond) (by simp[tabA,stShp]at h5;omega)
   obtain⟨i1,i2⟩:=gask (at_:=at') (w:= [119,104,105,108,101]) (by decide+kernel) (by decide) ⟨ihc.1,trivial⟩
   obtain⟨b1,b2⟩:=ihb.blk
   have e:innS 8 noB.data.toList (txX .nil) (txC (.cons k' b' o' at' .nil)) (txS body) (txS .nil)=askT [119,104,105,108,101] (txC (.cons k' b' o' at' .nil))++blkT (txS body):=rfl
   have ed:inDS 8 (ndX .nil) (ndC (.cons k' b' o' at' .nil)) (ndS body) (ndS .nil)=max (arD 0 (nthD (ndC (.cons k' b' o' at' .nil)) 0)) (maxL (ndS body)+1):=rfl
   rw[e,ed]
   refine⟨i1.app b1,fun d hd=>?_⟩
   obtain⟨c,e1,e2⟩:=i2 d (by omega)
   obtain⟨l,e3,e4⟩:=b2 d (by omega)
   rw[List.map_append,e1]
   have:=StG.while d (tkOf [119,104,105,108,101]) c _ _ l rfl e2 e4
   rw[e3]at this
   exact this
  ·obtain rfl:=lb (by decide) (by decide)
   obtain rfl:=le (by decide)
   obtain⟨g1,g2,g3,g4,g5⟩:=name_tk (nm_yes h3)
   obtain rfl:=lenC0 (a:=cond) (by simpa[tabA,stShp]using h5)
   have e:innS 9 nm.data.toList (txX args) (txC .nil) (txS .nil) (txS .nil)= [99,97,108,108]::nm.data.toList:: [40]::(betw ((txX args).map (arE 0))++ [[41], [59]]):=rfl
   have ed:inDS 9 (ndX args) (ndC .nil) (ndS .nil) (ndS .nil)=maxL ((ndX args).map (arD 0)):=rfl
   rw[e,ed]
   have gz:Good [[41], [59]]:= .tok (by decide+kernel) (by decide) gend
   by_cases ha:0 < args.len
   ·obtain⟨i1,i2⟩:=gargs args ihx ha
    refine⟨.word (by decide+kernel) (by decide) (.word g1 g3 (.tok (by decide+kernel) (by decide) (i1.app gz))),fun d hd=>?_⟩
    obtain⟨l,e1,e2⟩:=i2 d hd
    have:=StG.call d (tkOf [99,97,108,108]) (tkOf nm.data.toList) (tkOf [40]) (tkOf [41]) (tkOf [59]) _ l rfl g4 (isT_of (by decide+kernel)) (.inr e2) (isT_of (by decide+kernel)) (isT_of (by decide+kernel))
    rw[txt_nm,e1]at this
    simp only[List.map_cons,List.map_append,List.map_nil]
    exact this
   ·obtain rfl:=len0 (a:=args) (by omega)
    refine⟨.word (by decide+kernel) (by decide) (.word g1 g3 (.tok (by decide+kernel) (by decide) gz)),fun d hd=>?_⟩
    have:=StG.call d (tkOf [99,97,108,108]) (tkOf nm.data.toList) (tkOf [40]) (tkOf [41]) (tkOf [59]) [] [] rfl g4 (isT_of (by decide+kernel)) (.inl ⟨rfl,rfl⟩) (isT_of (by decide+kernel)) (isT_of (by decide+kernel))
    rw[txt_nm]at this
    exact this

theorem okVs_mem {vs:List Va} (h:okVs vs=true):∀v∈vs,nameB v.nm.data.toList=true:=List.all_eq_true.1 h
theorem okAs_mem {xs:List Arr} (h:okAs xs=true):∀v∈xs,nameB v.nm.data.toList=true∧0≤v.size:=fun v hv=>by
 have:=List.all_eq_true.1 h v hv
 simpa only[Bool.and_eq_true,decide_eq_true_eq]using this
theorem okPs_mem {xs:List Prc} (h:okPs xs=true):∀v∈xs,nameB v.nm.data.toList=true∧okVs v.params=true∧okS v.body=true:=fun v hv=>by
 have:=List.all_eq_true.1 h v hv
 simp only[Bool.and_eq_true]at this
 exact⟨this.1.1,this.1.2,this.2⟩
def GoodE (a:Tx):Prop:=a= []∨Good a
theorem GoodE.app {a b:Tx} (ha:GoodE a) (hb:Good b):Good (a++b):=by
 rcases ha with rfl|ha
 ·exact hb
 ·exact ha.app hb
theorem gnam:∀(vs:List Va),(∀v∈vs,nameB v.nm.data.toList=true)→vs≠ []→Good (namT vs)∧SomeG VaG ((namT vs).map tkOf) (vs.map Va.bare)
 | [],_,h=>absurd rfl h
 | [v],h,_=>by
  obtain⟨g1,g2,g3,g4,g5⟩:=name_tk (h v (by simp))
  exact⟨.word1 g1 g3,.one _ _ ⟨tkOf v.nm.data.toList,rfl,g4,by rw[txt_nm];rfl⟩⟩
 |v::u::r,h,_=>by
  obtain⟨g1,g2,g3,g4,g5⟩:=name_tk (h v (by simp))
  obtain⟨i1,i2⟩:=gnam (u::r) (fun x hx=>h x (by simp at hx ⊢;exact .inr hx)) (by simp)
  have e:namT (v::u::r)= [v.nm.data.toList]++ [44]::namT (u::r):=rfl
  rw[e]
  refine⟨.mid (.word1 g1 g3) (by decide+kernel) i1,?_⟩
  rw[List.map_append,List.map_cons]
  exact .more _ _ _ _ _ ⟨tkOf v.nm.data.toList,rfl,g4,by rw[txt_nm];rfl⟩ (isT_of (by decide+kernel)) i2
theorem garr1 {x:Arr} (h:nameB x.nm.data.toList=true∧0≤x.size) (hr:x.size≤9223372036854775807):Good (arrT x)∧ArG ((arrT x).map tkOf) x.bare:=by
 obtain⟨g1,g2,g3,g4,g5⟩:=name_tk h.1
 obtain⟨n1,n2,n3,n4⟩:=num_tk h.2 hr
 refine⟨.word g1 g3 (.tok (by decide+kernel) (by decide) (.word n1 n3 (.one (by decide+kernel) (by decide) (by decide)))),_,_,_,_,rfl,g4,isT_of (s:= [91]) (by decide+kernel),n2,isT_of (s:= [93]) (by decide+kernel),?_⟩
 rw[txt_nm,show(decV (tkOf (Lib.itoa x.size)).text :Int)=x.size from n4]
 rfl
theorem garr:∀(vs:List Arr),(∀v∈vs,nameB v.nm.data.toList=true∧0≤v.size)→(∀v∈vs,v.size≤9223372036854775807)→vs≠ []→Good (betw (vs.map arrT))∧SomeG ArG ((betw (vs.map arrT)).map tkOf) (vs.map Arr.bare)
 | [],_,_,h=>absurd rfl h
 | [v],h,hr,_=>by
  obtain⟨g1,g2⟩:=garr1 (h v (by simp)) (hr v (by simp))
  exact⟨g1,.one _ _ g2⟩
 |v::u::r,h,hr,_=>by
  obtain⟨g1,g2⟩:=garr1 (h v (by simp)) (hr v (by simp))
  obtain⟨i1,i2⟩:=garr (u::r) (fun x hx=>h x (by simp at hx ⊢;exact .inr hx)) (fun x hx=>hr x (by simp at hx ⊢;exact .inr hx)) (by simp)
  have e:betw ((v::u::r).map arrT)=arrT v++ [44]::betw ((u::r).map arrT):=rfl
  rw[e]
  refine⟨.mid g1 (by decide+kernel) i1,?_⟩
  rw[List.map_append,List.map_cons]
  exact .more _ _ _ _ _ g2 (isT_of (by decide+kernel)) i2
theorem ghead {vs:List Va} {xs:List Arr} (h1:∀v∈vs,nameB v.nm.data.toList=true) (h2:∀v∈xs,nameB v.nm.data.toList=true∧0≤v.size) (h3:∀v∈xs,v.size≤9223372036854775807):
  GoodE (varsT vs)∧GoodE (arrsT xs)∧HdG ((varsT vs++arrsT xs).map tkOf) (vs.map Va.bare) (xs.map Arr.bare):=by
 have ha:GoodE (arrsT xs)∧HdG ((arrsT xs).map tkOf) [] (xs.map Arr.bare):=by
  unfold arrsT
  split
  ·rename_i e
   subst e
   exact⟨.inl rfl,.nil⟩
  ·rename_i e
   obtain⟨i1,i2⟩:=garr xs h2 h3 e
   refine⟨.inr (.word (by decide+kernel) (by decide) (i1.app gend)),?_⟩
   have:=HdG.arrays (tkOf [97,114,114,97,121]) (tkOf [59]) _ [] [] _ [] (isT_of (by decide+kernel)) i2 (isT_of (by decide+kernel)) .nil
   rw[List.append_nil]at this
   simp only[List.map_cons,List.map_append,List.map_nil]
   exact this
 unfold varsT
 split
 ·rename_i e
  subst e
  exact⟨.inl rfl,ha.1,by simpa using ha.2⟩
 ·rename_i e
  obtain⟨i1,i2⟩:=gnam vs h1 e
  refine⟨.inr (.word (by decide+kernel) (by decide) (i1.app gend)),ha.1,?_⟩
  have:=HdG.vars (tkOf [118,97,114]) (tkOf [59]) _ _ _ _ _ (isT_of (by decide+kernel)) i2 (isT_of (by decide+kernel)) ha.2
  rw[List.append_nil]at this
  simpa only[List.map_cons,List.map_append,List.map_nil,List.cons_append,List.append_assoc,List.nil_append]using this
theorem gproc {p:Prc} (h:nameB p.nm.data.toList=true∧okVs p.params=true∧okS p.body=true) (hr:rgS p.body):Good (prcT p)∧∀D,maxL (ndS p.body)+1≤D→PsGn D ((prcT p).map tkOf) [p.bare]:=by
 obtain⟨g1,g2,g3,g4,g5⟩:=name_tk h.1
 obtain⟨b1,b2⟩:=(gS p.body h.2.2 hr).blk
 have hp:(namT p.params= []∧p.params= [])∨(Good (namT p.params)∧SomeG VaG ((namT p.params).map tkOf) (p.params.map Va.bare)):=by
  by_cases e:p.params= []
  ·left
   rw[e]
   exact⟨rfl,rfl⟩
  ·exact .inr (gnam p.params (okVs_mem h.2.1) e)
 have hb:Good ([41]::blkT (txS p.body)):= .tok (by decide+kernel) (by decide) b1
 refine⟨.word (by decide+kernel) (by decide) (.word g1 g3 (.tok (by decide+kernel) (by decide) ?_)),fun D hD=>?_⟩
 ·rcases hp with⟨e,_⟩|⟨i1,_⟩
  ·rw[e];exact hb
  ·exact i1.app hb
 ·obtain⟨l,e1,e2⟩:=b2 D hD
  have hl:ListG VaG ((namT p.params).map tkOf) (p.params.map Va.bare):=by
   rcases hp with⟨e,e'⟩|⟨_,i2⟩
   ·rw[e,e'];exact .inl ⟨rfl,rfl⟩
   ·exact .inr i2
  have hc:PcGn D (tkOf p.nm.data.toList::tkOf [40]::((namT p.params).map tkOf++tkOf [41]::(blkT (txS p.body)).map tkOf)) p.bare:=
   ⟨_,_,_,_,_,_,l,rfl,g4,isT_of (s:= [40]) (by decide+kernel),hl,isT_of (s:= [41]) (by decide+kernel),e2,by rw[txt_nm,e1];rfl⟩
  have:=PsGn.cons (tkOf [112,114,111,99]) _ [] _ [] (isT_of (by decide+kernel)) hc .nil
  rw[List.append_nil]at this
  unfold prcT
  simp only[List.map_cons,List.map_append]
  exact this
theorem PsGn.app {D:Nat} {a b:List Tk} {ps qs:List Prc} (h:PsGn D a ps) (k:PsGn D b qs):PsGn D (a++b) (ps++qs):=by
 induction h with
 |nil=>exact k
 |cons t c d p ps h1 h2 h3 ih=>
  rw[List.cons_append,List.append_assoc,List.cons_append]
  exact .cons t c _ p _ h1 h2 ih
theorem gprocs:∀(ps:List Prc),(∀p∈ps,nameB p.nm.data.toList=true∧okVs p.params=true∧okS p.body=true)→(∀p∈ps,rgS p.body)→GoodE (ps.flatMap prcT)∧∀D,maxL (ps.map fun p=>maxL (ndS p.body)+1)≤D→PsGn D ((ps.flatMap prcT).map tkOf) (ps.map Prc.bare)
 | [],_,_=>⟨.inl rfl,fun D _=> .nil⟩
 |p::r,h,hr=>by
  obtain⟨g1,g2⟩:=gproc (h p (by simp)) (hr p (by simp))
  obtain⟨i1,i2⟩:=gprocs r (fun x hx=>h x (by simp[hx])) (fun x hx=>hr x (by simp[hx]))
  refine⟨?_,fun D hD=>?_⟩
  ·rw[List.flatMap_cons]
   rcases i1 with e|i1
   ·rw[e,List.append_nil];exact .inr g1
   ·exact .inr (g1.app i1)
  ·have hm:=maxL_le.1 hD
   simp only[List.map_cons,List.mem_cons]at hm
   rw[List.flatMap_cons,List.map_append,List.map_cons]
   exact(g2 D (hm _ (.inl rfl))).app (i2 D (maxL_le.2 fun x hx=>hm x (.inr hx)))
theorem gT {t:Tre} (h:okTr t=true) (hr:RgT t):Good (treT t)∧∀D,ndTr t≤D→TrGn D ((treT t).map tkOf) t.bare:=by
 simp only[okTr,Bool.and_eq_true]at h
 obtain⟨⟨⟨h1,h2⟩,h3⟩,h4⟩:=h
 obtain⟨g1,g2,g3⟩:=ghead (okVs_mem h1) (okAs_mem h3) hr.arrays
 obtain⟨p1,p2⟩:=gprocs t.procs (okPs_mem h4) hr.procs
 obtain⟨b1,b2⟩:=(gS t.main h2 hr.main).blk
 refine⟨g1.app (g2.app (p1.app (.word (by decide+kernel) (by decide) b1))),fun D hD=>?_⟩
 unfold ndTr at hD
 obtain⟨l,e1,e2⟩:=b2 D (by omega)
 refine⟨_,_,_,_,l,?_,g3,p2 D (by omega),isT_of (s:= [109,97,105,110]) (by decide+kernel),e2,e1.symm⟩
 unfold treT
 simp only[List.map_append,List.map_cons,List.append_assoc]
end Go.Proofs.YtmopichdofgndaaGreatDoor
