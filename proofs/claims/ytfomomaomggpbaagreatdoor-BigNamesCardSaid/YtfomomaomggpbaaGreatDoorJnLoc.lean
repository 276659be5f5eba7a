/-
  Plain parsing of statements, procedures and trees.
-/
import Derived.Test.YtfomomaomggpbaaGreatDoorPdFlat
set_option linter.unusedVariables false
set_option linter.unusedSimpArgs false
namespace Go.Proofs.YtfomomaomggpbaaGreatDoor
open Go.RowKit Go.Shelf

def keyK (t:List UInt8):Int:=
 if t= [115,107,105,112]then 1 else if t= [105,110,112,117,116]then 4 else if t= [97,115,115,117,109,101]then 5 else if t= [97,115,115,101,114,116]then 6
 else if t= [105,102]then 7 else if t= [119,104,105,108,101]then 8 else if t= [99,97,108,108]then 9 else 0
def endS (x:St) (l:List Tk):PR St:=(takeP [59] l).then fun _ r=> .ok x r
def stmtOf (blk:List Tk→PR (List St)) (n:Nat) (l:List Tk):PR St:=
 let a:=((hdT l).at_ :Int)
 let k:=keyK (hdT l).text
 if k=1 then endS ⟨1,noB,.nil,.nil,.nil,.nil,a⟩ l.tail
 else if k=4 then(nameP l.tail).then fun x r=>endS ⟨4,x.nm,.nil,.nil,.nil,.nil,a⟩ r
 else if k=5∨k=6 then(askP n l.tail).then fun c r=>endS ⟨k,noB,.nil,c,.nil,.nil,a⟩ r
 else if k=7 then(askP n l.tail).then fun c r=>(blk r).then fun b r=>
  if mayB [101,108,115,101] r then(blk r.tail).then fun e r=> .ok ⟨7,noB,.nil,c,stsOf b,stsOf e,a⟩ r else .ok ⟨7,noB,.nil,c,stsOf b,.nil,a⟩ r
 else if k=8 then(askP n l.tail).then fun c r=>(blk r).then fun b r=> .ok ⟨8,noB,.nil,c,stsOf b,.nil,a⟩ r
 else if k=9 then(nameP l.tail).then fun x r=>(takeP [40] r).then fun _ r=>(someP (exprP n) [41] true r).then fun xs r=>endS ⟨9,x.nm,exsOf xs,.nil,.nil,.nil,a⟩ r
 else(nameP l).then fun x r=>
  if mayB [91] r then(indexP n r).then fun i r=>(takeP [61] r).then fun _ r=>(exprP n r).then fun e r=>endS ⟨3,x.nm,i.cons (e.cons .nil),.nil,.nil,.nil,a⟩ r
  else(takeP [61] r).then fun _ r=>(exprP n r).then fun e r=>endS ⟨2,x.nm,e.cons .nil,.nil,.nil,.nil,a⟩ r
def stmtsF (one:List Tk→PR St):Nat→List St→List Tk→PR (List St)
 |0,acc,l=> .ok acc l
 |f+1,acc,l=>if mayB [125] l then .ok acc l.tail else(one l).then fun x r=>stmtsF one f (acc++ [x]) r
def blockP:Nat→List Tk→PR (List St)
 |n,l=>
  if mayB [123] l then(match n with
   |0=> .err 91 (hdT l).at_
   |n+1=>stmtsF (stmtOf (blockP n) n) l.tail.length [] l.tail)
  else .err 90 (hdT l).at_
def sizedP (l:List Tk):PR Arr:=(nameP l).then fun x r=>(takeP [91] r).then fun _ r=>(numberP r).then fun n r=>(takeP [93] r).then fun _ r=> .ok ⟨x.nm,n,x.at_⟩ r
def procP (l:List Tk):PR Prc:=(nameP l).then fun x r=>(takeP [40] r).then fun _ r=>(someP nameP [41] true r).then fun ps r=>(blockP 24 r).then fun b r=> .ok ⟨x.nm,ps,stsOf b,x.at_⟩ r
def headF:Nat→List Va→List Arr→List Tk→PR (List Va×List Arr)
 |0,vs,xs,l=> .ok (vs,xs) l
 |f+1,vs,xs,l=>
  if mayB [118,97,114] l then(someP nameP [59] false l.tail).then fun v r=>headF f (vs++v) xs r
  else if mayB [97,114,114,97,121] l then(someP sizedP [59] false l.tail).then fun x r=>headF f vs (xs++x) r
  else .ok (vs,xs) l
def procsF:Nat→List Prc→List Tk→PR (List Prc)
 |0,ps,l=> .ok ps l
 |f+1,ps,l=>if mayB [112,114,111,99] l then(procP l.tail).then fun p r=>procsF f (ps++ [p]) r else .ok ps l
def treeP (l:List Tk):PR Tre:=
 (headF l.length [] [] l).then fun vx r=>(procsF r.length [] r).then fun ps r=>(takeP [109,97,105,110] r).then fun _ r=>(blockP 24 r).then fun b r=>
  if 1 < r.length then .err 90 (hdT r).at_ else .ok ⟨vx.1,vx.2,ps,stsOf b⟩ r
def parseB (s:List UInt8):Tre×Int×Int:=
 let q:=toks s
 if q.2.2≠0 then(⟨[], [], [],.nil⟩,q.2.1,q.2.2)
 else match treeP (q.1++ [⟨0, [],s.length⟩])with
  | .ok t _=>(t,0,0)
  | .err e a=>(⟨[], [], [],.nil⟩,a,e)
theorem nameP_shr {l:List Tk} {x:Va} {r:List Tk} (h:nameP l= .ok x r):r=l.tail:=by
 unfold nameP at h
 split at h
 ·simp only[PR.ok.injEq]at h;exact h.2.symm
 ·simp at h

def Tk.live (t:Tk):Prop:=¬(t.text= []∧t.kind=0)
def Ended (l:List Tk):Prop:=∃q z,l=q++ [z]∧¬Tk.live z
theorem Ended.ne {l:List Tk} (h:Ended l):l≠ []:=by
 obtain⟨q,z,rfl,_⟩:=h
 simp
theorem Ended.app {l:List Tk} (h:Ended l) (pre:List Tk):Ended (pre++l):=by
 obtain⟨q,z,rfl,hz⟩:=h
 exact⟨pre++q,z,by rw[List.append_assoc],hz⟩
theorem Ended.back {pre r:List Tk} (h:Ended (pre++r)) (hp:∀t∈pre,t.live):Ended r:=by
 obtain⟨q,z,e,hz⟩:=h
 rcases List.eq_nil_or_concat r with rfl|⟨s,y,rfl⟩
 ·rw[List.append_nil]at e
  exact absurd (hp z (by rw[e];simp)) hz
 ·rw[List.concat_eq_append,←List.append_assoc]at e
  have:=(List.append_inj_right' e (by simp))
  simp only[List.cons.injEq,and_true]at this
  exact⟨s,y,by simp,by rw[this];exact hz⟩
theorem Ended.tl {l:List Tk} (h:Ended l) (hl:(hdT l).live):Ended l.tail:=by
 cases l with
 |nil=>exact absurd rfl h.ne
 |cons t r=>exact Ended.back (pre:= [t]) h fun q hq=>by simp only[List.mem_cons,List.not_mem_nil,or_false]at hq;subst hq;exact hl
def LocAt {α:Type} (f:List Tk→PR α) (l:List Tk):Prop:=
 match f l with
 | .ok x r=>∃pre,l=pre++r∧(∀t∈pre,t.live)∧∀r',Ended r'→hdT r'=hdT r→f (pre++r')= .ok x r'
 | .err c a=>∃pre post,l=pre++post∧(∀t∈pre,t.live)∧a=((hdT post).at_ :Int)∧(c=90∨c=91∧(hdT post).live)∧∀post',Ended post'→hdT post'=hdT post→f (pre++post')= .err c a
def Lcl {α:Type} (f:List Tk→PR α):Prop:=∀l,Ended l→LocAt f l
theorem LocAt.ok_ {α:Type} {f:List Tk→PR α} {l:List Tk} {x:α} {r:List Tk} (h:LocAt f l) (e:f l= .ok x r):∃pre,l=pre++r∧(∀t∈pre,t.live)∧∀r',Ended r'→hdT r'=hdT r→f (pre++r')= .ok x r':=by
 unfold LocAt at h;rw[e]at h;exact h
theorem LocAt.err_ {α:Type} {f:List Tk→PR α} {l:List Tk} {c a:Int} (h:LocAt f l) (e:f l= .err c a):∃pre post,l=pre++post∧(∀t∈pre,t.live)∧a=((hdT post).at_ :Int)∧(c=90∨c=91∧(hdT post).live)∧∀post',Ended post'→hdT post'=hdT post→f (pre++post')= .err c a:=by
 unfold LocAt at h;rw[e]at h;exact h
theorem LocAt.mk_ok {α:Type} {f:List Tk→PR α} {l:List Tk} {x:α} {r:List Tk} (e:f l= .ok x r) (h:∃pre,l=pre++r∧(∀t∈pre,t.live)∧∀r',Ended r'→hdT r'=hdT r→f (pre++r')= .ok x r'):LocAt f l:=by
 unfold LocAt;rw[e];exact h
theorem LocAt.mk_err {α:Type} {f:List Tk→PR α} {l:List Tk} {c a:Int} (e:f l= .err c a) (h:∃pre post,l=pre++post∧(∀t∈pre,t.live)∧a=((hdT post).at_ :Int)∧(c=90∨c=91∧(hdT post).live)∧∀post',Ended post'→hdT post'=hdT post→f (pre++post')= .err c a):LocAt f l:=by
 unfold LocAt;rw[e];exact h
theorem LocAt.shr {α:Type} {f:List Tk→PR α} {l:List Tk} {x:α} {r:List Tk} (h:LocAt f l) (hl:Ended l) (e:f l= .ok x r):r.length≤l.length∧Ended r:=by
 obtain⟨pre,rfl,h1,h2⟩:=h.ok_ e
 exact⟨by simp,hl.back h1⟩
theorem hdT_app {pre r r':List Tk} (h:hdT r'=hdT r):hdT (pre++r')=hdT (pre++r):=by
 cases pre with
 |nil=>exact h
 |cons a b=>rfl
theorem LocAt.congr {α:Type} {f g:List Tk→PR α} {l:List Tk} (h:LocAt f l) (k:∀l',hdT l'=hdT l→g l'=f l'):LocAt g l:=by
 have e:=k l rfl
 cases hf:f l with
 |ok x r=>
  obtain⟨pre,e1,h1,h2⟩:=h.ok_ hf
  exact LocAt.mk_ok (e.trans hf) ⟨pre,e1,h1,fun r' he hr=>(k _ (by rw[e1];exact hdT_app hr)).trans (h2 r' he hr)⟩
 |err c a=>
  obtain⟨pre,post,e1,h1,h3,h4,h2⟩:=h.err_ hf
  exact LocAt.mk_err (e.trans hf) ⟨pre,post,e1,h1,h3,h4,fun r' he hr=>(k _ (by rw[e1];exact hdT_app hr)).trans (h2 r' he hr)⟩
theorem LocAt.ok1 {α:Type} (x:α) (l:List Tk):LocAt (fun l=>PR.ok x l) l:=LocAt.mk_ok rfl ⟨[],rfl,by simp,fun r' _ _=>rfl⟩
theorem Lcl.ok1 {α:Type} (x:α):Lcl (fun l=>PR.ok x l):=fun l _=>LocAt.ok1 x l
theorem LocAt.syn {α:Type} (l:List Tk):LocAt (fun l=>(PR.err 90 ((hdT l).at_ :Int):PR α)) l:=LocAt.mk_err rfl ⟨[],l,rfl,by simp,rfl,.inl rfl,fun p _ hp=>by show PR.err _ _=_;rw[List.nil_append,hp]⟩
theorem LocAt.dp {α:Type} {l:List Tk} (h:(hdT l).live):LocAt (fun l=>(PR.err 91 ((hdT l).at_ :Int):PR α)) l:=LocAt.mk_err rfl ⟨[],l,rfl,by simp,rfl,.inr ⟨rfl,h⟩,fun p _ hp=>by show PR.err _ _=_;rw[List.nil_append,hp]⟩
theorem LocAt.tl {α:Type} {f:List Tk→PR α} {l:List Tk} (hl:(hdT l).live) (h:LocAt f l.tail):LocAt (fun l=>f l.tail) l:=by
 cases l with
 |nil=>exact absurd ⟨rfl,rfl⟩ hl
 |cons t r=>
  have ht:t.live:=hl
  cases hf:f r with
  |ok x r2=>
   obtain⟨pre,e1,h1,h2⟩:=LocAt.ok_ h hf
   have e1:r=pre++r2:=e1
   refine LocAt.mk_ok (f:=fun l=>f l.tail) (l:=t::r) hf ⟨t::pre,by rw[e1];rfl,fun q hq=>?_,fun r' he hr=>h2 r' he hr⟩
   rcases List.mem_cons.1 hq with rfl|hq
   ·exact ht
   ·exact h1 q hq
  |err c a=>
   obtain⟨pre,post,e1,h1,h3,h4,h2⟩:=LocAt.err_ h hf
   have e1:r=pre++post:=e1
   refine LocAt.mk_err (f:=fun l=>f l.tail) (l:=t::r) hf ⟨t::pre,post,by rw[e1];rfl,fun q hq=>?_,h3,h4,fun r' he hr=>h2 r' he hr⟩
   rcases List.mem_cons.1 hq with rfl|hq
   ·exact ht
   ·exact h1 q hq
theorem LocAt.then_ {α β:Type} {f:List Tk→PR α} {g:α→List Tk→PR β} {l:List Tk} (h:LocAt f l) (k:∀x r,f l= .ok x r→LocAt (g x) r):LocAt (fun l=>(f l).then g) l:=by
 cases hf:f l with
 |err c a=>
  obtain⟨pre,post,e1,h1,h3,h4,h2⟩:=h.err_ hf
  exact LocAt.mk_err (f:=fun l=>(f l).then g) (by show(f l).then g=_;rw[hf];rfl) ⟨pre,post,e1,h1,h3,h4,fun r' he hr=>by show(f _).then g=_;rw[h2 r' he hr];rfl⟩
 |ok x r=>
  obtain⟨pre,e1,h1,h2⟩:=h.ok_ hf
  have hk:=k x r hf
  cases hg:g x r with
  |err c a=>
   obtain⟨pre2,post,e2,h3,h4,h5,h6⟩:=hk.err_ hg
   refine LocAt.mk_err (f:=fun l=>(f l).then g) (by show(f l).then g=_;rw[hf];exact hg) ⟨pre++pre2,post,by rw[e1,e2,List.append_assoc],fun t ht=>?_,h4,h5,fun r' he hr=>?_⟩
   ·rcases List.mem_append.1 ht with ht|ht
    ·exact h1 t ht
    ·exact h3 t ht
   ·show(f _).then g=_
    rw[List.append_assoc,h2 _ (he.app _) (by rw[e2];exact hdT_app hr)]
    exact h6 r' he hr
  |ok y r2=>
   obtain⟨pre2,e2,h3,h6⟩:=hk.ok_ hg
   refine LocAt.mk_ok (f:=fun l=>(f l).then g) (by show(f l).then g=_;rw[hf];exact hg) ⟨pre++pre2,by rw[e1,e2,List.append_assoc],fun t ht=>?_,fun r' he hr=>?_⟩
   ·rcases List.mem_append.1 ht with ht|ht
    ·exact h1 t ht
    ·exact h3 t ht
   ·show(f _).then g=_
    rw[List.append_assoc,h2 _ (he.app _) (by rw[e2];exact hdT_app hr)]
    exact h6 r' he hr
theorem Lcl.then_ {α β:Type} {f:List Tk→PR α} {g:α→List Tk→PR β} (h:Lcl f) (k:∀x,Lcl (g x)):Lcl (fun l=>(f l).then g):=fun l hl=>(h l hl).then_ fun x r e=>k x r ((h l hl).shr hl e).2
theorem LocAt.tl' {α:Type} {f:List Tk→PR α} {l:List Tk} (he:Ended l) (hl:(hdT l).live) (h:Lcl f):LocAt (fun l=>f l.tail) l:=LocAt.tl hl (h _ (he.tl hl))
theorem LocAt.tlc {α:Type} {f g:List Tk→PR α} {l:List Tk} (hl:(hdT l).live) (h:LocAt f l.tail) (k:∀l',hdT l'=hdT l→g l'=f l'.tail):LocAt g l:=(LocAt.tl hl h).congr k
theorem LocAt.tlc' {α:Type} {f g:List Tk→PR α} {l:List Tk} (he:Ended l) (hl:(hdT l).live) (h:Lcl f) (k:∀l',hdT l'=hdT l→g l'=f l'.tail):LocAt g l:=(LocAt.tl' he hl h).congr k
theorem isP_hd {s:List (List UInt8)} {l l':List Tk} (h:hdT l'=hdT l):isP s l'=isP s l:=by unfold isP;rw[h]
theorem mayB_hd {s:List UInt8} {l l':List Tk} (h:hdT l'=hdT l):mayB s l'=mayB s l:=by unfold mayB;rw[isP_hd h]
theorem namedB_hd {l l':List Tk} (h:hdT l'=hdT l):namedB l'=namedB l:=by unfold namedB;rw[h]
theorem isP_live {s:List (List UInt8)} {l:List Tk} (h:0≤isP s l) (hs: []∉s):(hdT l).live :=fun ht=>by
 have:=(isP_text h).1
 rw[ht.1]at this
 exact hs this
theorem mayB_live {s:List UInt8} {l:List Tk} (h:mayB s l=true) (hs:s≠ []):(hdT l).live :=fun ht=>by
 have:=(mayB_text h).1
 rw[ht.1]at this
 exact hs this.symm
theorem namedB_live {l:List Tk} (h:namedB l=true):(hdT l).live :=fun ht=>by
 unfold namedB at h
 rw[ht.2]at h
 simp at h
theorem notS_live {l:List Tk} (h:0≤isP notS l):(hdT l).live :=isP_live h (by decide)
theorem cmpS_live {l:List Tk} (h:0≤isP cmpS l):(hdT l).live :=isP_live h (by decide)
theorem live_pos {l:List Tk} (h:(hdT l).live):0 < l.length:=by
 cases l with
 |nil=>exact absurd ⟨rfl,rfl⟩ h
 |cons a b=>simp
theorem takeP_loc {s:List UInt8} (hs:s≠ []):Lcl (takeP s):=fun l he=>by
 cases hm:mayB s l
 ·exact(LocAt.syn l).congr fun l' h=>by unfold takeP;rw[mayB_hd h,hm];rfl
 ·exact(LocAt.tl' he (mayB_live hm hs) (Lcl.ok1 ())).congr fun l' h=>by unfold takeP;rw[mayB_hd h,hm];rfl
theorem nameP_loc:Lcl nameP:=fun l he=>by
 cases hm:namedB l
 ·exact(LocAt.syn l).congr fun l' h=>by unfold nameP;rw[namedB_hd h,hm];rfl
 ·exact(LocAt.tl' he (namedB_live hm) (Lcl.ok1 ⟨txt (hdT l),(hdT l).at_⟩)).congr fun l' h=>by unfold nameP;rw[namedB_hd h,hm,h];rfl
theorem numberP_loc:Lcl numberP:=fun l he=>by
 by_cases hm:(hdT l).kind =2
 ·exact(LocAt.tl' he (fun ht=>by rw[ht.2]at hm;simp at hm) (Lcl.ok1 (decV (hdT l).text :Int))).congr fun l' h=>by unfold numberP;rw[h,if_pos hm]
 ·exact(LocAt.syn l).congr fun l' h=>by unfold numberP;rw[h,if_neg hm]

/-! things with signs between, however much fuel there is -/
theorem chainF_fuel {α:Type} {one:List Tk→PR α} {join:Int→Int→α→α→α} {signs:List (List UInt8)} (h1:Shr one) (hs: []∉signs):∀(f f':Nat) (x:α) (l:List Tk),l.length≤f→l.length≤f'→chainF one join signs f x l=chainF one join signs f' x l
 |0,0,x,l,_,_=>rfl
 |0,f'+1,x,l,h,_=>by
  obtain rfl:l= []:=List.length_eq_zero_iff.1 (by omega)
  unfold chainF
  rw[if_pos]
  exact Int.not_le.1 fun h0=>isP_live h0 hs ⟨rfl,rfl⟩
 |f+1,0,x,l,_,h=>by
  obtain rfl:l= []:=List.length_eq_zero_iff.1 (by omega)
  unfold chainF
  rw[if_pos]
  exact Int.not_le.1 fun h0=>isP_live h0 hs ⟨rfl,rfl⟩
 |f+1,f'+1,x,l,h,h'=>by
  unfold chainF
  split
  ·rfl
  ·cases ho:one l.tail with
   |err c a=>rfl
   |ok y r=>
    have:=h1 _ _ _ ho
    rw[List.length_tail]at this
    exact chainF_fuel h1 hs f f' _ r (by omega) (by omega)
def chainL {α:Type} (one:List Tk→PR α) (join:Int→Int→α→α→α) (signs:List (List UInt8)) (x:α) (l:List Tk):PR α:=chainF one join signs l.length x l
theorem chainL_eq {α:Type} {one:List Tk→PR α} {join:Int→Int→α→α→α} {signs:List (List UInt8)} (h1:Shr one) (hs: []∉signs) (x:α) (l:List Tk):
  chainL one join signs x l=if isP signs l < 0 then .ok x l else(one l.tail).then fun y r=>chainL one join signs (join (isP signs l) (hdT l).at_ x y) r:=by
 have:chainL one join signs x l=chainF one join signs (l.length+1) x l:=chainF_fuel h1 hs _ _ x l (lrq _) (by omega)
 rw[this]
 show(if isP signs l < 0 then _ else _)=_
 split
 ·rfl
 ·cases ho:one l.tail with
  |err c a=>rfl
  |ok y r=>
   have:=h1 _ _ _ ho
   rw[List.length_tail]at this
   exact chainF_fuel h1 hs _ _ _ r (by omega) (lrq _)
theorem chainL_loc {α:Type} {one:List Tk→PR α} {join:Int→Int→α→α→α} {signs:List (List UInt8)} (h1:Shr one) (hs: []∉signs) (h:Lcl one):∀(m:Nat) (x:α) (l:List Tk),l.length≤m→Ended l→LocAt (chainL one join signs x) l
 |m,x,l,hm,he=>by
  by_cases h0:isP signs l < 0
  ·exact(LocAt.ok1 x l).congr fun l' hl=>by rw[chainL_eq h1 hs,isP_hd hl,if_pos h0]
  ·have hlv:(hdT l).live :=isP_live (s:=signs) (by omega) hs
   have hpos:=live_pos hlv
   refine LocAt.congr (f:=fun l'=>(one l'.tail).then fun y r=>chainL one join signs (join (isP signs l) (hdT l).at_ x y) r) ?_ fun l' hl=>by rw[chainL_eq h1 hs,isP_hd hl,if_neg h0,hl]
   refine LocAt.then_ (f:=fun l'=>one l'.tail) (LocAt.tl' he hlv h) fun y r ho=>?_
   have:=h1 _ _ _ ho
   rw[List.length_tail]at this
   obtain⟨m,rfl⟩:∃k,m=k+1:=⟨m - 1,by omega⟩
   exact chainL_loc h1 hs h m _ r (by omega) ((h _ (he.tl hlv)).shr (he.tl hlv) ho).2
theorem chainP_loc {α:Type} {one:List Tk→PR α} {join:Int→Int→α→α→α} {signs:List (List UInt8)} (h1:Shr one) (hs: []∉signs) (h:Lcl one):Lcl (chainP one join signs):=
 Lcl.then_ h fun x r he=>chainL_loc h1 hs h _ x r (lrq _) he
theorem exprOf_loc {sign:List Tk→PR Ex} (h1:Shr sign) (h:Lcl sign):Lcl (exprOf sign):=
 chainP_loc (chainP_shr (chainP_shr h1)) (by decide) (chainP_loc (chainP_shr h1) (by decide) (chainP_loc h1 (by decide) h))
theorem signP_loc:∀n,Lcl (signP n)
 |0,l,he=>by
  cases h0:mayB [45] l
  ·cases h1:mayB [40] l
   ·cases h2:namedB l
    ·exact LocAt.congr (Lcl.then_ numberP_loc (fun v=>Lcl.ok1 (⟨1,noB,v,.nil,(hdT l).at_⟩:Ex)) l he) fun l' hl=>by unfold signP;rw[mayB_hd hl,mayB_hd hl,namedB_hd hl,h0,h1,h2,hl];rfl
    ·refine LocAt.tlc (f:=fun q=>if mayB [91] q then PR.err 91 ((hdT q).at_ :Int)else PR.ok (⟨2,txt (hdT l),0,.nil,(hdT l).at_⟩:Ex) q) (namedB_live h2) ?_ fun l' hl=>by unfold signP;rw[mayB_hd hl,mayB_hd hl,namedB_hd hl,h0,h1,h2,hl];rfl
     cases h3:mayB [91] l.tail
     ·exact(LocAt.ok1 _ _).congr fun l' hl=>by simp only[mayB_hd hl,h3];rfl
     ·exact(LocAt.dp (mayB_live h3 (by decide))).congr fun l' hl=>by simp only[mayB_hd hl,h3];rfl
   ·exact(LocAt.dp (mayB_live h1 (by decide))).congr fun l' hl=>by unfold signP;rw[mayB_hd hl,mayB_hd hl,h0,h1];rfl
  ·exact(LocAt.dp (mayB_live h0 (by decide))).congr fun l' hl=>by unfold signP;rw[mayB_hd hl,h0];rfl
 |n+1,l,he=>by
  have ih:=signP_loc n
  cases h0:mayB [45] l
  ·cases h1:mayB [40] l
   ·cases h2:namedB l
    ·exact LocAt.congr (Lcl.then_ numberP_loc (fun v=>Lcl.ok1 (⟨1,noB,v,.nil,(hdT l).at_⟩:Ex)) l he) fun l' hl=>by unfold signP;rw[mayB_hd hl,mayB_hd hl,namedB_hd hl,h0,h1,h2,hl];rfl
    ·refine LocAt.tlc (f:=fun q=>if mayB [91] q then(exprOf (signP n) q.tail).then fun x r=>(takeP [93] r).then fun _ r=> .ok (⟨3,txt (hdT l),0,x.cons .nil,(hdT l).at_⟩:Ex) r else PR.ok (⟨2,txt (hdT l),0,.nil,(hdT l).at_⟩:Ex) q) (namedB_live h2) ?_ fun l' hl=>by unfold signP;rw[mayB_hd hl,mayB_hd hl,namedB_hd hl,h0,h1,h2,hl];rfl
     have he1:=he.tl (namedB_live h2)
     cases h3:mayB [91] l.tail
     ·exact(LocAt.ok1 _ _).congr fun l' hl=>by simp only[mayB_hd hl,h3];rfl
     ·refine LocAt.tlc' (f:=fun q=>(exprOf (signP n) q).then fun x r=>(takeP [93] r).then fun _ r=> .ok (⟨3,txt (hdT l),0,x.cons .nil,(hdT l).at_⟩:Ex) r) he1 (mayB_live h3 (by decide)) ?_ fun l' hl=>by simp only[mayB_hd hl,h3];rfl
      exact Lcl.then_ (exprOf_loc (signP_shr n) ih) fun x=>Lcl.then_ (takeP_loc (by decide)) fun _=>Lcl.ok1 _
   ·refine LocAt.tlc' (f:=fun q=>(exprOf (signP n) q).then fun x r=>(takeP [41] r).then fun _ r=> .ok x r) he (mayB_live h1 (by decide)) ?_ fun l' hl=>by unfold signP;rw[mayB_hd hl,mayB_hd hl,h0,h1];rfl
    exact Lcl.then_ (exprOf_loc (signP_shr n) ih) fun x=>Lcl.then_ (takeP_loc (by decide)) fun _=>Lcl.ok1 _
  ·refine LocAt.tlc' (f:=fun q=>(signP n q).then fun x r=> .ok (⟨4,noB,0,x.cons .nil,((hdT l).at_ :Int)⟩:Ex) r) he (mayB_live h0 (by decide)) ?_ fun l' hl=>signP_m1 (by rw[mayB_hd hl];exact h0) (by rw[hl])
   exact Lcl.then_ ih fun x=>Lcl.ok1 _
theorem exprP_loc (n:Nat):Lcl (exprP n):=exprOf_loc (signP_shr n) (signP_loc n)
theorem indexP_loc (n:Nat):Lcl (indexP n):=fun l he=>by
 cases h:mayB [91] l
 ·exact(LocAt.syn l).congr fun l' hl=>by unfold indexP withinP;rw[mayB_hd hl,h];rfl
 ·cases n with
  |zero=>exact(LocAt.dp (mayB_live h (by decide))).congr fun l' hl=>by unfold indexP withinP;rw[mayB_hd hl,h];rfl
  |succ n=>
   refine LocAt.tlc' (f:=fun q=>(exprP n q).then fun x r=>(takeP [93] r).then fun _ r=> .ok x r) he (mayB_live h (by decide)) ?_ fun l' hl=>by unfold indexP withinP;rw[mayB_hd hl,h];rfl
   exact Lcl.then_ (exprP_loc n) fun x=>Lcl.then_ (takeP_loc (by decide)) fun _=>Lcl.ok1 _
theorem condOf_loc {nt:List Tk→PR Cn} (h1:Shr nt) (h:Lcl nt):Lcl (condOf nt):=chainP_loc (chainP_shr h1) (by decide) (chainP_loc h1 (by decide) h)
theorem cmpP_loc (n:Nat):Lcl (cmpP n):=Lcl.then_ (exprP_loc n) fun x r he=>by
 by_cases h0:isP cmpS r < 0
 ·exact(LocAt.syn r).congr fun l' hl=>by simp only[isP_hd hl,if_pos h0]
 ·refine LocAt.tlc' (f:=fun q=>(exprP n q).then fun y q=> .ok (⟨3+isP cmpS r,x.cons (y.cons .nil),.nil,(hdT r).at_⟩:Cn) q) he (cmpS_live (by omega)) ?_ fun l' hl=>by simp only[isP_hd hl,if_neg h0,hl]
  exact Lcl.then_ (exprP_loc n) fun y=>Lcl.ok1 _
theorem notP_loc:∀n,Lcl (notP n)
 |0,l,he=>by
  by_cases h0:isP notS l=0
  ·exact(LocAt.dp (notS_live (by omega))).congr fun l' hl=>by unfold notP;rw[isP_hd hl,if_pos h0]
  by_cases h1:isP notS l=1
  ·exact(LocAt.dp (notS_live (by omega))).congr fun l' hl=>by unfold notP;rw[isP_hd hl,if_neg h0,if_pos h1]
  by_cases h2:isP notS l=2∨isP notS l=3
  ·exact(LocAt.tl' he (notS_live (by omega)) (Lcl.ok1 (⟨1+(isP notS l - 2),.nil,.nil,(hdT l).at_⟩:Cn))).congr fun l' hl=>by unfold notP;rw[isP_hd hl,if_neg h0,if_neg h1,if_pos h2,hl]
  ·exact(cmpP_loc 0 l he).congr fun l' hl=>by unfold notP;rw[isP_hd hl,if_neg h0,if_neg h1,if_neg h2]
 |n+1,l,he=>by
  have ih:=notP_loc n
  by_cases h0:isP notS l=0
  ·refine LocAt.tlc' (f:=fun q=>(notP n q).then fun c r=> .ok (⟨9,.nil,c.cons .nil,((hdT l).at_ :Int)⟩:Cn) r) he (notS_live (by omega)) ?_ fun l' hl=>notP_b1 (by rw[isP_hd hl];exact h0) (by rw[hl])
   exact Lcl.then_ ih fun y=>Lcl.ok1 _
  by_cases h1:isP notS l=1
  ·refine LocAt.tlc' (f:=fun q=>(condOf (notP n) q).then fun c r=>(takeP [93] r).then fun _ r=> .ok c r) he (notS_live (by omega)) ?_ fun l' hl=>by unfold notP;rw[isP_hd hl,if_neg h0,if_pos h1]
   exact Lcl.then_ (condOf_loc (notP_shr n) ih) fun y=>Lcl.then_ (takeP_loc (by decide)) fun _=>Lcl.ok1 _
  by_cases h2:isP notS l=2∨isP notS l=3
  ·exact(LocAt.tl' he (notS_live (by omega)) (Lcl.ok1 (⟨1+(isP notS l - 2),.nil,.nil,(hdT l).at_⟩:Cn))).congr fun l' hl=>by unfold notP;rw[isP_hd hl,if_neg h0,if_neg h1,if_pos h2,hl]
  ·exact(cmpP_loc (n+1) l he).congr fun l' hl=>by unfold notP;rw[isP_hd hl,if_neg h0,if_neg h1,if_neg h2]
theorem condP_loc (n:Nat):Lcl (condP n):=condOf_loc (notP_shr n) (notP_loc n)
theorem askP_loc (n:Nat):Lcl (askP n):=Lcl.then_ (takeP_loc (by decide)) fun _=>Lcl.then_ (condP_loc n) fun x=>Lcl.then_ (takeP_loc (by decide)) fun _=>Lcl.ok1 _

theorem Lcl.shr1 {α:Type} {one:List Tk→PR α} (h:Lcl one) {l:List Tk} (he:Ended l) {x:α} {r:List Tk} (e:one l= .ok x r):r.length≤l.length∧Ended r:=(h l he).shr he e
/-! things with commas between -/
theorem someF_fuel {α:Type} {one:List Tk→PR α} (h:Lcl one) (s:List UInt8):∀(f f':Nat) (acc:List α) (l:List Tk),Ended l→l.length≤f→l.length≤f'→someF one s f acc l=someF one s f' acc l
 |0,f',acc,l,he,h0,_=>absurd (List.length_eq_zero_iff.1 (by omega)) he.ne
 |f+1,0,acc,l,he,_,h0=>absurd (List.length_eq_zero_iff.1 (by omega)) he.ne
 |f+1,f'+1,acc,l,he,h1,h2=>by
  unfold someF
  cases ho:one l with
  |err c a=>rfl
  |ok y r=>
   have hr:=h.shr1 he ho
   show(if mayB [44] r then someF one s f (acc++ [y]) r.tail else _)=(if mayB [44] r then someF one s f' (acc++ [y]) r.tail else _)
   cases hm:mayB [44] r
   ·rfl
   ·have hl:=mayB_live hm (by decide)
    have hp:=live_pos hl
    exact someF_fuel h s f f' _ _ (hr.2.tl hl) (by rw[List.length_tail];omega) (by rw[List.length_tail];omega)
def someL {α:Type} (one:List Tk→PR α) (s:List UInt8) (acc:List α) (l:List Tk):PR (List α):=someF one s l.length acc l
theorem someL_eq {α:Type} {one:List Tk→PR α} (h:Lcl one) (s:List UInt8) (acc:List α) (l:List Tk) (he:Ended l):
  someL one s acc l=(one l).then fun x r=>if mayB [44] r then someL one s (acc++ [x]) r.tail else(takeP s r).then fun _ r=> .ok (acc++ [x]) r:=by
 have:someL one s acc l=someF one s (l.length+1) acc l:=someF_fuel h s _ _ acc l he (lrq _) (by omega)
 rw[this]
 show(one l).then _=_
 cases ho:one l with
 |err c a=>rfl
 |ok y r=>
  have hr:=h.shr1 he ho
  show(if mayB [44] r then someF one s l.length (acc++ [y]) r.tail else _)=(if mayB [44] r then _ else _)
  cases hm:mayB [44] r
  ·rfl
  ·have hl:=mayB_live hm (by decide)
   have hp:=live_pos hl
   exact someF_fuel h s _ _ _ _ (hr.2.tl hl) (by rw[List.length_tail];omega) (lrq _)
theorem LocAt.congrE {α:Type} {f g:List Tk→PR α} {l:List Tk} (hl:Ended l) (h:LocAt f l) (k:∀l',Ended l'→hdT l'=hdT l→g l'=f l'):LocAt g l:=by
 have e:=k l hl rfl
 cases hf:f l with
 |ok x r=>
  obtain⟨pre,e1,h1,h2⟩:=h.ok_ hf
  exact LocAt.mk_ok (e.trans hf) ⟨pre,e1,h1,fun r' he hr=>(k _ (he.app _) (by rw[e1];exact hdT_app hr)).trans (h2 r' he hr)⟩
 |err c a=>
  obtain⟨pre,post,e1,h1,h3,h4,h2⟩:=h.err_ hf
  exact LocAt.mk_err (e.trans hf) ⟨pre,post,e1,h1,h3,h4,fun r' he hr=>(k _ (he.app _) (by rw[e1];exact hdT_app hr)).trans (h2 r' he hr)⟩
theorem someL_loc {α:Type} {one:List Tk→PR α} (h:Lcl one) {s:List UInt8} (hs:s≠ []):∀(m:Nat) (acc:List α) (l:List Tk),l.length≤m→Ended l→LocAt (someL one s acc) l
 |m,acc,l,hm,he=>by
  refine LocAt.congrE he (f:=fun l=>(one l).then fun x r=>if mayB [44] r then someL one s (acc++ [x]) r.tail else(takeP s r).then fun _ r=> .ok (acc++ [x]) r) ?_ fun l' he' _=>someL_eq h s acc l' he'
  refine LocAt.then_ (h l he) fun x r ho=>?_
  have hr:=h.shr1 he ho
  cases hm44:mayB [44] r
  ·refine LocAt.congr (f:=fun r=>(takeP s r).then fun _ r=> .ok (acc++ [x]) r) ?_ fun l' hl=>by simp only[mayB_hd hl,hm44];rfl
   exact Lcl.then_ (takeP_loc hs) (fun _=>Lcl.ok1 _) r hr.2
  ·have hlv:=mayB_live hm44 (by decide)
   have hp:=live_pos hlv
   obtain⟨m,rfl⟩:∃k,m=k+1:=⟨m - 1,by omega⟩
   refine LocAt.congr (f:=fun r=>someL one s (acc++ [x]) r.tail) ?_ fun l' hl=>by simp only[mayB_hd hl,hm44];rfl
   exact LocAt.tl hlv (someL_loc h hs m _ _ (by rw[List.length_tail];omega) (hr.2.tl hlv))
theorem someP_loc {α:Type} {one:List Tk→PR α} (h:Lcl one) {s:List UInt8} (hs:s≠ []) (no:Bool):Lcl (someP one s no):=fun l he=>by
 by_cases hn:(no&&mayB s l)=true
 ·have hm:mayB s l=true:=by
   rw[Bool.and_eq_true]at hn
   exact hn.2
  exact(LocAt.tl' he (mayB_live hm hs) (Lcl.ok1 [])).congr fun l' hl=>by unfold someP;rw[mayB_hd hl,if_pos hn]
 ·exact(someL_loc h hs _ [] l (lrq _) he).congr fun l' hl=>by unfold someP;rw[mayB_hd hl,if_neg hn];rfl
theorem endS_loc (x:St):Lcl (endS x):=Lcl.then_ (takeP_loc (by decide)) fun _=>Lcl.ok1 _
theorem keyK_live {l:List Tk} (h:keyK (hdT l).text ≠0):(hdT l).live :=fun ht=>h (by rw[ht.1];rfl)
theorem stmtOf_loc {blk:List Tk→PR (List St)} (hb:Lcl blk) (n:Nat):Lcl (stmtOf blk n):=fun l he=>by
 obtain⟨k,hk⟩:=nmq (keyK (hdT l).text )
 obtain⟨a,ha⟩:∃a:Int,a=((hdT l).at_ :Int):=⟨_,rfl⟩
 have hd:∀l',hdT l'=hdT l→keyK (hdT l').text =k∧((hdT l').at_ :Int)=a:=fun l' hl=>by rw[hl];exact⟨hk.symm,ha.symm⟩
 by_cases h1:k=1
 ·have hlv:(hdT l).live :=keyK_live (by rw[←hk];omega)
  refine LocAt.tlc' (f:=fun q=>endS ⟨1,noB,.nil,.nil,.nil,.nil,a⟩ q) he hlv (endS_loc _) fun l' hl=>by
   unfold stmtOf;simp only[(hd l' hl).1,(hd l' hl).2,if_pos h1]
 by_cases h4:k=4
 ·have hlv:(hdT l).live :=keyK_live (by rw[←hk];omega)
  refine LocAt.tlc' (f:=fun q=>(nameP q).then fun x r=>endS ⟨4,x.nm,.nil,.nil,.nil,.nil,a⟩ r) he hlv (Lcl.then_ nameP_loc fun x=>endS_loc _) fun l' hl=>by
   unfold stmtOf;simp only[(hd l' hl).1,(hd l' hl).2,if_neg h1,if_pos h4]
 by_cases h5:k=5∨k=6
 ·have hlv:(hdT l).live :=keyK_live (by rw[←hk];omega)
  refine LocAt.tlc' (f:=fun q=>(askP n q).then fun c r=>endS ⟨k,noB,.nil,c,.nil,.nil,a⟩ r) he hlv (Lcl.then_ (askP_loc n) fun x=>endS_loc _) fun l' hl=>by
   unfold stmtOf;simp only[(hd l' hl).1,(hd l' hl).2,if_neg h1,if_neg h4,if_pos h5]
 by_cases h7:k=7
 ·have hlv:(hdT l).live :=keyK_live (by rw[←hk];omega)
  refine LocAt.tlc' (f:=fun q=>(askP n q).then fun c r=>(blk r).then fun b r=>if mayB [101,108,115,101] r then(blk r.tail).then fun e r=> .ok ⟨7,noB,.nil,c,stsOf b,stsOf e,a⟩ r else .ok ⟨7,noB,.nil,c,stsOf b,.nil,a⟩ r) he hlv (Lcl.then_ (askP_loc n) fun c=>Lcl.then_ hb fun b r her=>?_) fun l' hl=>by
   unfold stmtOf;simp only[(hd l' hl).1,(hd l' hl).2,if_neg h1,if_neg h4,if_neg h5,if_pos h7]
  cases hm:mayB [101,108,115,101] r
  ·exact(LocAt.ok1 _ _).congr fun l' hl=>by simp only[mayB_hd hl,hm];rfl
  ·refine LocAt.tlc' (f:=fun q=>(blk q).then fun e r=> .ok (⟨7,noB,.nil,c,stsOf b,stsOf e,a⟩:St) r) her (mayB_live hm (by decide)) (Lcl.then_ hb fun e=>Lcl.ok1 _) fun l' hl=>by simp only[mayB_hd hl,hm];rfl
 by_cases h8:k=8
 ·have hlv:(hdT l).live :=keyK_live (by rw[←hk];omega)
  refine LocAt.tlc' (f:=fun q=>(askP n q).then fun c r=>(blk r).then fun b r=> .ok (⟨8,noB,.nil,c,stsOf b,.nil,a⟩:St) r) he hlv (Lcl.then_ (askP_loc n) fun x=>Lcl.then_ hb fun b=>Lcl.ok1 _) fun l' hl=>by
   unfold stmtOf;simp only[(hd l' hl).1,(hd l' hl).2,if_neg h1,if_neg h4,if_neg h5,if_neg h7,if_pos h8]
 by_cases h9:k=9
 ·have hlv:(hdT l).live :=keyK_live (by rw[←hk];omega)
  refine LocAt.tlc' (f:=fun q=>(nameP q).then fun x r=>(takeP [40] r).then fun _ r=>(someP (exprP n) [41] true r).then fun xs r=>endS ⟨9,x.nm,exsOf xs,.nil,.nil,.nil,a⟩ r) he hlv (Lcl.then_ nameP_loc fun x=>Lcl.then_ (takeP_loc (by decide)) fun _=>Lcl.then_ (someP_loc (exprP_loc n) (by decide) true) fun xs=>endS_loc _) fun l' hl=>by
   unfold stmtOf;simp only[(hd l' hl).1,(hd l' hl).2,if_neg h1,if_neg h4,if_neg h5,if_neg h7,if_neg h8,if_pos h9]
 ·refine LocAt.congr (f:=fun l'=>(nameP l').then fun x r=>
   if mayB [91] r then(indexP n r).then fun i r=>(takeP [61] r).then fun _ r=>(exprP n r).then fun e r=>endS ⟨3,x.nm,i.cons (e.cons .nil),.nil,.nil,.nil,a⟩ r
   else(takeP [61] r).then fun _ r=>(exprP n r).then fun e r=>endS ⟨2,x.nm,e.cons .nil,.nil,.nil,.nil,a⟩ r) (Lcl.then_ nameP_loc (fun x r her=>?_) l he) fun l' hl=>by
   unfold stmtOf;simp only[(hd l' hl).1,(hd l' hl).2,if_neg h1,if_neg h4,if_neg h5,if_neg h7,if_neg h8,if_neg h9]
  cases hm:mayB [91] r
  ·refine LocAt.congr (f:=fun r=>(takeP [61] r).then fun _ r=>(exprP n r).then fun e r=>endS ⟨2,x.nm,e.cons .nil,.nil,.nil,.nil,a⟩ r) ?_ fun l' hl=>by simp only[mayB_hd hl,hm];rfl
   exact Lcl.then_ (takeP_loc (by decide)) (fun _=>Lcl.then_ (exprP_loc n) fun e=>endS_loc _) r her
  ·refine LocAt.congr (f:=fun r=>(indexP n r).then fun i r=>(takeP [61] r).then fun _ r=>(exprP n r).then fun e r=>endS ⟨3,x.nm,i.cons (e.cons .nil),.nil,.nil,.nil,a⟩ r) ?_ fun l' hl=>by simp only[mayB_hd hl,hm];rfl
   exact Lcl.then_ (indexP_loc n) (fun i=>Lcl.then_ (takeP_loc (by decide)) fun _=>Lcl.then_ (exprP_loc n) fun e=>endS_loc _) r her
theorem keyK_cases' (t:List UInt8):keyK t=0∨keyK t=1∨keyK t=4∨keyK t=5∨keyK t=6∨keyK t=7∨keyK t=8∨keyK t=9:=by
 unfold keyK
 repeat' split
 all_goals simp
theorem stmtOf_less {blk:List Tk→PR (List St)} (hb:Lcl blk) (n:Nat) {l:List Tk} (he:Ended l) {x:St} {r:List Tk} (h:stmtOf blk n l= .ok x r):r.length < l.length:=by
 obtain⟨pre,e,h1,h2⟩:=(stmtOf_loc hb n l he).ok_ h
 cases pre with
 |cons a b=>rw[e];simp;omega
 |nil=>
  exfalso
  have e:l=r:=e
  subst e
  have her:=he
  obtain⟨z,hz,hzl⟩:∃z:Tk,hdT l=z∧True:=⟨_,rfl,trivial⟩
  have hpos:0 < l.length:=List.length_pos_iff.2 he.ne
  unfold stmtOf at h
  by_cases hk0:keyK (hdT l).text =0
  ·simp only[hk0]at h
   rw[if_neg (by decide),if_neg (by decide),if_neg (by decide),if_neg (by decide),if_neg (by decide),if_neg (by decide)]at h
   obtain⟨v,q,h3,h4⟩:=PR.then_ok h
   have hq:=nameP_shr h3
   have hqe:Ended q:=(nameP_loc.shr1 he h3).2
   have hqr:l.length≤q.length:=by
    split at h4
    ·exact(Lcl.shr1 (Lcl.then_ (indexP_loc n) fun i=>Lcl.then_ (takeP_loc (by decide)) fun _=>Lcl.then_ (exprP_loc n) fun e=>endS_loc _) hqe h4).1
    ·exact(Lcl.shr1 (Lcl.then_ (takeP_loc (by decide)) fun _=>Lcl.then_ (exprP_loc n) fun e=>endS_loc _) hqe h4).1
   rw[hq,List.length_tail]at hqr
   omega
  ·have hlv:=keyK_live hk0
   have het:=he.tl hlv
   have key:l.length≤l.tail.length:=by
    simp only at h
    split at h
    ·exact((endS_loc _).shr1 het h).1
    split at h
    ·exact((Lcl.then_ nameP_loc fun x=>endS_loc _).shr1 het h).1
    split at h
    ·exact((Lcl.then_ (askP_loc n) fun x=>endS_loc _).shr1 het h).1
    split at h
    ·obtain⟨c,q,h3,h4⟩:=PR.then_ok h
     have q1:=(askP_loc n).shr1 het h3
     obtain⟨b,q2,h5,h6⟩:=PR.then_ok h4
     have q3:=hb.shr1 q1.2 h5
     split at h6
     ·rename_i hm
      obtain⟨e',q5,h7,h8⟩:=PR.then_ok h6
      have q6:=hb.shr1 (q3.2.tl (mayB_live hm (by decide))) h7
      simp only[PR.ok.injEq]at h8
      have e:=congrArg List.length h8.2
      have:=q6.1
      rw[List.length_tail]at this
      have:=q3.1
      have:=q1.1
      omega
     ·simp only[PR.ok.injEq]at h6
      have e:=congrArg List.length h6.2
      have:=q3.1
      have:=q1.1
      omega
    split at h
    ·exact((Lcl.then_ (askP_loc n) fun x=>Lcl.then_ hb fun b=>Lcl.ok1 _).shr1 het h).1
    split at h
    ·exact((Lcl.then_ nameP_loc fun x=>Lcl.then_ (takeP_loc (by decide)) fun _=>Lcl.then_ (someP_loc (exprP_loc n) (by decide) true) fun xs=>endS_loc _).shr1 het h).1
    ·rename_i h1 h4 h5 h7 h8 h9
     rcases keyK_cases' (hdT l).text with h|h|h|h|h|h|h|h<;>omega
   rw[List.length_tail]at key
   omega

def LessE {α:Type} (one:List Tk→PR α):Prop:=∀l,Ended l→∀x r,one l= .ok x r→r.length < l.length
theorem stmtsF_fuel {one:List Tk→PR St} (h:Lcl one) (hl:LessE one):∀(f f':Nat) (acc:List St) (l:List Tk),Ended l→l.length≤f→l.length≤f'→stmtsF one f acc l=stmtsF one f' acc l
 |0,f',acc,l,he,h0,_=>absurd (List.length_eq_zero_iff.1 (by omega)) he.ne
 |f+1,0,acc,l,he,_,h0=>absurd (List.length_eq_zero_iff.1 (by omega)) he.ne
 |f+1,f'+1,acc,l,he,h1,h2=>by
  unfold stmtsF
  split
  ·rfl
  ·cases ho:one l with
   |err c a=>rfl
   |ok y r=>
    have hr:=h.shr1 he ho
    have:=hl l he y r ho
    exact stmtsF_fuel h hl f f' _ _ hr.2 (by omega) (by omega)
def stmtsL (one:List Tk→PR St) (acc:List St) (l:List Tk):PR (List St):=stmtsF one l.length acc l
theorem stmtsL_eq {one:List Tk→PR St} (h:Lcl one) (hl:LessE one) (acc:List St) (l:List Tk) (he:Ended l):
  stmtsL one acc l=if mayB [125] l then .ok acc l.tail else(one l).then fun x r=>stmtsL one (acc++ [x]) r:=by
 have:stmtsL one acc l=stmtsF one (l.length+1) acc l:=stmtsF_fuel h hl _ _ acc l he (lrq _) (by omega)
 rw[this]
 show(if mayB [125] l then _ else _)=_
 split
 ·rfl
 ·cases ho:one l with
  |err c a=>rfl
  |ok y r=>
   have hr:=h.shr1 he ho
   exact stmtsF_fuel h hl _ _ _ _ hr.2 hr.1 (lrq _)
theorem stmtsL_loc {one:List Tk→PR St} (h:Lcl one) (hl:LessE one):∀(m:Nat) (acc:List St) (l:List Tk),l.length≤m→Ended l→LocAt (stmtsL one acc) l
 |m,acc,l,hm,he=>by
  cases hb:mayB [125] l
  ·refine LocAt.congrE he (f:=fun l=>(one l).then fun x r=>stmtsL one (acc++ [x]) r) ?_ fun l' he' hd=>by rw[stmtsL_eq h hl acc l' he',mayB_hd hd,hb];rfl
   refine LocAt.then_ (h l he) fun x r ho=>?_
   have hr:=h.shr1 he ho
   have:=hl l he x r ho
   obtain⟨m,rfl⟩:∃k,m=k+1:=⟨m - 1,by omega⟩
   exact stmtsL_loc h hl m _ _ (by omega) hr.2
  ·exact LocAt.congrE he (LocAt.tl' he (mayB_live hb (by decide)) (Lcl.ok1 acc)) fun l' he' hd=>by rw[stmtsL_eq h hl acc l' he',mayB_hd hd,hb];rfl
theorem blockP_loc:∀n,Lcl (blockP n)
 |0,l,he=>by
  cases hb:mayB [123] l
  ·exact(LocAt.syn l).congr fun l' hl=>by unfold blockP;rw[mayB_hd hl,hb];rfl
  ·exact(LocAt.dp (mayB_live hb (by decide))).congr fun l' hl=>by unfold blockP;rw[mayB_hd hl,hb];rfl
 |n+1,l,he=>by
  cases hb:mayB [123] l
  ·exact(LocAt.syn l).congr fun l' hl=>by unfold blockP;rw[mayB_hd hl,hb];rfl
  ·have hlv:=mayB_live hb (by decide)
   refine LocAt.congr (f:=fun l'=>stmtsL (stmtOf (blockP n) n) [] l'.tail) (LocAt.tl hlv (stmtsL_loc (stmtOf_loc (blockP_loc n) n) (fun l he x r=>stmtOf_less (blockP_loc n) n he) _ _ _ (lrq _) (he.tl hlv))) fun l' hl=>by unfold blockP;rw[mayB_hd hl,hb];rfl
theorem procP_loc:Lcl procP:=Lcl.then_ nameP_loc fun x=>Lcl.then_ (takeP_loc (by decide)) fun _=>Lcl.then_ (someP_loc nameP_loc (by decide) true) fun ps=>Lcl.then_ (blockP_loc 24) fun b=>Lcl.ok1 _
/-! a tree's head -/
end Go.Proofs.YtfomomaomggpbaaGreatDoor
