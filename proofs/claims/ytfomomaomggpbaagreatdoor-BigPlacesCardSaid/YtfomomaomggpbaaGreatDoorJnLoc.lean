/- Plain. -/
import Derived.Test.YtfomomaomggpbaaGreatDoorJgAsk
set_option linter.all false
namespace Go.Proofs.YtfomomaomggpbaaGreatDoor
open Go.RowKit Go.Shelf
def keyK (t:List UInt8):Int:=
 if t= [115,107,105,112]then 1 else if t= [105,110,112,117,116]then 4 else if t= [97,115,115,117,109,101]then 5 else if t= [97,115,115,101,114,116]then 6
 else if t= [105,102]then 7 else if t= [119,104,105,108,101]then 8 else if t= [99,97,108,108]then 9 else 0
def endS (x:St)(l:List Tk):PR St:=(zal [59] l).then λ_ r=> .ok x r
def zaz (blk:List Tk->PR (List St))(n:Nat)(l:List Tk):PR St:=
 let a:=((hdT l).at_ :Int)
 let k:=keyK (hdT l).text
 if k=1 then endS ⟨1,noB,.nil,.nil,.nil,.nil,a⟩ l.tail
 else if k=4 then(zaZ l.tail).then λx r=>endS ⟨4,x.nm,.nil,.nil,.nil,.nil,a⟩ r
 else if k=5\/k=6 then(askP n l.tail).then λc r=>endS ⟨k,noB,.nil,c,.nil,.nil,a⟩ r
 else if k=7 then(askP n l.tail).then λc r=>(blk r).then λb r=>
  if mayB [101,108,115,101] r then(blk r.tail).then λe r=> .ok ⟨7,noB,.nil,c,zai b,zai e,a⟩ r else .ok ⟨7,noB,.nil,c,zai b,.nil,a⟩ r
 else if k=8 then(askP n l.tail).then λc r=>(blk r).then λb r=> .ok ⟨8,noB,.nil,c,zai b,.nil,a⟩ r
 else if k=9 then(zaZ l.tail).then λx r=>(zal [40] r).then λ_ r=>(zaS (zaO n) [41] true r).then λxs r=>endS ⟨9,x.nm,za0 xs,.nil,.nil,.nil,a⟩ r
 else(zaZ l).then λx r=>
  if mayB [91] r then(za7 n r).then λi r=>(zal [61] r).then λ_ r=>(zaO n r).then λe r=>endS ⟨3,x.nm,i.cons (e.cons .nil),.nil,.nil,.nil,a⟩ r
  else(zal [61] r).then λ_ r=>(zaO n r).then λe r=>endS ⟨2,x.nm,e.cons .nil,.nil,.nil,.nil,a⟩ r
def zbi (one:List Tk->PR St):Nat->List St->List Tk->PR (List St)
 |0,acc,l=> .ok acc l
 |f+1,acc,l=>if mayB [125] l then .ok acc l.tail else(one l).then λx r=>zbi one f (acc++ [x]) r
def zag:Nat->List Tk->PR (List St)
 |n,l=>
  if mayB [123] l then(match n with
   |0=> .err 91 (hdT l).at_
   |n+1=>zbi (zaz (zag n) n) l.tail.length [] l.tail)
  else .err 90 (hdT l).at_
def zen (l:List Tk):PR Arr:=(zaZ l).then λx r=>(zal [91] r).then λ_ r=>(zaR r).then λn r=>(zal [93] r).then λ_ r=> .ok ⟨x.nm,n,x.at_⟩ r
def zhn (l:List Tk):PR Prc:=(zaZ l).then λx r=>(zal [40] r).then λ_ r=>(zaS zaZ [41] true r).then λps r=>(zag 24 r).then λb r=> .ok ⟨x.nm,ps,zai b,x.at_⟩ r
def zeU:Nat->List Va->List Arr->List Tk->PR (List Va×List Arr)
 |0,vs,xs,l=> .ok (vs,xs) l
 |f+1,vs,xs,l=>
  if mayB [118,97,114] l then(zaS zaZ [59] false l.tail).then λv r=>zeU f (vs++v) xs r
  else if mayB [97,114,114,97,121] l then(zaS zen [59] false l.tail).then λx r=>zeU f vs (xs++x) r
  else .ok (vs,xs) l
def zdD:Nat->List Prc->List Tk->PR (List Prc)
 |0,ps,l=> .ok ps l
 |f+1,ps,l=>if mayB [112,114,111,99] l then(zhn l.tail).then λp r=>zdD f (ps++ [p]) r else .ok ps l
def zi4 (l:List Tk):PR Tre:=
 (zeU l.length [] [] l).then λvx r=>(zdD r.length [] r).then λps r=>(zal [109,97,105,110] r).then λ_ r=>(zag 24 r).then λb r=>
  if 1 < r.length then .err 90 (hdT r).at_ else .ok ⟨vx.1,vx.2,ps,zai b⟩ r
def zcN (s:List UInt8):Tre×Int×Int:=
 let q:=toks s
 if q.2.2≠0 then(⟨[], [], [],.nil⟩,q.2.1,q.2.2)
 else match zi4 (q.1++ [⟨0, [],s.length⟩])with
  | .ok t _=>(t,0,0)
  | .err e a=>(⟨[], [], [],.nil⟩,a,e)
theorem zb7 {l:List Tk}{x:Va}{r:List Tk}(h:zaZ l= .ok x r):r=l.tail:=by
 unfold zaZ at h;split at h
 ·simp only[PR.ok.injEq]at h;exact h.2.symm
 ·simp at h
def Tk.live (t:Tk):Prop:=¬(t.text= []/\t.kind=0)
def Ended (l:List Tk):Prop:=∃q z,l=q++ [z]/\¬Tk.live z
theorem Ended.ne {l:List Tk}(h:Ended l):l≠ []:=by
 obtain⟨q,z,rfl,_⟩:=h;simp
theorem Ended.app {l:List Tk}(h:Ended l)(pre:List Tk):Ended (pre++l):=by
 obtain⟨q,z,rfl,hz⟩:=h;exact⟨pre++q,z,by rw[List.append_assoc],hz⟩
theorem Ended.back {pre r:List Tk}(h:Ended (pre++r))(hp:∀t∈pre,t.live):Ended r:=by
 obtain⟨q,z,e,hz⟩:=h;rcases List.eq_nil_or_concat r with rfl|⟨s,y,rfl⟩
 ·rw[List.append_nil]at e;exact absurd (hp z (by rw[e];simp)) hz
 ·rw[List.concat_eq_append,<-List.append_assoc]at e;have:=(List.append_inj_right' e (by simp));simp only[List.cons.injEq,and_true]at this;exact⟨s,y,by simp,by rw[this];exact hz⟩
theorem Ended.tl {l:List Tk}(h:Ended l)(hl:(hdT l).live):Ended l.tail:=by
 cases l with
 |nil=>exact absurd rfl h.ne
 |cons t r=>exact Ended.back (pre:= [t]) h λq hq=>by simp only[List.mem_cons,List.not_mem_nil,or_false]at hq;subst hq;exact hl
def LocAt {α:Type}(f:List Tk->PR α)(l:List Tk):Prop:=
 match f l with
 | .ok x r=>∃pre,l=pre++r/\(∀t∈pre,t.live)/\∀r',Ended r'->hdT r'=hdT r->f (pre++r')= .ok x r'
 | .err c a=>∃pre post,l=pre++post/\(∀t∈pre,t.live)/\a=((hdT post).at_ :Int)/\(c=90\/c=91/\(hdT post).live)/\∀xo,Ended xo->hdT xo=hdT post->f (pre++xo)= .err c a
def Lcl {α:Type}(f:List Tk->PR α):Prop:=∀l,Ended l->LocAt f l
theorem LocAt.ok_ {α:Type}{f:List Tk->PR α}{l:List Tk}{x:α}{r:List Tk}(h:LocAt f l)(e:f l= .ok x r):∃pre,l=pre++r/\(∀t∈pre,t.live)/\∀r',Ended r'->hdT r'=hdT r->f (pre++r')= .ok x r':=by
 unfold LocAt at h;rw[e]at h;exact h
theorem LocAt.err_ {α:Type}{f:List Tk->PR α}{l:List Tk}{c a:Int}(h:LocAt f l)(e:f l= .err c a):∃pre post,l=pre++post/\(∀t∈pre,t.live)/\a=((hdT post).at_ :Int)/\(c=90\/c=91/\(hdT post).live)/\∀xo,Ended xo->hdT xo=hdT post->f (pre++xo)= .err c a:=by
 unfold LocAt at h;rw[e]at h;exact h
theorem LocAt.mk_ok {α:Type}{f:List Tk->PR α}{l:List Tk}{x:α}{r:List Tk}(e:f l= .ok x r)(h:∃pre,l=pre++r/\(∀t∈pre,t.live)/\∀r',Ended r'->hdT r'=hdT r->f (pre++r')= .ok x r'):LocAt f l:=by
 unfold LocAt;rw[e];exact h
theorem LocAt.mk_err {α:Type}{f:List Tk->PR α}{l:List Tk}{c a:Int}(e:f l= .err c a)(h:∃pre post,l=pre++post/\(∀t∈pre,t.live)/\a=((hdT post).at_ :Int)/\(c=90\/c=91/\(hdT post).live)/\∀xo,Ended xo->hdT xo=hdT post->f (pre++xo)= .err c a):LocAt f l:=by
 unfold LocAt;rw[e];exact h
theorem LocAt.shr {α:Type}{f:List Tk->PR α}{l:List Tk}{x:α}{r:List Tk}(h:LocAt f l)(hl:Ended l)(e:f l= .ok x r):r.length<=l.length/\Ended r:=by
 obtain⟨pre,rfl,h1,h2⟩:=h.ok_ e;exact⟨by simp,hl.back h1⟩
theorem zdj {pre r r':List Tk}(h:hdT r'=hdT r):hdT (pre++r')=hdT (pre++r):=by
 cases pre with
 |nil=>exact h
 |cons a b=>rfl
theorem LocAt.congr {α:Type}{f g:List Tk->PR α}{l:List Tk}(h:LocAt f l)(k:∀l',hdT l'=hdT l->g l'=f l'):LocAt g l:=by
 have e:=k l rfl;cases hf:f l with
 |ok x r=>
  obtain⟨pre,e1,h1,h2⟩:=h.ok_ hf;exact LocAt.mk_ok (e.trans hf) ⟨pre,e1,h1,λr' he hr=>(k _ (by rw[e1];exact zdj hr)).trans (h2 r' he hr)⟩
 |err c a=>
  obtain⟨pre,post,e1,h1,h3,h4,h2⟩:=h.err_ hf;exact LocAt.mk_err (e.trans hf) ⟨pre,post,e1,h1,h3,h4,λr' he hr=>(k _ (by rw[e1];exact zdj hr)).trans (h2 r' he hr)⟩
theorem LocAt.ok1 {α:Type}(x:α)(l:List Tk):LocAt (λl=>PR.ok x l) l:=LocAt.mk_ok rfl ⟨[],rfl,by simp,λr' _ _=>rfl⟩
theorem Lcl.ok1 {α:Type}(x:α):Lcl (λl=>PR.ok x l):=λl _=>LocAt.ok1 x l
theorem LocAt.syn {α:Type}(l:List Tk):LocAt (λl=>(PR.err 90 ((hdT l).at_ :Int):PR α)) l:=LocAt.mk_err rfl ⟨[],l,rfl,by simp,rfl,.inl rfl,λp _ hp=>by show PR.err _ _=_;rw[List.nil_append,hp]⟩
theorem LocAt.dp {α:Type}{l:List Tk}(h:(hdT l).live):LocAt (λl=>(PR.err 91 ((hdT l).at_ :Int):PR α)) l:=LocAt.mk_err rfl ⟨[],l,rfl,by simp,rfl,.inr ⟨rfl,h⟩,λp _ hp=>by show PR.err _ _=_;rw[List.nil_append,hp]⟩
theorem LocAt.tl {α:Type}{f:List Tk->PR α}{l:List Tk}(hl:(hdT l).live)(h:LocAt f l.tail):LocAt (λl=>f l.tail) l:=by
 cases l with
 |nil=>exact absurd ⟨rfl,rfl⟩ hl
 |cons t r=>
  have ht:t.live:=hl;cases hf:f r with
  |ok x r2=>
   obtain⟨pre,e1,h1,h2⟩:=LocAt.ok_ h hf;have e1:r=pre++r2:=e1;refine LocAt.mk_ok (f:=λl=>f l.tail) (l:=t::r) hf ⟨t::pre,by rw[e1];rfl,λq hq=>?_,λr' he hr=>h2 r' he hr⟩;rcases List.mem_cons.1 hq with rfl|hq
   ·exact ht
   ·exact h1 q hq
  |err c a=>
   obtain⟨pre,post,e1,h1,h3,h4,h2⟩:=LocAt.err_ h hf;have e1:r=pre++post:=e1;refine LocAt.mk_err (f:=λl=>f l.tail) (l:=t::r) hf ⟨t::pre,post,by rw[e1];rfl,λq hq=>?_,h3,h4,λr' he hr=>h2 r' he hr⟩;rcases List.mem_cons.1 hq with rfl|hq
   ·exact ht
   ·exact h1 q hq
theorem LocAt.then_ {α β:Type}{f:List Tk->PR α}{g:α->List Tk->PR β}{l:List Tk}(h:LocAt f l)(k:∀x r,f l= .ok x r->LocAt (g x) r):LocAt (λl=>(f l).then g) l:=by
 cases hf:f l with
 |err c a=>
  obtain⟨pre,post,e1,h1,h3,h4,h2⟩:=h.err_ hf;exact LocAt.mk_err (f:=λl=>(f l).then g) (by show(f l).then g=_;rw[hf];rfl) ⟨pre,post,e1,h1,h3,h4,λr' he hr=>by show(f _).then g=_;rw[h2 r' he hr];rfl⟩
 |ok x r=>
  obtain⟨pre,e1,h1,h2⟩:=h.ok_ hf;have hk:=k x r hf;cases hg:g x r with
  |err c a=>
   obtain⟨xJ,post,e2,h3,h4,h5,h6⟩:=hk.err_ hg;refine LocAt.mk_err (f:=λl=>(f l).then g) (by show(f l).then g=_;rw[hf];exact hg) ⟨pre++xJ,post,by rw[e1,e2,List.append_assoc],λt ht=>?_,h4,h5,λr' he hr=>?_⟩
   ·rcases List.mem_append.1 ht with ht|ht
    ·exact h1 t ht
    ·exact h3 t ht
   ·show(f _).then g=_
    rw[List.append_assoc,h2 _ (he.app _) (by rw[e2];exact zdj hr)];exact h6 r' he hr
  |ok y r2=>
   obtain⟨xJ,e2,h3,h6⟩:=hk.ok_ hg;refine LocAt.mk_ok (f:=λl=>(f l).then g) (by show(f l).then g=_;rw[hf];exact hg) ⟨pre++xJ,by rw[e1,e2,List.append_assoc],λt ht=>?_,λr' he hr=>?_⟩
   ·rcases List.mem_append.1 ht with ht|ht
    ·exact h1 t ht
    ·exact h3 t ht
   ·show(f _).then g=_
    rw[List.append_assoc,h2 _ (he.app _) (by rw[e2];exact zdj hr)];exact h6 r' he hr
theorem Lcl.then_ {α β:Type}{f:List Tk->PR α}{g:α->List Tk->PR β}(h:Lcl f)(k:∀x,Lcl (g x)):Lcl (λl=>(f l).then g):=λl hl=>(h l hl).then_ λx r e=>k x r ((h l hl).shr hl e).2
theorem LocAt.tl' {α:Type}{f:List Tk->PR α}{l:List Tk}(he:Ended l)(hl:(hdT l).live)(h:Lcl f):LocAt (λl=>f l.tail) l:=LocAt.tl hl (h _ (he.tl hl))
theorem LocAt.tlc {α:Type}{f g:List Tk->PR α}{l:List Tk}(hl:(hdT l).live)(h:LocAt f l.tail)(k:∀l',hdT l'=hdT l->g l'=f l'.tail):LocAt g l:=(LocAt.tl hl h).congr k
theorem LocAt.tlc' {α:Type}{f g:List Tk->PR α}{l:List Tk}(he:Ended l)(hl:(hdT l).live)(h:Lcl f)(k:∀l',hdT l'=hdT l->g l'=f l'.tail):LocAt g l:=(LocAt.tl' he hl h).congr k
theorem zbH {s:List (List UInt8)}{l l':List Tk}(h:hdT l'=hdT l):isP s l'=isP s l:=by unfold isP;rw[h]
theorem zaj {s:List UInt8}{l l':List Tk}(h:hdT l'=hdT l):mayB s l'=mayB s l:=by unfold mayB;rw[zbH h]
theorem zbI {l l':List Tk}(h:hdT l'=hdT l):zaL l'=zaL l:=by unfold zaL;rw[h]
theorem zcO {s:List (List UInt8)}{l:List Tk}(h:0<=isP s l)(hs: []∉s):(hdT l).live :=λht=>by
 have:=(zcK h).1;rw[ht.1]at this;exact hs this
theorem zas {s:List UInt8}{l:List Tk}(h:mayB s l=true)(hs:s≠ []):(hdT l).live :=λht=>by
 have:=(zgr h).1;rw[ht.1]at this;exact hs this.symm
theorem zbR {l:List Tk}(h:zaL l=true):(hdT l).live :=λht=>by
 unfold zaL at h;rw[ht.2]at h;simp at h
theorem zbJ {l:List Tk}(h:0<=isP notS l):(hdT l).live :=zcO h (by decide)
theorem zkr {l:List Tk}(h:0<=isP cmpS l):(hdT l).live :=zcO h (by decide)
theorem zcP {l:List Tk}(h:(hdT l).live):0 < l.length:=by
 cases l with
 |nil=>exact absurd ⟨rfl,rfl⟩ h
 |cons a b=>simp
theorem zax {s:List UInt8}(hs:s≠ []):Lcl (zal s):=λl he=>by
 cases hm:mayB s l
 ·exact(LocAt.syn l).congr λl' h=>by unfold zal;rw[zaj h,hm];rfl
 ·exact(LocAt.tl' he (zas hm hs) (Lcl.ok1 ())).congr λl' h=>by unfold zal;rw[zaj h,hm];rfl
theorem nameP_loc:Lcl zaZ:=λl he=>by
 cases hm:zaL l
 ·exact(LocAt.syn l).congr λl' h=>by unfold zaZ;rw[zbI h,hm];rfl
 ·exact(LocAt.tl' he (zbR hm) (Lcl.ok1 ⟨txt (hdT l),(hdT l).at_⟩)).congr λl' h=>by unfold zaZ;rw[zbI h,hm,h];rfl
theorem zeo:Lcl zaR:=λl he=>by
 by_cases hm:(hdT l).kind =2
 ·exact(LocAt.tl' he (λht=>by rw[ht.2]at hm;simp at hm) (Lcl.ok1 (decV (hdT l).text :Int))).congr λl' h=>by unfold zaR;rw[h,if_pos hm]
 ·exact(LocAt.syn l).congr λl' h=>by unfold zaR;rw[h,if_neg hm]
/-! things with signs between, however much fuel there is -/
theorem zcx {α:Type}{one:List Tk->PR α}{join:Int->Int->α->α->α}{signs:List (List UInt8)}(h1:Shr one)(hs: []∉signs):∀(f f':Nat)(x:α)(l:List Tk),l.length<=f->l.length<=f'->zaG one join signs f x l=zaG one join signs f' x l
 |0,0,x,l,_,_=>rfl
 |0,f'+1,x,l,h,_=>by
  obtain rfl:l= []:=List.length_eq_zero_iff.1 (by omega);unfold zaG;rw[if_pos];exact Int.not_le.1 λh0=>zcO h0 hs ⟨rfl,rfl⟩
 |f+1,0,x,l,_,h=>by
  obtain rfl:l= []:=List.length_eq_zero_iff.1 (by omega);unfold zaG;rw[if_pos];exact Int.not_le.1 λh0=>zcO h0 hs ⟨rfl,rfl⟩
 |f+1,f'+1,x,l,h,h'=>by
  unfold zaG;split
  ·rfl
  ·cases ho:one l.tail with
   |err c a=>rfl
   |ok y r=>
    have:=h1 _ _ _ ho;rw[List.length_tail]at this;exact zcx h1 hs f f' _ r (by omega) (by omega)
def zgz {α:Type}(one:List Tk->PR α)(join:Int->Int->α->α->α)(signs:List (List UInt8))(x:α)(l:List Tk):PR α:=zaG one join signs l.length x l
theorem zgA {α:Type}{one:List Tk->PR α}{join:Int->Int->α->α->α}{signs:List (List UInt8)}(h1:Shr one)(hs: []∉signs)(x:α)(l:List Tk):
  zgz one join signs x l=if isP signs l < 0 then .ok x l else(one l.tail).then λy r=>zgz one join signs (join (isP signs l) (hdT l).at_ x y) r:=by
 have:zgz one join signs x l=zaG one join signs (l.length+1) x l:=zcx h1 hs _ _ x l (aL _) (by omega);rw[this];show(if isP signs l < 0 then _ else _)=_
 split
 ·rfl
 ·cases ho:one l.tail with
  |err c a=>rfl
  |ok y r=>
   have:=h1 _ _ _ ho;rw[List.length_tail]at this;exact zcx h1 hs _ _ _ r (by omega) (aL _)
theorem ze8 {α:Type}{one:List Tk->PR α}{join:Int->Int->α->α->α}{signs:List (List UInt8)}(h1:Shr one)(hs: []∉signs)(h:Lcl one):∀(m:Nat)(x:α)(l:List Tk),l.length<=m->Ended l->LocAt (zgz one join signs x) l
 |m,x,l,hm,he=>by
  by_cases h0:isP signs l < 0
  ·exact(LocAt.ok1 x l).congr λl' hl=>by rw[zgA h1 hs,zbH hl,if_pos h0]
  ·have J4:(hdT l).live :=zcO (s:=signs) (by omega) hs;have Lb:=zcP J4;refine LocAt.congr (f:=λl'=>(one l'.tail).then λy r=>zgz one join signs (join (isP signs l) (hdT l).at_ x y) r) ?_ λl' hl=>by rw[zgA h1 hs,zbH hl,if_neg h0,hl]
   refine LocAt.then_ (f:=λl'=>one l'.tail) (LocAt.tl' he J4 h) λy r ho=>?_;have:=h1 _ _ _ ho;rw[List.length_tail]at this;obtain⟨m,rfl⟩:∃k,m=k+1:=⟨m - 1,by omega⟩;exact ze8 h1 hs h m _ r (by omega) ((h _ (he.tl J4)).shr (he.tl J4) ho).2
theorem zbK {α:Type}{one:List Tk->PR α}{join:Int->Int->α->α->α}{signs:List (List UInt8)}(h1:Shr one)(hs: []∉signs)(h:Lcl one):Lcl (zaU one join signs):=
 Lcl.then_ h λx r he=>ze8 h1 hs h _ x r (aL _) he
theorem zdk {sign:List Tk->PR Ex}(h1:Shr sign)(h:Lcl sign):Lcl (zct sign):=
 zbK (zaA (zaA h1)) (by decide) (zbK (zaA h1) (by decide) (zbK h1 (by decide) h))
theorem zgB:∀n,Lcl (zaw n)
 |0,l,he=>by
  cases h0:mayB [45] l
  ·cases h1:mayB [40] l
   ·cases h2:zaL l
    ·exact LocAt.congr (Lcl.then_ zeo (λv=>Lcl.ok1 (⟨1,noB,v,.nil,(hdT l).at_⟩:Ex)) l he) λl' hl=>by unfold zaw;rw[zaj hl,zaj hl,zbI hl,h0,h1,h2,hl];rfl
    ·refine LocAt.tlc (f:=λq=>if mayB [91] q then PR.err 91 ((hdT q).at_ :Int)else PR.ok (⟨2,txt (hdT l),0,.nil,(hdT l).at_⟩:Ex) q) (zbR h2) ?_ λl' hl=>by unfold zaw;rw[zaj hl,zaj hl,zbI hl,h0,h1,h2,hl];rfl
     cases h3:mayB [91] l.tail
     ·exact(LocAt.ok1 _ _).congr λl' hl=>by simp only[zaj hl,h3];rfl
     ·exact(LocAt.dp (zas h3 (by decide))).congr λl' hl=>by simp only[zaj hl,h3];rfl
   ·exact(LocAt.dp (zas h1 (by decide))).congr λl' hl=>by unfold zaw;rw[zaj hl,zaj hl,h0,h1];rfl
  ·exact(LocAt.dp (zas h0 (by decide))).congr λl' hl=>by unfold zaw;rw[zaj hl,h0];rfl
 |n+1,l,he=>by
  have ih:=zgB n;cases h0:mayB [45] l
  ·cases h1:mayB [40] l
   ·cases h2:zaL l
    ·exact LocAt.congr (Lcl.then_ zeo (λv=>Lcl.ok1 (⟨1,noB,v,.nil,(hdT l).at_⟩:Ex)) l he) λl' hl=>by unfold zaw;rw[zaj hl,zaj hl,zbI hl,h0,h1,h2,hl];rfl
    ·refine LocAt.tlc (f:=λq=>if mayB [91] q then(zct (zaw n) q.tail).then λx r=>(zal [93] r).then λ_ r=> .ok (⟨3,txt (hdT l),0,x.cons .nil,(hdT l).at_⟩:Ex) r else PR.ok (⟨2,txt (hdT l),0,.nil,(hdT l).at_⟩:Ex) q) (zbR h2) ?_ λl' hl=>by unfold zaw;rw[zaj hl,zaj hl,zbI hl,h0,h1,h2,hl];rfl
     have V5:=he.tl (zbR h2);cases h3:mayB [91] l.tail
     ·exact(LocAt.ok1 _ _).congr λl' hl=>by simp only[zaj hl,h3];rfl
     ·refine LocAt.tlc' (f:=λq=>(zct (zaw n) q).then λx r=>(zal [93] r).then λ_ r=> .ok (⟨3,txt (hdT l),0,x.cons .nil,(hdT l).at_⟩:Ex) r) V5 (zas h3 (by decide)) ?_ λl' hl=>by simp only[zaj hl,h3];rfl
      exact Lcl.then_ (zdk (zbr n) ih) λx=>Lcl.then_ (zax (by decide)) λ_=>Lcl.ok1 _
   ·refine LocAt.tlc' (f:=λq=>(zct (zaw n) q).then λx r=>(zal [41] r).then λ_ r=> .ok x r) he (zas h1 (by decide)) ?_ λl' hl=>by unfold zaw;rw[zaj hl,zaj hl,h0,h1];rfl
    exact Lcl.then_ (zdk (zbr n) ih) λx=>Lcl.then_ (zax (by decide)) λ_=>Lcl.ok1 _
  ·refine LocAt.tlc' (f:=λq=>(zaw n q).then λx r=> .ok (⟨4,noB,0,x.cons .nil,((hdT l).at_ :Int)⟩:Ex) r) he (zas h0 (by decide)) ?_ λl' hl=>zh5 (by rw[zaj hl];exact h0) (by rw[hl]);exact Lcl.then_ ih λx=>Lcl.ok1 _
theorem za2 (n:Nat):Lcl (zaO n):=zdk (zbr n) (zgB n)
theorem ze9 (n:Nat):Lcl (za7 n):=λl he=>by
 cases h:mayB [91] l
 ·exact(LocAt.syn l).congr λl' hl=>by unfold za7 zcu;rw[zaj hl,h];rfl
 ·cases n with
  |zero=>exact(LocAt.dp (zas h (by decide))).congr λl' hl=>by unfold za7 zcu;rw[zaj hl,h];rfl
  |succ n=>
   refine LocAt.tlc' (f:=λq=>(zaO n q).then λx r=>(zal [93] r).then λ_ r=> .ok x r) he (zas h (by decide)) ?_ λl' hl=>by unfold za7 zcu;rw[zaj hl,h];rfl
   exact Lcl.then_ (za2 n) λx=>Lcl.then_ (zax (by decide)) λ_=>Lcl.ok1 _
theorem zfa {nt:List Tk->PR Cn}(h1:Shr nt)(h:Lcl nt):Lcl (zgw nt):=zbK (zaA h1) (by decide) (zbK h1 (by decide) h)
theorem zic (n:Nat):Lcl (cmpP n):=Lcl.then_ (za2 n) λx r he=>by
 by_cases h0:isP cmpS r < 0
 ·exact(LocAt.syn r).congr λl' hl=>by simp only[zbH hl,if_pos h0]
 ·refine LocAt.tlc' (f:=λq=>(zaO n q).then λy q=> .ok (⟨3+isP cmpS r,x.cons (y.cons .nil),.nil,(hdT r).at_⟩:Cn) q) he (zkr (by omega)) ?_ λl' hl=>by simp only[zbH hl,if_neg h0,hl]
  exact Lcl.then_ (za2 n) λy=>Lcl.ok1 _
theorem zid:∀n,Lcl (notP n)
 |0,l,he=>by
  by_cases h0:isP notS l=0
  ·exact(LocAt.dp (zbJ (by omega))).congr λl' hl=>by unfold notP;rw[zbH hl,if_pos h0]
  by_cases h1:isP notS l=1
  ·exact(LocAt.dp (zbJ (by omega))).congr λl' hl=>by unfold notP;rw[zbH hl,if_neg h0,if_pos h1]
  by_cases h2:isP notS l=2\/isP notS l=3
  ·exact(LocAt.tl' he (zbJ (by omega)) (Lcl.ok1 (⟨1+(isP notS l - 2),.nil,.nil,(hdT l).at_⟩:Cn))).congr λl' hl=>by unfold notP;rw[zbH hl,if_neg h0,if_neg h1,if_pos h2,hl]
  ·exact(zic 0 l he).congr λl' hl=>by unfold notP;rw[zbH hl,if_neg h0,if_neg h1,if_neg h2]
 |n+1,l,he=>by
  have ih:=zid n;by_cases h0:isP notS l=0
  ·refine LocAt.tlc' (f:=λq=>(notP n q).then λc r=> .ok (⟨9,.nil,c.cons .nil,((hdT l).at_ :Int)⟩:Cn) r) he (zbJ (by omega)) ?_ λl' hl=>zki (by rw[zbH hl];exact h0) (by rw[hl]);exact Lcl.then_ ih λy=>Lcl.ok1 _
  by_cases h1:isP notS l=1
  ·refine LocAt.tlc' (f:=λq=>(zgw (notP n) q).then λc r=>(zal [93] r).then λ_ r=> .ok c r) he (zbJ (by omega)) ?_ λl' hl=>by unfold notP;rw[zbH hl,if_neg h0,if_pos h1]
   exact Lcl.then_ (zfa (zcM n) ih) λy=>Lcl.then_ (zax (by decide)) λ_=>Lcl.ok1 _
  by_cases h2:isP notS l=2\/isP notS l=3
  ·exact(LocAt.tl' he (zbJ (by omega)) (Lcl.ok1 (⟨1+(isP notS l - 2),.nil,.nil,(hdT l).at_⟩:Cn))).congr λl' hl=>by unfold notP;rw[zbH hl,if_neg h0,if_neg h1,if_pos h2,hl]
  ·exact(zic (n+1) l he).congr λl' hl=>by unfold notP;rw[zbH hl,if_neg h0,if_neg h1,if_neg h2]
theorem zks (n:Nat):Lcl (zec n):=zfa (zcM n) (zid n)
theorem zck (n:Nat):Lcl (askP n):=Lcl.then_ (zax (by decide)) λ_=>Lcl.then_ (zks n) λx=>Lcl.then_ (zax (by decide)) λ_=>Lcl.ok1 _
theorem Lcl.shr1 {α:Type}{one:List Tk->PR α}(h:Lcl one){l:List Tk}(he:Ended l){x:α}{r:List Tk}(e:one l= .ok x r):r.length<=l.length/\Ended r:=(h l he).shr he e
/-! things with commas between -/
theorem zdl {α:Type}{one:List Tk->PR α}(h:Lcl one)(s:List UInt8):∀(f f':Nat)(acc:List α)(l:List Tk),Ended l->l.length<=f->l.length<=f'->zaE one s f acc l=zaE one s f' acc l
 |0,f',acc,l,he,h0,_=>absurd (List.length_eq_zero_iff.1 (by omega)) he.ne
 |f+1,0,acc,l,he,_,h0=>absurd (List.length_eq_zero_iff.1 (by omega)) he.ne
 |f+1,f'+1,acc,l,he,h1,h2=>by
  unfold zaE;cases ho:one l with
  |err c a=>rfl
  |ok y r=>
   have hr:=h.shr1 he ho;show(if mayB [44] r then zaE one s f (acc++ [y]) r.tail else _)=(if mayB [44] r then zaE one s f' (acc++ [y]) r.tail else _)
   cases hm:mayB [44] r
   ·rfl
   ·have hl:=zas hm (by decide);have hp:=zcP hl;exact zdl h s f f' _ _ (hr.2.tl hl) (by rw[List.length_tail];omega) (by rw[List.length_tail];omega)
def zi5 {α:Type}(one:List Tk->PR α)(s:List UInt8)(acc:List α)(l:List Tk):PR (List α):=zaE one s l.length acc l
theorem zmG {α:Type}{one:List Tk->PR α}(h:Lcl one)(s:List UInt8)(acc:List α)(l:List Tk)(he:Ended l):
  zi5 one s acc l=(one l).then λx r=>if mayB [44] r then zi5 one s (acc++ [x]) r.tail else(zal s r).then λ_ r=> .ok (acc++ [x]) r:=by
 have:zi5 one s acc l=zaE one s (l.length+1) acc l:=zdl h s _ _ acc l he (aL _) (by omega);rw[this];show(one l).then _=_
 cases ho:one l with
 |err c a=>rfl
 |ok y r=>
  have hr:=h.shr1 he ho;show(if mayB [44] r then zaE one s l.length (acc++ [y]) r.tail else _)=(if mayB [44] r then _ else _)
  cases hm:mayB [44] r
  ·rfl
  ·have hl:=zas hm (by decide);have hp:=zcP hl;exact zdl h s _ _ _ _ (hr.2.tl hl) (by rw[List.length_tail];omega) (aL _)
theorem LocAt.congrE {α:Type}{f g:List Tk->PR α}{l:List Tk}(hl:Ended l)(h:LocAt f l)(k:∀l',Ended l'->hdT l'=hdT l->g l'=f l'):LocAt g l:=by
 have e:=k l hl rfl;cases hf:f l with
 |ok x r=>
  obtain⟨pre,e1,h1,h2⟩:=h.ok_ hf;exact LocAt.mk_ok (e.trans hf) ⟨pre,e1,h1,λr' he hr=>(k _ (he.app _) (by rw[e1];exact zdj hr)).trans (h2 r' he hr)⟩
 |err c a=>
  obtain⟨pre,post,e1,h1,h3,h4,h2⟩:=h.err_ hf;exact LocAt.mk_err (e.trans hf) ⟨pre,post,e1,h1,h3,h4,λr' he hr=>(k _ (he.app _) (by rw[e1];exact zdj hr)).trans (h2 r' he hr)⟩
theorem zgC {α:Type}{one:List Tk->PR α}(h:Lcl one){s:List UInt8}(hs:s≠ []):∀(m:Nat)(acc:List α)(l:List Tk),l.length<=m->Ended l->LocAt (zi5 one s acc) l
 |m,acc,l,hm,he=>by
  refine LocAt.congrE he (f:=λl=>(one l).then λx r=>if mayB [44] r then zi5 one s (acc++ [x]) r.tail else(zal s r).then λ_ r=> .ok (acc++ [x]) r) ?_ λl' V6 _=>zmG h s acc l' V6;refine LocAt.then_ (h l he) λx r ho=>?_;have hr:=h.shr1 he ho;cases TP:mayB [44] r
  ·refine LocAt.congr (f:=λr=>(zal s r).then λ_ r=> .ok (acc++ [x]) r) ?_ λl' hl=>by simp only[zaj hl,TP];rfl
   exact Lcl.then_ (zax hs) (λ_=>Lcl.ok1 _) r hr.2
  ·have J4:=zas TP (by decide);have hp:=zcP J4;obtain⟨m,rfl⟩:∃k,m=k+1:=⟨m - 1,by omega⟩;refine LocAt.congr (f:=λr=>zi5 one s (acc++ [x]) r.tail) ?_ λl' hl=>by simp only[zaj hl,TP];rfl
   exact LocAt.tl J4 (zgC h hs m _ _ (by rw[List.length_tail];omega) (hr.2.tl J4))
theorem zep {α:Type}{one:List Tk->PR α}(h:Lcl one){s:List UInt8}(hs:s≠ [])(no:Bool):Lcl (zaS one s no):=λl he=>by
 by_cases hn:(no&&mayB s l)=true
 ·have hm:mayB s l=true:=by
   rw[Bool.and_eq_true]at hn;exact hn.2
  exact(LocAt.tl' he (zas hm hs) (Lcl.ok1 [])).congr λl' hl=>by unfold zaS;rw[zaj hl,if_pos hn]
 ·exact(zgC h hs _ [] l (aL _) he).congr λl' hl=>by unfold zaS;rw[zaj hl,if_neg hn];rfl
theorem zaW (x:St):Lcl (endS x):=Lcl.then_ (zax (by decide)) λ_=>Lcl.ok1 _
theorem zbb {l:List Tk}(h:keyK (hdT l).text ≠0):(hdT l).live :=λht=>h (by rw[ht.1];rfl)
theorem zfb {blk:List Tk->PR (List St)}(hb:Lcl blk)(n:Nat):Lcl (zaz blk n):=λl he=>by
 obtain⟨k,hk⟩:=aF (keyK (hdT l).text );obtain⟨a,ha⟩:∃a:Int,a=((hdT l).at_ :Int):=⟨_,rfl⟩;have hd:∀l',hdT l'=hdT l->keyK (hdT l').text =k/\((hdT l').at_ :Int)=a:=λl' hl=>by rw[hl];exact⟨hk.symm,ha.symm⟩
 by_cases h1:k=1
 ·have J4:(hdT l).live :=zbb (by rw[<-hk];omega);refine LocAt.tlc' (f:=λq=>endS ⟨1,noB,.nil,.nil,.nil,.nil,a⟩ q) he J4 (zaW _) λl' hl=>by
   unfold zaz;simp only[(hd l' hl).1,(hd l' hl).2,if_pos h1]
 by_cases h4:k=4
 ·have J4:(hdT l).live :=zbb (by rw[<-hk];omega);refine LocAt.tlc' (f:=λq=>(zaZ q).then λx r=>endS ⟨4,x.nm,.nil,.nil,.nil,.nil,a⟩ r) he J4 (Lcl.then_ nameP_loc λx=>zaW _) λl' hl=>by
   unfold zaz;simp only[(hd l' hl).1,(hd l' hl).2,if_neg h1,if_pos h4]
 by_cases h5:k=5\/k=6
 ·have J4:(hdT l).live :=zbb (by rw[<-hk];omega);refine LocAt.tlc' (f:=λq=>(askP n q).then λc r=>endS ⟨k,noB,.nil,c,.nil,.nil,a⟩ r) he J4 (Lcl.then_ (zck n) λx=>zaW _) λl' hl=>by
   unfold zaz;simp only[(hd l' hl).1,(hd l' hl).2,if_neg h1,if_neg h4,if_pos h5]
 by_cases h7:k=7
 ·have J4:(hdT l).live :=zbb (by rw[<-hk];omega);refine LocAt.tlc' (f:=λq=>(askP n q).then λc r=>(blk r).then λb r=>if mayB [101,108,115,101] r then(blk r.tail).then λe r=> .ok ⟨7,noB,.nil,c,zai b,zai e,a⟩ r else .ok ⟨7,noB,.nil,c,zai b,.nil,a⟩ r) he J4 (Lcl.then_ (zck n) λc=>Lcl.then_ hb λb r P9=>?_) λl' hl=>by
   unfold zaz;simp only[(hd l' hl).1,(hd l' hl).2,if_neg h1,if_neg h4,if_neg h5,if_pos h7]
  cases hm:mayB [101,108,115,101] r
  ·exact(LocAt.ok1 _ _).congr λl' hl=>by simp only[zaj hl,hm];rfl
  ·refine LocAt.tlc' (f:=λq=>(blk q).then λe r=> .ok (⟨7,noB,.nil,c,zai b,zai e,a⟩:St) r) P9 (zas hm (by decide)) (Lcl.then_ hb λe=>Lcl.ok1 _) λl' hl=>by simp only[zaj hl,hm];rfl
 by_cases h8:k=8
 ·have J4:(hdT l).live :=zbb (by rw[<-hk];omega);refine LocAt.tlc' (f:=λq=>(askP n q).then λc r=>(blk r).then λb r=> .ok (⟨8,noB,.nil,c,zai b,.nil,a⟩:St) r) he J4 (Lcl.then_ (zck n) λx=>Lcl.then_ hb λb=>Lcl.ok1 _) λl' hl=>by
   unfold zaz;simp only[(hd l' hl).1,(hd l' hl).2,if_neg h1,if_neg h4,if_neg h5,if_neg h7,if_pos h8]
 by_cases h9:k=9
 ·have J4:(hdT l).live :=zbb (by rw[<-hk];omega);refine LocAt.tlc' (f:=λq=>(zaZ q).then λx r=>(zal [40] r).then λ_ r=>(zaS (zaO n) [41] true r).then λxs r=>endS ⟨9,x.nm,za0 xs,.nil,.nil,.nil,a⟩ r) he J4 (Lcl.then_ nameP_loc λx=>Lcl.then_ (zax (by decide)) λ_=>Lcl.then_ (zep (za2 n) (by decide) true) λxs=>zaW _) λl' hl=>by
   unfold zaz;simp only[(hd l' hl).1,(hd l' hl).2,if_neg h1,if_neg h4,if_neg h5,if_neg h7,if_neg h8,if_pos h9]
 ·refine LocAt.congr (f:=λl'=>(zaZ l').then λx r=>
   if mayB [91] r then(za7 n r).then λi r=>(zal [61] r).then λ_ r=>(zaO n r).then λe r=>endS ⟨3,x.nm,i.cons (e.cons .nil),.nil,.nil,.nil,a⟩ r
   else(zal [61] r).then λ_ r=>(zaO n r).then λe r=>endS ⟨2,x.nm,e.cons .nil,.nil,.nil,.nil,a⟩ r) (Lcl.then_ nameP_loc (λx r P9=>?_) l he) λl' hl=>by
   unfold zaz;simp only[(hd l' hl).1,(hd l' hl).2,if_neg h1,if_neg h4,if_neg h5,if_neg h7,if_neg h8,if_neg h9]
  cases hm:mayB [91] r
  ·refine LocAt.congr (f:=λr=>(zal [61] r).then λ_ r=>(zaO n r).then λe r=>endS ⟨2,x.nm,e.cons .nil,.nil,.nil,.nil,a⟩ r) ?_ λl' hl=>by simp only[zaj hl,hm];rfl
   exact Lcl.then_ (zax (by decide)) (λ_=>Lcl.then_ (za2 n) λe=>zaW _) r P9
  ·refine LocAt.congr (f:=λr=>(za7 n r).then λi r=>(zal [61] r).then λ_ r=>(zaO n r).then λe r=>endS ⟨3,x.nm,i.cons (e.cons .nil),.nil,.nil,.nil,a⟩ r) ?_ λl' hl=>by simp only[zaj hl,hm];rfl
   exact Lcl.then_ (ze9 n) (λi=>Lcl.then_ (zax (by decide)) λ_=>Lcl.then_ (za2 n) λe=>zaW _) r P9
theorem zho (t:List UInt8):keyK t=0\/keyK t=1\/keyK t=4\/keyK t=5\/keyK t=6\/keyK t=7\/keyK t=8\/keyK t=9:=by
 unfold keyK
 repeat' split
 all_goals simp
theorem zcy {blk:List Tk->PR (List St)}(hb:Lcl blk)(n:Nat){l:List Tk}(he:Ended l){x:St}{r:List Tk}(h:zaz blk n l= .ok x r):r.length < l.length:=by
 obtain⟨pre,e,h1,h2⟩:=(zfb hb n l he).ok_ h;cases pre with
 |cons a b=>rw[e];simp;omega
 |nil=>
  exfalso
  have e:l=r:=e;subst e;have P9:=he;obtain⟨z,hz,zU⟩:∃z:Tk,hdT l=z/\True:=⟨_,rfl,trivial⟩;have Lb:0 < l.length:=List.length_pos_iff.2 he.ne;unfold zaz at h;by_cases GI:keyK (hdT l).text =0
  ·simp only[GI]at h;rw[if_neg (by decide),if_neg (by decide),if_neg (by decide),if_neg (by decide),if_neg (by decide),if_neg (by decide)]at h;obtain⟨v,q,h3,h4⟩:=PR.then_ok h;have hq:=zb7 h3;have jF:Ended q:=(nameP_loc.shr1 he h3).2;have X6:l.length<=q.length:=by
    split at h4
    ·exact(Lcl.shr1 (Lcl.then_ (ze9 n) λi=>Lcl.then_ (zax (by decide)) λ_=>Lcl.then_ (za2 n) λe=>zaW _) jF h4).1
    ·exact(Lcl.shr1 (Lcl.then_ (zax (by decide)) λ_=>Lcl.then_ (za2 n) λe=>zaW _) jF h4).1
   rw[hq,List.length_tail]at X6;omega
  ·have J4:=zbb GI;have Vg:=he.tl J4;have key:l.length<=l.tail.length:=by
    simp only at h;split at h
    ·exact((zaW _).shr1 Vg h).1
    split at h
    ·exact((Lcl.then_ nameP_loc λx=>zaW _).shr1 Vg h).1
    split at h
    ·exact((Lcl.then_ (zck n) λx=>zaW _).shr1 Vg h).1
    split at h
    ·obtain⟨c,q,h3,h4⟩:=PR.then_ok h;have q1:=(zck n).shr1 Vg h3;obtain⟨b,q2,h5,h6⟩:=PR.then_ok h4;have q3:=hb.shr1 q1.2 h5;split at h6
     ·rename_i hm;obtain⟨e',q5,h7,h8⟩:=PR.then_ok h6;have q6:=hb.shr1 (q3.2.tl (zas hm (by decide))) h7;simp only[PR.ok.injEq]at h8;have e:=congrArg List.length h8.2;have:=q6.1;rw[List.length_tail]at this;have:=q3.1;have:=q1.1;omega
     ·simp only[PR.ok.injEq]at h6;have e:=congrArg List.length h6.2;have:=q3.1;have:=q1.1;omega
    split at h
    ·exact((Lcl.then_ (zck n) λx=>Lcl.then_ hb λb=>Lcl.ok1 _).shr1 Vg h).1
    split at h
    ·exact((Lcl.then_ nameP_loc λx=>Lcl.then_ (zax (by decide)) λ_=>Lcl.then_ (zep (za2 n) (by decide) true) λxs=>zaW _).shr1 Vg h).1
    ·rename_i h1 h4 h5 h7 h8 h9;rcases zho (hdT l).text with h|h|h|h|h|h|h|h<;>omega
   rw[List.length_tail]at key;omega
def zoN {α:Type}(one:List Tk->PR α):Prop:=∀l,Ended l->∀x r,one l= .ok x r->r.length < l.length
theorem zcz {one:List Tk->PR St}(h:Lcl one)(hl:zoN one):∀(f f':Nat)(acc:List St)(l:List Tk),Ended l->l.length<=f->l.length<=f'->zbi one f acc l=zbi one f' acc l
 |0,f',acc,l,he,h0,_=>absurd (List.length_eq_zero_iff.1 (by omega)) he.ne
 |f+1,0,acc,l,he,_,h0=>absurd (List.length_eq_zero_iff.1 (by omega)) he.ne
 |f+1,f'+1,acc,l,he,h1,h2=>by
  unfold zbi;split
  ·rfl
  ·cases ho:one l with
   |err c a=>rfl
   |ok y r=>
    have hr:=h.shr1 he ho;have:=hl l he y r ho;exact zcz h hl f f' _ _ hr.2 (by omega) (by omega)
def zfc (one:List Tk->PR St)(acc:List St)(l:List Tk):PR (List St):=zbi one l.length acc l
theorem zgD {one:List Tk->PR St}(h:Lcl one)(hl:zoN one)(acc:List St)(l:List Tk)(he:Ended l):
  zfc one acc l=if mayB [125] l then .ok acc l.tail else(one l).then λx r=>zfc one (acc++ [x]) r:=by
 have:zfc one acc l=zbi one (l.length+1) acc l:=zcz h hl _ _ acc l he (aL _) (by omega);rw[this];show(if mayB [125] l then _ else _)=_
 split
 ·rfl
 ·cases ho:one l with
  |err c a=>rfl
  |ok y r=>
   have hr:=h.shr1 he ho;exact zcz h hl _ _ _ _ hr.2 hr.1 (aL _)
theorem zfd {one:List Tk->PR St}(h:Lcl one)(hl:zoN one):∀(m:Nat)(acc:List St)(l:List Tk),l.length<=m->Ended l->LocAt (zfc one acc) l
 |m,acc,l,hm,he=>by
  cases hb:mayB [125] l
  ·refine LocAt.congrE he (f:=λl=>(one l).then λx r=>zfc one (acc++ [x]) r) ?_ λl' V6 hd=>by rw[zgD h hl acc l' V6,zaj hd,hb];rfl
   refine LocAt.then_ (h l he) λx r ho=>?_;have hr:=h.shr1 he ho;have:=hl l he x r ho;obtain⟨m,rfl⟩:∃k,m=k+1:=⟨m - 1,by omega⟩;exact zfd h hl m _ _ (by omega) hr.2
  ·exact LocAt.congrE he (LocAt.tl' he (zas hb (by decide)) (Lcl.ok1 acc)) λl' V6 hd=>by rw[zgD h hl acc l' V6,zaj hd,hb];rfl
theorem zbL:∀n,Lcl (zag n)
 |0,l,he=>by
  cases hb:mayB [123] l
  ·exact(LocAt.syn l).congr λl' hl=>by unfold zag;rw[zaj hl,hb];rfl
  ·exact(LocAt.dp (zas hb (by decide))).congr λl' hl=>by unfold zag;rw[zaj hl,hb];rfl
 |n+1,l,he=>by
  cases hb:mayB [123] l
  ·exact(LocAt.syn l).congr λl' hl=>by unfold zag;rw[zaj hl,hb];rfl
  ·have J4:=zas hb (by decide);refine LocAt.congr (f:=λl'=>zfc (zaz (zag n) n) [] l'.tail) (LocAt.tl J4 (zfd (zfb (zbL n) n) (λl he x r=>zcy (zbL n) n he) _ _ _ (aL _) (he.tl J4))) λl' hl=>by unfold zag;rw[zaj hl,hb];rfl
theorem procP_loc:Lcl zhn:=Lcl.then_ nameP_loc λx=>Lcl.then_ (zax (by decide)) λ_=>Lcl.then_ (zep nameP_loc (by decide) true) λps=>Lcl.then_ (zbL 24) λb=>Lcl.ok1 _
/-! a tree's head -/
