/- Plain parsing of statements, procedures and trees. -/
import Derived.Test.YtfomomaomggpbaaGreatDoorJgAsk
set_option linter.all false
namespace Go.Proofs.YtfomomaomggpbaaGreatDoor
open Go.RowKit Go.Shelf
def keyK (t:List UInt8):Int:=
 if t= [115,107,105,112]then 1 else if t= [105,110,112,117,116]then 4 else if t= [97,115,115,117,109,101]then 5 else if t= [97,115,115,101,114,116]then 6
 else if t= [105,102]then 7 else if t= [119,104,105,108,101]then 8 else if t= [99,97,108,108]then 9 else 0
def endS (x:St)(l:List Tk):PR St:=(zal [59] l).then λ_ r=> .ok x r
def zaz (blk:List Tk->PR (List St))(n:Nat)(l:List Tk):PR St:=
 let a:=((hdT l).at_ :Int)
 let k:=keyK (hdT l).text
 if k=1 then endS ⟨1,noB,.nil,.nil,.nil,.nil,a⟩ l.tail
 else if k=4 then(zaX l.tail).then λx r=>endS ⟨4,x.nm,.nil,.nil,.nil,.nil,a⟩ r
 else if k=5\/k=6 then(askP n l.tail).then λc r=>endS ⟨k,noB,.nil,c,.nil,.nil,a⟩ r
 else if k=7 then(askP n l.tail).then λc r=>(blk r).then λb r=>
  if mayB [101,108,115,101] r then(blk r.tail).then λe r=> .ok ⟨7,noB,.nil,c,zam b,zam e,a⟩ r else .ok ⟨7,noB,.nil,c,zam b,.nil,a⟩ r
 else if k=8 then(askP n l.tail).then λc r=>(blk r).then λb r=> .ok ⟨8,noB,.nil,c,zam b,.nil,a⟩ r
 else if k=9 then(zaX l.tail).then λx r=>(zal [40] r).then λ_ r=>(zaR (zaL n) [41] true r).then λxs r=>endS ⟨9,x.nm,zbi xs,.nil,.nil,.nil,a⟩ r
 else(zaX l).then λx r=>
  if mayB [91] r then(za3 n r).then λi r=>(zal [61] r).then λ_ r=>(zaL n r).then λe r=>endS ⟨3,x.nm,i.cons (e.cons .nil),.nil,.nil,.nil,a⟩ r
  else(zal [61] r).then λ_ r=>(zaL n r).then λe r=>endS ⟨2,x.nm,e.cons .nil,.nil,.nil,.nil,a⟩ r
def zbh (one:List Tk->PR St):Nat->List St->List Tk->PR (List St)
 |0,acc,l=> .ok acc l
 |f+1,acc,l=>if mayB [125] l then .ok acc l.tail else(one l).then λx r=>zbh one f (acc++ [x]) r
def zag:Nat->List Tk->PR (List St)
 |n,l=>
  if mayB [123] l then(match n with
   |0=> .err 91 (hdT l).at_
   |n+1=>zbh (zaz (zag n) n) l.tail.length [] l.tail)
  else .err 90 (hdT l).at_
def zei (l:List Tk):PR Arr:=(zaX l).then λx r=>(zal [91] r).then λ_ r=>(zaP r).then λn r=>(zal [93] r).then λ_ r=> .ok ⟨x.nm,n,x.at_⟩ r
def zgZ (l:List Tk):PR Prc:=(zaX l).then λx r=>(zal [40] r).then λ_ r=>(zaR zaX [41] true r).then λps r=>(zag 24 r).then λb r=> .ok ⟨x.nm,ps,zam b,x.at_⟩ r
def zew:Nat->List Va->List Arr->List Tk->PR (List Va×List Arr)
 |0,vs,xs,l=> .ok (vs,xs) l
 |f+1,vs,xs,l=>
  if mayB [118,97,114] l then(zaR zaX [59] false l.tail).then λv r=>zew f (vs++v) xs r
  else if mayB [97,114,114,97,121] l then(zaR zei [59] false l.tail).then λx r=>zew f vs (xs++x) r
  else .ok (vs,xs) l
def zdp:Nat->List Prc->List Tk->PR (List Prc)
 |0,ps,l=> .ok ps l
 |f+1,ps,l=>if mayB [112,114,111,99] l then(zgZ l.tail).then λp r=>zdp f (ps++ [p]) r else .ok ps l
def ziE (l:List Tk):PR Tre:=
 (zew l.length [] [] l).then λvx r=>(zdp r.length [] r).then λps r=>(zal [109,97,105,110] r).then λ_ r=>(zag 24 r).then λb r=>
  if 1 < r.length then .err 90 (hdT r).at_ else .ok ⟨vx.1,vx.2,ps,zam b⟩ r
def zcS (s:List UInt8):Tre×Int×Int:=
 let q:=toks s
 if q.2.2≠0 then(⟨[], [], [],.nil⟩,q.2.1,q.2.2)
 else match ziE (q.1++ [⟨0, [],s.length⟩])with
  | .ok t _=>(t,0,0)
  | .err e a=>(⟨[], [], [],.nil⟩,a,e)
theorem zb6 {l:List Tk}{x:Va}{r:List Tk}(h:zaX l= .ok x r):r=l.tail:=by
 unfold zaX at h;split at h
 ·simp only[PR.ok.injEq]at h;exact h.2.symm
 ·simp at h
def Tk.live (t:Tk):Prop:=¬(t.text= []/\t.kind=0)
def Ended (l:List Tk):Prop:=∃q z,l=q++ [z]/\¬Tk.live z
theorem Ended.ne {l:List Tk}(h:Ended l):l≠ []:=by
 obtain⟨q,z,rfl,_⟩:=h;simp
theorem Ended.app {l:List Tk}(h:Ended l)(pre:List Tk):Ended (pre++l):=by
 obtain⟨q,z,rfl,hz⟩:=h;exact⟨pre++q,z,by rw[List.append_assoc],hz⟩
theorem Ended.back {pre r:List Tk}(h:Ended (pre++r))(hp:∀t∈pre,t.live):Ended r:=by
 obtain⟨q,z,e,hz⟩:=h;rcases List.eq_nil_or_concat r with rfl|⟨s,y,rfl⟩
 ·rw[List.append_nil]at e;exact absurd (hp z (by rw[e];simp)) hz
 ·rw[List.concat_eq_append,<-List.append_assoc]at e;have:=(List.append_inj_right' e (by simp));simp only[List.cons.injEq,and_true]at this;exact⟨s,y,by simp,by rw[this];exact hz⟩
theorem Ended.tl {l:List Tk}(h:Ended l)(hl:(hdT l).live):Ended l.tail:=by
 cases l with
 |nil=>exact absurd rfl h.ne
 |cons t r=>exact Ended.back (pre:= [t]) h λq hq=>by simp only[List.mem_cons,List.not_mem_nil,or_false]at hq;subst hq;exact hl
def LocAt {α:Type}(f:List Tk->PR α)(l:List Tk):Prop:=
 match f l with
 | .ok x r=>∃pre,l=pre++r/\(∀t∈pre,t.live)/\∀r',Ended r'->hdT r'=hdT r->f (pre++r')= .ok x r'
 | .err c a=>∃pre post,l=pre++post/\(∀t∈pre,t.live)/\a=((hdT post).at_ :Int)/\(c=90\/c=91/\(hdT post).live)/\∀yi,Ended yi->hdT yi=hdT post->f (pre++yi)= .err c a
def Lcl {α:Type}(f:List Tk->PR α):Prop:=∀l,Ended l->LocAt f l
theorem LocAt.ok_ {α:Type}{f:List Tk->PR α}{l:List Tk}{x:α}{r:List Tk}(h:LocAt f l)(e:f l= .ok x r):∃pre,l=pre++r/\(∀t∈pre,t.live)/\∀r',Ended r'->hdT r'=hdT r->f (pre++r')= .ok x r':=by
 unfold LocAt at h;rw[e]at h;exact h
theorem LocAt.err_ {α:Type}{f:List Tk->PR α}{l:List Tk}{c a:Int}(h:LocAt f l)(e:f l= .err c a):∃pre post,l=pre++post/\(∀t∈pre,t.live)/\a=((hdT post).at_ :Int)/\(c=90\/c=91/\(hdT post).live)/\∀yi,Ended yi->hdT yi=hdT post->f (pre++yi)= .err c a:=by
 unfold LocAt at h;rw[e]at h;exact h
theorem LocAt.mk_ok {α:Type}{f:List Tk->PR α}{l:List Tk}{x:α}{r:List Tk}(e:f l= .ok x r)(h:∃pre,l=pre++r/\(∀t∈pre,t.live)/\∀r',Ended r'->hdT r'=hdT r->f (pre++r')= .ok x r'):LocAt f l:=by
 unfold LocAt;rw[e];exact h
theorem LocAt.mk_err {α:Type}{f:List Tk->PR α}{l:List Tk}{c a:Int}(e:f l= .err c a)(h:∃pre post,l=pre++post/\(∀t∈pre,t.live)/\a=((hdT post).at_ :Int)/\(c=90\/c=91/\(hdT post).live)/\∀yi,Ended yi->hdT yi=hdT post->f (pre++yi)= .err c a):LocAt f l:=by
 unfold LocAt;rw[e];exact h
theorem LocAt.shr {α:Type}{f:List Tk->PR α}{l:List Tk}{x:α}{r:List Tk}(h:LocAt f l)(hl:Ended l)(e:f l= .ok x r):r.length<=l.length/\Ended r:=by
 obtain⟨pre,rfl,h1,h2⟩:=h.ok_ e;exact⟨by simp,hl.back h1⟩
theorem zdf {pre r r':List Tk}(h:hdT r'=hdT r):hdT (pre++r')=hdT (pre++r):=by
 cases pre with
 |nil=>exact h
 |cons a b=>rfl
theorem LocAt.congr {α:Type}{f g:List Tk->PR α}{l:List Tk}(h:LocAt f l)(k:∀l',hdT l'=hdT l->g l'=f l'):LocAt g l:=by
 have e:=k l rfl;cases hf:f l with
 |ok x r=>
  obtain⟨pre,e1,h1,h2⟩:=h.ok_ hf;exact LocAt.mk_ok (e.trans hf) ⟨pre,e1,h1,λr' he hr=>(k _ (by rw[e1];exact zdf hr)).trans (h2 r' he hr)⟩
 |err c a=>
  obtain⟨pre,post,e1,h1,h3,h4,h2⟩:=h.err_ hf;exact LocAt.mk_err (e.trans hf) ⟨pre,post,e1,h1,h3,h4,λr' he hr=>(k _ (by rw[e1];exact zdf hr)).trans (h2 r' he hr)⟩
theorem LocAt.ok1 {α:Type}(x:α)(l:List Tk):LocAt (λl=>PR.ok x l) l:=LocAt.mk_ok rfl ⟨[],rfl,by simp,λr' _ _=>rfl⟩
theorem Lcl.ok1 {α:Type}(x:α):Lcl (λl=>PR.ok x l):=λl _=>LocAt.ok1 x l
theorem LocAt.syn {α:Type}(l:List Tk):LocAt (λl=>(PR.err 90 ((hdT l).at_ :Int):PR α)) l:=LocAt.mk_err rfl ⟨[],l,rfl,by simp,rfl,.inl rfl,λp _ hp=>by show PR.err _ _=_;rw[List.nil_append,hp]⟩
theorem LocAt.dp {α:Type}{l:List Tk}(h:(hdT l).live):LocAt (λl=>(PR.err 91 ((hdT l).at_ :Int):PR α)) l:=LocAt.mk_err rfl ⟨[],l,rfl,by simp,rfl,.inr ⟨rfl,h⟩,λp _ hp=>by show PR.err _ _=_;rw[List.nil_append,hp]⟩
theorem LocAt.tl {α:Type}{f:List Tk->PR α}{l:List Tk}(hl:(hdT l).live)(h:LocAt f l.tail):LocAt (λl=>f l.tail) l:=by
 cases l with
 |nil=>exact absurd ⟨rfl,rfl⟩ hl
 |cons t r=>
  have ht:t.live:=hl;cases hf:f r with
  |ok x r2=>
   obtain⟨pre,e1,h1,h2⟩:=LocAt.ok_ h hf;have e1:r=pre++r2:=e1;refine LocAt.mk_ok (f:=λl=>f l.tail) (l:=t::r) hf ⟨t::pre,by rw[e1];rfl,λq hq=>?_,λr' he hr=>h2 r' he hr⟩;rcases List.mem_cons.1 hq with rfl|hq
   ·exact ht
   ·exact h1 q hq
  |err c a=>
   obtain⟨pre,post,e1,h1,h3,h4,h2⟩:=LocAt.err_ h hf;have e1:r=pre++post:=e1;refine LocAt.mk_err (f:=λl=>f l.tail) (l:=t::r) hf ⟨t::pre,post,by rw[e1];rfl,λq hq=>?_,h3,h4,λr' he hr=>h2 r' he hr⟩;rcases List.mem_cons.1 hq with rfl|hq
   ·exact ht
   ·exact h1 q hq
theorem LocAt.then_ {α β:Type}{f:List Tk->PR α}{g:α->List Tk->PR β}{l:List Tk}(h:LocAt f l)(k:∀x r,f l= .ok x r->LocAt (g x) r):LocAt (λl=>(f l).then g) l:=by
 cases hf:f l with
 |err c a=>
  obtain⟨pre,post,e1,h1,h3,h4,h2⟩:=h.err_ hf;exact LocAt.mk_err (f:=λl=>(f l).then g) (by show(f l).then g=_;rw[hf];rfl) ⟨pre,post,e1,h1,h3,h4,λr' he hr=>by show(f _).then g=_;rw[h2 r' he hr];rfl⟩
 |ok x r=>
  obtain⟨pre,e1,h1,h2⟩:=h.ok_ hf;have hk:=k x r hf;cases hg:g x r with
  |err c a=>
   obtain⟨yJ,post,e2,h3,h4,h5,h6⟩:=hk.err_ hg;refine LocAt.mk_err (f:=λl=>(f l).then g) (by show(f l).then g=_;rw[hf];exact hg) ⟨pre++yJ,post,by rw[e1,e2,List.append_assoc],λt ht=>?_,h4,h5,λr' he hr=>?_⟩
   ·rcases List.mem_append.1 ht with ht|ht
    ·exact h1 t ht
    ·exact h3 t ht
   ·show(f _).then g=_
    rw[List.append_assoc,h2 _ (he.app _) (by rw[e2];exact zdf hr)];exact h6 r' he hr
  |ok y r2=>
   obtain⟨yJ,e2,h3,h6⟩:=hk.ok_ hg;refine LocAt.mk_ok (f:=λl=>(f l).then g) (by show(f l).then g=_;rw[hf];exact hg) ⟨pre++yJ,by rw[e1,e2,List.append_assoc],λt ht=>?_,λr' he hr=>?_⟩
   ·rcases List.mem_append.1 ht with ht|ht
    ·exact h1 t ht
    ·exact h3 t ht
   ·show(f _).then g=_
    rw[List.append_assoc,h2 _ (he.app _) (by rw[e2];exact zdf hr)];exact h6 r' he hr
theorem Lcl.then_ {α β:Type}{f:List Tk->PR α}{g:α->List Tk->PR β}(h:Lcl f)(k:∀x,Lcl (g x)):Lcl (λl=>(f l).then g):=λl hl=>(h l hl).then_ λx r e=>k x r ((h l hl).shr hl e).2
theorem LocAt.tl' {α:Type}{f:List Tk->PR α}{l:List Tk}(he:Ended l)(hl:(hdT l).live)(h:Lcl f):LocAt (λl=>f l.tail) l:=LocAt.tl hl (h _ (he.tl hl))
theorem LocAt.tlc {α:Type}{f g:List Tk->PR α}{l:List Tk}(hl:(hdT l).live)(h:LocAt f l.tail)(k:∀l',hdT l'=hdT l->g l'=f l'.tail):LocAt g l:=(LocAt.tl hl h).congr k
theorem LocAt.tlc' {α:Type}{f g:List Tk->PR α}{l:List Tk}(he:Ended l)(hl:(hdT l).live)(h:Lcl f)(k:∀l',hdT l'=hdT l->g l'=f l'.tail):LocAt g l:=(LocAt.tl' he hl h).congr k
theorem zbD {s:List (List UInt8)}{l l':List Tk}(h:hdT l'=hdT l):isP s l'=isP s l:=by unfold isP;rw[h]
theorem zaj {s:List UInt8}{l l':List Tk}(h:hdT l'=hdT l):mayB s l'=mayB s l:=by unfold mayB;rw[zbD h]
theorem zbE {l l':List Tk}(h:hdT l'=hdT l):zaJ l'=zaJ l:=by unfold zaJ;rw[h]
theorem zcT {s:List (List UInt8)}{l:List Tk}(h:0<=isP s l)(hs: []∉s):(hdT l).live :=λht=>by
 have:=(zcF h).1;rw[ht.1]at this;exact hs this
theorem zaq {s:List UInt8}{l:List Tk}(h:mayB s l=true)(hs:s≠ []):(hdT l).live :=λht=>by
 have:=(zfV h).1;rw[ht.1]at this;exact hs this.symm
theorem zbN {l:List Tk}(h:zaJ l=true):(hdT l).live :=λht=>by
 unfold zaJ at h;rw[ht.2]at h;simp at h
theorem zbF {l:List Tk}(h:0<=isP notS l):(hdT l).live :=zcT h (by decide)
theorem zkf {l:List Tk}(h:0<=isP cmpS l):(hdT l).live :=zcT h (by decide)
theorem zcU {l:List Tk}(h:(hdT l).live):0 < l.length:=by
 cases l with
 |nil=>exact absurd ⟨rfl,rfl⟩ h
 |cons a b=>simp
theorem zaw {s:List UInt8}(hs:s≠ []):Lcl (zal s):=λl he=>by
 cases hm:mayB s l
 ·exact(LocAt.syn l).congr λl' h=>by unfold zal;rw[zaj h,hm];rfl
 ·exact(LocAt.tl' he (zaq hm hs) (Lcl.ok1 ())).congr λl' h=>by unfold zal;rw[zaj h,hm];rfl
theorem nameP_loc:Lcl zaX:=λl he=>by
 cases hm:zaJ l
 ·exact(LocAt.syn l).congr λl' h=>by unfold zaX;rw[zbE h,hm];rfl
 ·exact(LocAt.tl' he (zbN hm) (Lcl.ok1 ⟨txt (hdT l),(hdT l).at_⟩)).congr λl' h=>by unfold zaX;rw[zbE h,hm,h];rfl
theorem zej:Lcl zaP:=λl he=>by
 by_cases hm:(hdT l).kind =2
 ·exact(LocAt.tl' he (λht=>by rw[ht.2]at hm;simp at hm) (Lcl.ok1 (decV (hdT l).text :Int))).congr λl' h=>by unfold zaP;rw[h,if_pos hm]
 ·exact(LocAt.syn l).congr λl' h=>by unfold zaP;rw[h,if_neg hm]
/-! things with signs between, however much fuel there is -/
theorem zcx {α:Type}{one:List Tk->PR α}{join:Int->Int->α->α->α}{signs:List (List UInt8)}(h1:Shr one)(hs: []∉signs):∀(f f':Nat)(x:α)(l:List Tk),l.length<=f->l.length<=f'->zaH one join signs f x l=zaH one join signs f' x l
 |0,0,x,l,_,_=>rfl
 |0,f'+1,x,l,h,_=>by
  obtain rfl:l= []:=List.length_eq_zero_iff.1 (by omega);unfold zaH;rw[if_pos];exact Int.not_le.1 λh0=>zcT h0 hs ⟨rfl,rfl⟩
 |f+1,0,x,l,_,h=>by
  obtain rfl:l= []:=List.length_eq_zero_iff.1 (by omega);unfold zaH;rw[if_pos];exact Int.not_le.1 λh0=>zcT h0 hs ⟨rfl,rfl⟩
 |f+1,f'+1,x,l,h,h'=>by
  unfold zaH;split
  ·rfl
  ·cases ho:one l.tail with
   |err c a=>rfl
   |ok y r=>
    have:=h1 _ _ _ ho;rw[List.length_tail]at this;exact zcx h1 hs f f' _ r (by omega) (by omega)
def zgi {α:Type}(one:List Tk->PR α)(join:Int->Int->α->α->α)(signs:List (List UInt8))(x:α)(l:List Tk):PR α:=zaH one join signs l.length x l
theorem zgj {α:Type}{one:List Tk->PR α}{join:Int->Int->α->α->α}{signs:List (List UInt8)}(h1:Shr one)(hs: []∉signs)(x:α)(l:List Tk):
  zgi one join signs x l=if isP signs l < 0 then .ok x l else(one l.tail).then λy r=>zgi one join signs (join (isP signs l) (hdT l).at_ x y) r:=by
 have:zgi one join signs x l=zaH one join signs (l.length+1) x l:=zcx h1 hs _ _ x l (lrq _) (by omega);rw[this];show(if isP signs l < 0 then _ else _)=_
 split
 ·rfl
 ·cases ho:one l.tail with
  |err c a=>rfl
  |ok y r=>
   have:=h1 _ _ _ ho;rw[List.length_tail]at this;exact zcx h1 hs _ _ _ r (by omega) (lrq _)
theorem zeU {α:Type}{one:List Tk->PR α}{join:Int->Int->α->α->α}{signs:List (List UInt8)}(h1:Shr one)(hs: []∉signs)(h:Lcl one):∀(m:Nat)(x:α)(l:List Tk),l.length<=m->Ended l->LocAt (zgi one join signs x) l
 |m,x,l,hm,he=>by
  by_cases h0:isP signs l < 0
  ·exact(LocAt.ok1 x l).congr λl' hl=>by rw[zgj h1 hs,zbD hl,if_pos h0]
  ·have JM:(hdT l).live :=zcT (s:=signs) (by omega) hs;have KO:=zcU JM;refine LocAt.congr (f:=λl'=>(one l'.tail).then λy r=>zgi one join signs (join (isP signs l) (hdT l).at_ x y) r) ?_ λl' hl=>by rw[zgj h1 hs,zbD hl,if_neg h0,hl]
   refine LocAt.then_ (f:=λl'=>one l'.tail) (LocAt.tl' he JM h) λy r ho=>?_;have:=h1 _ _ _ ho;rw[List.length_tail]at this;obtain⟨m,rfl⟩:∃k,m=k+1:=⟨m - 1,by omega⟩;exact zeU h1 hs h m _ r (by omega) ((h _ (he.tl JM)).shr (he.tl JM) ho).2
theorem zbG {α:Type}{one:List Tk->PR α}{join:Int->Int->α->α->α}{signs:List (List UInt8)}(h1:Shr one)(hs: []∉signs)(h:Lcl one):Lcl (zaT one join signs):=
 Lcl.then_ h λx r he=>zeU h1 hs h _ x r (lrq _) he
theorem zdg {sign:List Tk->PR Ex}(h1:Shr sign)(h:Lcl sign):Lcl (zco sign):=
 zbG (zaA (zaA h1)) (by decide) (zbG (zaA h1) (by decide) (zbG h1 (by decide) h))
theorem zgk:∀n,Lcl (zav n)
 |0,l,he=>by
  cases h0:mayB [45] l
  ·cases h1:mayB [40] l
   ·cases h2:zaJ l
    ·exact LocAt.congr (Lcl.then_ zej (λv=>Lcl.ok1 (⟨1,noB,v,.nil,(hdT l).at_⟩:Ex)) l he) λl' hl=>by unfold zav;rw[zaj hl,zaj hl,zbE hl,h0,h1,h2,hl];rfl
    ·refine LocAt.tlc (f:=λq=>if mayB [91] q then PR.err 91 ((hdT q).at_ :Int)else PR.ok (⟨2,txt (hdT l),0,.nil,(hdT l).at_⟩:Ex) q) (zbN h2) ?_ λl' hl=>by unfold zav;rw[zaj hl,zaj hl,zbE hl,h0,h1,h2,hl];rfl
     cases h3:mayB [91] l.tail
     ·exact(LocAt.ok1 _ _).congr λl' hl=>by simp only[zaj hl,h3];rfl
     ·exact(LocAt.dp (zaq h3 (by decide))).congr λl' hl=>by simp only[zaj hl,h3];rfl
   ·exact(LocAt.dp (zaq h1 (by decide))).congr λl' hl=>by unfold zav;rw[zaj hl,zaj hl,h0,h1];rfl
  ·exact(LocAt.dp (zaq h0 (by decide))).congr λl' hl=>by unfold zav;rw[zaj hl,h0];rfl
 |n+1,l,he=>by
  have ih:=zgk n;cases h0:mayB [45] l
  ·cases h1:mayB [40] l
   ·cases h2:zaJ l
    ·exact LocAt.congr (Lcl.then_ zej (λv=>Lcl.ok1 (⟨1,noB,v,.nil,(hdT l).at_⟩:Ex)) l he) λl' hl=>by unfold zav;rw[zaj hl,zaj hl,zbE hl,h0,h1,h2,hl];rfl
    ·refine LocAt.tlc (f:=λq=>if mayB [91] q then(zco (zav n) q.tail).then λx r=>(zal [93] r).then λ_ r=> .ok (⟨3,txt (hdT l),0,x.cons .nil,(hdT l).at_⟩:Ex) r else PR.ok (⟨2,txt (hdT l),0,.nil,(hdT l).at_⟩:Ex) q) (zbN h2) ?_ λl' hl=>by unfold zav;rw[zaj hl,zaj hl,zbE hl,h0,h1,h2,hl];rfl
     have Xa:=he.tl (zbN h2);cases h3:mayB [91] l.tail
     ·exact(LocAt.ok1 _ _).congr λl' hl=>by simp only[zaj hl,h3];rfl
     ·refine LocAt.tlc' (f:=λq=>(zco (zav n) q).then λx r=>(zal [93] r).then λ_ r=> .ok (⟨3,txt (hdT l),0,x.cons .nil,(hdT l).at_⟩:Ex) r) Xa (zaq h3 (by decide)) ?_ λl' hl=>by simp only[zaj hl,h3];rfl
      exact Lcl.then_ (zdg (zbp n) ih) λx=>Lcl.then_ (zaw (by decide)) λ_=>Lcl.ok1 _
   ·refine LocAt.tlc' (f:=λq=>(zco (zav n) q).then λx r=>(zal [41] r).then λ_ r=> .ok x r) he (zaq h1 (by decide)) ?_ λl' hl=>by unfold zav;rw[zaj hl,zaj hl,h0,h1];rfl
    exact Lcl.then_ (zdg (zbp n) ih) λx=>Lcl.then_ (zaw (by decide)) λ_=>Lcl.ok1 _
  ·refine LocAt.tlc' (f:=λq=>(zav n q).then λx r=> .ok (⟨4,noB,0,x.cons .nil,((hdT l).at_ :Int)⟩:Ex) r) he (zaq h0 (by decide)) ?_ λl' hl=>zhm (by rw[zaj hl];exact h0) (by rw[hl]);exact Lcl.then_ ih λx=>Lcl.ok1 _
theorem za1 (n:Nat):Lcl (zaL n):=zdg (zbp n) (zgk n)
theorem zeV (n:Nat):Lcl (za3 n):=λl he=>by
 cases h:mayB [91] l
 ·exact(LocAt.syn l).congr λl' hl=>by unfold za3 zcp;rw[zaj hl,h];rfl
 ·cases n with
  |zero=>exact(LocAt.dp (zaq h (by decide))).congr λl' hl=>by unfold za3 zcp;rw[zaj hl,h];rfl
  |succ n=>
   refine LocAt.tlc' (f:=λq=>(zaL n q).then λx r=>(zal [93] r).then λ_ r=> .ok x r) he (zaq h (by decide)) ?_ λl' hl=>by unfold za3 zcp;rw[zaj hl,h];rfl
   exact Lcl.then_ (za1 n) λx=>Lcl.then_ (zaw (by decide)) λ_=>Lcl.ok1 _
theorem zeW {nt:List Tk->PR Cn}(h1:Shr nt)(h:Lcl nt):Lcl (zf0 nt):=zbG (zaA h1) (by decide) (zbG h1 (by decide) h)
theorem zhC (n:Nat):Lcl (cmpP n):=Lcl.then_ (za1 n) λx r he=>by
 by_cases h0:isP cmpS r < 0
 ·exact(LocAt.syn r).congr λl' hl=>by simp only[zbD hl,if_pos h0]
 ·refine LocAt.tlc' (f:=λq=>(zaL n q).then λy q=> .ok (⟨3+isP cmpS r,x.cons (y.cons .nil),.nil,(hdT r).at_⟩:Cn) q) he (zkf (by omega)) ?_ λl' hl=>by simp only[zbD hl,if_neg h0,hl]
  exact Lcl.then_ (za1 n) λy=>Lcl.ok1 _
theorem zhD:∀n,Lcl (notP n)
 |0,l,he=>by
  by_cases h0:isP notS l=0
  ·exact(LocAt.dp (zbF (by omega))).congr λl' hl=>by unfold notP;rw[zbD hl,if_pos h0]
  by_cases h1:isP notS l=1
  ·exact(LocAt.dp (zbF (by omega))).congr λl' hl=>by unfold notP;rw[zbD hl,if_neg h0,if_pos h1]
  by_cases h2:isP notS l=2\/isP notS l=3
  ·exact(LocAt.tl' he (zbF (by omega)) (Lcl.ok1 (⟨1+(isP notS l - 2),.nil,.nil,(hdT l).at_⟩:Cn))).congr λl' hl=>by unfold notP;rw[zbD hl,if_neg h0,if_neg h1,if_pos h2,hl]
  ·exact(zhC 0 l he).congr λl' hl=>by unfold notP;rw[zbD hl,if_neg h0,if_neg h1,if_neg h2]
 |n+1,l,he=>by
  have ih:=zhD n;by_cases h0:isP notS l=0
  ·refine LocAt.tlc' (f:=λq=>(notP n q).then λc r=> .ok (⟨9,.nil,c.cons .nil,((hdT l).at_ :Int)⟩:Cn) r) he (zbF (by omega)) ?_ λl' hl=>zjo (by rw[zbD hl];exact h0) (by rw[hl]);exact Lcl.then_ ih λy=>Lcl.ok1 _
  by_cases h1:isP notS l=1
  ·refine LocAt.tlc' (f:=λq=>(zf0 (notP n) q).then λc r=>(zal [93] r).then λ_ r=> .ok c r) he (zbF (by omega)) ?_ λl' hl=>by unfold notP;rw[zbD hl,if_neg h0,if_pos h1]
   exact Lcl.then_ (zeW (zcH n) ih) λy=>Lcl.then_ (zaw (by decide)) λ_=>Lcl.ok1 _
  by_cases h2:isP notS l=2\/isP notS l=3
  ·exact(LocAt.tl' he (zbF (by omega)) (Lcl.ok1 (⟨1+(isP notS l - 2),.nil,.nil,(hdT l).at_⟩:Cn))).congr λl' hl=>by unfold notP;rw[zbD hl,if_neg h0,if_neg h1,if_pos h2,hl]
  ·exact(zhC (n+1) l he).congr λl' hl=>by unfold notP;rw[zbD hl,if_neg h0,if_neg h1,if_neg h2]
theorem zkg (n:Nat):Lcl (zdX n):=zeW (zcH n) (zhD n)
theorem zcj (n:Nat):Lcl (askP n):=Lcl.then_ (zaw (by decide)) λ_=>Lcl.then_ (zkg n) λx=>Lcl.then_ (zaw (by decide)) λ_=>Lcl.ok1 _
theorem Lcl.shr1 {α:Type}{one:List Tk->PR α}(h:Lcl one){l:List Tk}(he:Ended l){x:α}{r:List Tk}(e:one l= .ok x r):r.length<=l.length/\Ended r:=(h l he).shr he e
/-! things with commas between -/
theorem zdh {α:Type}{one:List Tk->PR α}(h:Lcl one)(s:List UInt8):∀(f f':Nat)(acc:List α)(l:List Tk),Ended l->l.length<=f->l.length<=f'->zaF one s f acc l=zaF one s f' acc l
 |0,f',acc,l,he,h0,_=>absurd (List.length_eq_zero_iff.1 (by omega)) he.ne
 |f+1,0,acc,l,he,_,h0=>absurd (List.length_eq_zero_iff.1 (by omega)) he.ne
 |f+1,f'+1,acc,l,he,h1,h2=>by
  unfold zaF;cases ho:one l with
  |err c a=>rfl
  |ok y r=>
   have hr:=h.shr1 he ho;show(if mayB [44] r then zaF one s f (acc++ [y]) r.tail else _)=(if mayB [44] r then zaF one s f' (acc++ [y]) r.tail else _)
   cases hm:mayB [44] r
   ·rfl
   ·have hl:=zaq hm (by decide);have hp:=zcU hl;exact zdh h s f f' _ _ (hr.2.tl hl) (by rw[List.length_tail];omega) (by rw[List.length_tail];omega)
def ziF {α:Type}(one:List Tk->PR α)(s:List UInt8)(acc:List α)(l:List Tk):PR (List α):=zaF one s l.length acc l
theorem zl0 {α:Type}{one:List Tk->PR α}(h:Lcl one)(s:List UInt8)(acc:List α)(l:List Tk)(he:Ended l):
  ziF one s acc l=(one l).then λx r=>if mayB [44] r then ziF one s (acc++ [x]) r.tail else(zal s r).then λ_ r=> .ok (acc++ [x]) r:=by
 have:ziF one s acc l=zaF one s (l.length+1) acc l:=zdh h s _ _ acc l he (lrq _) (by omega);rw[this];show(one l).then _=_
 cases ho:one l with
 |err c a=>rfl
 |ok y r=>
  have hr:=h.shr1 he ho;show(if mayB [44] r then zaF one s l.length (acc++ [y]) r.tail else _)=(if mayB [44] r then _ else _)
  cases hm:mayB [44] r
  ·rfl
  ·have hl:=zaq hm (by decide);have hp:=zcU hl;exact zdh h s _ _ _ _ (hr.2.tl hl) (by rw[List.length_tail];omega) (lrq _)
theorem LocAt.congrE {α:Type}{f g:List Tk->PR α}{l:List Tk}(hl:Ended l)(h:LocAt f l)(k:∀l',Ended l'->hdT l'=hdT l->g l'=f l'):LocAt g l:=by
 have e:=k l hl rfl;cases hf:f l with
 |ok x r=>
  obtain⟨pre,e1,h1,h2⟩:=h.ok_ hf;exact LocAt.mk_ok (e.trans hf) ⟨pre,e1,h1,λr' he hr=>(k _ (he.app _) (by rw[e1];exact zdf hr)).trans (h2 r' he hr)⟩
 |err c a=>
  obtain⟨pre,post,e1,h1,h3,h4,h2⟩:=h.err_ hf;exact LocAt.mk_err (e.trans hf) ⟨pre,post,e1,h1,h3,h4,λr' he hr=>(k _ (he.app _) (by rw[e1];exact zdf hr)).trans (h2 r' he hr)⟩
theorem zgl {α:Type}{one:List Tk->PR α}(h:Lcl one){s:List UInt8}(hs:s≠ []):∀(m:Nat)(acc:List α)(l:List Tk),l.length<=m->Ended l->LocAt (ziF one s acc) l
 |m,acc,l,hm,he=>by
  refine LocAt.congrE he (f:=λl=>(one l).then λx r=>if mayB [44] r then ziF one s (acc++ [x]) r.tail else(zal s r).then λ_ r=> .ok (acc++ [x]) r) ?_ λl' Vx _=>zl0 h s acc l' Vx;refine LocAt.then_ (h l he) λx r ho=>?_;have hr:=h.shr1 he ho;cases Tr:mayB [44] r
  ·refine LocAt.congr (f:=λr=>(zal s r).then λ_ r=> .ok (acc++ [x]) r) ?_ λl' hl=>by simp only[zaj hl,Tr];rfl
   exact Lcl.then_ (zaw hs) (λ_=>Lcl.ok1 _) r hr.2
  ·have JM:=zaq Tr (by decide);have hp:=zcU JM;obtain⟨m,rfl⟩:∃k,m=k+1:=⟨m - 1,by omega⟩;refine LocAt.congr (f:=λr=>ziF one s (acc++ [x]) r.tail) ?_ λl' hl=>by simp only[zaj hl,Tr];rfl
   exact LocAt.tl JM (zgl h hs m _ _ (by rw[List.length_tail];omega) (hr.2.tl JM))
theorem zek {α:Type}{one:List Tk->PR α}(h:Lcl one){s:List UInt8}(hs:s≠ [])(no:Bool):Lcl (zaR one s no):=λl he=>by
 by_cases hn:(no&&mayB s l)=true
 ·have hm:mayB s l=true:=by
   rw[Bool.and_eq_true]at hn;exact hn.2
  exact(LocAt.tl' he (zaq hm hs) (Lcl.ok1 [])).congr λl' hl=>by unfold zaR;rw[zaj hl,if_pos hn]
 ·exact(zgl h hs _ [] l (lrq _) he).congr λl' hl=>by unfold zaR;rw[zaj hl,if_neg hn];rfl
theorem zaV (x:St):Lcl (endS x):=Lcl.then_ (zaw (by decide)) λ_=>Lcl.ok1 _
theorem zbb {l:List Tk}(h:keyK (hdT l).text ≠0):(hdT l).live :=λht=>h (by rw[ht.1];rfl)
theorem zeX {blk:List Tk->PR (List St)}(hb:Lcl blk)(n:Nat):Lcl (zaz blk n):=λl he=>by
 obtain⟨k,hk⟩:=nmq (keyK (hdT l).text );obtain⟨a,ha⟩:∃a:Int,a=((hdT l).at_ :Int):=⟨_,rfl⟩;have hd:∀l',hdT l'=hdT l->keyK (hdT l').text =k/\((hdT l').at_ :Int)=a:=λl' hl=>by rw[hl];exact⟨hk.symm,ha.symm⟩
 by_cases h1:k=1
 ·have JM:(hdT l).live :=zbb (by rw[<-hk];omega);refine LocAt.tlc' (f:=λq=>endS ⟨1,noB,.nil,.nil,.nil,.nil,a⟩ q) he JM (zaV _) λl' hl=>by
   unfold zaz;simp only[(hd l' hl).1,(hd l' hl).2,if_pos h1]
 by_cases h4:k=4
 ·have JM:(hdT l).live :=zbb (by rw[<-hk];omega);refine LocAt.tlc' (f:=λq=>(zaX q).then λx r=>endS ⟨4,x.nm,.nil,.nil,.nil,.nil,a⟩ r) he JM (Lcl.then_ nameP_loc λx=>zaV _) λl' hl=>by
   unfold zaz;simp only[(hd l' hl).1,(hd l' hl).2,if_neg h1,if_pos h4]
 by_cases h5:k=5\/k=6
 ·have JM:(hdT l).live :=zbb (by rw[<-hk];omega);refine LocAt.tlc' (f:=λq=>(askP n q).then λc r=>endS ⟨k,noB,.nil,c,.nil,.nil,a⟩ r) he JM (Lcl.then_ (zcj n) λx=>zaV _) λl' hl=>by
   unfold zaz;simp only[(hd l' hl).1,(hd l' hl).2,if_neg h1,if_neg h4,if_pos h5]
 by_cases h7:k=7
 ·have JM:(hdT l).live :=zbb (by rw[<-hk];omega);refine LocAt.tlc' (f:=λq=>(askP n q).then λc r=>(blk r).then λb r=>if mayB [101,108,115,101] r then(blk r.tail).then λe r=> .ok ⟨7,noB,.nil,c,zam b,zam e,a⟩ r else .ok ⟨7,noB,.nil,c,zam b,.nil,a⟩ r) he JM (Lcl.then_ (zcj n) λc=>Lcl.then_ hb λb r PB=>?_) λl' hl=>by
   unfold zaz;simp only[(hd l' hl).1,(hd l' hl).2,if_neg h1,if_neg h4,if_neg h5,if_pos h7]
  cases hm:mayB [101,108,115,101] r
  ·exact(LocAt.ok1 _ _).congr λl' hl=>by simp only[zaj hl,hm];rfl
  ·refine LocAt.tlc' (f:=λq=>(blk q).then λe r=> .ok (⟨7,noB,.nil,c,zam b,zam e,a⟩:St) r) PB (zaq hm (by decide)) (Lcl.then_ hb λe=>Lcl.ok1 _) λl' hl=>by simp only[zaj hl,hm];rfl
 by_cases h8:k=8
 ·have JM:(hdT l).live :=zbb (by rw[<-hk];omega);refine LocAt.tlc' (f:=λq=>(askP n q).then λc r=>(blk r).then λb r=> .ok (⟨8,noB,.nil,c,zam b,.nil,a⟩:St) r) he JM (Lcl.then_ (zcj n) λx=>Lcl.then_ hb λb=>Lcl.ok1 _) λl' hl=>by
   unfold zaz;simp only[(hd l' hl).1,(hd l' hl).2,if_neg h1,if_neg h4,if_neg h5,if_neg h7,if_pos h8]
 by_cases h9:k=9
 ·have JM:(hdT l).live :=zbb (by rw[<-hk];omega);refine LocAt.tlc' (f:=λq=>(zaX q).then λx r=>(zal [40] r).then λ_ r=>(zaR (zaL n) [41] true r).then λxs r=>endS ⟨9,x.nm,zbi xs,.nil,.nil,.nil,a⟩ r) he JM (Lcl.then_ nameP_loc λx=>Lcl.then_ (zaw (by decide)) λ_=>Lcl.then_ (zek (za1 n) (by decide) true) λxs=>zaV _) λl' hl=>by
   unfold zaz;simp only[(hd l' hl).1,(hd l' hl).2,if_neg h1,if_neg h4,if_neg h5,if_neg h7,if_neg h8,if_pos h9]
 ·refine LocAt.congr (f:=λl'=>(zaX l').then λx r=>
   if mayB [91] r then(za3 n r).then λi r=>(zal [61] r).then λ_ r=>(zaL n r).then λe r=>endS ⟨3,x.nm,i.cons (e.cons .nil),.nil,.nil,.nil,a⟩ r
   else(zal [61] r).then λ_ r=>(zaL n r).then λe r=>endS ⟨2,x.nm,e.cons .nil,.nil,.nil,.nil,a⟩ r) (Lcl.then_ nameP_loc (λx r PB=>?_) l he) λl' hl=>by
   unfold zaz;simp only[(hd l' hl).1,(hd l' hl).2,if_neg h1,if_neg h4,if_neg h5,if_neg h7,if_neg h8,if_neg h9]
  cases hm:mayB [91] r
  ·refine LocAt.congr (f:=λr=>(zal [61] r).then λ_ r=>(zaL n r).then λe r=>endS ⟨2,x.nm,e.cons .nil,.nil,.nil,.nil,a⟩ r) ?_ λl' hl=>by simp only[zaj hl,hm];rfl
   exact Lcl.then_ (zaw (by decide)) (λ_=>Lcl.then_ (za1 n) λe=>zaV _) r PB
  ·refine LocAt.congr (f:=λr=>(za3 n r).then λi r=>(zal [61] r).then λ_ r=>(zaL n r).then λe r=>endS ⟨3,x.nm,i.cons (e.cons .nil),.nil,.nil,.nil,a⟩ r) ?_ λl' hl=>by simp only[zaj hl,hm];rfl
   exact Lcl.then_ (zeV n) (λi=>Lcl.then_ (zaw (by decide)) λ_=>Lcl.then_ (za1 n) λe=>zaV _) r PB
theorem zg0 (t:List UInt8):keyK t=0\/keyK t=1\/keyK t=4\/keyK t=5\/keyK t=6\/keyK t=7\/keyK t=8\/keyK t=9:=by
 unfold keyK
 repeat' split
 all_goals simp
theorem zcy {blk:List Tk->PR (List St)}(hb:Lcl blk)(n:Nat){l:List Tk}(he:Ended l){x:St}{r:List Tk}(h:zaz blk n l= .ok x r):r.length < l.length:=by
 obtain⟨pre,e,h1,h2⟩:=(zeX hb n l he).ok_ h;cases pre with
 |cons a b=>rw[e];simp;omega
 |nil=>
  exfalso
  have e:l=r:=e;subst e;have PB:=he;obtain⟨z,hz,vO⟩:∃z:Tk,hdT l=z/\True:=⟨_,rfl,trivial⟩;have KO:0 < l.length:=List.length_pos_iff.2 he.ne;unfold zaz at h;by_cases Gz:keyK (hdT l).text =0
  ·simp only[Gz]at h;rw[if_neg (by decide),if_neg (by decide),if_neg (by decide),if_neg (by decide),if_neg (by decide),if_neg (by decide)]at h;obtain⟨v,q,h3,h4⟩:=PR.then_ok h;have hq:=zb6 h3;have gv:Ended q:=(nameP_loc.shr1 he h3).2;have Xb:l.length<=q.length:=by
    split at h4
    ·exact(Lcl.shr1 (Lcl.then_ (zeV n) λi=>Lcl.then_ (zaw (by decide)) λ_=>Lcl.then_ (za1 n) λe=>zaV _) gv h4).1
    ·exact(Lcl.shr1 (Lcl.then_ (zaw (by decide)) λ_=>Lcl.then_ (za1 n) λe=>zaV _) gv h4).1
   rw[hq,List.length_tail]at Xb;omega
  ·have JM:=zbb Gz;have UB:=he.tl JM;have key:l.length<=l.tail.length:=by
    simp only at h;split at h
    ·exact((zaV _).shr1 UB h).1
    split at h
    ·exact((Lcl.then_ nameP_loc λx=>zaV _).shr1 UB h).1
    split at h
    ·exact((Lcl.then_ (zcj n) λx=>zaV _).shr1 UB h).1
    split at h
    ·obtain⟨c,q,h3,h4⟩:=PR.then_ok h;have q1:=(zcj n).shr1 UB h3;obtain⟨b,q2,h5,h6⟩:=PR.then_ok h4;have q3:=hb.shr1 q1.2 h5;split at h6
     ·rename_i hm;obtain⟨e',q5,h7,h8⟩:=PR.then_ok h6;have q6:=hb.shr1 (q3.2.tl (zaq hm (by decide))) h7;simp only[PR.ok.injEq]at h8;have e:=congrArg List.length h8.2;have:=q6.1;rw[List.length_tail]at this;have:=q3.1;have:=q1.1;omega
     ·simp only[PR.ok.injEq]at h6;have e:=congrArg List.length h6.2;have:=q3.1;have:=q1.1;omega
    split at h
    ·exact((Lcl.then_ (zcj n) λx=>Lcl.then_ hb λb=>Lcl.ok1 _).shr1 UB h).1
    split at h
    ·exact((Lcl.then_ nameP_loc λx=>Lcl.then_ (zaw (by decide)) λ_=>Lcl.then_ (zek (za1 n) (by decide) true) λxs=>zaV _).shr1 UB h).1
    ·rename_i h1 h4 h5 h7 h8 h9;rcases zg0 (hdT l).text with h|h|h|h|h|h|h|h<;>omega
   rw[List.length_tail]at key;omega
def znJ {α:Type}(one:List Tk->PR α):Prop:=∀l,Ended l->∀x r,one l= .ok x r->r.length < l.length
theorem zcz {one:List Tk->PR St}(h:Lcl one)(hl:znJ one):∀(f f':Nat)(acc:List St)(l:List Tk),Ended l->l.length<=f->l.length<=f'->zbh one f acc l=zbh one f' acc l
 |0,f',acc,l,he,h0,_=>absurd (List.length_eq_zero_iff.1 (by omega)) he.ne
 |f+1,0,acc,l,he,_,h0=>absurd (List.length_eq_zero_iff.1 (by omega)) he.ne
 |f+1,f'+1,acc,l,he,h1,h2=>by
  unfold zbh;split
  ·rfl
  ·cases ho:one l with
   |err c a=>rfl
   |ok y r=>
    have hr:=h.shr1 he ho;have:=hl l he y r ho;exact zcz h hl f f' _ _ hr.2 (by omega) (by omega)
def zeY (one:List Tk->PR St)(acc:List St)(l:List Tk):PR (List St):=zbh one l.length acc l
theorem zgm {one:List Tk->PR St}(h:Lcl one)(hl:znJ one)(acc:List St)(l:List Tk)(he:Ended l):
  zeY one acc l=if mayB [125] l then .ok acc l.tail else(one l).then λx r=>zeY one (acc++ [x]) r:=by
 have:zeY one acc l=zbh one (l.length+1) acc l:=zcz h hl _ _ acc l he (lrq _) (by omega);rw[this];show(if mayB [125] l then _ else _)=_
 split
 ·rfl
 ·cases ho:one l with
  |err c a=>rfl
  |ok y r=>
   have hr:=h.shr1 he ho;exact zcz h hl _ _ _ _ hr.2 hr.1 (lrq _)
theorem zeZ {one:List Tk->PR St}(h:Lcl one)(hl:znJ one):∀(m:Nat)(acc:List St)(l:List Tk),l.length<=m->Ended l->LocAt (zeY one acc) l
 |m,acc,l,hm,he=>by
  cases hb:mayB [125] l
  ·refine LocAt.congrE he (f:=λl=>(one l).then λx r=>zeY one (acc++ [x]) r) ?_ λl' Vx hd=>by rw[zgm h hl acc l' Vx,zaj hd,hb];rfl
   refine LocAt.then_ (h l he) λx r ho=>?_;have hr:=h.shr1 he ho;have:=hl l he x r ho;obtain⟨m,rfl⟩:∃k,m=k+1:=⟨m - 1,by omega⟩;exact zeZ h hl m _ _ (by omega) hr.2
  ·exact LocAt.congrE he (LocAt.tl' he (zaq hb (by decide)) (Lcl.ok1 acc)) λl' Vx hd=>by rw[zgm h hl acc l' Vx,zaj hd,hb];rfl
theorem zbH:∀n,Lcl (zag n)
 |0,l,he=>by
  cases hb:mayB [123] l
  ·exact(LocAt.syn l).congr λl' hl=>by unfold zag;rw[zaj hl,hb];rfl
  ·exact(LocAt.dp (zaq hb (by decide))).congr λl' hl=>by unfold zag;rw[zaj hl,hb];rfl
 |n+1,l,he=>by
  cases hb:mayB [123] l
  ·exact(LocAt.syn l).congr λl' hl=>by unfold zag;rw[zaj hl,hb];rfl
  ·have JM:=zaq hb (by decide);refine LocAt.congr (f:=λl'=>zeY (zaz (zag n) n) [] l'.tail) (LocAt.tl JM (zeZ (zeX (zbH n) n) (λl he x r=>zcy (zbH n) n he) _ _ _ (lrq _) (he.tl JM))) λl' hl=>by unfold zag;rw[zaj hl,hb];rfl
theorem procP_loc:Lcl zgZ:=Lcl.then_ nameP_loc λx=>Lcl.then_ (zaw (by decide)) λ_=>Lcl.then_ (zek nameP_loc (by decide) true) λps=>Lcl.then_ (zbH 24) λb=>Lcl.ok1 _
/-! a tree's head -/
