/- Appends: one that is known to run so; where an append's row lies. -/
import Derived.Test.YtmopichdofgndaaGreatDoorJgCk3
set_option linter.all false
namespace Go.Proofs.YtmopichdofgndaaGreatDoor
open Go.RowKit
theorem zaA {P:Program}{w w':World}{ops:Array Oper}{rest:List Oper}{o:Oper}{a:Act}{Q:Exit->Act->World->Prop}(S0:o.guard=none)(s x:Operand)(t:TypeId)
  (ho:o.op= .call {callee:= .builtin .append,args:= #[s,x],argTypes:= #[t,t]}) (sv xv v':Value) (hs:a.eval s=sv) (hx:a.eval x=xv)
  (hr:(Builtin.append_ #[t,t] o.type #[sv,xv]).run P w= .ok v' w') (h:wpList P ops Q rest (a.put o.dst v') w'):wpList P ops Q (o::rest) a w:=by
 refine wpList_plain S0 λK hK=>?_;unfold Oper.wp execOp;simp only[ho,resolve,invoke,builtin,Sem.run_bind,Sem.run_pure,Result.andThen_ok,List.map_toArray,List.map_cons,List.map_nil,hs,hx,hr];exact hK _ _ h
section
variable {P:Program} (w:World)
theorem zdv (base:Nat)(t ty e:TypeId)(i:TypeInfo)(z:Value)(size bytes:Nat)(ht:P.underlying t=some (.slice e))(hi:P.info? e=some i)(hz:i.zero=some z)
  (Lg:i.size=size) (S3:i.bytes=bytes) (Lh:z.cells.size=size) (Ht:0 < size)
  (v:Value) (n:Nat) (xs:List Value) (Hg:w.ownsRow base e size v n xs)
  (a:Addr) (m c:Nat) (news:List Value) (hl:news.length=m*size) (Fd:∀j u,news[j]?=some u->w.cell? (a.add j)=some u) (h1:∀u∈news,u.oneCell'=true)
  (gx:0 < m) (Tl:n+m<=maxLen) (Gp:(n+m)*bytes<=140737488355328) (v':Value) (w':World)
  (hr:(Builtin.append_ #[t,t] ty #[v,.slice (some a) m c]).run P w= .ok v' w'):v'.ownBlock=v.ownBlock\/v'.ownBlock=some w.heap.size:=by
 subst Lg;subst S3;have jp:n+m<=9223372036854775807:=by simp only[maxLen]at Tl;omega
 rcases Hg.2 with⟨rfl,rfl⟩|⟨g,cap,cur,rfl,Uu,hg,Th,Js,F6,Uv⟩
 ·have h2:=run_append_nil (P:=P) w t ty e i z ht hi hz a m c news hl Fd gx (by omega) (by have hb:=Gp;simp only[Nat.zero_add]at hb;omega);rw[hr]at h2;injection h2 with h3;rw[h3];exact .inr rfl
 ·by_cases J2:n+m<=cap
  ·have h2:=run_append_room (P:=P) w t ty e i ht hi g n cap cur hg a m c news hl Fd h1 J2 (by rw[hl,F6,<-Nat.add_mul];exact Nat.mul_le_mul_right _ J2);rw[hr]at h2;injection h2 with h3;rw[h3];exact .inl rfl
  ·have h2:=run_append_grow (P:=P) w t ty e i z ht hi hz ⟨g,0,none⟩ n cap xs Hg.1 (Hg.cells (g:=g) rfl) a m c news hl Fd (by omega) (by omega) (growslice_fits (by omega) Gp);rw[hr]at h2;injection h2 with h3;rw[h3];exact .inr rfl
theorem zal {ops:Array Oper}{rest:List Oper}{o:Oper}{a:Act}{Q:Exit->Act->World->Prop}(S0:o.guard=none)(s x:Operand)(t:TypeId)
  (ho:o.op= .call {callee:= .builtin .append,args:= #[s,x],argTypes:= #[t,t]})
  (base:Nat) (e:TypeId) (i:TypeInfo) (z:Value) (size bytes:Nat) (ht:P.underlying t=some (.slice e)) (hi:P.info? e=some i) (hz:i.zero=some z)
  (Lg:i.size=size) (S3:i.bytes=bytes) (Lh:z.cells.size=size) (Ht:0 < size)
  (v:Value) (n:Nat) (xs:List Value) (hs:a.eval s=v) (Hg:w.ownsRow base e size v n xs)
  (ad:Addr) (m c:Nat) (news:List Value) (hx:a.eval x= .slice (some ad) m c) (hl:news.length=m*size) (Fd:∀j u,news[j]?=some u->w.cell? (ad.add j)=some u) (h1:∀u∈news,u.oneCell'=true)
  (gx:0 < m) (Tl:n+m<=maxLen) (Gp:(n+m)*bytes<=140737488355328) (NA:base<=w.heap.size)
  (h:∀v' w',w'.ownsRow base e size v' (n+m) (xs++news)->w.grownBy w' v.ownBlock->(v'.ownBlock=v.ownBlock\/v'.ownBlock=some w.heap.size)->wpList P ops Q rest (a.put o.dst v') w'):wpList P ops Q (o::rest) a w:=by
 refine wpList_plain S0 λK hK=>?_;obtain⟨v',w',hr,h2,h3,_⟩:=run_append_own (P:=P) w base t o.type e i z size bytes ht hi hz Lg S3 Lh Ht v n xs Hg ad m c news hl Fd h1 Tl Gp NA;have h4:=zdv (P:=P) w base t o.type e i z size bytes ht hi hz Lg S3 Lh Ht v n xs Hg ad m c news hl Fd h1 gx Tl Gp v' w' hr;unfold Oper.wp execOp;simp only[ho,resolve,invoke,builtin,Sem.run_bind,Sem.run_pure,Result.andThen_ok,List.map_toArray,List.map_cons,List.map_nil,hs,hx,hr];exact hK _ _ (h v' w' h2 h3 h4)
end
def Thaw (w:World)(g:Nat):Prop:=∀j,w.frozen? ⟨g,j,none⟩=false
theorem Thaw.of {w:World}{g:Nat}{cs:Array Value}{t:TypeId}(h:w.heap[g]?=some (.cells cs t (0,0))):Thaw w g:=λj=>by simp[World.frozen?,h]
theorem Thaw.free {w:World}{g:Nat}(h:Thaw w g)(Z:Prop)(o n:Nat):Free w Z g o n:=λ_ j _=>h (o+j)
theorem Fr.back1 {a b c:World}{L:Nat}(h:Fr NoT a b)(k:Fr (λx=>L<=x) b c)(hl:a.heap.size<=L):Fr NoT a c:=
 ⟨k.os.trans h.os,k.tape.trans h.tape,k.output.trans h.output,leq9 h.size k.size,λi hi _=>(k.block i (ltq hi h.size) (by omega)).trans (h.block i hi id)⟩
theorem Bk.newsL {w:World}{g:Nat}{t:TypeId}{cs:List Value}(h:Bk w g t cs.toArray):∀j u,cs[j]?=some u->w.cell? ((⟨g,0,none⟩:Addr).add j)=some u:=λj u hj=>by
 have e:(⟨g,0,none⟩:Addr).add j=⟨g,j,none⟩:=by unfold Addr.add;split<;>simp_all
 rw[e,h.cell j];simpa using hj
def zeb (acc:List Ex)(t:Exs):Exs:=acc.foldr Ex.cons t
theorem zbA (acc:List Ex)(x:Ex)(t:Exs):zeb (acc++ [x]) t=zeb acc (x.cons t):=by simp[zeb,List.foldr_append]
theorem zbB:∀acc:List Ex,zeb acc .nil =zd9 acc
 | []=>rfl
 |x::r=>by show x.cons (zeb r .nil)=x.cons (zd9 r);rw[zbB r]
def RowR {α:Type}(one:World->(Nat->Prop)->α->List Value->Prop)(w:World)(S:Nat->Prop):List α->List Value->Prop
 | [],cs=>cs= []
 |x::xs,cs=>∃ys cs',cs=ys++cs'/\one w S x ys/\RowR one w S xs cs'
def OneK {α:Type}(one:World->(Nat->Prop)->α->List Value->Prop):Prop:=∀(w w':World)(S S':Nat->Prop)(x:α)(ys:List Value),SameS S w w'->(∀b,S b->S' b)->one w S x ys->one w' S' x ys
section
variable {α:Type} {one:World->(Nat->Prop)->α->List Value->Prop}
theorem RowR.imp (ho:OneK one){w w':World}{S S':Nat->Prop}(hf:SameS S w w')(hs:∀b,S b->S' b):∀ {xs:List α} {cs:List Value},RowR one w S xs cs->RowR one w' S' xs cs
 | [],_,h=>h
 |x::xs,cs,h=>by
  obtain⟨ys,cs',e,h1,h2⟩:=h;exact⟨ys,cs',e,ho _ _ _ _ _ _ hf hs h1,RowR.imp ho hf hs h2⟩
theorem RowR.snoc {w:World}{S:Nat->Prop}{y:α}{zs:List Value}(hy:one w S y zs):∀ {xs:List α} {cs:List Value},RowR one w S xs cs->RowR one w S (xs++ [y]) (cs++zs)
 | [],cs,h=>by
  have h:cs= []:=h;subst h;exact⟨zs, [],by simp,hy,rfl⟩
 |x::xs,cs,h=>by
  obtain⟨ys,cs',e,h1,h2⟩:=h;exact⟨ys,cs'++zs,by rw[e,List.append_assoc],h1,RowR.snoc hy h2⟩
theorem RowR.step (ho:OneK one){L size:Nat}{t:TypeId}{wr w7 w9:World}{v v':Value}{acc:List α}{cs zs:List Value}{y:α}
  (GA:wr.ownsRow L t size v acc.length cs) (hL:L<=wr.heap.size) (Jg:RowR one wr (NewR L v wr) acc cs) (hf:Fr NoT wr w7) (hy:one w7 (λb=>wr.heap.size<=b/\b < w7.heap.size) y zs)
  (hg:w7.grownBy w9 v.ownBlock) (GP:v'.ownBlock=v.ownBlock\/v'.ownBlock=some w7.heap.size):
  RowR one w9 (NewR L v' w9) (acc++ [y]) (cs++zs)/\Fr (λb=>L<=b) wr w9:=by
 have Hr:=GA.lt;have uU:=hf.size;have uV:=hg.size;have Xw:Fr (λb=>v.ownBlock=some b) w7 w9:=Fr.grown hg λg e _=>e;have vB:Fr (λb=>v.ownBlock=some b) wr w9:=hf.any.trans Xw;have Yb:∀b,b < w7.heap.size->v.ownBlock≠some b->v'.ownBlock≠some b:=λb hb hn e=>by
  rcases GP with h|h
  ·exact hn (h▸e)
  ·rw[h]at e;have:=Option.some.inj e;omega
 refine⟨RowR.snoc (ho _ _ _ _ _ _ (Xw.same λb hb=>⟨hb.2,λe=>?_⟩) (λb hb=>?_) hy) (RowR.imp ho (vB.same λb hb=>⟨hb.2.1,hb.2.2⟩) (λb hb=>⟨hb.1,by have:=hb.2.1;omega,Yb b (by have:=hb.2.1;omega) hb.2.2⟩) Jg),vB.mono λb _ e=>(Hr _ e).1⟩
 ·have:=hb.1;have:=(Hr _ e).2;omega
 ·have h1:=hb.1;have h2:=hb.2;refine⟨by omega,by omega,Yb b h2 λe=>?_⟩;have:=(Hr _ e).2;omega
theorem RowR.slice (ho:OneK one){L size sz:Nat}{t:TypeId}{w:World}{v:Value}{acc:List α}{cs:List Value}{P:Nat->Nat->Prop}
  (hr:w.ownsRow L t size v acc.length cs) (hx:RowR one w (NewR L v w) acc cs) (Ht:acc.length*sz<=140737488355328)
  (hP:∀g,New L w g/\Thaw w g->RowR one w (New L w) acc cs->(∀j u,cs[j]?=some u->w.cell? ⟨g,j,none⟩=some u)->P g 0):∃A c,v= .slice A acc.length c/\SlR P acc.length sz A c:=by
 rcases hr.2 with⟨rfl,h0⟩|⟨g,cap,cur,rfl,hb,hg,hn,hc,F6,ht⟩
 ·exact⟨none,0,by rw[h0],by rw[h0];exact⟨lrq _,⟨by decide,by omega⟩,λh=>absurd h (Nat.lt_irrefl 0)⟩⟩
 ·have hl:g < w.heap.size:=(Array.getElem?_eq_some_iff.1 hg).1;refine⟨some ⟨g,0,none⟩,cap,rfl,⟨hn,⟨by unfold maxLen at hc;omega,Ht⟩,λ_=>⟨g,0,rfl,hP g ⟨⟨hb,hl⟩,Thaw.of hg⟩ (RowR.imp ho (SameS.refl _ _) (λb hb=>⟨hb.1,hb.2.1⟩) hx) λj u hj=>?_⟩⟩⟩;have:=hr.cells (g:=g) rfl j u hj;have jq:(⟨g,0,none⟩:Addr).add j=⟨g,j,none⟩:=by
   unfold Addr.add;split<;>simp_all
  rw[jq]at this;exact this
end
/-! expressions -/
def zhQ (Z:Prop)(w:World)(S:Nat->Prop)(x:Ex)(ys:List Value):Prop:=∃A c,ys= [.int .u8 x.k,.string x.nm,.int .i64 x.n,.slice A x.args.len c,.int .i64 x.at_]/\in8 x.k/\in64 x.n/\in64 x.at_/\SlR (ExR w S Z x.args) x.args.len 64 A c
abbrev oneX:=zhQ True
theorem za4 {Z:Prop}:OneK (zhQ Z):=λw w' S S' x ys hf hs h=>by
 obtain⟨A,c,e,h1,h2,h3,h4⟩:=h;exact⟨A,c,e,h1,h2,h3,h4.imp λ_ _ h=>ExR.more hs (ExR.keep hf h)⟩
theorem rowX {w:World}{S:Nat->Prop}{g:Nat}(hg:S g/\Thaw w g):∀ {xs:List Ex} {cs:List Value} {o:Nat},RowR oneX w S xs cs->(∀j u,cs[j]?=some u->w.cell? ⟨g,o+j,none⟩=some u)->ExR w S True (zd9 xs) g o
 | [],_,_,_,_=>trivial
 |x::xs,cs,o,h,hc=>by
  obtain⟨ys,cs',e,⟨A,c,e2,h1,h2,h3,h4⟩,h5⟩:=h;subst e2;subst e;refine⟨⟨hg.1,hg.2.free _ _ _,h1,h2,h3,hc 0 _ rfl,hc 1 _ rfl,hc 2 _ rfl,hc 4 _ rfl⟩,⟨A,c,hc 3 _ rfl,h4⟩,rowX hg h5 λj u hj=>?_⟩;have:=hc (5+j) u (by rw[List.getElem?_append_right (by simp)];simpa using hj);rw[Nat.add_assoc];exact this
/-! conditions -/
def zcv:List Cn->Cds
 | []=> .nil
 |x::r=>x.cons (zcv r)
def zhR (Z:Prop)(w:World)(S:Nat->Prop)(x:Cn)(ys:List Value):Prop:=∃A c B e,ys= [.int .u8 x.k,.slice A x.args.len c,.slice B x.of_.len e,.int .i64 x.at_]/\in8 x.k/\in64 x.at_/\SlR (ExR w S Z x.args) x.args.len 64 A c/\SlR (CdR w S Z x.of_) x.of_.len 64 B e
abbrev oneC:=zhR True
theorem zbC {Z:Prop}:OneK (zhR Z):=λw w' S S' x ys hf hs h=>by
 obtain⟨A,c,B,e,he,h1,h2,h3,h4⟩:=h;exact⟨A,c,B,e,he,h1,h2,h3.imp λ_ _ h=>ExR.more hs (ExR.keep hf h),h4.imp λ_ _ h=>CdR.more hs (CdR.keep hf h)⟩
theorem rowC {w:World}{S:Nat->Prop}{g:Nat}(hg:S g/\Thaw w g):∀ {xs:List Cn} {cs:List Value} {o:Nat},RowR oneC w S xs cs->(∀j u,cs[j]?=some u->w.cell? ⟨g,o+j,none⟩=some u)->CdR w S True (zcv xs) g o
 | [],_,_,_,_=>trivial
 |x::xs,cs,o,h,hc=>by
  obtain⟨ys,cs',e,⟨A,c,B,e',e2,h1,h2,h3,h4⟩,h5⟩:=h;subst e2;subst e;refine⟨⟨hg.1,hg.2.free _ _ _,h1,h2,hc 0 _ rfl,hc 3 _ rfl⟩,⟨A,c,hc 1 _ rfl,h3⟩,⟨B,e',hc 2 _ rfl,h4⟩,rowC hg h5 λj u hj=>?_⟩;have:=hc (4+j) u (by rw[List.getElem?_append_right (by simp)];simpa using hj);rw[Nat.add_assoc];exact this
/-! statements -/
def zm6 (Z:Prop)(w:World)(S:Nat->Prop)(x:St)(ys:List Value):Prop:=∃A2 c2 A3 c3 A4 c4 A5 c5,ys= [.int .u8 x.k,.string x.nm,.slice A2 x.args.len c2,.slice A3 x.cond.len c3,.slice A4 x.body.len c4,.slice A5 x.els.len c5,.int .i64 x.at_]/\in8 x.k/\in64 x.at_/\
 SlR (ExR w S Z x.args) x.args.len 64 A2 c2/\SlR (CdR w S Z x.cond) x.cond.len 64 A3 c3/\SlR (StR w S Z x.body) x.body.len 128 A4 c4/\SlR (StR w S Z x.els) x.els.len 128 A5 c5
abbrev oneS:=zm6 True
theorem zaB {Z:Prop}:OneK (zm6 Z):=λw w' S S' x ys hf hs h=>by
 obtain⟨A2,c2,A3,c3,A4,c4,A5,c5,he,h1,h2,h3,h4,h5,h6⟩:=h;exact⟨A2,c2,A3,c3,A4,c4,A5,c5,he,h1,h2,h3.imp λ_ _ h=>ExR.more hs (ExR.keep hf h),h4.imp λ_ _ h=>CdR.more hs (CdR.keep hf h),h5.imp λ_ _ h=>StR.more hs (StR.keep hf h),h6.imp λ_ _ h=>StR.more hs (StR.keep hf h)⟩
theorem rowS {w:World}{S:Nat->Prop}{g:Nat}(hg:S g/\Thaw w g):∀ {xs:List St} {cs:List Value} {o:Nat},RowR oneS w S xs cs->(∀j u,cs[j]?=some u->w.cell? ⟨g,o+j,none⟩=some u)->StR w S True (zao xs) g o
 | [],_,_,_,_=>trivial
 |x::xs,cs,o,h,hc=>by
  obtain⟨ys,cs',e,⟨A2,c2,A3,c3,A4,c4,A5,c5,e2,h1,h2,h3,h4,h6,h7⟩,h5⟩:=h;subst e2;subst e;refine⟨⟨hg.1,hg.2.free _ _ _,h1,h2,hc 0 _ rfl,hc 1 _ rfl,hc 6 _ rfl⟩,⟨_,_,hc 2 _ rfl,h3⟩,⟨_,_,hc 3 _ rfl,h4⟩,⟨_,_,hc 4 _ rfl,h6⟩,⟨_,_,hc 5 _ rfl,h7⟩,rowS hg h5 λj u hj=>?_⟩;have:=hc (7+j) u (by rw[List.getElem?_append_right (by simp)];simpa using hj);rw[Nat.add_assoc];exact this
/-! names, arrays, procedures -/
def oneV (w:World)(S:Nat->Prop)(x:Va)(ys:List Value):Prop:=ys= [.string x.nm,.int .i64 x.at_]/\in64 x.at_
theorem zbD:OneK oneV:=λw w' S S' x ys hf hs h=>h
theorem rowV {w:World}{S:Nat->Prop}{g:Nat}(hg:S g/\Thaw w g):∀ {xs:List Va} {cs:List Value} {o:Nat},RowR oneV w S xs cs->(∀j u,cs[j]?=some u->w.cell? ⟨g,o+j,none⟩=some u)->VaR w S True xs g o
 | [],_,_,_,_=>trivial
 |x::xs,cs,o,h,hc=>by
  obtain⟨ys,cs',e,⟨e2,h1⟩,h5⟩:=h;subst e2;subst e;refine⟨⟨hg.1,hg.2.free _ _ _,h1,hc 0 _ rfl,hc 1 _ rfl⟩,rowV hg h5 λj u hj=>?_⟩;have:=hc (2+j) u (by rw[List.getElem?_append_right (by simp)];simpa using hj);rw[Nat.add_assoc];exact this
def oneA (w:World)(S:Nat->Prop)(x:Arr)(ys:List Value):Prop:=ys= [.string x.nm,.int .i64 x.size,.int .i64 x.at_]/\in64 x.size/\in64 x.at_
theorem zbV:OneK oneA:=λw w' S S' x ys hf hs h=>h
theorem rowA {w:World}{S:Nat->Prop}{g:Nat}(hg:S g/\Thaw w g):∀ {xs:List Arr} {cs:List Value} {o:Nat},RowR oneA w S xs cs->(∀j u,cs[j]?=some u->w.cell? ⟨g,o+j,none⟩=some u)->ArR w S True xs g o
 | [],_,_,_,_=>trivial
 |x::xs,cs,o,h,hc=>by
  obtain⟨ys,cs',e,⟨e2,h0,h1⟩,h5⟩:=h;subst e2;subst e;refine⟨⟨hg.1,hg.2.free _ _ _,h0,h1,hc 0 _ rfl,hc 1 _ rfl,hc 2 _ rfl⟩,rowA hg h5 λj u hj=>?_⟩;have:=hc (3+j) u (by rw[List.getElem?_append_right (by simp)];simpa using hj);rw[Nat.add_assoc];exact this
def zm7 (Z:Prop)(w:World)(S:Nat->Prop)(x:Prc)(ys:List Value):Prop:=∃A c B e,ys= [.string x.nm,.slice A x.params.length c,.slice B x.body.len e,.int .i64 x.at_]/\in64 x.at_/\SlR (VaR w S Z x.params) x.params.length 24 A c/\SlR (StR w S Z x.body) x.body.len 128 B e
abbrev oneP:=zm7 True
theorem zdw {Z:Prop}:OneK (zm7 Z):=λw w' S S' x ys hf hs h=>by
 obtain⟨A,c,B,e,he,h1,h2,h3⟩:=h;exact⟨A,c,B,e,he,h1,h2.imp λ_ _ h=>VaR.more hs (VaR.keep hf h),h3.imp λ_ _ h=>StR.more hs (StR.keep hf h)⟩
theorem rowP {w:World}{S:Nat->Prop}{g:Nat}(hg:S g/\Thaw w g):∀ {xs:List Prc} {cs:List Value} {o:Nat},RowR oneP w S xs cs->(∀j u,cs[j]?=some u->w.cell? ⟨g,o+j,none⟩=some u)->PrR w S True xs g o
 | [],_,_,_,_=>trivial
 |x::xs,cs,o,h,hc=>by
  obtain⟨ys,cs',e,⟨A,c,B,e',e2,h1,h2,h3⟩,h5⟩:=h;subst e2;subst e;refine⟨⟨hg.1,hg.2.free _ _ _,h1,hc 0 _ rfl,hc 3 _ rfl⟩,⟨_,_,hc 1 _ rfl,h2⟩,⟨_,_,hc 2 _ rfl,h3⟩,rowP hg h5 λj u hj=>?_⟩;have:=hc (4+j) u (by rw[List.getElem?_append_right (by simp)];simpa using hj);rw[Nat.add_assoc];exact this
theorem zfH:(Tryz.prog.info? 41).map (λi=>(i.zero,i.size,i.bytes))=some (some (.agg #[.int .u8 0,.string ⟨#[]⟩,.int .i64 0,.slice none 0 0,.int .i64 0]),5,64):=by kernel_rfl
theorem ziZ:(Tryz.prog.info? 160).map (λi=>(i.zero,i.size,i.bytes))=some (some (.agg #[.int .u8 0,.slice none 0 0,.slice none 0 0,.int .i64 0]),4,64):=by kernel_rfl
theorem zfI:(Tryz.prog.info? 43).map (λi=>(i.zero,i.size,i.bytes))=some (some (.agg #[.string ⟨#[]⟩,.int .i64 0]),2,24):=by kernel_rfl
theorem zi0:(Tryz.prog.info? 66).map (λi=>(i.zero,i.size,i.bytes))=some (some (.agg #[.string ⟨#[]⟩,.int .i64 0,.int .i64 0]),3,32):=by kernel_rfl
def zdx:Array Value:= #[.int .u8 0,.string ⟨#[]⟩,.slice none 0 0,.slice none 0 0,.slice none 0 0,.slice none 0 0,.int .i64 0]
theorem zej:(Tryz.prog.info? 39).map (λi=>(i.zero,i.size,i.bytes))=some (some (.agg zdx),7,128):=by kernel_rfl
theorem zm8:(Tryz.prog.info? 68).map (λi=>(i.zero,i.size,i.bytes))=some (some (.agg #[.string ⟨#[]⟩,.slice none 0 0,.slice none 0 0,.int .i64 0]),4,72):=by kernel_rfl
section
variable {w:World} {S:Nat->Prop} {Z:Prop}
theorem ExR.lax:∀ {xs:Exs} {b o:Nat},ExR w S Z xs b o->ExR w S False xs b o
 | .nil,_,_,_=>trivial
 | .cons k nm n args at_ rest,b,o,⟨⟨hb,_,h⟩,⟨A,c,h3,hs⟩,hr⟩=>⟨⟨hb,λh=>h.elim,h⟩,⟨A,c,h3,hs.imp λ_ _=>ExR.lax⟩,ExR.lax hr⟩
theorem CdR.lax:∀ {xs:Cds} {b o:Nat},CdR w S Z xs b o->CdR w S False xs b o
 | .nil,_,_,_=>trivial
 | .cons k args of_ at_ rest,b,o,⟨⟨hb,_,h⟩,⟨A,c,h3,hs⟩,⟨A2,c2,h5,Ft⟩,hr⟩=>⟨⟨hb,λh=>h.elim,h⟩,⟨A,c,h3,hs.imp λ_ _=>ExR.lax⟩,⟨A2,c2,h5,Ft.imp λ_ _=>CdR.lax⟩,CdR.lax hr⟩
theorem StR.lax:∀ {xs:Sts} {b o:Nat},StR w S Z xs b o->StR w S False xs b o
 | .nil,_,_,_=>trivial
 | .cons k nm args cond body els at_ rest,b,o,⟨⟨hb,_,h⟩,⟨A,c,h3,hs⟩,⟨A2,c2,h5,Ft⟩,⟨A3,c3,h6,Kj⟩,⟨A4,c4,h7,Vt⟩,hr⟩=>
  ⟨⟨hb,λh=>h.elim,h⟩,⟨A,c,h3,hs.imp λ_ _=>ExR.lax⟩,⟨A2,c2,h5,Ft.imp λ_ _=>CdR.lax⟩,⟨A3,c3,h6,Kj.imp λ_ _=>StR.lax⟩,⟨A4,c4,h7,Vt.imp λ_ _=>StR.lax⟩,StR.lax hr⟩
theorem VaR.lax:∀ {xs:List Va} {b o:Nat},VaR w S Z xs b o->VaR w S False xs b o
 | [],_,_,_=>trivial
 |_::_,b,o,⟨⟨hb,_,h⟩,hr⟩=>⟨⟨hb,λh=>h.elim,h⟩,VaR.lax hr⟩
def Exs.toL:Exs->List Ex
 | .nil => []
 | .cons k nm n args at_ r=>⟨k,nm,n,args,at_⟩::r.toL
def Cds.toL:Cds->List Cn
 | .nil => []
 | .cons k args of_ at_ r=>⟨k,args,of_,at_⟩::r.toL
theorem zb4 {b o:Nat}{ys cs:List Value}(hy:∀j u,ys[j]?=some u->w.cell? ⟨b,o+j,none⟩=some u)(hc:∀j u,cs[j]?=some u->w.cell? ⟨b,o+ys.length+j,none⟩=some u):∀j u,(ys++cs)[j]?=some u->w.cell? ⟨b,o+j,none⟩=some u:=λj u hj=>by
 by_cases h:j < ys.length
 ·rw[List.getElem?_append_left h]at hj;exact hy j u hj
 ·rw[List.getElem?_append_right (by omega)]at hj;have:=hc _ u hj;rw[show o+ys.length+(j - ys.length)=o+j from by omega]at this;exact this
def One1 (cs:List Value):Prop:=∀u∈cs,u.oneCell'=true
theorem One1.app {a b:List Value}(h:One1 a)(k:One1 b):One1 (a++b):=λu hu=>by
 rcases List.mem_append.1 hu with hu|hu
 ·exact h u hu
 ·exact k u hu
theorem zhS {b o:Nat}{c0 c1 c2 c3 c4:Value}(h0:w.cell? ⟨b,o,none⟩=some c0)(h1:w.cell? ⟨b,o+1,none⟩=some c1)(h2:w.cell? ⟨b,o+2,none⟩=some c2)(h3:w.cell? ⟨b,o+3,none⟩=some c3)(h4:w.cell? ⟨b,o+4,none⟩=some c4):
  ∀j u, [c0,c1,c2,c3,c4][j]?=some u->w.cell? ⟨b,o+j,none⟩=some u:=λj u hj=>by
 match j with
 |0=>simpa using hj▸h0
 |1=>simpa using hj▸h1
 |2=>simpa using hj▸h2
 |3=>simpa using hj▸h3
 |4=>simpa using hj▸h4
 |j+5=>simp at hj
theorem zhT {b o:Nat}{c0 c1 c2 c3:Value}(h0:w.cell? ⟨b,o,none⟩=some c0)(h1:w.cell? ⟨b,o+1,none⟩=some c1)(h2:w.cell? ⟨b,o+2,none⟩=some c2)(h3:w.cell? ⟨b,o+3,none⟩=some c3):
  ∀j u, [c0,c1,c2,c3][j]?=some u->w.cell? ⟨b,o+j,none⟩=some u:=λj u hj=>by
 match j with
 |0=>simpa using hj▸h0
 |1=>simpa using hj▸h1
 |2=>simpa using hj▸h2
 |3=>simpa using hj▸h3
 |j+4=>simp at hj
theorem zlV:∀ {xs:Exs} {b o:Nat},ExR w S Z xs b o->∃cs:List Value,cs.length=xs.len*5/\RowR (zhQ False) w S xs.toL cs/\One1 cs/\∀j u,cs[j]?=some u->w.cell? ⟨b,o+j,none⟩=some u
 | .nil,_,_,_=>⟨[],rfl,rfl,by simp[One1],by simp⟩
 | .cons k nm n args at_ rest,b,o,⟨⟨hb,_,r0,r1,r2,h0,h1,h2,h4⟩,⟨A,c,h3,hs⟩,hr⟩=>by
  obtain⟨cs,hl,GA,VG,F6⟩:=zlV hr;refine⟨[.int .u8 k,.string nm,.int .i64 n,.slice A args.len c,.int .i64 at_]++cs,by simp[Exs.len,hl];omega,⟨_,cs,rfl,⟨A,c,rfl,r0,r1,r2,hs.imp λ_ _=>ExR.lax⟩,GA⟩,One1.app ?_ VG,zb4 (zhS h0 h1 h2 h3 h4) F6⟩;intro u hu;simp only[List.mem_cons,List.not_mem_nil,or_false]at hu;rcases hu with rfl|rfl|rfl|rfl|rfl<;>rfl
theorem zlW:∀ {xs:Cds} {b o:Nat},CdR w S Z xs b o->∃cs:List Value,cs.length=xs.len*4/\RowR (zhR False) w S xs.toL cs/\One1 cs/\∀j u,cs[j]?=some u->w.cell? ⟨b,o+j,none⟩=some u
 | .nil,_,_,_=>⟨[],rfl,rfl,by simp[One1],by simp⟩
 | .cons k args of_ at_ rest,b,o,⟨⟨hb,_,r0,r1,h0,h4⟩,⟨A,c,h3,hs⟩,⟨A2,c2,h5,Ft⟩,hr⟩=>by
  obtain⟨cs,hl,GA,VG,F6⟩:=zlW hr;refine⟨[.int .u8 k,.slice A args.len c,.slice A2 of_.len c2,.int .i64 at_]++cs,by simp[Cds.len,hl];omega,⟨_,cs,rfl,⟨A,c,A2,c2,rfl,r0,r1,hs.imp λ_ _=>ExR.lax,Ft.imp λ_ _=>CdR.lax⟩,GA⟩,One1.app ?_ VG,zb4 (zhT h0 h3 h5 h4) F6⟩;intro u hu;simp only[List.mem_cons,List.not_mem_nil,or_false]at hu;rcases hu with rfl|rfl|rfl|rfl<;>rfl
theorem zlX:∀ {xs:List Va} {b o:Nat},VaR w S Z xs b o->∃cs:List Value,cs.length=xs.length*2/\RowR oneV w S xs cs/\One1 cs/\∀j u,cs[j]?=some u->w.cell? ⟨b,o+j,none⟩=some u
 | [],_,_,_=>⟨[],rfl,rfl,by simp[One1],by simp⟩
 |v::r,b,o,⟨⟨hb,_,r0,h0,h1⟩,hr⟩=>by
  obtain⟨cs,hl,GA,VG,F6⟩:=zlX hr;refine⟨[.string v.nm,.int .i64 v.at_]++cs,by simp[hl];omega,⟨_,cs,rfl,⟨rfl,r0⟩,GA⟩,One1.app ?_ VG,zb4 (λj u hj=>?_) F6⟩
  ·intro u hu;simp only[List.mem_cons,List.not_mem_nil,or_false]at hu;rcases hu with rfl|rfl<;>rfl
  ·match j with
   |0=>simpa using hj▸h0
   |1=>simpa using hj▸h1
   |j+2=>simp at hj
theorem zlY:∀ {xs:List Arr} {b o:Nat},ArR w S Z xs b o->∃cs:List Value,cs.length=xs.length*3/\RowR oneA w S xs cs/\One1 cs/\∀j u,cs[j]?=some u->w.cell? ⟨b,o+j,none⟩=some u
 | [],_,_,_=>⟨[],rfl,rfl,by simp[One1],by simp⟩
 |v::r,b,o,⟨⟨hb,_,r0,r1,h0,h1,h2⟩,hr⟩=>by
  obtain⟨cs,hl,GA,VG,F6⟩:=zlY hr;refine⟨[.string v.nm,.int .i64 v.size,.int .i64 v.at_]++cs,by simp[hl];omega,⟨_,cs,rfl,⟨rfl,r0,r1⟩,GA⟩,One1.app ?_ VG,zb4 (λj u hj=>?_) F6⟩
  ·intro u hu;simp only[List.mem_cons,List.not_mem_nil,or_false]at hu;rcases hu with rfl|rfl|rfl<;>rfl
  ·match j with
   |0=>simpa using hj▸h0
   |1=>simpa using hj▸h1
   |2=>simpa using hj▸h2
   |j+3=>simp at hj
theorem zek {b o:Nat}(j:Nat):(⟨b,o,none⟩:Addr).add j=⟨b,o+j,none⟩:=by unfold Addr.add;split<;>simp_all
theorem slX {xs:Exs}{A:Option Addr}{c:Nat}(hx:SlR (λb o=>ExR w S Z xs b o) xs.len 64 A c):∃cs:List Value,cs.length=xs.len*5/\RowR (zhQ False) w S xs.toL cs/\One1 cs/\(A=none->xs.len=0)/\∀ad,A=some ad->∀j u,cs[j]?=some u->w.cell? (ad.add j)=some u:=by
 rcases Nat.eq_zero_or_pos xs.len with h0|h0
 ·cases xs with
  |nil=>exact⟨[],rfl,rfl,by simp[One1],λ_=>rfl,by simp⟩
  |cons=>simp[Exs.len]at h0
 ·obtain⟨b,o,rfl,Hd⟩:=hx.2.2 h0;obtain⟨cs,hl,hr,h1,hc⟩:=zlV Hd;refine⟨cs,hl,hr,h1,λh=>by simp at h,λad e j u hj=>?_⟩;cases e;rw[zek];exact hc j u hj
theorem slC {xs:Cds}{A:Option Addr}{c:Nat}(hx:SlR (λb o=>CdR w S Z xs b o) xs.len 64 A c):∃cs:List Value,cs.length=xs.len*4/\RowR (zhR False) w S xs.toL cs/\One1 cs/\(A=none->xs.len=0)/\∀ad,A=some ad->∀j u,cs[j]?=some u->w.cell? (ad.add j)=some u:=by
 rcases Nat.eq_zero_or_pos xs.len with h0|h0
 ·cases xs with
  |nil=>exact⟨[],rfl,rfl,by simp[One1],λ_=>rfl,by simp⟩
  |cons=>simp[Cds.len]at h0
 ·obtain⟨b,o,rfl,Hd⟩:=hx.2.2 h0;obtain⟨cs,hl,hr,h1,hc⟩:=zlW Hd;refine⟨cs,hl,hr,h1,λh=>by simp at h,λad e j u hj=>?_⟩;cases e;rw[zek];exact hc j u hj
theorem slV {xs:List Va}{A:Option Addr}{c:Nat}(hx:SlR (VaR w S Z xs) xs.length 24 A c):∃cs:List Value,cs.length=xs.length*2/\RowR oneV w S xs cs/\One1 cs/\(A=none->xs.length=0)/\∀ad,A=some ad->∀j u,cs[j]?=some u->w.cell? (ad.add j)=some u:=by
 rcases Nat.eq_zero_or_pos xs.length with h0|h0
 ·have:=List.length_eq_zero_iff.1 h0;subst this;exact⟨[],rfl,rfl,by simp[One1],λ_=>rfl,by simp⟩
 ·obtain⟨b,o,rfl,Hd⟩:=hx.2.2 h0;obtain⟨cs,hl,hr,h1,hc⟩:=zlX Hd;refine⟨cs,hl,hr,h1,λh=>by simp at h,λad e j u hj=>?_⟩;cases e;rw[zek];exact hc j u hj
theorem slA {xs:List Arr}{A:Option Addr}{c:Nat}(hx:SlR (ArR w S Z xs) xs.length 32 A c):∃cs:List Value,cs.length=xs.length*3/\RowR oneA w S xs cs/\One1 cs/\(A=none->xs.length=0)/\∀ad,A=some ad->∀j u,cs[j]?=some u->w.cell? (ad.add j)=some u:=by
 rcases Nat.eq_zero_or_pos xs.length with h0|h0
 ·have:=List.length_eq_zero_iff.1 h0;subst this;exact⟨[],rfl,rfl,by simp[One1],λ_=>rfl,by simp⟩
 ·obtain⟨b,o,rfl,Hd⟩:=hx.2.2 h0;obtain⟨cs,hl,hr,h1,hc⟩:=zlY Hd;refine⟨cs,hl,hr,h1,λh=>by simp at h,λad e j u hj=>?_⟩;cases e;rw[zek];exact hc j u hj
end
theorem zbu {w:World}{a:Addr}{v:Value}(h:w.cell? a=some v):a.block < w.heap.size:=by
 unfold World.cell? at h;rcases Nat.lt_or_ge a.block w.heap.size with hl|hl
 ·exact hl
 ·rw[Array.getElem?_eq_none hl]at h;simp at h
theorem zi1 {w:World}{base n size c:Nat}{t:TypeId}{A:Option Addr}{xs:List Value}(h:w.ownsRow base t size (.slice A n c) n xs):c<=9223372036854775807:=by
 obtain⟨hl,h|⟨g,cap,cur,e,hb,hg,Th,hc,hs,ht⟩⟩:=h
 ·injection h.1 with e1 e2 e3;omega
 ·injection e with e1 e2 e3;unfold maxLen at hc;omega
theorem zfJ {w:World}{base n size:Nat}{t:TypeId}{v:Value}{xs:List Value}(h:w.ownsRow base t size v n xs)(hn:0 < n):∃g cap pad,v= .slice (some ⟨g,0,none⟩) n cap/\base<=g/\g < w.heap.size/\n<=cap/\cap<=maxLen/\Bk w g t (xs++pad).toArray :=by
 obtain⟨hl,h|⟨g,cap,cur,rfl,hb,hg,Th,hc,hs,ht⟩⟩:=h
 ·exact absurd h.2 (by omega)
 ·refine⟨g,cap,cur.toList.drop (n*size),rfl,hb,(Array.getElem?_eq_some_iff.1 hg).1,Th,hc,?_⟩;unfold Bk;rw[hg,<-ht,List.take_append_drop]
