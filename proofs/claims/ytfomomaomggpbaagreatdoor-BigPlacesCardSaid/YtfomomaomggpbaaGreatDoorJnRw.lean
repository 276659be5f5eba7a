/- Append. -/
import Derived.Test.YtfomomaomggpbaaGreatDoorJnData
import Derived.Test.YtfomomaomggpbaaGreatDoorJgBase
import Derived.Deep.AppendLies
set_option linter.all false
namespace Go.Proofs.YtfomomaomggpbaaGreatDoor
open Go.RowKit
section
variable {P:Program} (w:World)
theorem zhm (base:Nat)(t ty e:TypeId)(i:TypeInfo)(z:Value)(size bytes:Nat)(ht:P.underlying t=some (.slice e))(hi:P.info? e=some i)(hz:i.zero=some z)
  (KM:i.size=size) (PQ:i.bytes=bytes) (Qt:z.cells.size=size) (Hx:0 < size)
  (v:Value) (n:Nat) (xs:List Value) (Ha:w.ownsRow base e size v n xs)
  (a:Addr) (m c:Nat) (news:List Value) (hl:news.length=m*size) (Gx:∀j u,news[j]?=some u->w.cell? (a.add j)=some u) (h1:∀u∈news,u.oneCell'=true)
  (GW:0 < m) (S0:n+m<=maxLen) (Gf:(n+m)*bytes<=140737488355328) (v':Value) (w':World)
  (hr:(Builtin.append_ #[t,t] ty #[v,.slice (some a) m c]).run P w= .ok v' w'):v'.ownBlock=v.ownBlock\/v'.ownBlock=some w.heap.size:=by
 subst KM;subst PQ;have Zh:n+m<=9223372036854775807:=by simp only[maxLen]at S0;omega
 rcases Ha.2 with⟨rfl,rfl⟩|⟨g,cap,cur,rfl,Po,hg,Ve,G7,Gp,jE⟩
 ·have h2:=run_append_nil (P:=P) w t ty e i z ht hi hz a m c news hl Gx GW (by omega) (by have hb:=Gf;simp only[Nat.zero_add]at hb;omega);rw[hr]at h2;injection h2 with h3;rw[h3];exact .inr rfl
 ·by_cases S1:n+m<=cap
  ·have h2:=run_append_room (P:=P) w t ty e i ht hi g n cap cur hg a m c news hl Gx h1 S1 (by rw[hl,Gp,<-Nat.add_mul];exact Nat.mul_le_mul_right _ S1);rw[hr]at h2;injection h2 with h3;rw[h3];exact .inl rfl
  ·have h2:=run_append_grow (P:=P) w t ty e i z ht hi hz ⟨g,0,none⟩ n cap xs Ha.1 (Ha.cells (g:=g) rfl) a m c news hl Gx (by omega) (by omega) (growslice_fits (by omega) Gf);rw[hr]at h2;injection h2 with h3;rw[h3];exact .inr rfl
theorem zav {ops:Array Oper}{rest:List Oper}{o:Oper}{a:Act}{Q:Exit->Act->World->Prop}(TO:o.guard=none)(s x:Operand)(t:TypeId)
  (ho:o.op= .call {callee:= .builtin .append,args:= #[s,x],argTypes:= #[t,t]})
  (base:Nat) (e:TypeId) (i:TypeInfo) (z:Value) (size bytes:Nat) (ht:P.underlying t=some (.slice e)) (hi:P.info? e=some i) (hz:i.zero=some z)
  (KM:i.size=size) (PQ:i.bytes=bytes) (Qt:z.cells.size=size) (Hx:0 < size)
  (v:Value) (n:Nat) (xs:List Value) (hs:a.eval s=v) (Ha:w.ownsRow base e size v n xs)
  (ad:Addr) (m c:Nat) (news:List Value) (hx:a.eval x= .slice (some ad) m c) (hl:news.length=m*size) (Gx:∀j u,news[j]?=some u->w.cell? (ad.add j)=some u) (h1:∀u∈news,u.oneCell'=true)
  (GW:0 < m) (S0:n+m<=maxLen) (Gf:(n+m)*bytes<=140737488355328) (MN:base<=w.heap.size)
  (h:∀v' w',w'.ownsRow base e size v' (n+m) (xs++news)->w.grownBy w' v.ownBlock->(v'.ownBlock=v.ownBlock\/v'.ownBlock=some w.heap.size)->wpList P ops Q rest (a.put o.dst v') w'):wpList P ops Q (o::rest) a w:=by
 refine wpList_plain TO λK hK=>?_;obtain⟨v',w',hr,h2,h3,_⟩:=run_append_own (P:=P) w base t o.type e i z size bytes ht hi hz KM PQ Qt Hx v n xs Ha ad m c news hl Gx h1 S0 Gf MN;have h4:=zhm (P:=P) w base t o.type e i z size bytes ht hi hz KM PQ Qt Hx v n xs Ha ad m c news hl Gx h1 GW S0 Gf v' w' hr;unfold Oper.wp execOp;simp only[ho,resolve,invoke,builtin,Sem.run_bind,Sem.run_pure,Result.andThen_ok,List.map_toArray,List.map_cons,List.map_nil,hs,hx,hr];exact hK _ _ (h v' w' h2 h3 h4)
end
def Thaw (w:World)(g:Nat):Prop:=∀j,w.frozen? ⟨g,j,none⟩=false
theorem Thaw.of {w:World}{g:Nat}{cs:Array Value}{t:TypeId}(h:w.heap[g]?=some (.cells cs t (0,0))):Thaw w g:=λj=>by simp[World.frozen?,h]
theorem Thaw.free {w:World}{g:Nat}(h:Thaw w g)(Z:Prop)(o n:Nat):Free w Z g o n:=λ_ j _=>h (o+j)
theorem Fr.back1 {a b c:World}{L:Nat}(h:Fr NoT a b)(k:Fr (λx=>L<=x) b c)(hl:a.heap.size<=L):Fr NoT a c:=
 ⟨k.os.trans h.os,k.tape.trans h.tape,k.output.trans h.output,aK h.size k.size,λi hi _=>(k.block i (aM hi h.size) (by omega)).trans (h.block i hi id)⟩
def RowR {α:Type}(one:World->(Nat->Prop)->α->List Value->Prop)(w:World)(S:Nat->Prop):List α->List Value->Prop
 | [],cs=>cs= []
 |x::xs,cs=>∃ys xh,cs=ys++xh/\one w S x ys/\RowR one w S xs xh
def OneK {α:Type}(one:World->(Nat->Prop)->α->List Value->Prop):Prop:=∀(w w':World)(S S':Nat->Prop)(x:α)(ys:List Value),SameS S w w'->(∀b,S b->S' b)->one w S x ys->one w' S' x ys
section
variable {α:Type} {one:World->(Nat->Prop)->α->List Value->Prop}
theorem RowR.imp (ho:OneK one){w w':World}{S S':Nat->Prop}(hf:SameS S w w')(hs:∀b,S b->S' b):∀ {xs:List α} {cs:List Value},RowR one w S xs cs->RowR one w' S' xs cs
 | [],_,h=>h
 |x::xs,cs,h=>by
  obtain⟨ys,xh,e,h1,h2⟩:=h;exact⟨ys,xh,e,ho _ _ _ _ _ _ hf hs h1,RowR.imp ho hf hs h2⟩
theorem RowR.snoc {w:World}{S:Nat->Prop}{y:α}{zs:List Value}(hy:one w S y zs):∀ {xs:List α} {cs:List Value},RowR one w S xs cs->RowR one w S (xs++ [y]) (cs++zs)
 | [],cs,h=>by
  have h:cs= []:=h;subst h;exact⟨zs, [],by simp,hy,rfl⟩
 |x::xs,cs,h=>by
  obtain⟨ys,xh,e,h1,h2⟩:=h;exact⟨ys,xh++zs,by rw[e,List.append_assoc],h1,RowR.snoc hy h2⟩
end
/-! expressions -/
def zdd (Z:Prop)(w:World)(S:Nat->Prop)(x:Ex)(ys:List Value):Prop:=∃A c,ys= [.int .u8 x.k,.string x.nm,.int .i64 x.n,.slice A x.args.len c,.int .i64 x.at_]/\in8 x.k/\in64 x.n/\in64 x.at_/\SlR (ExR w S Z x.args) x.args.len 64 A c
abbrev oneX:=zdd True
theorem zee {Z:Prop}:OneK (zdd Z):=λw w' S S' x ys hf hs h=>by
 obtain⟨A,c,e,h1,h2,h3,h4⟩:=h;exact⟨A,c,e,h1,h2,h3,h4.imp λ_ _ h=>ExR.more hs (ExR.keep hf h)⟩
theorem rowX {w:World}{S:Nat->Prop}{g:Nat}(hg:S g/\Thaw w g):∀ {xs:List Ex} {cs:List Value} {o:Nat},RowR oneX w S xs cs->(∀j u,cs[j]?=some u->w.cell? ⟨g,o+j,none⟩=some u)->ExR w S True (za0 xs) g o
 | [],_,_,_,_=>trivial
 |x::xs,cs,o,h,hc=>by
  obtain⟨ys,xh,e,⟨A,c,e2,h1,h2,h3,h4⟩,h5⟩:=h;subst e2;subst e;refine⟨⟨hg.1,hg.2.free _ _ _,h1,h2,h3,hc 0 _ rfl,hc 1 _ rfl,hc 2 _ rfl,hc 4 _ rfl⟩,⟨A,c,hc 3 _ rfl,h4⟩,rowX hg h5 λj u hj=>?_⟩;have:=hc (5+j) u (by rw[List.getElem?_append_right (by simp)];simpa using hj);rw[Nat.add_assoc];exact this
/-! conditions -/
def ze3:List Cn->Cds
 | []=> .nil
 |x::r=>x.cons (ze3 r)
def zde (Z:Prop)(w:World)(S:Nat->Prop)(x:Cn)(ys:List Value):Prop:=∃A c B e,ys= [.int .u8 x.k,.slice A x.args.len c,.slice B x.of_.len e,.int .i64 x.at_]/\in8 x.k/\in64 x.at_/\SlR (ExR w S Z x.args) x.args.len 64 A c/\SlR (CdR w S Z x.of_) x.of_.len 64 B e
abbrev oneC:=zde True
theorem zef {Z:Prop}:OneK (zde Z):=λw w' S S' x ys hf hs h=>by
 obtain⟨A,c,B,e,he,h1,h2,h3,h4⟩:=h;exact⟨A,c,B,e,he,h1,h2,h3.imp λ_ _ h=>ExR.more hs (ExR.keep hf h),h4.imp λ_ _ h=>CdR.more hs (CdR.keep hf h)⟩
theorem rowC {w:World}{S:Nat->Prop}{g:Nat}(hg:S g/\Thaw w g):∀ {xs:List Cn} {cs:List Value} {o:Nat},RowR oneC w S xs cs->(∀j u,cs[j]?=some u->w.cell? ⟨g,o+j,none⟩=some u)->CdR w S True (ze3 xs) g o
 | [],_,_,_,_=>trivial
 |x::xs,cs,o,h,hc=>by
  obtain⟨ys,xh,e,⟨A,c,B,e',e2,h1,h2,h3,h4⟩,h5⟩:=h;subst e2;subst e;refine⟨⟨hg.1,hg.2.free _ _ _,h1,h2,hc 0 _ rfl,hc 3 _ rfl⟩,⟨A,c,hc 1 _ rfl,h3⟩,⟨B,e',hc 2 _ rfl,h4⟩,rowC hg h5 λj u hj=>?_⟩;have:=hc (4+j) u (by rw[List.getElem?_append_right (by simp)];simpa using hj);rw[Nat.add_assoc];exact this
/-! statements -/
def zdf (Z:Prop)(w:World)(S:Nat->Prop)(x:St)(ys:List Value):Prop:=∃A2 c2 A3 c3 A4 c4 A5 c5,ys= [.int .u8 x.k,.string x.nm,.slice A2 x.args.len c2,.slice A3 x.cond.len c3,.slice A4 x.body.len c4,.slice A5 x.els.len c5,.int .i64 x.at_]/\in8 x.k/\in64 x.at_/\
 SlR (ExR w S Z x.args) x.args.len 64 A2 c2/\SlR (CdR w S Z x.cond) x.cond.len 64 A3 c3/\SlR (StR w S Z x.body) x.body.len 128 A4 c4/\SlR (StR w S Z x.els) x.els.len 128 A5 c5
abbrev oneS:=zdf True
theorem zeg {Z:Prop}:OneK (zdf Z):=λw w' S S' x ys hf hs h=>by
 obtain⟨A2,c2,A3,c3,A4,c4,A5,c5,he,h1,h2,h3,h4,h5,h6⟩:=h;exact⟨A2,c2,A3,c3,A4,c4,A5,c5,he,h1,h2,h3.imp λ_ _ h=>ExR.more hs (ExR.keep hf h),h4.imp λ_ _ h=>CdR.more hs (CdR.keep hf h),h5.imp λ_ _ h=>StR.more hs (StR.keep hf h),h6.imp λ_ _ h=>StR.more hs (StR.keep hf h)⟩
theorem rowS {w:World}{S:Nat->Prop}{g:Nat}(hg:S g/\Thaw w g):∀ {xs:List St} {cs:List Value} {o:Nat},RowR oneS w S xs cs->(∀j u,cs[j]?=some u->w.cell? ⟨g,o+j,none⟩=some u)->StR w S True (zai xs) g o
 | [],_,_,_,_=>trivial
 |x::xs,cs,o,h,hc=>by
  obtain⟨ys,xh,e,⟨A2,c2,A3,c3,A4,c4,A5,c5,e2,h1,h2,h3,h4,h6,h7⟩,h5⟩:=h;subst e2;subst e;refine⟨⟨hg.1,hg.2.free _ _ _,h1,h2,hc 0 _ rfl,hc 1 _ rfl,hc 6 _ rfl⟩,⟨_,_,hc 2 _ rfl,h3⟩,⟨_,_,hc 3 _ rfl,h4⟩,⟨_,_,hc 4 _ rfl,h6⟩,⟨_,_,hc 5 _ rfl,h7⟩,rowS hg h5 λj u hj=>?_⟩;have:=hc (7+j) u (by rw[List.getElem?_append_right (by simp)];simpa using hj);rw[Nat.add_assoc];exact this
/-! names, arrays, procedures -/
def oneV (w:World)(S:Nat->Prop)(x:Va)(ys:List Value):Prop:=ys= [.string x.nm,.int .i64 x.at_]/\in64 x.at_
theorem zeh:OneK oneV:=λw w' S S' x ys hf hs h=>h
theorem rowV {w:World}{S:Nat->Prop}{g:Nat}(hg:S g/\Thaw w g):∀ {xs:List Va} {cs:List Value} {o:Nat},RowR oneV w S xs cs->(∀j u,cs[j]?=some u->w.cell? ⟨g,o+j,none⟩=some u)->VaR w S True xs g o
 | [],_,_,_,_=>trivial
 |x::xs,cs,o,h,hc=>by
  obtain⟨ys,xh,e,⟨e2,h1⟩,h5⟩:=h;subst e2;subst e;refine⟨⟨hg.1,hg.2.free _ _ _,h1,hc 0 _ rfl,hc 1 _ rfl⟩,rowV hg h5 λj u hj=>?_⟩;have:=hc (2+j) u (by rw[List.getElem?_append_right (by simp)];simpa using hj);rw[Nat.add_assoc];exact this
def oneA (w:World)(S:Nat->Prop)(x:Arr)(ys:List Value):Prop:=ys= [.string x.nm,.int .i64 x.size,.int .i64 x.at_]/\in64 x.size/\in64 x.at_
theorem zei:OneK oneA:=λw w' S S' x ys hf hs h=>h
theorem rowA {w:World}{S:Nat->Prop}{g:Nat}(hg:S g/\Thaw w g):∀ {xs:List Arr} {cs:List Value} {o:Nat},RowR oneA w S xs cs->(∀j u,cs[j]?=some u->w.cell? ⟨g,o+j,none⟩=some u)->ArR w S True xs g o
 | [],_,_,_,_=>trivial
 |x::xs,cs,o,h,hc=>by
  obtain⟨ys,xh,e,⟨e2,h0,h1⟩,h5⟩:=h;subst e2;subst e;refine⟨⟨hg.1,hg.2.free _ _ _,h0,h1,hc 0 _ rfl,hc 1 _ rfl,hc 2 _ rfl⟩,rowA hg h5 λj u hj=>?_⟩;have:=hc (3+j) u (by rw[List.getElem?_append_right (by simp)];simpa using hj);rw[Nat.add_assoc];exact this
def zdK (Z:Prop)(w:World)(S:Nat->Prop)(x:Prc)(ys:List Value):Prop:=∃A c B e,ys= [.string x.nm,.slice A x.params.length c,.slice B x.body.len e,.int .i64 x.at_]/\in64 x.at_/\SlR (VaR w S Z x.params) x.params.length 24 A c/\SlR (StR w S Z x.body) x.body.len 128 B e
abbrev oneP:=zdK True
theorem zej {Z:Prop}:OneK (zdK Z):=λw w' S S' x ys hf hs h=>by
 obtain⟨A,c,B,e,he,h1,h2,h3⟩:=h;exact⟨A,c,B,e,he,h1,h2.imp λ_ _ h=>VaR.more hs (VaR.keep hf h),h3.imp λ_ _ h=>StR.more hs (StR.keep hf h)⟩
theorem rowP {w:World}{S:Nat->Prop}{g:Nat}(hg:S g/\Thaw w g):∀ {xs:List Prc} {cs:List Value} {o:Nat},RowR oneP w S xs cs->(∀j u,cs[j]?=some u->w.cell? ⟨g,o+j,none⟩=some u)->PrR w S True xs g o
 | [],_,_,_,_=>trivial
 |x::xs,cs,o,h,hc=>by
  obtain⟨ys,xh,e,⟨A,c,B,e',e2,h1,h2,h3⟩,h5⟩:=h;subst e2;subst e;refine⟨⟨hg.1,hg.2.free _ _ _,h1,hc 0 _ rfl,hc 3 _ rfl⟩,⟨_,_,hc 1 _ rfl,h2⟩,⟨_,_,hc 2 _ rfl,h3⟩,rowP hg h5 λj u hj=>?_⟩;have:=hc (4+j) u (by rw[List.getElem?_append_right (by simp)];simpa using hj);rw[Nat.add_assoc];exact this
theorem zkm:(Tryz.prog.info? 175).map (λi=>(i.zero,i.size,i.bytes))=some (some (.agg #[.int .u8 0,.string ⟨#[]⟩,.int .i64 0,.slice none 0 0,.int .i64 0]),5,64):=by kernel_rfl
theorem zpP:(Tryz.prog.info? 179).map (λi=>(i.zero,i.size,i.bytes))=some (some (.agg #[.int .u8 0,.slice none 0 0,.slice none 0 0,.int .i64 0]),4,64):=by kernel_rfl
theorem zkn:(Tryz.prog.info? 77).map (λi=>(i.zero,i.size,i.bytes))=some (some (.agg #[.string ⟨#[]⟩,.int .i64 0]),2,24):=by kernel_rfl
theorem zko:(Tryz.prog.info? 61).map (λi=>(i.zero,i.size,i.bytes))=some (some (.agg #[.string ⟨#[]⟩,.int .i64 0,.int .i64 0]),3,32):=by kernel_rfl
def zeroSt:Array Value:= #[.int .u8 0,.string ⟨#[]⟩,.slice none 0 0,.slice none 0 0,.slice none 0 0,.slice none 0 0,.int .i64 0]
theorem zkp:(Tryz.prog.info? 51).map (λi=>(i.zero,i.size,i.bytes))=some (some (.agg zeroSt),7,128):=by kernel_rfl
theorem znS:(Tryz.prog.info? 63).map (λi=>(i.zero,i.size,i.bytes))=some (some (.agg #[.string ⟨#[]⟩,.slice none 0 0,.slice none 0 0,.int .i64 0]),4,72):=by kernel_rfl
section
variable {w:World} {S:Nat->Prop} {Z:Prop}
theorem ExR.lax:∀ {xs:Exs} {b o:Nat},ExR w S Z xs b o->ExR w S False xs b o
 | .nil,_,_,_=>trivial
 | .cons k nm n args at_ rest,b,o,⟨⟨hb,_,h⟩,⟨A,c,h3,hs⟩,hr⟩=>⟨⟨hb,λh=>h.elim,h⟩,⟨A,c,h3,hs.imp λ_ _=>ExR.lax⟩,ExR.lax hr⟩
theorem CdR.lax:∀ {xs:Cds} {b o:Nat},CdR w S Z xs b o->CdR w S False xs b o
 | .nil,_,_,_=>trivial
 | .cons k args of_ at_ rest,b,o,⟨⟨hb,_,h⟩,⟨A,c,h3,hs⟩,⟨A2,c2,h5,GH⟩,hr⟩=>⟨⟨hb,λh=>h.elim,h⟩,⟨A,c,h3,hs.imp λ_ _=>ExR.lax⟩,⟨A2,c2,h5,GH.imp λ_ _=>CdR.lax⟩,CdR.lax hr⟩
theorem StR.lax:∀ {xs:Sts} {b o:Nat},StR w S Z xs b o->StR w S False xs b o
 | .nil,_,_,_=>trivial
 | .cons k nm args cond body els at_ rest,b,o,⟨⟨hb,_,h⟩,⟨A,c,h3,hs⟩,⟨A2,c2,h5,GH⟩,⟨A3,c3,h6,KT⟩,⟨A4,c4,h7,Mt⟩,hr⟩=>
  ⟨⟨hb,λh=>h.elim,h⟩,⟨A,c,h3,hs.imp λ_ _=>ExR.lax⟩,⟨A2,c2,h5,GH.imp λ_ _=>CdR.lax⟩,⟨A3,c3,h6,KT.imp λ_ _=>StR.lax⟩,⟨A4,c4,h7,Mt.imp λ_ _=>StR.lax⟩,StR.lax hr⟩
theorem VaR.lax:∀ {xs:List Va} {b o:Nat},VaR w S Z xs b o->VaR w S False xs b o
 | [],_,_,_=>trivial
 |_::_,b,o,⟨⟨hb,_,h⟩,hr⟩=>⟨⟨hb,λh=>h.elim,h⟩,VaR.lax hr⟩
def Exs.toL:Exs->List Ex
 | .nil => []
 | .cons k nm n args at_ r=>⟨k,nm,n,args,at_⟩::r.toL
theorem Exs.of_toL:∀xs:Exs,za0 xs.toL=xs
 | .nil =>rfl
 | .cons k nm n args at_ r=>by show Exs.cons _ _ _ _ _ (za0 r.toL)=_;rw[Exs.of_toL r]
theorem Exs.toL_len:∀xs:Exs,xs.toL.length=xs.len
 | .nil =>rfl
 | .cons k nm n args at_ r=>by simp[Exs.toL,Exs.len,Exs.toL_len r]
def Cds.toL:Cds->List Cn
 | .nil => []
 | .cons k args of_ at_ r=>⟨k,args,of_,at_⟩::r.toL
theorem Cds.of_toL:∀xs:Cds,ze3 xs.toL=xs
 | .nil =>rfl
 | .cons k args of_ at_ r=>by show Cds.cons _ _ _ _ (ze3 r.toL)=_;rw[Cds.of_toL r]
theorem Cds.toL_len:∀xs:Cds,xs.toL.length=xs.len
 | .nil =>rfl
 | .cons k args of_ at_ r=>by simp[Cds.toL,Cds.len,Cds.toL_len r]
theorem zbo {b o:Nat}{ys cs:List Value}(hy:∀j u,ys[j]?=some u->w.cell? ⟨b,o+j,none⟩=some u)(hc:∀j u,cs[j]?=some u->w.cell? ⟨b,o+ys.length+j,none⟩=some u):∀j u,(ys++cs)[j]?=some u->w.cell? ⟨b,o+j,none⟩=some u:=λj u hj=>by
 by_cases h:j < ys.length
 ·rw[List.getElem?_append_left h]at hj;exact hy j u hj
 ·rw[List.getElem?_append_right (by omega)]at hj;have:=hc _ u hj;rw[show o+ys.length+(j - ys.length)=o+j from by omega]at this;exact this
def One1 (cs:List Value):Prop:=∀u∈cs,u.oneCell'=true
theorem One1.app {a b:List Value}(h:One1 a)(k:One1 b):One1 (a++b):=λu hu=>by
 rcases List.mem_append.1 hu with hu|hu
 ·exact h u hu
 ·exact k u hu
theorem zi2 {b o:Nat}{c0 c1 c2 c3 c4:Value}(h0:w.cell? ⟨b,o,none⟩=some c0)(h1:w.cell? ⟨b,o+1,none⟩=some c1)(h2:w.cell? ⟨b,o+2,none⟩=some c2)(h3:w.cell? ⟨b,o+3,none⟩=some c3)(h4:w.cell? ⟨b,o+4,none⟩=some c4):
  ∀j u, [c0,c1,c2,c3,c4][j]?=some u->w.cell? ⟨b,o+j,none⟩=some u:=λj u hj=>by
 match j with
 |0=>simpa using hj▸h0
 |1=>simpa using hj▸h1
 |2=>simpa using hj▸h2
 |3=>simpa using hj▸h3
 |4=>simpa using hj▸h4
 |j+5=>simp at hj
theorem ze4 {b o:Nat}{c0 c1 c2 c3:Value}(h0:w.cell? ⟨b,o,none⟩=some c0)(h1:w.cell? ⟨b,o+1,none⟩=some c1)(h2:w.cell? ⟨b,o+2,none⟩=some c2)(h3:w.cell? ⟨b,o+3,none⟩=some c3):
  ∀j u, [c0,c1,c2,c3][j]?=some u->w.cell? ⟨b,o+j,none⟩=some u:=λj u hj=>by
 match j with
 |0=>simpa using hj▸h0
 |1=>simpa using hj▸h1
 |2=>simpa using hj▸h2
 |3=>simpa using hj▸h3
 |j+4=>simp at hj
theorem znT:∀ {xs:Exs} {b o:Nat},ExR w S Z xs b o->∃cs:List Value,cs.length=xs.len*5/\RowR (zdd False) w S xs.toL cs/\One1 cs/\∀j u,cs[j]?=some u->w.cell? ⟨b,o+j,none⟩=some u
 | .nil,_,_,_=>⟨[],rfl,rfl,by simp[One1],by simp⟩
 | .cons k nm n args at_ rest,b,o,⟨⟨hb,_,r0,r1,r2,h0,h1,h2,h4⟩,⟨A,c,h3,hs⟩,hr⟩=>by
  obtain⟨cs,hl,Hi,Qu,Gp⟩:=znT hr;refine⟨[.int .u8 k,.string nm,.int .i64 n,.slice A args.len c,.int .i64 at_]++cs,by simp[Exs.len,hl];omega,⟨_,cs,rfl,⟨A,c,rfl,r0,r1,r2,hs.imp λ_ _=>ExR.lax⟩,Hi⟩,One1.app ?_ Qu,zbo (zi2 h0 h1 h2 h3 h4) Gp⟩;intro u hu;simp only[List.mem_cons,List.not_mem_nil,or_false]at hu;rcases hu with rfl|rfl|rfl|rfl|rfl<;>rfl
theorem znU:∀ {xs:Cds} {b o:Nat},CdR w S Z xs b o->∃cs:List Value,cs.length=xs.len*4/\RowR (zde False) w S xs.toL cs/\One1 cs/\∀j u,cs[j]?=some u->w.cell? ⟨b,o+j,none⟩=some u
 | .nil,_,_,_=>⟨[],rfl,rfl,by simp[One1],by simp⟩
 | .cons k args of_ at_ rest,b,o,⟨⟨hb,_,r0,r1,h0,h4⟩,⟨A,c,h3,hs⟩,⟨A2,c2,h5,GH⟩,hr⟩=>by
  obtain⟨cs,hl,Hi,Qu,Gp⟩:=znU hr;refine⟨[.int .u8 k,.slice A args.len c,.slice A2 of_.len c2,.int .i64 at_]++cs,by simp[Cds.len,hl];omega,⟨_,cs,rfl,⟨A,c,A2,c2,rfl,r0,r1,hs.imp λ_ _=>ExR.lax,GH.imp λ_ _=>CdR.lax⟩,Hi⟩,One1.app ?_ Qu,zbo (ze4 h0 h3 h5 h4) Gp⟩;intro u hu;simp only[List.mem_cons,List.not_mem_nil,or_false]at hu;rcases hu with rfl|rfl|rfl|rfl<;>rfl
theorem znV:∀ {xs:List Va} {b o:Nat},VaR w S Z xs b o->∃cs:List Value,cs.length=xs.length*2/\RowR oneV w S xs cs/\One1 cs/\∀j u,cs[j]?=some u->w.cell? ⟨b,o+j,none⟩=some u
 | [],_,_,_=>⟨[],rfl,rfl,by simp[One1],by simp⟩
 |v::r,b,o,⟨⟨hb,_,r0,h0,h1⟩,hr⟩=>by
  obtain⟨cs,hl,Hi,Qu,Gp⟩:=znV hr;refine⟨[.string v.nm,.int .i64 v.at_]++cs,by simp[hl];omega,⟨_,cs,rfl,⟨rfl,r0⟩,Hi⟩,One1.app ?_ Qu,zbo (λj u hj=>?_) Gp⟩
  ·intro u hu;simp only[List.mem_cons,List.not_mem_nil,or_false]at hu;rcases hu with rfl|rfl<;>rfl
  ·match j with
   |0=>simpa using hj▸h0
   |1=>simpa using hj▸h1
   |j+2=>simp at hj
theorem znW:∀ {xs:List Arr} {b o:Nat},ArR w S Z xs b o->∃cs:List Value,cs.length=xs.length*3/\RowR oneA w S xs cs/\One1 cs/\∀j u,cs[j]?=some u->w.cell? ⟨b,o+j,none⟩=some u
 | [],_,_,_=>⟨[],rfl,rfl,by simp[One1],by simp⟩
 |v::r,b,o,⟨⟨hb,_,r0,r1,h0,h1,h2⟩,hr⟩=>by
  obtain⟨cs,hl,Hi,Qu,Gp⟩:=znW hr;refine⟨[.string v.nm,.int .i64 v.size,.int .i64 v.at_]++cs,by simp[hl];omega,⟨_,cs,rfl,⟨rfl,r0,r1⟩,Hi⟩,One1.app ?_ Qu,zbo (λj u hj=>?_) Gp⟩
  ·intro u hu;simp only[List.mem_cons,List.not_mem_nil,or_false]at hu;rcases hu with rfl|rfl|rfl<;>rfl
  ·match j with
   |0=>simpa using hj▸h0
   |1=>simpa using hj▸h1
   |2=>simpa using hj▸h2
   |j+3=>simp at hj
theorem ze5 {b o:Nat}(j:Nat):(⟨b,o,none⟩:Addr).add j=⟨b,o+j,none⟩:=by unfold Addr.add;split<;>simp_all
theorem slX {xs:Exs}{A:Option Addr}{c:Nat}(hx:SlR (λb o=>ExR w S Z xs b o) xs.len 64 A c):∃cs:List Value,cs.length=xs.len*5/\RowR (zdd False) w S xs.toL cs/\One1 cs/\(A=none->xs.len=0)/\∀ad,A=some ad->∀j u,cs[j]?=some u->w.cell? (ad.add j)=some u:=by
 rcases Nat.eq_zero_or_pos xs.len with h0|h0
 ·cases xs with
  |nil=>exact⟨[],rfl,rfl,by simp[One1],λ_=>rfl,by simp⟩
  |cons=>simp[Exs.len]at h0
 ·obtain⟨b,o,rfl,Hg⟩:=hx.2.2 h0;obtain⟨cs,hl,hr,h1,hc⟩:=znT Hg;refine⟨cs,hl,hr,h1,λh=>by simp at h,λad e j u hj=>?_⟩;cases e;rw[ze5];exact hc j u hj
theorem slC {xs:Cds}{A:Option Addr}{c:Nat}(hx:SlR (λb o=>CdR w S Z xs b o) xs.len 64 A c):∃cs:List Value,cs.length=xs.len*4/\RowR (zde False) w S xs.toL cs/\One1 cs/\(A=none->xs.len=0)/\∀ad,A=some ad->∀j u,cs[j]?=some u->w.cell? (ad.add j)=some u:=by
 rcases Nat.eq_zero_or_pos xs.len with h0|h0
 ·cases xs with
  |nil=>exact⟨[],rfl,rfl,by simp[One1],λ_=>rfl,by simp⟩
  |cons=>simp[Cds.len]at h0
 ·obtain⟨b,o,rfl,Hg⟩:=hx.2.2 h0;obtain⟨cs,hl,hr,h1,hc⟩:=znU Hg;refine⟨cs,hl,hr,h1,λh=>by simp at h,λad e j u hj=>?_⟩;cases e;rw[ze5];exact hc j u hj
theorem slV {xs:List Va}{A:Option Addr}{c:Nat}(hx:SlR (VaR w S Z xs) xs.length 24 A c):∃cs:List Value,cs.length=xs.length*2/\RowR oneV w S xs cs/\One1 cs/\(A=none->xs.length=0)/\∀ad,A=some ad->∀j u,cs[j]?=some u->w.cell? (ad.add j)=some u:=by
 rcases Nat.eq_zero_or_pos xs.length with h0|h0
 ·have:=List.length_eq_zero_iff.1 h0;subst this;exact⟨[],rfl,rfl,by simp[One1],λ_=>rfl,by simp⟩
 ·obtain⟨b,o,rfl,Hg⟩:=hx.2.2 h0;obtain⟨cs,hl,hr,h1,hc⟩:=znV Hg;refine⟨cs,hl,hr,h1,λh=>by simp at h,λad e j u hj=>?_⟩;cases e;rw[ze5];exact hc j u hj
theorem slA {xs:List Arr}{A:Option Addr}{c:Nat}(hx:SlR (ArR w S Z xs) xs.length 32 A c):∃cs:List Value,cs.length=xs.length*3/\RowR oneA w S xs cs/\One1 cs/\(A=none->xs.length=0)/\∀ad,A=some ad->∀j u,cs[j]?=some u->w.cell? (ad.add j)=some u:=by
 rcases Nat.eq_zero_or_pos xs.length with h0|h0
 ·have:=List.length_eq_zero_iff.1 h0;subst this;exact⟨[],rfl,rfl,by simp[One1],λ_=>rfl,by simp⟩
 ·obtain⟨b,o,rfl,Hg⟩:=hx.2.2 h0;obtain⟨cs,hl,hr,h1,hc⟩:=znW Hg;refine⟨cs,hl,hr,h1,λh=>by simp at h,λad e j u hj=>?_⟩;cases e;rw[ze5];exact hc j u hj
end
theorem zcj {w:World}{a:Addr}{v:Value}(h:w.cell? a=some v):a.block < w.heap.size:=by
 unfold World.cell? at h;rcases Nat.lt_or_ge a.block w.heap.size with hl|hl
 ·exact hl
 ·rw[Array.getElem?_eq_none hl]at h;simp at h
theorem zdg {w:World}{base n size c:Nat}{t:TypeId}{A:Option Addr}{xs:List Value}(h:w.ownsRow base t size (.slice A n c) n xs):c<=9223372036854775807:=by
 obtain⟨hl,h|⟨g,cap,cur,e,hb,hg,Ve,hc,hs,ht⟩⟩:=h
 ·injection h.1 with e1 e2 e3;omega
 ·injection e with e1 e2 e3;unfold maxLen at hc;omega
theorem zbG {w:World}{base n size:Nat}{t:TypeId}{v:Value}{xs:List Value}(h:w.ownsRow base t size v n xs)(hn:0 < n):∃g cap pad,v= .slice (some ⟨g,0,none⟩) n cap/\base<=g/\g < w.heap.size/\n<=cap/\cap<=maxLen/\Bk w g t (xs++pad).toArray :=by
 obtain⟨hl,h|⟨g,cap,cur,rfl,hb,hg,Ve,hc,hs,ht⟩⟩:=h
 ·exact absurd h.2 (by omega)
 ·refine⟨g,cap,cur.toList.drop (n*size),rfl,hb,(Array.getElem?_eq_some_iff.1 hg).1,Ve,hc,?_⟩;unfold Bk;rw[hg,<-ht,List.take_append_drop]
