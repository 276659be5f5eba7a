/- inline: statements put out, one behind another. -/
import Derived.Test.YtmopichdofgndaaGreatDoorJnInC
import Derived.Laws.AppendOwnNone
import Derived.Laws.OwnMore
set_option linter.all false
namespace Go.Proofs.YtmopichdofgndaaGreatDoor
open Go.RowKit Go.Shelf Go.Maps
section
variable {P:Program} (w:World)
theorem zat {ops:Array Oper}{rest:List Oper}{o:Oper}{a:Act}{Q:Exit->Act->World->Prop}(S0:o.guard=none)(s x:Operand)(t:TypeId)
  (ho:o.op= .call {callee:= .builtin .append,args:= #[s,x],argTypes:= #[t,t]})
  (base:Nat) (e:TypeId) (i:TypeInfo) (z:Value) (size bytes:Nat) (ht:P.underlying t=some (.slice e)) (hi:P.info? e=some i) (hz:i.zero=some z)
  (Lg:i.size=size) (S3:i.bytes=bytes) (Lh:z.cells.size=size) (Ht:0 < size)
  (v:Value) (n:Nat) (xs:List Value) (hs:a.eval s=v) (Hg:w.ownsRow base e size v n xs)
  (ad:Addr) (m c:Nat) (news:List Value) (hx:a.eval x= .slice (some ad) m c) (hl:news.length=m*size) (Fd:∀j u,news[j]?=some u->w.cell? (ad.add j)=some u) (h1:∀u∈news,u.oneCell'=true)
  (Tl:n+m<=maxLen) (Gp:(n+m)*bytes<=140737488355328) (NA:base<=w.heap.size)
  (h:∀v' w',w'.ownsRow base e size v' (n+m) (xs++news)->w.grownBy w' v.ownBlock->(v'.ownBlock=v.ownBlock\/v'.ownBlock=some w.heap.size)->wpList P ops Q rest (a.put o.dst v') w'):wpList P ops Q (o::rest) a w:=by
 subst Lg;subst S3;refine wpList_plain S0 λK hK=>?_;obtain⟨v',w',hr,h2,h3,h5⟩:=run_append_own (P:=P) w base t o.type e i z i.size i.bytes ht hi hz rfl rfl Lh Ht v n xs Hg ad m c news hl Fd h1 Tl Gp NA;have h4:v'.ownBlock=v.ownBlock\/v'.ownBlock=some w.heap.size:=by
  rcases Nat.eq_zero_or_pos m with h0|h0
  ·subst h0;rcases Hg.2 with⟨e1,e2⟩|⟨g,cap,cur,e1,Uu,hg,Th,Js,F6,Uv⟩
   ·have:=h5.2 ⟨e1,rfl⟩;rw[this,e1];exact .inl rfl
   ·subst e1;have h6:=run_append_room (P:=P) w t o.type e i ht hi g n cap cur hg ad 0 c news hl Fd h1 (by omega) (by rw[hl,F6,<-Nat.add_mul];exact Nat.mul_le_mul_right _ (by omega));rw[hr]at h6;injection h6 with h7;rw[h7];exact .inl rfl
  ·exact zdv (P:=P) w base t o.type e i z i.size i.bytes ht hi hz rfl rfl Lh Ht v n xs Hg ad m c news hl Fd h1 h0 Tl Gp v' w' hr
 unfold Oper.wp execOp;simp only[ho,resolve,invoke,builtin,Sem.run_bind,Sem.run_pure,Result.andThen_ok,List.map_toArray,List.map_cons,List.map_nil,hs,hx,hr];exact hK _ _ (h v' w' h2 h3 h4)
end
def OutS (L:Nat)(vo v:Value)(w:World):Nat->Prop:=λb=>L<=b/\b < w.heap.size/\vo.ownBlock≠some b/\v.ownBlock≠some b
structure OutRow (L:Nat)(v:Value)(w:World)(vo:Value)(acc:List St)(cs:List Value):Prop where
 row:w.ownsRow L 39 7 vo acc.length cs
 rows:RowR oneS w (OutS L vo v w) acc cs
 one:One1 cs
 ne:∀b,vo.ownBlock=some b->v.ownBlock≠some b
def SpotP (w:World)(v v':Value):Prop:=v'.ownBlock=v.ownBlock\/∃g,v'.ownBlock=some g/\w.heap.size<=g
theorem SpotP.refl (w:World)(v:Value):SpotP w v v:= .inl rfl
theorem SpotP.trans {w w':World}{a b c:Value}(h:SpotP w a b)(k:SpotP w' b c)(hz:w.heap.size<=w'.heap.size):SpotP w a c:=by
 rcases k with k|⟨g,k1,k2⟩
 ·rcases h with h|⟨g,h1,h2⟩
  ·exact .inl (k.trans h)
  ·exact .inr ⟨g,k.trans h1,h2⟩
 ·exact .inr ⟨g,k1,leq9 hz k2⟩
theorem OutRow.keep {L P:Nat}{v v':Value}{w w':World}{vo:Value}{acc:List St}{cs:List Value}(h:OutRow L v w vo acc cs)(hf:Fr (λb=>b=P\/v.ownBlock=some b) w w')(GP:SpotP w v v')(hP:P < L):OutRow L v' w' vo acc cs:=by
 have GU:∀b,b < w.heap.size->v.ownBlock≠some b->v'.ownBlock≠some b:=λb hb hn e=>by
  rcases GP with h|⟨g,h1,h2⟩
  ·exact hn (h▸e)
  ·rw[h1]at e;have:=Option.some.inj e;omega
 refine⟨zag h.row hf λb hb e=>?_,RowR.imp zaB (hf.same λb hb=>⟨hb.2.1,λe=>?_⟩) (λb hb=>⟨hb.1,ltq hb.2.1 hf.size,hb.2.2.1,GU b hb.2.1 hb.2.2.2⟩) h.rows,h.one,λb hb=>GU b (zaf h.row hb).2 (h.ne b hb)⟩
 ·have:=(zaf h.row hb).1;rcases e with e|e
  ·omega
  ·exact h.ne b hb e
 ·rcases e with e|e
  ·have:=hb.1;omega
  ·exact hb.2.2.2 e
theorem OutRow.frT {L:Nat}{v:Value}{w w':World}{vo:Value}{acc:List St}{cs:List Value}{T:Nat->Prop}(h:OutRow L v w vo acc cs)(hf:Fr T w w')(ht:∀b,L<=b->¬T b):OutRow L v w' vo acc cs:=
 ⟨zag h.row hf λb hb=>ht b (zaf h.row hb).1,RowR.imp zaB (hf.same λb hb=>⟨hb.2.1,ht b hb.1⟩) (λb hb=>⟨hb.1,ltq hb.2.1 hf.size,hb.2.2⟩) h.rows,h.one,h.ne⟩
theorem OutRow.fr0 {L:Nat}{v:Value}{w w':World}{vo:Value}{acc:List St}{cs:List Value}(h:OutRow L v w vo acc cs)(hf:Fr NoT w w'):OutRow L v w' vo acc cs:=
 ⟨zag h.row hf λ_ _=>id,RowR.imp zaB (hf.same λb hb=>⟨hb.2.1,id⟩) (λb hb=>⟨hb.1,ltq hb.2.1 hf.size,hb.2.2⟩) h.rows,h.one,h.ne⟩
theorem RowR.app {w:World}{S:Nat->Prop}{ys:List St}{zs:List Value}(hy:RowR oneS w S ys zs):∀ {xs:List St} {cs:List Value},RowR oneS w S xs cs->RowR oneS w S (xs++ys) (cs++zs)
 | [],cs,h=>by
  have h:cs= []:=h;subst h;exact hy
 |x::xs,cs,⟨us,DW,e,h1,h2⟩=>⟨us,DW++zs,by rw[e,List.append_assoc],h1,RowR.app hy h2⟩
theorem OutRow.step {L:Nat}{v:Value}{w w9:World}{vo DX:Value}{acc ys:List St}{cs zs:List Value}(h:OutRow L v w vo acc cs)(hy:RowR oneS w (OutS L vo v w) ys zs)(h1:One1 zs)
  (GA:w9.ownsRow L 39 7 DX (acc.length+ys.length) (cs++zs)) (hg:w.grownBy w9 vo.ownBlock) (GP:DX.ownBlock=vo.ownBlock\/DX.ownBlock=some w.heap.size) (hv:∀b,v.ownBlock=some b->b < w.heap.size):
  OutRow L v w9 DX (acc++ys) (cs++zs)/\Fr (λb=>vo.ownBlock=some b) w w9:=by
 have hf:Fr (λb=>vo.ownBlock=some b) w w9:=Fr.grown hg λg e _=>e;have hs:∀b,OutS L vo v w b->OutS L DX v w9 b:=λb hb=>⟨hb.1,ltq hb.2.1 hf.size,λe=>by
  rcases GP with h|h
  ·exact hb.2.2.1 (h▸e)
  ·rw[h]at e;have:=Option.some.inj e;have:=hb.2.1;omega,hb.2.2.2⟩
 have GW:SameS (OutS L vo v w) w w9:=hf.same λb hb=>⟨hb.2.1,hb.2.2.1⟩;refine⟨⟨by rw[List.length_append];exact GA,RowR.app (RowR.imp zaB GW hs hy) (RowR.imp zaB GW hs h.rows),h.one.app h1,λb hb=>?_⟩,hf⟩;rcases GP with e|e
 ·exact h.ne b (e▸hb)
 ·rw[e]at hb;have:=Option.some.inj hb;exact λNS=>by have:=hv b NS;omega
theorem zcb {ops:Array Oper}{rest:List Oper}{o:Oper}{a:Act}{Q:Exit->Act->World->Prop}{L L2:Nat}{v:Value}{w:World}{vo vo2:Value}{acc D7:List St}{cs Ez:List Value}(S0:o.guard=none)(s x:Operand)
  (ho:o.op= .call {callee:= .builtin .append,args:= #[s,x],argTypes:= #[25,25]}) (hs:a.eval s=vo) (hx:a.eval x=vo2) (h1:OutRow L v w vo acc cs) (h2:OutRow L2 v w vo2 D7 Ez) (hL:L<=L2) (Fx:∀b,vo.ownBlock=some b->b < L2)
  (xH:L<=w.heap.size) (Ht:acc.length+D7.length<=1000000) (hv:∀b,v.ownBlock=some b->b < w.heap.size)
  (h:∀DX w',OutRow L v w' DX (acc++D7) (cs++Ez)->Fr (λb=>vo.ownBlock=some b) w w'->(DX.ownBlock=vo.ownBlock\/DX.ownBlock=some w.heap.size)->wpList Tryz.prog ops Q rest (a.put o.dst DX) w'):wpList Tryz.prog ops Q (o::rest) a w:=by
 obtain⟨i0,hi,Fe,Gh,Gn⟩:=info_parts zej;have hy:RowR oneS w (OutS L vo v w) D7 Ez:=RowR.imp zaB (SameS.refl _ _) (λb hb=>⟨leq9 hL hb.1,hb.2.1,λe=>by have:=Fx b e;have:=hb.1;omega,hb.2.2.2⟩) h2.rows;rcases h2.row.2 with⟨e1,e2⟩|⟨g,cap,cur,e1,Uu,hg,Th,Js,F6,Uv⟩
 ·subst e1;have e3:D7= []:=List.length_eq_zero_iff.1 e2;subst e3;have e4:Ez= []:=h2.rows;subst e4;refine wpList_append_own_none S0 s x 25 ho L 39 i0 7 Tryz.underlying25 hi vo acc.length cs hs h1.row hx ?_;refine h vo w (by simpa using h1) (Fr.refl _ _) (.inl rfl)
 ·subst e1;refine zat w S0 s x 25 ho L 39 i0 (.agg zdx) 7 128 Tryz.underlying25 hi Fe Gh Gn rfl (by decide) vo acc.length cs hs h1.row ⟨g,0,none⟩ D7.length cap Ez hx h2.row.1 (h2.row.cells (g:=g) rfl) h2.one (by unfold maxLen;omega) (by omega) xH ?_;intro v' w' Hg Hh GY;obtain⟨k1,k2⟩:=h1.step hy h2.one Hg Hh GY hv;exact h v' w' k1 k2 GY
theorem OutRow.nil (L:Nat)(v:Value)(w:World):OutRow L v w (.slice none 0 0) [] []:=⟨World.ownsRow_nil _ _ _ _,rfl,by simp[One1],λb hb=>by simp[Value.ownBlock]at hb⟩
theorem OutRow.lower {L L':Nat}{v:Value}{w:World}{vo:Value}{acc:List St}{cs:List Value}(h:OutRow L v w vo acc cs)(hl:L'<=L):OutRow L' v w vo acc cs:=
 ⟨by
  refine⟨h.row.1,?_⟩;rcases h.row.2 with hn|⟨g,cap,cur,e,hb,r⟩
  ·exact .inl hn
  ·exact .inr ⟨g,cap,cur,e,leq9 hl hb,r⟩,RowR.imp zaB (SameS.refl _ _) (λb hb=>⟨leq9 hl hb.1,hb.2⟩) h.rows,h.one,h.ne⟩
theorem InAt.set {K:InK}{w:World}{s s':Ist}{v:Value}(h:InAt K w s v)(i:Nat)(u:Value)(hc:(#[.map (some K.bp),.int .i64 s.calls,v,.int .i64 s.many]:Array Value).setIfInBounds i u= #[.map (some K.bp),.int .i64 s'.calls,v,.int .i64 s'.many])(hv:s'.vars=s.vars)(hm:s'.many<=261/\s'.calls<=s'.many+1):
  InAt K (w.setCell ⟨K.P,i,none⟩ u) s' v:=by
 have hf:Fr (λb=>b=K.P) w (w.setCell ⟨K.P,i,none⟩ u):=Fr.own (Fr.refl _ _) i u;obtain⟨cs,h1,h2⟩:=h.row;refine⟨Fr.back1 h.fr (hf.mono λb _ e=>(by have e:b=K.P:=e;have:=h.high.1;show K.W0.heap.size<=b;omega)) (lrq _),?_,h.map.fr hf (λe=>h.ne.1 e.symm),⟨cs,?_,by rw[hv];exact h2.any⟩,h.high,h.ne,hm.1,hm.2,by rw[hv];exact h.most.2.2⟩
 ·have:=h.bk.set_ i u;rw[hc]at this;exact this
 ·rw[hv];exact zag h1 hf λb hb e=>by have e:b=K.P:=e;subst e;exact h.ne.2.1 hb
theorem InAt.push {K:InK}{w w9:World}{c m:Nat}{vs:List Va}{v v':Value}{cs:List Value}{x:Va}(h:InAt K w ⟨c,vs,m⟩ v)(Jg:RowR oneV w (λ_=>True) vs cs)(hx:in64 x.at_)(hlen:vs.length+1<=36)
  (GA:w9.ownsRow K.W0.heap.size 43 2 v' (vs.length+1) (cs++ [.string x.nm,.int .i64 x.at_])) (hg:w.grownBy w9 v.ownBlock) (GP:v'.ownBlock=v.ownBlock\/v'.ownBlock=some w.heap.size):
  InAt K (w9.setCell ⟨K.P,2,none⟩ v') ⟨c,vs++ [x],m⟩ v'/\Fr (λb=>b=K.P\/v.ownBlock=some b) w (w9.setCell ⟨K.P,2,none⟩ v'):=by
 have hf:Fr (λb=>v.ownBlock=some b) w w9:=Fr.grown hg λg e _=>e;have Fx:∀b,v.ownBlock=some b->K.W0.heap.size<=b:=λb hb=>by
  obtain⟨cs,h1,_⟩:=h.row;exact(zaf h1 hb).1
 have Yf:=h.bk.lt;have NT:=h.map.lt;have Jl:=h.bk.fr hf h.ne.2.1;have GU:v'.ownBlock≠some K.P/\v'.ownBlock≠some K.bp:=by
  rcases GP with e|e
  ·rw[e];exact h.ne.2
  ·rw[e];exact⟨λe=>by have:=Option.some.inj e;omega,λe=>by have:=Option.some.inj e;omega⟩
 have Gm:Fr (λb=>b=K.P) w9 (w9.setCell ⟨K.P,2,none⟩ v'):=Fr.own (Fr.refl _ _) 2 v';have UX:Fr (λb=>b=K.P\/v.ownBlock=some b) w (w9.setCell ⟨K.P,2,none⟩ v'):=(hf.mono λ_ _ e=> .inr e).trans (Gm.mono λ_ _ e=> .inl e);refine⟨⟨Fr.back1 h.fr (UX.mono λb _ e=>(by
   show K.W0.heap.size<=b
   rcases e with e|e
   ·have:=h.high.1;omega
   ·exact Fx b e)) (lrq _),?_,(h.map.fr hf h.ne.2.2).fr Gm (λe=>h.ne.1 e.symm),⟨cs++ [.string x.nm,.int .i64 x.at_],?_,?_⟩,h.high,⟨h.ne.1,GU⟩,h.most.1,h.most.2.1,?_⟩,UX⟩
 ·have:=Jl.set_ 2 v';simpa using this
 ·show World.ownsRow _ _ _ _ _ (vs++ [x]).length _
  rw[List.length_append];exact zag GA Gm λb hb e=>by have e:b=K.P:=e;subst e;exact GU.1 hb
 ·exact RowR.any (RowR.snoc (w:=w) ⟨rfl,hx⟩ Jg)
 ·show(vs++ [x]).length <=36
  simpa using hlen
theorem slr0 {P:Nat->Nat->Prop}{sz:Nat}:SlR P 0 sz none 0:=⟨lrq _,⟨by decide,by omega⟩,λh=>absurd h (Nat.lt_irrefl 0)⟩
theorem OutRow.slice {L:Nat}{v:Value}{w:World}{vo:Value}{acc:List St}{cs:List Value}(h:OutRow L v w vo acc cs)(Ht:acc.length*128<=140737488355328):
  ∃A c,vo= .slice A acc.length c/\SlR (λb o=>StR w (λi=>L<=i/\i < w.heap.size/\v.ownBlock≠some i) True (zao acc) b o) acc.length 128 A c:=by
 rcases h.row.2 with⟨e,h0⟩|⟨g,cap,cur,e,hb,hg,hn,hc,F6,ht⟩
 ·exact⟨none,0,by rw[e,h0],by rw[h0];exact slr0⟩
 ·have hl:g < w.heap.size:=(Array.getElem?_eq_some_iff.1 hg).1;refine⟨some ⟨g,0,none⟩,cap,e,hn,⟨by unfold maxLen at hc;omega,Ht⟩,λ_=>⟨g,0,rfl,?_⟩⟩;refine rowS ⟨⟨hb,hl,h.ne g (by rw[e];rfl)⟩,Thaw.of hg⟩ (RowR.imp zaB (SameS.refl _ _) (λb hb=>⟨hb.1,hb.2.1,hb.2.2.2⟩) h.rows) λj u hj=>?_;have h2:=h.row;rw[e]at h2;have:=h2.cells (g:=g) rfl j u hj;rw[zek]at this;exact this
def zeH (at_:Int):St:=⟨1,⟨#[]⟩,.nil,.nil,.nil,.nil,at_⟩
theorem zht {w:World}{S:Nat->Prop}{at_:Int}(h:in64 at_):oneS w S (zeH at_) [.int .u8 1,.string ⟨#[]⟩,.slice none 0 0,.slice none 0 0,.slice none 0 0,.slice none 0 0,.int .i64 at_]:=
 ⟨none,0,none,0,none,0,none,0,rfl,by simp[zeH,in8],h,slr0,slr0,slr0,slr0⟩
section
variable {P:Program} (w:World)
theorem zc4 (base:Nat)(t ty e:TypeId)(i:TypeInfo)(size:Nat)(ht:P.underlying t=some (.slice e))(hi:P.info? e=some i)
  (v:Value) (n:Nat) (xs:List Value) (Hg:w.ownsRow base e size v n xs) (c:Nat):
  (Builtin.append_ #[t,t] ty #[v,.slice none 0 c]).run P w= .ok v w:=by
 rcases Hg.2 with⟨rfl,rfl⟩|⟨g,cap,cur,rfl,_,_,Th,_⟩
 ·simp[Builtin.append_,run_underlying ht,sizeOf,typeInfo,hi,Builtin.lenOf,Builtin.firstCells]
 ·simp[Builtin.append_,run_underlying ht,sizeOf,typeInfo,hi,Builtin.lenOf,Builtin.firstCells,Th,storeCells]
theorem zbr {ops:Array Oper}{o:Oper}{a:Act}{K:Act->World->Prop}{Q:Exit->Act->World->Prop}{E:Prop}(S0:o.guard=none)(s x:Operand)(t:TypeId)
  (ho:o.op= .call {callee:= .builtin .append,args:= #[s,x],argTypes:= #[t,t]})
  (base:Nat) (e:TypeId) (i:TypeInfo) (z:Value) (size bytes:Nat) (ht:P.underlying t=some (.slice e)) (hi:P.info? e=some i) (hz:i.zero=some z)
  (Lg:i.size=size) (S3:i.bytes=bytes) (Lh:z.cells.size=size) (Ht:0 < size)
  (v:Value) (n:Nat) (xs:List Value) (hs:a.eval s=v) (Hg:w.ownsRow base e size v n xs)
  (A:Option Addr) (m c:Nat) (news:List Value) (hx:a.eval x= .slice A m c) (hA:A=none->m=0) (hl:news.length=m*size) (Fd:∀ad,A=some ad->∀j u,news[j]?=some u->w.cell? (ad.add j)=some u) (h1:∀u∈news,u.oneCell'=true)
  (Tl:n+m<=maxLen) (Gp:(n+m)*bytes<=140737488355328) (NA:base<=w.heap.size)
  (h:∀v' w',w'.ownsRow base e size v' (n+m) (xs++news)->w.grownBy w' v.ownBlock->(v'.ownBlock=v.ownBlock\/v'.ownBlock=some w.heap.size)->K (a.put o.dst v') w'):
  if Region.wanted o (yielded ops a.tmps)=true then Oper.wp P o a w K Q else E:=by
 have hw:Region.wanted o (yielded ops a.tmps)=true:=by simp[Region.wanted,S0]
 rw[if_pos hw];cases A with
 |none=>
  obtain rfl:=hA rfl;have hn:news= []:=List.length_eq_zero_iff.1 (by rw[hl];omega);subst hn;have JI:=zc4 (P:=P) (w:=w) base t o.type e i size ht hi v n xs Hg c;unfold Oper.wp;simp[execOp,ho,resolve,invoke,builtin,hs,hx,JI,Result.andThen];exact h v w (by simpa using Hg) (World.grownBy.refl _ _) (.inl rfl)
 |some ad=>
  obtain⟨v',w',hr,h2,h3,_,h5⟩:=run_append_own_at (P:=P) w base t o.type e i z size bytes ht hi hz Lg S3 Lh Ht v n xs Hg ad m c news hl (Fd ad rfl) h1 Tl Gp NA;unfold Oper.wp execOp;simp only[ho,resolve,invoke,builtin,Sem.run_bind,Sem.run_pure,Result.andThen_ok,List.map_toArray,List.map_cons,List.map_nil,hs,hx,hr];exact h v' w' h2 h3 h5
end
