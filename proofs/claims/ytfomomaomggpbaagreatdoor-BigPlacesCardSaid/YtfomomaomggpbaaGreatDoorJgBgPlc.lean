/- append. -/
import Derived.Laws.AppendOwnNone
import Derived.Test.YtfomomaomggpbaaGreatDoorJgSrS
set_option linter.all false
namespace Go.Proofs.YtfomomaomggpbaaGreatDoor
open Go.RowKit Go.Shelf Go.Maps
section
variable {P:Program} (w:World)
theorem zdN (base:Nat)(t ty e:TypeId)(i:TypeInfo)(size:Nat)(ht:P.underlying t=some (.slice e))(hi:P.info? e=some i)
  (v:Value) (n:Nat) (xs:List Value) (Ha:w.ownsRow base e size v n xs) (c:Nat):
  (Builtin.append_ #[t,t] ty #[v,.slice none 0 c]).run P w= .ok v w:=by
 rcases Ha.2 with⟨rfl,rfl⟩|⟨g,cap,cur,rfl,_,_,Ve,_⟩
 ·simp[Builtin.append_,run_underlying ht,sizeOf,typeInfo,hi,Builtin.lenOf,Builtin.firstCells]
 ·simp[Builtin.append_,run_underlying ht,sizeOf,typeInfo,hi,Builtin.lenOf,Builtin.firstCells,Ve,storeCells]
theorem zeN {ops:Array Oper}{o:Oper}{a:Act}{K:Act->World->Prop}{Q:Exit->Act->World->Prop}{E:Prop}(TO:o.guard=none)(s x:Operand)(t:TypeId)
  (ho:o.op= .call {callee:= .builtin .append,args:= #[s,x],argTypes:= #[t,t]})
  (base:Nat) (e:TypeId) (i:TypeInfo) (z:Value) (size bytes:Nat) (ht:P.underlying t=some (.slice e)) (hi:P.info? e=some i) (hz:i.zero=some z)
  (KM:i.size=size) (PQ:i.bytes=bytes) (Qt:z.cells.size=size) (Hx:0 < size)
  (v:Value) (n:Nat) (xs:List Value) (hs:a.eval s=v) (Ha:w.ownsRow base e size v n xs)
  (A:Option Addr) (m c:Nat) (news:List Value) (hx:a.eval x= .slice A m c) (hA:A=none->m=0) (hl:news.length=m*size) (Gx:∀ad,A=some ad->∀j u,news[j]?=some u->w.cell? (ad.add j)=some u) (h1:∀u∈news,u.oneCell'=true)
  (S0:n+m<=maxLen) (Gf:(n+m)*bytes<=140737488355328) (MN:base<=w.heap.size)
  (h:∀v' w',w'.ownsRow base e size v' (n+m) (xs++news)->w.grownBy w' v.ownBlock->(v'.ownBlock=v.ownBlock\/v'.ownBlock=some w.heap.size)->K (a.put o.dst v') w'):
  if Region.wanted o (yielded ops a.tmps)=true then Oper.wp P o a w K Q else E:=by
 have hw:Region.wanted o (yielded ops a.tmps)=true:=by simp[Region.wanted,TO]
 rw[if_pos hw];cases A with
 |none=>
  obtain rfl:=hA rfl;have hn:news= []:=List.length_eq_zero_iff.1 (by rw[hl];omega);subst hn;have GL:=zdN (P:=P) (w:=w) base t o.type e i size ht hi v n xs Ha c;unfold Oper.wp;simp[execOp,ho,resolve,invoke,builtin,hs,hx,GL,Result.andThen];exact h v w (by simpa using Ha) (World.grownBy.refl _ _) (.inl rfl)
 |some ad=>
  obtain⟨v',w',hr,h2,h3,_,h5⟩:=run_append_own_at (P:=P) w base t o.type e i z size bytes ht hi hz KM PQ Qt Hx v n xs Ha ad m c news hl (Gx ad rfl) h1 S0 Gf MN;unfold Oper.wp execOp;simp only[ho,resolve,invoke,builtin,Sem.run_bind,Sem.run_pure,Result.andThen_ok,List.map_toArray,List.map_cons,List.map_nil,hs,hx,hr];exact h v' w' h2 h3 h5
end
theorem szbX:∀xs:Exs,szX xs->szX xs.bare
 | .nil,_=>trivial
 | .cons _ _ _ args _ r,⟨h0,h1,h2⟩=>⟨h0,szbX args h1,szbX r h2⟩
theorem szbC:∀xs:Cds,szC xs->szC xs.bare
 | .nil,_=>trivial
 | .cons _ args of_ _ r,⟨h1,h2,h3⟩=>⟨szbX args h1,szbC of_ h2,szbC r h3⟩
theorem szbS:∀xs:Sts,szS xs->szS xs.bare
 | .nil,_=>trivial
 | .cons _ _ args cond body els _ r,⟨h0,h1,h2,h3,h4,h5⟩=>⟨h0,szbX args h1,szbC cond h2,szbS body h3,szbS els h4,szbS r h5⟩
theorem szbT {t:Tre}(h:SzT t):SzT t.bare:=by
 refine⟨λx hx=>?_,λx hx=>?_,λx hx=>?_,szbS _ h.main⟩
 ·obtain⟨y,hy,rfl⟩:=List.mem_map.1 hx;exact h.vars y hy
 ·obtain⟨y,hy,rfl⟩:=List.mem_map.1 hx;exact h.arrays y hy
 ·obtain⟨y,hy,rfl⟩:=List.mem_map.1 hx;obtain⟨h1,h2,h3⟩:=h.procs y hy;refine⟨h1,λz hz=>?_,szbS _ h3⟩;obtain⟨v,hv,rfl⟩:=List.mem_map.1 hz;exact h2 v hv
def skS (xs:Sts):Sts:= .cons 1 ⟨#[]⟩ .nil .nil .nil .nil 0 xs
def Tre.skip (t:Tre):Tre:=⟨t.vars,t.arrays,t.procs,skS t.main⟩
theorem zl0 {t:Tre}(h:SzT t):SzT t.skip:=⟨h.vars,h.arrays,h.procs,⟨by decide,trivial,trivial,trivial,trivial,h.main⟩⟩
theorem zqm (xs:Sts):okS (skS xs)=okS xs:=by
 unfold skS;simp only[okS];rw[show(decide ((1:Int)<=1)&&decide ((1:Int)<=9)&&nmdB (tabA zaK 1).2.2.2 ⟨#[]⟩&&(decide ((tabA zaK 1).1 < 0) || (Exs.nil.len:Int)==(tabA zaK 1).1)&&((Cds.nil.len:Int)==(tabA zaK 1).2.2.1)&&((1:Int)==7 || (1:Int)==8 || Sts.nil.len==0)&&((1:Int)==7 || Sts.nil.len==0))=true from by kernel_rfl];simp[okX,okC,okS]
theorem zl1 (kn:Kn)(xs:Sts)(st:Int×Int):zaq kn (skS xs) st=zaq kn xs st:=by
 unfold skS;rw[zaq,zaq,zaq];rfl
theorem zjK (t:Tre):zbw t.skip=zbw t:=by
 have h1:okTr t.skip=okTr t:=by
  unfold okTr Tre.skip;simp only[zqm]
 unfold zbw;rw[h1];show(if okTr t=true then if fewT t=true then if(zam t.procs (zbd t)).2 =true then(zam t.procs (zbd t)).1.2 else zaq (zam t.procs (zbd t)).1.1 (skS t.main) (zam t.procs (zbd t)).1.2 else(0,4)else(0,8))=_
 rw[zl1]
theorem zhf (t:Tre)(n:Nat)(s:Int):bigE t.bare n s=bigE t n s:=by
 unfold bigE;rw[<-zpb t]
theorem zl2 {t:Tre}{n:Nat}{s:Int}(h:0<=s/\s<=2000):bigE t.skip n (s+1)=bigE t n s:=by
 unfold bigE;rw[zjK,if_neg (show ¬(s+1 < 0\/65536 < s+1)from by omega),if_neg (show ¬(s < 0\/65536 < s)from by omega)]
theorem znG (t:Tre)(script:List Int)(s:Int):bs0 t.bare script s=bs0 t script s:=by
 unfold bs0 Tre.bare;simp only[List.length_map,List.map_map];rfl
theorem zqn {t:Tre}(hz:SzT t)(script:List Int){s:Int}(hs:s<=2000):∃h u h' u',(bigE t script.length s=0->RunT (bnOf t) (.all [] t.main) (bs0 t script s) h u)/\
  (bigE t.bare script.length s=0->RunT (bnOf t.bare) (.all [] t.bare.main) (bs0 t.bare script s) (h.map Ho.bare) u)/\
  (bigE t.skip script.length (s+1)=0->RunT (bnOf t.skip) (.all [] t.skip.main) (bs0 t.skip script (s+1)) h' u')/\(bigE t script.length s=0->h'=h/\u'=u):=by
 obtain⟨h,u,h1⟩:=zol hz script.length s (bs0 t script s);have h2:bigE t.bare script.length s=0->RunT (bnOf t.bare) (.all [] t.bare.main) (bs0 t.bare script s) (h.map Ho.bare) u:=λe=>by
  rw[zhf]at e;have:=(h1 e).bare;rw[zlx,znG];exact this
 by_cases h0:bigE t script.length s=0
 ·refine⟨h,u,h,u,h1,h2,λe=>?_,λ_=>⟨rfl,rfl⟩⟩;have Gu:=(zfA h0).2.1;have r:=h1 h0;have e1:bs0 t script s={bs0 t script (s+1)with left:=s.toNat}:=rfl;rw[e1]at r;exact RunT.skip r (show(s+1).toNat =s.toNat+1 by omega) _ _ _ _ _ _
 ·obtain⟨h',u',h3⟩:=zol (zl0 hz) script.length (s+1) (bs0 t.skip script (s+1));exact⟨h,u,h',u',h1,h2,h3,λe=>absurd e h0⟩
theorem zhg {w:World}{S:Nat->Prop}{Z:Prop}:∀ {xs:Sts} {b o:Nat},StR w S Z xs b o->∃cs:List Value,cs.length=xs.len*7/\(∀j u,cs[j]?=some u->w.cell? ⟨b,o+j,none⟩=some u)/\∀u∈cs,u.oneCell'=true
 | .nil,_,_,_=>⟨[],rfl,λj u h=>by simp at h,λu h=>by simp at h⟩
 | .cons k nm args cond body els at_ r,b,o,⟨⟨hb,G6,r0,r1,h0,h1,h6⟩,⟨A2,c2,h2,s2⟩,⟨A3,c3,h3,s3⟩,⟨A4,c4,h4,s4⟩,⟨A5,c5,h5,s5⟩,hr⟩=>by
  obtain⟨cs,hl,hc,ho⟩:=zhg hr;refine⟨[.int .u8 k,.string nm,.slice A2 args.len c2,.slice A3 cond.len c3,.slice A4 body.len c4,.slice A5 els.len c5,.int .i64 at_]++cs,by simp[Sts.len,hl];omega,λj u hj=>?_,λu hu=>?_⟩
  ·rcases(show j=0\/j=1\/j=2\/j=3\/j=4\/j=5\/j=6\/7<=j from by omega)with rfl|rfl|rfl|rfl|rfl|rfl|rfl|h7
   ·cases hj;exact h0
   ·cases hj;exact h1
   ·cases hj;exact h2
   ·cases hj;exact h3
   ·cases hj;exact h4
   ·cases hj;exact h5
   ·cases hj;exact h6
   ·have:=hc (j - 7) u (by rw[List.getElem?_append_right (by simpa using h7)]at hj;simpa using hj)
    rwa [show o+7+(j - 7)=o+j from by omega]at this
  ·rcases List.mem_append.1 hu with h|h
   ·simp only[List.mem_cons,List.not_mem_nil,or_false]at h;rcases h with rfl|rfl|rfl|rfl|rfl|rfl|rfl<;>rfl
   ·exact ho u h
theorem ziE {w w':World}{S T:Nat->Prop}{Z:Prop}{g:Nat}(hs:SameS S w w')(PK:∀b,S b->T b)(hg:T g):∀ {xs:Sts} {b o o':Nat},StR w S Z xs b o->(∀j u,j < xs.len*7->w.cell? ⟨b,o+j,none⟩=some u->w'.cell? ⟨g,o'+j,none⟩=some u)->StR w' T False xs g o'
 | .nil,_,_,_,_,_=>trivial
 | .cons k nm args cond body els at_ r,b,o,o',⟨⟨hb,G6,r0,r1,h0,h1,h6⟩,⟨A2,c2,h2,s2⟩,⟨A3,c3,h3,s3⟩,⟨A4,c4,h4,s4⟩,⟨A5,c5,h5,s5⟩,hr⟩,hc=>by
  have hlen:(Sts.cons k nm args cond body els at_ r).len *7=7+r.len*7:=by simp[Sts.len];omega
  rw[hlen]at hc;refine⟨⟨hg,λh=>h.elim,r0,r1,hc 0 _ (by omega) h0,hc 1 _ (by omega) h1,hc 6 _ (by omega) h6⟩,⟨A2,c2,hc 2 _ (by omega) h2,s2.imp λ_ _ h=>ExR.more PK (ExR.keep hs h.lax)⟩,⟨A3,c3,hc 3 _ (by omega) h3,s3.imp λ_ _ h=>CdR.more PK (CdR.keep hs h.lax)⟩,⟨A4,c4,hc 4 _ (by omega) h4,s4.imp λ_ _ h=>StR.more PK (StR.keep hs h.lax)⟩,⟨A5,c5,hc 5 _ (by omega) h5,s5.imp λ_ _ h=>StR.more PK (StR.keep hs h.lax)⟩,?_⟩;refine ziE hs PK hg hr λj u hj hu=>?_;have:=hc (7+j) u (by omega) (by rwa [<-Nat.add_assoc])
  rwa [<-Nat.add_assoc]at this
def skipC:List Value:= [.int .u8 1,.string ⟨#[]⟩,.slice none 0 0,.slice none 0 0,.slice none 0 0,.slice none 0 0,.int .i64 0]
theorem znH {w w':World}{S T:Nat->Prop}{Z:Prop}{L:Nat}{v:Value}{xs:Sts}{Am:Option Addr}{cm:Nat}{cs:List Value}(hs:SameS S w w')(PK:∀b,S b->T b)(hT:∀g,L<=g->g < w'.heap.size->T g)(hx:SlR (StR w S Z xs) xs.len 128 Am cm)(hl:cs.length=xs.len*7)(hc:∀ad,Am=some ad->∀j u,cs[j]?=some u->w.cell? (ad.add j)=some u)
  (hb:(xs.len+1)*128<=140737488355328) (Hi:w'.ownsRow L 51 7 v (1+xs.len) (skipC++cs)):∃A c,v= .slice A (skS xs).len c/\SlR (StR w' T False (skS xs)) (skS xs).len 128 A c:=by
 have hlen:(skS xs).len =1+xs.len:=by simp[skS,Sts.len];omega
 rcases Hi.2 with⟨rfl,h0⟩|⟨g,cap,cur,rfl,Po,hg,hn,G7,Gp,ht⟩
 ·omega
 ·have GY:g < w'.heap.size:=(Array.getElem?_eq_some_iff.1 hg).1;have Ll:∀j,(⟨g,0,none⟩:Addr).add j=⟨g,0+j,none⟩:=λj=>by
   rw[Nat.zero_add];unfold Addr.add;split<;>simp_all
  have FE:∀j u,(skipC++cs)[j]?=some u->w'.cell? ⟨g,0+j,none⟩=some u:=λj u hj=>by
   have:=Hi.cells (g:=g) rfl j u hj
   rwa [Ll]at this
  refine⟨some ⟨g,0,none⟩,cap,by rw[hlen],⟨by rw[hlen];exact hn,⟨by unfold maxLen at G7;omega,by rw[hlen];omega⟩,λ_=>⟨g,0,rfl,?_⟩⟩⟩;refine⟨⟨hT g Po GY,λh=>h.elim,by unfold in8;omega,by unfold in64;omega,FE 0 _ rfl,FE 1 _ rfl,FE 6 _ rfl⟩,⟨none,0,FE 2 _ rfl,?_⟩,⟨none,0,FE 3 _ rfl,?_⟩,⟨none,0,FE 4 _ rfl,?_⟩,⟨none,0,FE 5 _ rfl,?_⟩,?_⟩
  ·exact⟨aL _,⟨by decide,by decide⟩,λh=>absurd h (by decide)⟩
  ·exact⟨aL _,⟨by decide,by decide⟩,λh=>absurd h (by decide)⟩
  ·exact⟨aL _,⟨by decide,by decide⟩,λh=>absurd h (by decide)⟩
  ·exact⟨aL _,⟨by decide,by decide⟩,λh=>absurd h (by decide)⟩
  ·by_cases h0:0 < xs.len
   ·obtain⟨b,o,e,hh⟩:=hx.2.2 h0;refine ziE hs PK (hT g Po GY) hh λj u hj hu=>?_;have RE:j < cs.length:=by omega
    have h1:=hc _ e j _ (List.getElem?_eq_getElem RE);have h2:(⟨b,o,none⟩:Addr).add j=⟨b,o+j,none⟩:=by unfold Addr.add;split<;>simp_all
    rw[h2,hu]at h1;have h3:=FE (7+j) u (by rw[List.getElem?_append_right (by simp[skipC]),show 7+j - skipC.length=j from by simp[skipC],List.getElem?_eq_getElem RE,h1]);rw[Nat.zero_add]at h3 ⊢;exact h3
   ·cases xs with
    |nil=>trivial
    |cons=>simp[Sts.len]at h0
theorem zjL {w:World}{S:Nat->Prop}{Z:Prop}{xs:Sts}{Am:Option Addr}{cm:Nat}(hx:SlR (StR w S Z xs) xs.len 128 Am cm):∃cs:List Value,cs.length=xs.len*7/\(∀ad,Am=some ad->∀j u,cs[j]?=some u->w.cell? (ad.add j)=some u)/\∀u∈cs,u.oneCell'=true:=by
 by_cases h0:0 < xs.len
 ·obtain⟨b,o,e,hh⟩:=hx.2.2 h0;obtain⟨cs,h1,h2,h3⟩:=zhg hh;refine⟨cs,h1,λad ha j u hj=>?_,h3⟩;have:ad=⟨b,o,none⟩:=Option.some.inj (ha.symm.trans e);subst this;have h4:(⟨b,o,none⟩:Addr).add j=⟨b,o+j,none⟩:=by unfold Addr.add;split<;>simp_all
  rw[h4];exact h2 j u hj
 ·cases xs with
  |nil=>exact⟨[],rfl,λad _ j u h=>by simp at h,λu h=>by simp at h⟩
  |cons=>simp[Sts.len]at h0
theorem zdx {P:Program}(w:World){ops:Array Oper}{rest:List Oper}{o:Oper}{a:Act}{Q:Exit->Act->World->Prop}(TO:o.guard=none)(s x:Operand)(t:TypeId)
  (ho:o.op= .call {callee:= .builtin .append,args:= #[s,x],argTypes:= #[t,t]})
  (base:Nat) (e:TypeId) (i:TypeInfo) (z:Value) (size bytes:Nat) (ht:P.underlying t=some (.slice e)) (hi:P.info? e=some i) (hz:i.zero=some z)
  (KM:i.size=size) (PQ:i.bytes=bytes) (Qt:z.cells.size=size) (Hx:0 < size)
  (v:Value) (n:Nat) (xs:List Value) (hs:a.eval s=v) (Ha:w.ownsRow base e size v n xs)
  (A:Option Addr) (m c:Nat) (news:List Value) (hx:a.eval x= .slice A m c) (hA:A=none->m=0) (hl:news.length=m*size) (Gx:∀ad,A=some ad->∀j u,news[j]?=some u->w.cell? (ad.add j)=some u) (h1:∀u∈news,u.oneCell'=true)
  (S0:n+m<=maxLen) (Gf:(n+m)*bytes<=140737488355328) (MN:base<=w.heap.size)
  (h:∀v' w',w'.ownsRow base e size v' (n+m) (xs++news)->w.grownBy w' v.ownBlock->(v'.ownBlock=v.ownBlock\/v'.ownBlock=some w.heap.size)->wpList P ops Q rest (a.put o.dst v') w'):wpList P ops Q (o::rest) a w:=
 wpList_plain TO λK hK=>by
  have:=zeN (P:=P) w (ops:=ops) (K:=K) (Q:=Q) (E:=True) TO s x t ho base e i z size bytes ht hi hz KM PQ Qt Hx v n xs hs Ha A m c news hx hA hl Gx h1 S0 Gf MN λv' w' h2 h3 h4=>hK _ _ (h v' w' h2 h3 h4)
  rwa [if_pos (by simp[Region.wanted,TO])]at this
