/- Plain laws of a tree without procedures, for its graph: its statements have edges; how many there may be. -/
import Derived.Test.YtmopichdofgndaaGreatDoorJnNo
import Derived.Test.YtmopichdofgndaaGreatDoorJgFg5
import Derived.Test.YtmopichdofgndaaGreatDoorJnInS
set_option linter.all false
namespace Go.Proofs.YtmopichdofgndaaGreatDoor
open Go.RowKit Go.Shelf Go.Maps
def wfI (M:Nat):Sts->Prop
 | .nil =>True
 | .cons k nm args cond body els _ r=>(1<=k/\k<=9)/\nm.size<=9223372036854775807/\szQ args/\(wfC cond/\szN cond<=M)/\(5<=k->k<=8->1<=cond.len)/\wfI M body/\wfI M els/\wfI M r
def cdM (M:Nat):Sts->Prop
 | .nil =>True
 | .cons _ _ _ cond body els _ r=>szN cond<=M/\cdM M body/\cdM M els/\cdM M r
structure CdT (M:Nat)(t:Tre):Prop where
 main:cdM M t.main
 procs:∀x∈t.procs,cdM M x.body
theorem zhv:∀ {xs:Exs},szX xs->szQ xs
 | .nil,_=>trivial
 | .cons _ _ _ _ _ _,⟨h1,h2,h3⟩=>⟨h1,zhv h2,zhv h3⟩
theorem zmT:∀k:Int,1<=k->k<=11->(k=9->(tabA zce k).2.1 =1)/\(k=10\/k=11->(tabA zce k).2.1 =2):=by
 intro k h1 h2;rcases(show k=1\/k=2\/k=3\/k=4\/k=5\/k=6\/k=7\/k=8\/k=9\/k=10\/k=11 from by omega)with rfl|rfl|rfl|rfl|rfl|rfl|rfl|rfl|rfl|rfl|rfl<;>decide
theorem zmU:∀k:Int,1<=k->k<=9->5<=k->k<=8->(tabA za3 k).2.2.1 =1:=by
 intro k h1 h2 h3 h4;rcases(show k=5\/k=6\/k=7\/k=8 from by omega)with rfl|rfl|rfl|rfl<;>decide
theorem zkf:∀ {xs:Cds},okC xs=true->szC xs->wfC xs
 | .nil,_,_=>trivial
 | .cons k args of_ at_ r,h,hz=>by
  simp only[okC,Bool.and_eq_true,decide_eq_true_eq,beq_iff_eq]at h;obtain⟨⟨⟨⟨⟨⟨h1,h2⟩,h3⟩,h4⟩,h5⟩,h6⟩,h7⟩:=h;obtain⟨z1,z2,z3⟩:=hz;have hs:=zmT k h1 h2;exact⟨⟨zhv z1,h1,h2,λe=>by have:=hs.1 e;omega,λe=>by have:=hs.2 e;omega⟩,zkf h6 z2,zkf h7 z3⟩
theorem zgg {M:Nat}:∀ {xs:Sts},okS xs=true->szS xs->cdM M xs->wfI M xs
 | .nil,_,_,_=>trivial
 | .cons k nm args cond body els at_ r,h,hz,hm=>by
  simp only[okS,Bool.and_eq_true,decide_eq_true_eq,beq_iff_eq]at h;obtain⟨⟨⟨⟨⟨⟨⟨⟨⟨⟨⟨h1,h2⟩,h3⟩,h4⟩,h5⟩,h6⟩,h7⟩,h8⟩,h9⟩,M0⟩,Vz⟩,RJ⟩:=h;obtain⟨z1,z2,z3,z4,z5,z6⟩:=hz;exact⟨⟨h1,h2⟩,z1,zhv z2,⟨zkf h9 z3,hm.1⟩,λa b=>by have:=zmU k h1 h2 a b;omega,zgg M0 z4 hm.2.1,zgg Vz z5 hm.2.2.1,zgg RJ z6 hm.2.2.2⟩
theorem zgT {M:Nat}:∀ {xs ys:Sts},wfI M xs->wfI M ys->wfI M (Sts.app xs ys)
 | .nil,_,_,h=>h
 | .cons _ _ _ _ _ _ _ _,_,⟨h1,h2,h3,h4,h5,h6,h7,h8⟩,h=>⟨h1,h2,h3,h4,h5,h6,h7,zgT h8 h⟩
def NmZ (n:Nms):Prop:=∀y b,n y=some b->b.size<=9223372036854775807
theorem zmo {n:Nms}(h:NmZ n){nm:ByteArray}(hs:nm.size<=9223372036854775807):(ofN n nm).size <=9223372036854775807:=by
 unfold ofN;cases e:n nm.data.toList with
 |none=>exact hs
 |some b=>exact h _ _ e
theorem zcJ {n:Nms}(h:NmZ n):∀ {xs:Exs},szQ xs->szQ (zar n xs)
 | .nil,_=>trivial
 | .cons k nm m args at_ r,⟨h1,h2,h3⟩=>⟨by split;exact zmo h h1;exact h1,zcJ h h2,zcJ h h3⟩
theorem zfq {n:Nms}(h:NmZ n):∀ {xs:Cds},wfC xs->wfC (zaJ n xs)
 | .nil,_=>trivial
 | .cons k args of_ at_ r,⟨⟨h1,h2,h3,h4,h5⟩,h6,h7⟩=>⟨⟨zcJ h h1,h2,h3,by rw[zaO];exact h4,by rw[zaO];exact h5⟩,zfq h h6,zfq h h7⟩
theorem zdZ (n:Nms):∀xs:Cds,szN (zaJ n xs)=szN xs
 | .nil =>rfl
 | .cons k args of_ at_ r=>by simp only[zaJ,szN,zdZ n of_,zdZ n r]
theorem zkg {p v:ByteArray}{c:Nat}(hp:p.size<=16)(hv:v.size<=16)(hc:c<=1000):(parN p c v).size <=9223372036854775807:=by
 have h3:=Lib.itoa_length_le (c:Int) (by omega) (by omega);have h4:(parN p c v).size =p.size+(((Lib.itoa (c:Int)).length +(v.size+1))+1):=by
  rw[<-zbl,zb1];simp only[List.length_append,List.length_cons,zbl]
 omega
theorem zhw {M:Nat}{p:ByteArray}{c:Nat}{n:Nms}{at_:Int}(hn:NmZ n)(hp:p.size<=16)(hc:c<=1000):∀ {vs:List Va} {xs:Exs},(∀v∈vs,v.nm.size<=16)->szQ xs->wfI M (zby p c n at_ vs xs)
 |v::vs,.cons k nm m a b r,hv,⟨h1,h2,h3⟩=>
  ⟨⟨by decide,by decide⟩,zkg hp (hv v (List.mem_cons_self ..)) hc,zcJ (xs:= .cons k nm m a b .nil) hn ⟨h1,h2,trivial⟩,⟨trivial,Nat.zero_le _⟩,λh=>absurd h (by decide),trivial,trivial,zhw hn hp hc (λv h=>hv v (List.mem_cons_of_mem _ h)) h3⟩
 |v::vs,.nil,_,_=>trivial
 | [],_,_,_=>by simp[zby,wfI]
theorem zkh {p:ByteArray}{c:Nat}(hp:p.size<=16)(hc:c<=1000):∀ {vs:List Va} {o:Nms},(∀v∈vs,v.nm.size<=16)->NmZ o->NmZ (ownN p c vs o)
 | [],o,_,h=>h
 |v::vs,o,hv,h=>zkh (vs:=vs) hp hc (λv h=>hv v (List.mem_cons_of_mem _ h)) λy b e=>by
  by_cases hy:y=v.nm.data.toList
  ·rw[if_pos hy]at e;cases e;exact zkg hp (hv v (List.mem_cons_self ..)) hc
  ·rw[if_neg hy]at e;exact h _ _ e
def znD (M:Nat)(call:ByteArray->Exs->Nms->Int->Ist->Sts×Ist):Prop:=∀nm args n at_ s,NmZ n->szQ args->s.calls<=s.many->s.many<=256->wfI M (call nm args n at_ s).1
theorem zcW {M:Nat}{call:ByteArray->Exs->Nms->Int->Ist->Sts×Ist}(hc:znD M call)(hw:∀nm args n at_ s,NewsP s (call nm args n at_ s).2):∀(xs:Sts)(n:Nms)(s:Ist),wfI M xs->NmZ n->s.calls<=s.many->wfI M (inlS call xs n s).1
 | .nil,n,s,_,_,_=>trivial
 | .cons k nm args cond body els at_ r,n,s,⟨⟨k1,k2⟩,h2,h3,⟨h4,YP⟩,h5,h6,h7,h8⟩,hn,hs=>by
  unfold inlS;split
  ·exact trivial
  rename_i hf;unfold zaT at hf;simp only[Bool.or_eq_true,decide_eq_true_eq,not_or,Nat.not_lt]at hf;split
  ·have hm:=(hw nm args n at_ s);exact zgT (hc _ _ _ _ _ hn h3 hs hf.1) (zcW hc hw r n _ h8 hn (by have:=hm.1;have:=hm.2.1;omega))
  ·rename_i hk;have a:=zbh hw body n ⟨s.calls,s.vars,s.many+1⟩;have b:=zbh hw els n (inlS call body n ⟨s.calls,s.vars,s.many+1⟩).2;have a1:=a.1;have a2:=a.2.1;have b1:=b.1;have b2:=b.2.1;simp only at a1 a2;refine⟨⟨k1,k2⟩,by split;exact h2;exact zmo hn h2,zcJ hn h3,⟨zfq hn h4,by rw[zdZ];exact YP⟩,λx y=>by rw[zaO];exact h5 x y,zcW hc hw body n _ h6 hn (by show s.calls<=s.many+1;omega),zcW hc hw els n _ h7 hn (by omega),zcW hc hw r n _ h8 hn (by omega)⟩
def zmp (M:Nat)(procs:List UInt8->Option Prc):Prop:=∀y x,procs y=some x->wfI M x.body
theorem zlC {M:Nat}{procs:List UInt8->Option Prc}(hp:zdV procs)(hq:zmp M procs){stm:Sts->Nms->Ist->Sts×Ist}(hs:∀xs n s,wfI M xs->NmZ n->s.calls<=s.many->wfI M (stm xs n s).1):znD M (zcR procs stm):=by
 intro nm args n at_ s hn ha Wu GW;unfold zcR;cases e:procs nm.data.toList with
 |none=>exact trivial
 |some x=>
  obtain⟨h1,h2,Gh,Gn⟩:=hp _ _ e;refine zgT (M:=M) ⟨⟨by decide,by decide⟩,by show(0:Nat)<=_;omega,trivial,⟨trivial,Nat.zero_le _⟩,λh=>absurd h (by decide),trivial,trivial,zhw hn Gh (by omega) Gn ha⟩ (hs x.body _ _ (hq _ _ e) (zkh Gh (by omega) Gn (λy b h=>by cases h)) (by show s.calls+1<=s.many+(x.params.length+1);omega))
theorem zki {M:Nat}{procs:List UInt8->Option Prc}(hp:zdV procs)(hq:zmp M procs):∀(f:Nat)(xs:Sts)(n:Nms)(s:Ist),wfI M xs->NmZ n->s.calls<=s.many->wfI M (inlF procs f xs n s).1
 |0,xs,n,s,h,hn,hs=>zcW (call:=λ_ _ _ _ s=>(.nil,s)) (λ_ _ _ _ _ _ _ _ _=>trivial) (λ_ _ _ _ s=>NewsP.refl s) xs n s h hn hs
 |f+1,xs,n,s,h,hn,hs=>zcW (zlC hp hq (λxs n s=>zki hp hq f xs n s)) (zeD hp (zdW hp f)) xs n s h hn hs
theorem zhx {M:Nat}:∀ {xs:Sts},wfI M xs->anyS xs=false->wfS xs
 | .nil,_,_=>trivial
 | .cons k nm args cond body els at_ r,⟨⟨k1,k2⟩,h2,h3,⟨h4,_⟩,h5,h6,h7,h8⟩,ha=>by
  simp only[anyS,Bool.or_eq_false_iff,beq_eq_false_iff_ne,ne_eq]at ha;obtain⟨⟨⟨a1,a2⟩,a3⟩,a4⟩:=ha;exact⟨⟨k1,by omega⟩,h2,h3,h4,λh=>h5 h (by omega),zhx h6 a1,zhx h7 a2,zhx h8 a4⟩
theorem zhy {M:Nat}:∀ {xs:Sts},wfI M xs->szT xs<=cntS xs*(9+M)
 | .nil,_=>by simp[szT,cntS]
 | .cons k nm args cond body els at_ r,⟨_,_,_,⟨_,h4⟩,_,h6,h7,h8⟩=>by
  have a:=zhy h6;have b:=zhy h7;have c:=zhy h8;simp only[szT,szM,cntS,Nat.add_mul,Nat.one_mul];omega
theorem znE {M:Nat}{t:Tre}(h:OkT t)(hz:SzT t)(hm:CdT M t)(hf:zaT (inlQ t).2 =false):wfS (inlQ t).1 /\szT (inlQ t).1 <=256*(9+M):=by
 have ht:=h.tree;unfold okTr okPs zbm at ht;simp only[Bool.and_eq_true,List.all_eq_true]at ht;have hw:wfI M (inlQ t).1 :=zki (zho h) (λy x e=>by
  obtain⟨hx,_⟩:=zbd e;exact zgg (ht.2 x hx).2 (hz.procs x hx).2.2 (hm.procs x hx)) t.procs.length t.main _ _ (zgg ht.1.1.2 hz.main hm.main) (λy b e=>by cases e) (lrq 0)
 obtain⟨h1,h2,_⟩:=zfh h hf;exact⟨zhx hw h1,leq9 (zhy hw) (Nat.mul_le_mul_right _ h2)⟩
open Go.RowKit Go.Shelf
def IsR (w:World)(S:Nat->Prop)(l:List Int)(b o:Nat):Prop:=S b/\∀(i:Nat)(n:Int),l[i]?=some n->w.cell? ⟨b,o+i,none⟩=some (.int .i64 n)/\in64 n
def EgR (w:World)(S:Nat->Prop):List Ed->Nat->Nat->Prop
 | [],_,_=>True
 |e::r,b,o=>
  (S b/\e.ok/\w.cell? ⟨b,o,none⟩=some (.int .i64 e.from_)/\w.cell? ⟨b,o+1,none⟩=some (.int .i64 e.to_)/\w.cell? ⟨b,o+2,none⟩=some (.int .u8 e.kind)/\w.cell? ⟨b,o+3,none⟩=some (.int .i64 e.n)/\w.cell? ⟨b,o+4,none⟩=some (.int .u8 e.cmp)/\w.cell? ⟨b,o+6,none⟩=some (.int .i64 e.at_))/\
   (∃A c,w.cell? ⟨b,o+5,none⟩=some (.slice A e.args.len c)/\SlR (λb o=>ExR w S True e.args b o) e.args.len 64 A c)/\EgR w S r b (o+7)
structure GrR (w:World)(S:Nat->Prop)(g:Gr)(Aa:Option Addr)(ca:Nat)(Ae:Option Addr)(ce:Nat):Prop where
 arrays:SlR (λb o=>IsR w S g.arrays b o) g.arrays.length 8 Aa ca
 edges:SlR (λb o=>EgR w S g.edges b o) g.edges.length 72 Ae ce
 ok:g.ok
section
variable {w w':World} {S T:Nat->Prop}
theorem IsR.keep (h:SameS S w w'){l:List Int}{b o:Nat}(hx:IsR w S l b o):IsR w' S l b o:=
 ⟨hx.1,λi n hi=>⟨((h ⟨b,o+i,none⟩ hx.1).1).trans (hx.2 i n hi).1,(hx.2 i n hi).2⟩⟩
theorem IsR.more (h:∀b,S b->T b){l:List Int}{b o:Nat}(hx:IsR w S l b o):IsR w T l b o:=⟨h _ hx.1,hx.2⟩
theorem EgR.keep (h:SameS S w w'):∀ {l:List Ed} {b o:Nat},EgR w S l b o->EgR w' S l b o
 | [],_,_,_=>trivial
 |e::r,b,o,⟨⟨hb,h0,h1,h2,h3,h4,h5,h6⟩,⟨A,c,h7,h8⟩,hr⟩=>by
  have hh:=λi=>(h ⟨b,i,none⟩ hb).1;exact⟨⟨hb,h0,(hh _).trans h1,(hh _).trans h2,(hh _).trans h3,(hh _).trans h4,(hh _).trans h5,(hh _).trans h6⟩,⟨A,c,(hh _).trans h7,h8.imp λ_ _ hx=>ExR.keep h hx⟩,EgR.keep h hr⟩
theorem EgR.more (h:∀b,S b->T b):∀ {l:List Ed} {b o:Nat},EgR w S l b o->EgR w T l b o
 | [],_,_,_=>trivial
 |e::r,b,o,⟨⟨hb,h0⟩,⟨A,c,h7,h8⟩,hr⟩=>⟨⟨h _ hb,h0⟩,⟨A,c,h7,h8.imp λ_ _ hx=>ExR.more h hx⟩,EgR.more h hr⟩
theorem GrR.keep {g:Gr}{Aa Ae:Option Addr}{ca ce:Nat}(h:SameS S w w')(hx:GrR w S g Aa ca Ae ce):GrR w' S g Aa ca Ae ce:=
 ⟨hx.arrays.imp λ_ _ hx=>hx.keep h,hx.edges.imp λ_ _ hx=>EgR.keep h hx,hx.ok⟩
theorem ExR.exAt {B:Nat}{Z:Prop}(hS:∀b,S b->b < B):∀ {xs:Exs} {b o:Nat},ExR w S Z xs b o->ExAt w B xs b o
 | .nil,_,_,_=>trivial
 | .cons k nm n args at_ r,b,o,⟨⟨hb,_,r0,r1,r2,h0,h1,h2,h4⟩,⟨A,c,h3,hl,hc,hs⟩,hr⟩=>
  ⟨hS _ hb,h0,h1,h2,⟨A,c,h3,hl,hc.1,λhp=>by
   obtain⟨b',o',e,hx⟩:=hs hp;exact⟨b',o',e,ExR.exAt hS hx⟩⟩,h4,r0,r1,r2,ExR.exAt hS hr⟩
theorem EgR.at_ {B:Nat}(hS:∀b,S b->b < B):∀ {l:List Ed} {b o:Nat},EgR w S l b o->EdAt w B l b o
 | [],_,_,_=>trivial
 |e::r,b,o,⟨⟨hb,h0,h1,h2,h3,h4,h5,h6⟩,⟨A,c,h7,hl,hc,hs⟩,hr⟩=>
  ⟨hS _ hb,h1,h2,h3,h4,h5,⟨A,c,h7,hl,hc.1,λhp=>by
   obtain⟨b',o',e,hx⟩:=hs hp;exact⟨b',o',e,ExR.exAt hS hx⟩⟩,h6,h0,EgR.at_ hS hr⟩
theorem GrR.grSl {g:Gr}{Aa Ae:Option Addr}{ca ce B:Nat}(hS:∀b,S b->b < B)(hx:GrR w S g Aa ca Ae ce):GrSl w B g Aa ca Ae ce:=
 ⟨⟨hx.arrays.1,hx.arrays.2.1.1,λhp=>by
  obtain⟨b,o,e,h⟩:=hx.arrays.2.2 hp;exact⟨b,o,e,hS _ h.1,h.2⟩⟩,⟨hx.edges.1,hx.edges.2.1.1,λhp=>by
  obtain⟨b,o,e,h⟩:=hx.edges.2.2 hp;exact⟨b,o,e,h.at_ hS⟩⟩⟩
theorem znF {g:Nat}(hg:S g):∀ {l:List Ed} {cs:List Value} {o:Nat},RowR oneE w S l cs->(∀j u,cs[j]?=some u->w.cell? ⟨g,o+j,none⟩=some u)->EgR w S l g o
 | [],_,_,_,_=>trivial
 |e::r,cs,o,h,hc=>by
  obtain⟨ys,DW,e1,⟨A,c,e2,h1,h2⟩,h5⟩:=h;subst e2;subst e1;refine⟨⟨hg,h1,hc 0 _ rfl,hc 1 _ rfl,hc 2 _ rfl,hc 3 _ rfl,hc 4 _ rfl,hc 6 _ rfl⟩,⟨A,c,hc 5 _ rfl,h2⟩,znF hg h5 λj u hj=>?_⟩;have:=hc (7+j) u (by rw[List.getElem?_append_right (by simp)];simpa using hj);rw[<-Nat.add_assoc]at this;exact this
theorem zeJ {L:Nat}{v:Value}{l:List Ed}{cs:List Value}(hr:w.ownsRow L 62 7 v l.length cs)(hx:RowR oneE w (NewR L v w) l cs)(Ht:l.length*72<=140737488355328):
  ∃A c,v= .slice A l.length c/\SlR (λb o=>EgR w (New L w) l b o) l.length 72 A c:=
 RowR.slice zbi hr hx Ht λg hg hr hc=>znF hg.1 hr λj u hj=>by rw[Nat.zero_add];exact hc j u hj
theorem zeK {L:Nat}{v:Value}{l:List Int}(h:w.ownsRow L 3 1 v l.length (l.map (Value.int .i64)))(x7:∀n∈l,in64 n)(Ht:l.length*8<=140737488355328):∃A c,v= .slice A l.length c/\SlR (λb o=>IsR w (New L w) l b o) l.length 8 A c:=by
 have Hg:=h;obtain⟨hl,h|⟨g,cap,cur,rfl,hb,hg,hn,hc,hs,ht⟩⟩:=h
 ·obtain⟨rfl,h0⟩:=h;exact⟨none,0,by rw[h0],by rw[h0];exact⟨lrq _,⟨by decide,by omega⟩,λh=>absurd h (Nat.lt_irrefl 0)⟩⟩
 ·have Nr:g < w.heap.size:=(Array.getElem?_eq_some_iff.1 hg).1;refine⟨some ⟨g,0,none⟩,cap,rfl,hn,⟨by simpa[maxLen]using hc,Ht⟩,λ_=>⟨g,0,rfl,⟨hb,Nr⟩,λi n hi=>?_⟩⟩;have XM:=(List.getElem?_eq_some_iff.1 hi).1;have hc:=Hg.cellAt i (by omega);exact⟨by rw[Nat.zero_add,hc,List.getElem?_map,hi];rfl,x7 n (List.mem_of_getElem? hi)⟩
end
def noGr:Gr:=⟨0, [],0,0,0, []⟩
def graT (t:Tre):Gr×Int:=
 if(inlT t).2 =0 then
  (if 2048 < (grF (inlT t).1).edges.length \/4096 < (grF (inlT t).1).nodes then(noGr,9)else(⟨(inlT t).1.vars.length,(inlT t).1.arrays.map (·.size),(grF (inlT t).1).nodes,0,1,(grF (inlT t).1).edges⟩,0))
 else(noGr,(inlT t).2)
def GraP (r:Gr×Int)(W:World)(e:Ending)(w':World):Prop:=
 ∃Aa Ae ca ce,e= .returned (.tuple #[grV r.1.vars Aa r.1.arrays.length ca r.1.nodes r.1.start r.1.last Ae r.1.edges.length ce,.int .i64 r.2])/\GrR w' (New W.heap.size w') r.1 Aa ca Ae ce/\Fr NoT W w'
theorem zhz {w w':World}(hf:Fr NoT w w')(h:Lib.TabIs Tryz.prog w "internal/strconv.uint64pow10" .u64 Lib.pow10Tab):Lib.TabIs Tryz.prog w' "internal/strconv.uint64pow10" .u64 Lib.pow10Tab:=by
 unfold Lib.TabIs at h ⊢;exact zcp hf.plain h
theorem zcX (w:World)(S:Nat->Prop):GrR w S noGr none 0 none 0:=
 ⟨⟨lrq _,by decide,λh=>absurd h (by decide)⟩,⟨lrq _,by decide,λh=>absurd h (by decide)⟩,by unfold Gr.ok in64 noGr;decide⟩
theorem zeL (l:List (List UInt8))(x t:List UInt8):zaS (l++ [x]) t=if t=x then some (l.length:Int)else zaS l t:=by
 unfold zaS;rw[List.zipIdx_append,List.reverse_append];by_cases e:t=x
 ·subst e;simp
 ·have e2:(x==t)=false:=by
   rw[beq_eq_false_iff_ne];exact λh=>e h.symm
  simp[e,e2]
theorem zlD:∀ {l:List (List UInt8)} {t:List UInt8} {n:Int},zaS l t=some n->0<=n/\n < l.length:=by
 intro l t n h;unfold zaS at h;obtain⟨x,hx,rfl⟩:=Option.map_eq_some_iff.1 h;have h1:=List.mem_of_find?_eq_some hx;rw[List.mem_reverse]at h1;have h2:=List.mem_zipIdx h1;omega
theorem zdj (l:List (List UInt8))(hl:l.length<=1000000):NoR (zaS l):=λs=>by
 unfold NoN.get;cases e:zaS l s.data.toList with
 |none=>exact⟨by decide,by decide⟩
 |some n=>
  have:=zlD e;exact⟨by show(-9223372036854775808:Int)<=n;omega,by show n<=9223372036854775807;omega⟩
structure InlOk (t:Tre):Prop where
 wf:wfS (inlT t).1.main
 few:szT (inlT t).1.main <=900000000000
 vars:(∀v∈(inlT t).1.vars,v.nm.size<=9223372036854775807)/\(inlT t).1.vars.length <=32
 arrays:(∀v∈(inlT t).1.arrays,v.nm.size<=9223372036854775807)/\(inlT t).1.arrays.length <=4
theorem zkj {M:Nat}{t:Tre}(hz:SzT t)(hm:CdT M t)(hM:M<=1000000000)(h:(inlT t).2 =0):InlOk t:=by
 unfold inlT at h;split at h
 ·rename_i h0;split at h
  ·exact absurd h (by decide)
  ·rename_i hf;have G9:=zc9 h0;have hf:zaT (inlQ t).2 =false:=by simpa using hf
   have e:inlT t=(⟨(inlQ t).2.vars,t.arrays, [],(inlQ t).1⟩,0):=by
    unfold inlT;rw[if_pos h0,if_neg (by rw[hf];decide)]
   obtain⟨h1,h2,h3,news,h4,h5,h6,h7⟩:=zfh G9 hf;have hw:=znE G9 hz hm hf;have M2:=G9.few;unfold fewT at M2;simp only[Bool.and_eq_true,decide_eq_true_eq]at M2;have Ql:∀v∈(inlQ t).2.vars,v.nm.size<=9223372036854775807:=λv hv=>by
    have hv:v∈t.vars++news:=h4▸hv;rcases List.mem_append.1 hv with hv|hv
    ·exact hz.vars v hv
    ·have:=h7 v hv;omega
   exact⟨by rw[e];exact hw.1,by rw[e];exact leq9 hw.2 (by omega),by rw[e];exact⟨Ql,h3⟩,by rw[e];exact⟨hz.arrays,by show t.arrays.length<=4;omega⟩⟩
 ·rename_i h0;exact absurd h h0
theorem zlE (w:World)(m:Array Value)(ty:TypeId):Bk (((w.alloc (.map #[] 0)).alloc (.map #[] 0)).alloc (.cells m ty)) (w.heap.size+2) ty m:=Bk.new_at _ _ _ (by simp)
theorem NoM.made (w:World):NoM (w.alloc (.map #[] 0)) w.heap.size 0 (zaS []):=MpV.made w
theorem NoM.snoc {w':World}{b n:Nat}{l:List (List UInt8)}{x:List UInt8}(h:MpV w' b n λy=>if y=x then some (.int .i64 l.length)else(zaS l y).map (.int .i64)):NoM w' b n (zaS (l++ [x])):=by
 unfold NoM;have e:(λt=>(zaS (l++ [x]) t).map (Value.int .i64))=λy=>if y=x then some (.int .i64 l.length)else(zaS l y).map (.int .i64):=by
  funext y
  rw[zeL];split<;>rfl
 rw[e];exact h
theorem zip {l:List Va}{k:Nat}{x:Va}{r:List Va}(hd:l.drop k=x::r):(l.take (k+1)).map (·.nm.data.toList)=(l.take k).map (·.nm.data.toList)++ [x.nm.data.toList]:=by
 have h1:=List.take_add_one (l:=l) (i:=k);have h2:l[k]?=some x:=by
  have:=congrArg List.head? hd;rw[List.head?_drop]at this;exact this
 rw[h1,h2];simp
theorem zcY {l:List Arr}{k:Nat}{x:Arr}{r:List Arr}(hd:l.drop k=x::r):(l.take (k+1))=(l.take k)++ [x]:=by
 have h1:=List.take_add_one (l:=l) (i:=k);have h2:l[k]?=some x:=by
  have:=congrArg List.head? hd;rw[List.head?_drop]at this;exact this
 rw[h1,h2];rfl
theorem zhA:(Tryz.prog.info? 3).map (λi=>(i.zero,i.size,i.bytes))=some (some (.int .i64 0),1,8):=by kernel_rfl
theorem zc2:(Tryz.prog.info? 53).map (·.size)=some 6:=by kernel_rfl
def GrS8 (M m o:Nat)(mp:Nat)(nm:ByteArray)(W:World):Prop:=M < W.heap.size/\m < W.heap.size/\W.cell? ⟨M,o,none⟩=some (.map (some mp))/\W.cell? ⟨m,0,none⟩=some (.string nm)
def zfr (M m:Nat)(sl:Value)(n:Int)(W:World):Prop:=M < W.heap.size/\m < W.heap.size/\W.cell? ⟨M,1,none⟩=some sl/\W.cell? ⟨m,1,none⟩=some (.int .i64 n)
structure GrI1 (mS:Nat)(vars:List Va)(w4 wr:World)(k:Nat):Prop where
 map:NoM wr mS k (zaS ((vars.take k).map (·.nm.data.toList)))
 fr:Fr (λi=>i=mS) w4 wr
structure GrI2 (B M mA:Nat)(cs:Value->Array Value)(arrays:List Arr)(w5 wr:World)(k:Nat)(sl:Value):Prop where
 map:NoM wr mA k (zaS ((arrays.take k).map (·.nm.data.toList)))
 bk:Bk wr M 134 (cs sl)
 row:wr.ownsRow (M+1) 3 1 sl k ((arrays.take k).map λa=>Value.int .i64 a.size)
 fr:Fr (λi=>i=mA\/i=M\/M+1<=i) w5 wr
theorem zkk {w:World}{S:Nat->Prop}{Z:Prop}:∀ {l:List Arr} {b o:Nat},ArR w S Z l b o->∀a∈l,in64 a.size
 | [],_,_,_,_,h=>by simp at h
 |x::r,b,o,h,a,ha=>by
  rcases List.mem_cons.1 ha with rfl|ha
  ·exact h.1.2.2.1
  ·exact zkk h.2 a ha
set_option maxRecDepth 100000 in
set_option maxHeartbeats 6400000 in
theorem zlF (t:Tre)(w:World)(Av Aa Ap Am:Option Addr)(cv ca cp cm:Nat)(Gb:∀w1,Fr NoT w w1->Calls Tryz.prog 8 #[trV t Av Aa Ap Am cv ca cp cm] w1 (InlP (inlT t) w1))(G9:(inlT t).2 =0->(∀C,FBlk C (inlT t).1.main)/\szT (inlT t).1.main <=900000000000/\((∀v∈(inlT t).1.vars,v.nm.size<=9223372036854775807)/\(inlT t).1.vars.length <=32)/\(∀v∈(inlT t).1.arrays,v.nm.size<=9223372036854775807)/\(inlT t).1.arrays.length <=4):
  Calls Tryz.prog 19 #[trV t Av Aa Ap Am cv ca cp cm] w (GraP (graT t) w):=by
 obtain⟨w1,Hc⟩:=nmq ((w.alloc (.cells #[.slice Av t.vars.length cv,.slice Aa t.arrays.length ca,.slice Ap t.procs.length cp,.slice Am t.main.len cm] 27)).alloc (.cells #[.int .i64 0,.slice none 0 0,.int .i64 0,.int .i64 0,.int .i64 0,.slice none 0 0] 53));have Hi:Fr NoT w w1:=by rw[Hc];exact((Fr.refl _ _).alloc _).alloc _
 have kk:=zhu w #[.slice Av t.vars.length cv,.slice Aa t.arrays.length ca,.slice Ap t.procs.length cp,.slice Am t.main.len cm] #[.int .i64 0,.slice none 0 0,.int .i64 0,.int .i64 0,.int .i64 0,.slice none 0 0] 27 53;rw[<-Hc]at kk;replace Gb:=Gb w1 Hi;unfold trV at Gb ⊢;obtain⟨n1,Gk⟩:=nmq t.vars.length;obtain⟨n2,Gu⟩:=nmq t.arrays.length;obtain⟨n3,GJ⟩:=nmq t.procs.length;obtain⟨n4,GV⟩:=nmq t.main.len;rw[<-Gk,<-Gu,<-GJ,<-GV]at Gb Hc kk ⊢;obtain⟨R,hR⟩:=nmq (graT t);rw[<-hR];unfold graT at hR;generalize inlT t=X at Gb hR G9;obtain⟨x,er⟩:=X;unfold InlP at Gb;simp only at hR G9;obtain⟨m1,Rx⟩:=nmq x.vars.length;obtain⟨m2,Fg⟩:=nmq x.arrays.length;obtain⟨m3,JF⟩:=nmq x.procs.length;obtain⟨m4,Nk⟩:=nmq x.main.len;obtain⟨V,hV⟩:=nmq (Value.int .i64 er);have Gs:=hdq (show Calls Tryz.prog 8 _ w1 (λe w'=>∃Av Aa Ap Am cv ca cp cm,e= .returned (.tuple #[.agg #[.slice Av m1 cv,.slice Aa m2 ca,.slice Ap m3 cp,.slice Am m4 cm],V])/\TrR w' (New w1.heap.size w') True x Av Aa Ap Am cv ca cp cm/\Fr NoT w1 w')from by
  rw[Rx,Fg,JF,Nk,hV];exact Gb)
 have HV:=hdq hV;have HM:=hdq (aiq Rx (aiq Fg (aiq JF Nk)));have PL:=hdq G9;have HR:=hdq hR;have Ga:=hdq Hc;have Hn:=hdq Hi;have Nq:=hdq kk.1;have Gv:=hdq kk.2;have Rc:=hdq (show w1.heap.size=w.heap.size+2 from by rw[Hc];simp);clear Gb G9 hR Hc Hi kk Gk Gu GJ GV Rx Fg JF Nk hV;go_enter Tryz.func19,Tryz.ntmps19;go_wp2_with fail;rw[<-Ga.out];go_at_call 8;refine Gs.mono ?_;rintro _ w2 ⟨Bv,Ba,Bp,Bm,dv,da,dp,dm,rfl,hT,Gd⟩;have JP:=Nq.fr0 Gd;have Hp:=Gv.fr0 Gd;have z0:=JP.frozen 0;have z1:=JP.frozen 1;have z2:=JP.frozen 2;have z3:=JP.frozen 3;have y0:=JP.cell 0;have y1:=JP.cell 1;have y2:=JP.cell 2;have y3:=JP.cell 3;have yl:=JP.lt;simp only[getsL]at y0 y1 y2 y3;obtain⟨w3,F3⟩:=nmq ((((w2.setCell ⟨w.heap.size,0,none⟩ (.slice Bv m1 dv)).setCell ⟨w.heap.size,1,none⟩ (.slice Ba m2 da)).setCell ⟨w.heap.size,2,none⟩ (.slice Bp m3 dp)).setCell ⟨w.heap.size,3,none⟩ (.slice Bm m4 dm));have GH:Fr (λi=>i=w.heap.size) w2 w3:=by rw[F3];exact Fr.own (Fr.own (Fr.own (Fr.own (Fr.refl _ _) _ _) _ _) _ _) _ _
 have Hw:Bk w3 w.heap.size 27 #[.slice Bv m1 dv,.slice Ba m2 da,.slice Bp m3 dp,.slice Bm m4 dm]:=by
  have:=(((JP.set_ 0 (.slice Bv m1 dv)).set_ 1 (.slice Ba m2 da)).set_ 2 (.slice Bp m3 dp)).set_ 3 (.slice Bm m4 dm);rw[F3];simpa using this
 have gG:Bk w3 (w.heap.size+1) 53 #[.int .i64 0,.slice none 0 0,.int .i64 0,.int .i64 0,.int .i64 0,.slice none 0 0]:=Hp.fr GH (λe=>by have e:w.heap.size+1=w.heap.size:=e;omega);have GQ:Fr NoT w w3:=Fr.thenT (Hn.trans Gd) GH λi hi e=>by have e:i=w.heap.size:=e;omega
 have yH:TrR w3 (New w1.heap.size w3) True x Bv Ba Bp Bm dv da dp dm:=TrR.more (λb hb=>⟨hb.1,ltq hb.2 GH.size⟩) (hT.keep (GH.same λb hb=>⟨hb.2,λe=>by have e:b=w.heap.size:=e;have:=hb.1;have:=Rc.out;omega⟩));have L9:w.heap.size+2<=w3.heap.size:=by have:=Rc.out;have:=Gd.size;have:=GH.size;omega
 have Q5:=hdq yH;have F5:=hdq Hw;have KD:=hdq gG;have Gc:=hdq GQ;have Rf:=hdq F3;have Rj:=hdq L9;clear hT Gd JP Hp F3 GH Hw gG GQ yH L9 Nq Gv Gs;go_wp2_with fail;rw[<-Rf.out];clear y0 y1 y2 y3 z0 z1 z2 z3 yl;have hV:=HV.out;subst hV;by_cases h0:er=0
 ·subst h0;have FG:=hdq (PL rfl);have qj:=hdq (show R=(if 2048 < (grF x).edges.length \/4096 < (grF x).nodes then(noGr,9)else(⟨x.vars.length,x.arrays.map (·.size),(grF x).nodes,0,1,(grF x).edges⟩,0))from by rw[HR.out,if_pos rfl]);clear PL HR;have qk:m1<=9223372036854775807:=by have:=FG.2.2.1.2;have:=HM.1;omega
  have qm:m2<=9223372036854775807:=by have:=FG.2.2.2.2;have:=HM.2.1;omega
  have Pj:= @run_makeMap Tryz.prog;obtain⟨w4,G7⟩:=nmq (((w3.alloc (.map #[] 0)).alloc (.map #[] 0)).alloc (.cells #[.int .i64 m1,.slice none 0 0,.int .i64 2,.int .i64 0,.int .i64 1,.slice none 0 0,.map (some w3.heap.size),.map (some (w3.heap.size+1))] 134));have GB:Fr NoT w3 w4:=by rw[G7];exact(((Fr.refl _ _).alloc _).alloc _).alloc _
  have LQ:Bk w4 (w3.heap.size+2) 134 #[.int .i64 m1,.slice none 0 0,.int .i64 2,.int .i64 0,.int .i64 1,.slice none 0 0,.map (some w3.heap.size),.map (some (w3.heap.size+1))]:=by rw[G7];exact zlE _ _ _
  have Qz:NoM w4 w3.heap.size 0 (zaS []):=by
   rw[G7];exact((NoM.made w3).fr ((Fr.refl NoT _).alloc _) id).fr ((Fr.refl NoT _).alloc _) id
  have Re:NoM w4 (w3.heap.size+1) 0 (zaS []):=by
   rw[G7];have:=(NoM.made (w3.alloc (.map #[] 0))).fr ((Fr.refl NoT _).alloc (.cells #[.int .i64 m1,.slice none 0 0,.int .i64 2,.int .i64 0,.int .i64 1,.slice none 0 0,.map (some w3.heap.size),.map (some (w3.heap.size+1))] 134)) id;simpa using this
  have t0:=F5.cell 0;have tl:=F5.lt;have u0:=(F5.fr0 GB).cell 0;have ul:=(F5.fr0 GB).lt;simp only[getsL]at t0 u0;have Tb:w4.heap.size=w3.heap.size+3:=by rw[G7];simp
  rw[G7]at u0 ul;have LU:=hdq G7;have GL:=hdq GB;have Ks:=hdq LQ;have WJ:=hdq Re;have Dz:=hdq Tb;have ZC:=hdq (show GrI1 w3.heap.size x.vars w4 w4 0 from⟨Qz,Fr.refl _ _⟩);clear G7 GB LQ Qz Re Tb;go_wp2_with fail;rw[<-LU.out];clear t0 tl u0 ul Pj;obtain⟨M,hM⟩:=nmq (w3.heap.size+2);rw[<-hM];rw[<-hM]at Ks;have Nw:=hdq hM;clear hM;go_loopw [30] (λi wr=>∃k:Nat,k<=m1/\i= .int .i64 k/\Hid (GrI1 w3.heap.size x.vars w4 wr k)) (λi _=>m1 - (intOf i).toNat);case atStart=>exact⟨0,Nat.zero_le _,rfl,ZC⟩
  case round=>
   clear ZC;obtain⟨k,hk,rfl,hb⟩:=hrel;have G8:Fr NoT w3 wr:=Fr.back1 GL.out (hb.fr.mono λi _ e=>(by have e:i=w3.heap.size:=e;show w3.heap.size<=i;omega)) (lrq _);have ZD:Bk wr M 134 #[.int .i64 m1,.slice none 0 0,.int .i64 2,.int .i64 0,.int .i64 1,.slice none 0 0,.map (some w3.heap.size),.map (some (w3.heap.size+1))]:=Ks.fr hb.fr (λe=>by have e:M=w3.heap.size:=e;have:=Nw.out;omega);have Yy:=hdq G8;have DA:=hdq ZD;by_cases Hr:k < m1
   ·
    obtain⟨⟨a0,a1⟩,ar,hd,JT⟩:=zac (show k < x.vars.length from by rw[<-HM.1];exact Hr);obtain⟨gb,go,rfl,Hd⟩:=Q5.vars.2.2 (by rw[<-HM.1];omega);have Hb:=Hd.drop k;rw[hd]at Hb;obtain⟨⟨Hf,_,r1,d0,d1⟩,_⟩:=Hb;have c0:=(G8.cell (p:=⟨gb,go+k*2,none⟩) Hf.2 id).trans d0;have c1:=(G8.cell (p:=⟨gb,go+k*2+1,none⟩) Hf.2 id).trans d1;have Gf:gb < wr.heap.size:=ltq Hf.2 G8.size;have Hl:(k:Int) < (m1:Int):=by omega
    have Fb:(0:Int)<=(k:Int):=by omega
    obtain⟨w6,GM⟩:=nmq (wr.alloc (.cells #[.string a0,.int .i64 a1] 43));have Fk:Fr NoT wr w6:=by rw[GM];exact(Fr.refl _ _).alloc _
    have Fy:Bk w6 wr.heap.size 43 #[.string a0,.int .i64 a1]:=by rw[GM];exact Bk.new _ _ _
    have L4:=ZD.fr0 Fk;have Sz:a0.size<=9223372036854775807:=(FG.2.2.1.1) ⟨a0,a1⟩ (List.mem_of_mem_drop (i:=k) (by rw[hd];simp));obtain⟨w7,K6,MN,R3⟩:=((hb.map.fr Fk id).fr ((Fr.refl NoT w6).drew) id).put Tryz.underlying132 (s:=a0) Sz (.int .i64 k) (by have h1:=FG.2.2.1.2;rw[<-HM.1]at h1;unfold maxLen;omega);have WZ:=F5.fr0 G8;have x0:=WZ.cell 0;have xl:=WZ.lt;have p0:=L4.cell 6;have pl:=L4.lt;have t0:=Fy.cell 0;have tl:=Fy.lt;simp only[getsL]at p0 t0 x0;have ZE:Fr (λi=>i=w3.heap.size) w4 w7:=(hb.fr.trans Fk.any).trans (((Fr.refl _ w6).drew).trans (Fr.grown R3 λg e _=>(Option.some.inj e).symm));have F8:=hdq (show GrI1 w3.heap.size x.vars w4 w7 (k+1)from⟨by
     rw[zip hd];refine NoM.snoc ?_;have hl:((x.vars.take k).map (·.nm.data.toList)).length =k:=by rw[List.length_map,List.length_take];have:=HM.1;omega
     rw[hl];exact MN,ZE⟩)
    have Lx:=hdq GM;clear hd JT Hd Hf r1 d0 d1 G8 GM Fk Fy L4 MN R3 ZE Sz ZD WZ;go_wp2_with fail;rw[<-Lx.out];clear c0 c1 Gf x0 xl;refine zad (GrS8 M wr.heap.size 6 w3.heap.size a0) (λi=>decide (i < 7)) (by kernel_rfl) ⟨pl,tl,p0,t0⟩ (λhHeld=>?_);refine zaa 0 ?_;simp only[putsL];refine zaa 1 ?_;simp only[putsL];refine zaa 2 ?_;simp only[putsL];refine zaa 4 ?_;simp only[putsL];refine zaa 6 ?_;simp only[putsL];refine zaR 3 (v:=?_) rfl (by kernel_rfl) (λ_ _ _ h=>h) hHeld (by rfl) ?_ ?_;rotate_left
    ·intro wz Gq;(try dsimp only[GrS8,zfr]at Gq);go_simp;try with_reducible rfl
    try simp only[putsL]
    refine zaR 5 (v:=?_) rfl (by kernel_rfl) (λ_ _ _ h=>h) hHeld (by rfl) ?_ ?_;rotate_left
    ·intro wz Gq;(try dsimp only[GrS8,zfr]at Gq);go_simp;try with_reducible rfl
    try simp only[putsL]
    refine zab 7 rfl (by kernel_rfl) (λKK hK=>?_);go_simp;refine hK _ _ (λh=>absurd h (by decide)) ?_;clear hK KK;try simp only[putsL]
    refine zai (by kernel_rfl) ?_;clear p0 pl t0 tl K6 hHeld;go_wp2_with fail;go_roundw;case rel=>exact⟨k+1,by omega,by go_num,F8⟩
    case measure=>simp[intOf];omega
   ·
    have Hl:¬(k:Int) < (m1:Int):=by omega
    have hk:k=m1:=by omega
    subst hk;obtain⟨w5,GE⟩:=nmq wr;subst GE;have x1:=(F5.fr0 G8).cell 1;have xl:=(F5.fr0 G8).lt;simp only[getsL]at x1;have yI:GrI2 w3.heap.size M (w3.heap.size+1) (λsl=> #[.int .i64 k,sl,.int .i64 2,.int .i64 0,.int .i64 1,.slice none 0 0,.map (some w3.heap.size),.map (some (w3.heap.size+1))]) x.arrays w5 w5 0 (.slice none 0 0):=
     ⟨WJ.fr hb.fr (λe=>by have e:w3.heap.size+1=w3.heap.size:=e;omega),ZD,World.ownsRow_nil _ _ _ _,Fr.refl _ _⟩
    have QB:=hdq yI;clear yI ZD G8;go_wp2_with fail;clear x1 xl;go_loopw [46] (λi wr=>∃j:Nat,j<=m2/\i= .int .i64 j/\∃sl,Hid (GrI2 w3.heap.size M (w3.heap.size+1) (λsl=> #[.int .i64 k,sl,.int .i64 2,.int .i64 0,.int .i64 1,.slice none 0 0,.map (some w3.heap.size),.map (some (w3.heap.size+1))]) x.arrays w5 wr j sl)) (λi _=>m2 - (intOf i).toNat);case atStart=>exact⟨0,Nat.zero_le _,rfl,_,QB⟩
    case round=>
     clear QB;obtain⟨j,hj,rfl,sl,hc⟩:=hrel;have Kc:Fr NoT w3 wr:=Fr.back1 Yy.out (hc.fr.mono λi _ e=>(by have:=Nw.out;have e:i=w3.heap.size+1\/i=M\/M+1<=i:=e;show w3.heap.size<=i;omega)) (lrq _);have ZF:=hdq Kc;by_cases Hr:j < m2
     ·
      obtain⟨⟨a0,a1,a2⟩,ar,hd,JT⟩:=zac (show j < x.arrays.length from by rw[<-HM.2.1];exact Hr);obtain⟨gb,go,rfl,Hd⟩:=Q5.arrays.2.2 (by rw[<-HM.2.1];omega);have Hb:=Hd.drop j;rw[hd]at Hb;obtain⟨⟨Hf,_,rsz,r1,d0,d1,d2⟩,_⟩:=Hb;have c0:=(Kc.cell (p:=⟨gb,go+j*3,none⟩) Hf.2 id).trans d0;have c1:=(Kc.cell (p:=⟨gb,go+j*3+1,none⟩) Hf.2 id).trans d1;have c2:=(Kc.cell (p:=⟨gb,go+j*3+2,none⟩) Hf.2 id).trans d2;have Gf:gb < wr.heap.size:=ltq Hf.2 Kc.size;have Hl:(j:Int) < (m2:Int):=by omega
      have Fb:(0:Int)<=(j:Int):=by omega
      obtain⟨w6,GM⟩:=nmq (wr.alloc (.cells #[.string a0,.int .i64 a1,.int .i64 a2] 66));have Fk:Fr NoT wr w6:=by rw[GM];exact(Fr.refl _ _).alloc _
      have Fy:Bk w6 wr.heap.size 66 #[.string a0,.int .i64 a1,.int .i64 a2]:=by rw[GM];exact Bk.new _ _ _
      have L4:=hc.bk.fr0 Fk;have Sz:a0.size<=9223372036854775807:=(FG.2.2.2.1) ⟨a0,a1,a2⟩ (List.mem_of_mem_drop (i:=j) (by rw[hd];simp));obtain⟨w7,K6,MN,R3⟩:=((hc.map.fr Fk id).fr ((Fr.refl NoT w6).drew) id).put Tryz.underlying132 (s:=a0) Sz (.int .i64 j) (by have h1:=FG.2.2.2.2;rw[<-HM.2.1]at h1;unfold maxLen;omega);have SA:Fr (λi=>i=w3.heap.size+1) w6 w7:=((Fr.refl _ w6).drew).trans (Fr.grown R3 λg e _=>(Option.some.inj e).symm);have ZG:NoM w7 (w3.heap.size+1) (j+1) (zaS ((x.arrays.take (j+1)).map (·.nm.data.toList))):=by
       rw[zcY hd,List.map_append];refine NoM.snoc ?_;have hl:((x.arrays.take j).map (·.nm.data.toList)).length =j:=by rw[List.length_map,List.length_take];have:=HM.2.1;omega
       rw[hl];exact MN
      have qn:M < wr.heap.size:=hc.bk.lt;have GK:=L4.fr SA (λe=>by have e:M=w3.heap.size+1:=e;have:=Nw.out;omega);have W1:=Fy.fr SA (λe=>by have e:wr.heap.size=w3.heap.size+1:=e;have:=Nw.out;omega);have Vd:w7.ownsRow (M+1) 3 1 sl j ((x.arrays.take j).map λa=>Value.int .i64 a.size):=zag (za6 hc.row Fk) SA (λi hi e=>by have e:i=w3.heap.size+1:=e;have:=(hc.row.lt i hi).1;have:=Nw.out;omega);have yJ:Hid (∀W',Fr NoT w7 W'->zfr M wr.heap.size sl a1 W'):=hdq (λW' hf=>⟨(GK.fr0 hf).lt,(W1.fr0 hf).lt,(GK.fr0 hf).cell 1,(W1.fr0 hf).cell 1⟩);have p0:=L4.cell 7;have pl:=L4.lt;have t0:=Fy.cell 0;have tl:=Fy.lt;simp only[getsL]at p0 t0;have JG:=hdq (show Fr NoT wr w6/\Fr (λi=>i=w3.heap.size+1) w6 w7 from⟨Fk,SA⟩);have Pk:=hdq GK;have gS:=hdq (aiq Vd (aiq ZG (aiq rsz qn)));have Lx:=hdq GM;have qo:=hdq (show(x.arrays.take (j+1)).map (λa=>Value.int .i64 a.size)=((x.arrays.take j).map λa=>Value.int .i64 a.size)++ [.int .i64 a1]from by rw[zcY hd];simp);have HJ:=hdq Hr;clear hd JT Hd Hf r1 rsz d0 d1 d2 Kc GM Fk Fy L4 MN R3 SA Sz ZG GK W1 Vd qn;go_wp2_with fail;rw[<-Lx.out];clear c0 c1 c2 Gf;refine zad (GrS8 M wr.heap.size 7 (w3.heap.size+1) a0) (λi=>decide (i < 7)) (by kernel_rfl) ⟨pl,tl,p0,t0⟩ (λhHeld=>?_);refine zaa 0 ?_;simp only[putsL];refine zaa 1 ?_;simp only[putsL];refine zaa 2 ?_;simp only[putsL];refine zaa 4 ?_;simp only[putsL];refine zaa 6 ?_;simp only[putsL];refine zaR 3 (v:=?_) rfl (by kernel_rfl) (λ_ _ _ h=>h) hHeld (by rfl) ?_ ?_;rotate_left
      ·intro wz Gq;(try dsimp only[GrS8,zfr]at Gq);go_simp;try with_reducible rfl
      try simp only[putsL]
      refine zaR 5 (v:=?_) rfl (by kernel_rfl) (λ_ _ _ h=>h) hHeld (by rfl) ?_ ?_;rotate_left
      ·intro wz Gq;(try dsimp only[GrS8,zfr]at Gq);go_simp;try with_reducible rfl
      try simp only[putsL]
      refine zab 7 rfl (by kernel_rfl) (λKK hK=>?_);go_simp;refine hK _ _ (λh=>absurd h (by decide)) ?_;clear hK KK;try simp only[putsL]
      refine zai (by kernel_rfl) ?_;clear p0 pl t0 tl K6 hHeld;go_wp2_with fail;obtain⟨i0,hi,Fe,Gh,Gn⟩:=info_parts zhA;have HI:=hdq (aiq hi (aiq Fe (aiq Gh Gn)));clear hi Fe Gh Gn;refine zad (zfr M wr.heap.size sl a1) (λi=>decide (i < 10)) (by kernel_rfl) (yJ _ ((Fr.refl NoT w7).drew)) (λhHeld=>?_);refine zaa 0 ?_;simp only[putsL];refine zaa 1 ?_;simp only[putsL];refine zaa 2 ?_;simp only[putsL];refine zaa 3 ?_;simp only[putsL];refine zaa 4 ?_;simp only[putsL];refine zaR 5 (v:=?_) rfl (by kernel_rfl) (λ_ _ _ h=>h) hHeld (by rfl) ?_ ?_;rotate_left
      ·intro wz Gq;(try dsimp only[GrS8,zfr]at Gq);go_simp;try with_reducible rfl
      try simp only[putsL]
      refine zaa 6 ?_;simp only[putsL];refine zaR 7 (v:=?_) rfl (by kernel_rfl) (λ_ _ _ h=>h) hHeld (by rfl) ?_ ?_;rotate_left
      ·intro wz Gq;(try dsimp only[GrS8,zfr]at Gq);go_simp;try with_reducible rfl
      try simp only[putsL]
      refine zab 8 rfl (by kernel_rfl) (λKK hK=>?_);go_simp;obtain⟨w8,GG⟩:=nmq ((w7.alloc (.cells #[.int .i64 a1] 3)).drew );rw[<-GG];have Gj:Fr NoT w7 w8:=by rw[GG];exact((Fr.refl _ _).alloc _).drew
      have Hk:Bk w8 w7.heap.size 3 ([.int .i64 a1]:List Value).toArray :=by rw[GG];exact(Bk.new _ _ _).fr0 ((Fr.refl _ _).drew)
      have FH:=yJ w8 Gj;have GD:=hdq Gj;have Kf:=hdq Hk;have Fm:=hdq (za6 gS.1 Gj);have MI:M+1<=w8.heap.size:=by have:=Pk.lt;have:=Gj.size;omega
      clear GG Gj Hk hHeld;try dsimp only
      refine hK _ _ (λ_ _=>FH) ?_;clear hK KK;try simp only[putsL]
      refine zab 9 rfl (by kernel_rfl) (λKK hK=>?_);refine step_append_lies _ (by rfl) _ _ _ (by rfl) (M+1) 3 i0 (.int .i64 0) 1 8 Tryz.underlying50 HI.1 HI.2.1 HI.2.2.1 HI.2.2.2 rfl (by decide) sl j _ (by rfl) Fm.out
       ⟨w7.heap.size,0,none⟩ 1 1 _ (by rfl) (by rfl) Kf.newsL (by simp[Value.oneCell']) (by omega) ?c63 ?cby MI _ rfl ?_
      case c63=>have:=HJ.out;unfold maxLen;omega
      case cby=>have:=HJ.out;have h1:=FG.2.2.2.2;rw[<-HM.2.1]at h1;omega
      intro gg cap w9 Hg Hh GP L5;rw[<-qo.out]at Hg;have GU:some M≠sl.ownBlock:=λe=>by have:=(Fm.lt M e.symm).1;omega
      have ZH:some (w3.heap.size+1)≠sl.ownBlock:=λe=>by have:=(Fm.lt _ e.symm).1;have:=Nw.out;omega
      have ZI:some wr.heap.size≠sl.ownBlock:=λe=>by have:=(hc.row.lt _ e.symm).2;omega
      have P3:=Pk.fr0 GD.out;have FM:Bk w9 M 134 #[.int .i64 k,sl,.int .i64 2,.int .i64 0,.int .i64 1,.slice none 0 0,.map (some w3.heap.size),.map (some (w3.heap.size+1))]:=(Hh.block M P3.lt GU).trans P3;have gv:NoM w9 (w3.heap.size+1) (j+1) (zaS ((x.arrays.take (j+1)).map (·.nm.data.toList))):=MpV.kept (gS.2.1.fr GD.out id) Hh ZH;have f9:=FM.frozen 1;have q9:=FM.cell 1;have l9:=FM.lt;simp only[getsL]at q9;have KJ:zfr M wr.heap.size sl a1 w9:=⟨l9,ltq FH.2.1 Hh.size,q9,(Hh.cell_far ⟨wr.heap.size,1,none⟩ FH.2.1 ZI).trans FH.2.2.2⟩;have MW:Fr (λi=>i=M) w9 (w9.setCell ⟨M,1,none⟩ (.slice (some ⟨gg,0,none⟩) (j+1) cap)):=Fr.own (Fr.refl _ _) _ _;have F8:=hdq (show GrI2 w3.heap.size M (w3.heap.size+1) (λsl=> #[.int .i64 k,sl,.int .i64 2,.int .i64 0,.int .i64 1,.slice none 0 0,.map (some w3.heap.size),.map (some (w3.heap.size+1))]) x.arrays w5 (w9.setCell ⟨M,1,none⟩ (.slice (some ⟨gg,0,none⟩) (j+1) cap)) (j+1) (.slice (some ⟨gg,0,none⟩) (j+1) cap)from
       ⟨gv.fr MW (λe=>by have e:w3.heap.size+1=M:=e;have:=Nw.out;omega),by
        have:=FM.set_ 1 (.slice (some ⟨gg,0,none⟩) (j+1) cap);simpa using this,zaW Hg (Nat.lt_succ_self M) _,
        ((((hc.fr.trans JG.1.any).trans (JG.2.mono λi _ e=> .inl e)).trans GD.any).trans ((Fr.grown Hh λg e _=>(Fm.lt g e).1).mono λi _ e=> .inr (.inr e))).trans (MW.mono λi _ e=> .inr (.inl e))⟩)
      clear Hg Hh GP L5 GU ZH ZI P3 FM gv MW FH MI;try dsimp only
      refine hK _ _ (λ_ _=>KJ) ?_;clear hK KK;try simp only[putsL]
      refine zab 10 rfl (by kernel_rfl) (λKK hK=>?_);go_simp;refine hK _ _ (λh=>absurd h (by decide)) ?_;clear hK KK;try simp only[putsL]
      refine zab 11 rfl (by kernel_rfl) (λKK hK=>?_);go_simp;refine hK _ _ (λh=>absurd h (by decide)) ?_;clear hK KK;try simp only[putsL]
      refine zab 12 rfl (by kernel_rfl) (λKK hK=>?_);go_simp;refine hK _ _ (λh=>absurd h (by decide)) ?_;clear hK KK;try simp only[putsL]
      refine zab 13 rfl (by kernel_rfl) (λKK hK=>?_);go_simp;refine hK _ _ (λh=>absurd h (by decide)) ?_;clear hK KK;try simp only[putsL]
      refine zai (by kernel_rfl) ?_;clear KJ f9 q9 l9;go_wp2_with fail;go_roundw;case rel=>exact⟨j+1,by omega,by go_num,_,F8⟩
      case measure=>simp[intOf];omega
     ·
      have Hl:¬(j:Int) < (m2:Int):=by omega
      have hj:j=m2:=by omega
      subst hj;obtain⟨w8,GG⟩:=nmq wr;subst GG;have x3:=(F5.fr0 Kc).cell 3;have xl:=(F5.fr0 Kc).lt;simp only[getsL]at x3;have qp:=Nw.out;have yK:x.vars.take k=x.vars:=List.take_of_length_le (by have:=HM.1;omega);have Ph:x.arrays.take j=x.arrays:=List.take_of_length_le (by have:=HM.2.1;omega);have Yp:NoM w8 w3.heap.size k (zaS (x.vars.map (·.nm.data.toList))):=by
       have:=hb.map.fr hc.fr (λe=>by have e:w3.heap.size=w3.heap.size+1\/w3.heap.size=M\/M+1<=w3.heap.size:=e;omega);rw[yK]at this;exact this
      have yL:NoM w8 (w3.heap.size+1) j (zaS (x.arrays.map (·.nm.data.toList))):=by
       have:=hc.map;rw[Ph]at this;exact this
      have r1:NoR (zaS (x.vars.map (·.nm.data.toList))):=zdj _ (by rw[List.length_map];have:=FG.2.2.1.2;omega);have r2:NoR (zaS (x.arrays.map (·.nm.data.toList))):=zdj _ (by rw[List.length_map];have:=FG.2.2.2.2;omega);have ZJ:FgC.At ⟨w3.heap.size,M,w3.heap.size,w3.heap.size+1,k,sl,zaS (x.vars.map (·.nm.data.toList)),zaS (x.arrays.map (·.nm.data.toList)),r1,r2⟩ ⟨2, []⟩ (.slice none 0 0) w8:=
       ⟨by show w3.heap.size<=M;omega,hc.bk,⟨⟨k,Yp⟩,j,yL⟩,⟨by show w3.heap.size≠M;omega,by show w3.heap.size+1≠M;omega,by simp[Value.ownBlock],by simp[Value.ownBlock],by simp[Value.ownBlock]⟩, [],World.ownsRow_nil _ _ _ _,rfl⟩
      have Mr:=FG.1 ⟨w3.heap.size,M,w3.heap.size,w3.heap.size+1,k,sl,zaS (x.vars.map (·.nm.data.toList)),zaS (x.arrays.map (·.nm.data.toList)),r1,r2⟩ w8 ⟨2, []⟩ (.slice none 0 0) (New w1.heap.size w3) True Bm dm ZJ (λb hb=>hb.2) (Q5.main.imp λ_ _ h=>StR.keep (Kc.same λb hb=>⟨hb.2,id⟩) h) ⟨by show(0:Int)<=2;omega,by have:=FG.2.1;show(2:Int)+_<=_;omega,by have:=FG.2.1;show 0+_<=_;omega⟩ 0 1 0 (by unfold in64;decide) (by unfold in64;decide) (by unfold in64;decide);rw[<-HM.2.2.2]at Mr;have Pa:=zaZ (zaS (x.vars.map (·.nm.data.toList))) (zaS (x.arrays.map (·.nm.data.toList))) x.main 0 1 0 ⟨2, []⟩;obtain⟨s9,KJ⟩:=nmq (grF x);replace Pa:Grow (1+szT x.main) ⟨2, []⟩ s9:=by rw[KJ];exact Pa
      replace Mr:Calls Tryz.prog 69 #[.pointer (some ⟨M,0,none⟩),.slice Bm m4 dm,.int .i64 0,.int .i64 1,.int .i64 0] w8 (MkP ⟨w3.heap.size,M,w3.heap.size,w3.heap.size+1,k,sl,zaS (x.vars.map (·.nm.data.toList)),zaS (x.arrays.map (·.nm.data.toList)),r1,r2⟩ s9 (.slice none 0 0) w8):=by rw[KJ];exact Mr
      have Gt:=hc.row;rw[Ph,show(x.arrays.map λa=>Value.int .i64 a.size)=(x.arrays.map (·.size)).map (Value.int .i64)from by rw[List.map_map];rfl]at Gt;have SB:∀n∈x.arrays.map (·.size),in64 n:=λn hn=>by
       obtain⟨a,ha,rfl⟩:=List.mem_map.1 hn;obtain⟨b,o,_,h⟩:=Q5.arrays.2.2 (List.length_pos_iff.2 λe=>by rw[e]at ha;simp at ha);exact zkk h a ha
      have Jh:(x.arrays.map (·.size)).length =j:=by rw[List.length_map];exact HM.2.1.symm
      obtain⟨Aa,ca,Fh,ZK⟩:=zeK (l:=x.arrays.map (·.size)) (by rw[Jh];exact Gt) SB (by rw[Jh];have:=FG.2.2.2.2;have:=HM.2.1;omega);rw[Jh]at Fh;subst Fh;have SC:=hdq Mr;have Uc:=hdq (show 2<=s9.nodes/\s9.nodes<=1000000000000/\s9.edges.length<=1000000000000 from by obtain⟨g1,g2,g3⟩:=Pa;have:=FG.2.1;simp only[List.length_nil]at g1 g2 g3;exact⟨g1,by omega,by omega⟩);have ZL:=hdq KJ;have qq:=hdq ZK;have qr:=hdq Kc;have x8:=hdq hc.bk;clear Mr Pa KJ ZK Kc Gt SB Jh ZJ Yp yL yK Ph qp;go_wp2_with fail;refine SC.mono ?_;rintro _ w9 ⟨u',rfl,P4,Pb⟩;obtain⟨cs9,TP,SD⟩:=P4.row;obtain⟨Ae,ce,hu,ZM⟩:=zeJ TP SD (by have:=Uc.2.2;omega);subst hu;have Jl:Bk w9 M 134 #[.int .i64 k,.slice Aa j ca,.int .i64 s9.nodes,.int .i64 0,.int .i64 1,.slice Ae s9.edges.length ce,.map (some w3.heap.size),.map (some (w3.heap.size+1))]:=P4.bk;have P5:Fr (λi=>i=M) w8 w9:=Pb.fr.mono λi _ e=>by
       rcases e with e|e
       ·exact e
       ·simp[Value.ownBlock]at e
      have P6:Fr NoT w3 w9:=Fr.back1 qr.out (P5.mono λi _ e=>(by have:=Nw.out;have e:i=M:=e;show w3.heap.size<=i;omega)) (lrq _);have FI:=KD.fr0 P6;obtain⟨nE,Ud⟩:=nmq s9.edges.length;obtain⟨nN,Ue⟩:=nmq s9.nodes;rw[<-Ud,<-Ue]at Jl;have q0:=FI.frozen 0;have q1:=FI.frozen 1;have q2:=FI.frozen 2;have q3:=FI.frozen 3;have q4:=FI.frozen 4;have q5:=FI.frozen 5;have p0:=FI.cell 0;have p1:=FI.cell 1;have p2:=FI.cell 2;have p3:=FI.cell 3;have p4:=FI.cell 4;have p5:=FI.cell 5;have pl:=FI.lt;have l0:=Jl.cell 0;have l1:=Jl.cell 1;have l2:=Jl.cell 2;have l3:=Jl.cell 3;have l4:=Jl.cell 4;have l5:=Jl.cell 5;have ll:=Jl.lt;simp only[getsL]at p0 p1 p2 p3 p4 p5 l0 l1 l2 l3 l4 l5;have Fu:=hdq (show R=(if 2048 < nE\/4096 < nN then(noGr,9)else(⟨x.vars.length,x.arrays.map (·.size),nN,0,1,s9.edges⟩,0))from by rw[qj.out,<-ZL.out,<-Ud,<-Ue]);have W3:=hdq FI;have P7:=hdq P6;have SE:=hdq P5;have qt:=hdq ZM;have PB:=hdq (aiq Ud Ue);clear P4 Pb TP SD ZM Jl P5 P6 FI Ud Ue x3 xl SC;rcases(show(2048:Int) < (nE:Int)\/(¬(2048:Int) < (nE:Int)/\(4096:Int) < nN)\/(¬(2048:Int) < (nE:Int)/\¬(4096:Int) < nN)from by omega)with h1|⟨h1,h2⟩|⟨h1,h2⟩
      ·
       have FJ:=hdq (show R=(noGr,9)from by rw[Fu.out,if_pos (.inl (by omega))]);obtain⟨wf,Fc⟩:=nmq ((((((w9.setCell ⟨w.heap.size+1,0,none⟩ (.int .i64 0)).setCell ⟨w.heap.size+1,1,none⟩ (.slice none 0 0)).setCell ⟨w.heap.size+1,2,none⟩ (.int .i64 0)).setCell ⟨w.heap.size+1,3,none⟩ (.int .i64 0)).setCell ⟨w.heap.size+1,4,none⟩ (.int .i64 0)).setCell ⟨w.heap.size+1,5,none⟩ (.slice none 0 0));have GH:Fr NoT w wf:=by rw[Fc];exact((((((Gc.trans P7.out).high (by omega) _ _).high (by omega) _ _).high (by omega) _ _).high (by omega) _ _).high (by omega) _ _).high (by omega) _ _
       have Jp:Bk wf (w.heap.size+1) 53 #[.int .i64 0,.slice none 0 0,.int .i64 0,.int .i64 0,.int .i64 0,.slice none 0 0]:=by
        have:=(((((W3.set_ 0 (.int .i64 0)).set_ 1 (.slice none 0 0)).set_ 2 (.int .i64 0)).set_ 3 (.int .i64 0)).set_ 4 (.int .i64 0)).set_ 5 (.slice none 0 0);rw[Fc];simpa using this
       have LA:=hdq Fc;have FK:=hdq GH;have KR:=hdq Jp;clear Fc GH Jp;go_wp2_with fail;rw[<-LA.out];refine bodyPost_ret (zam (p:=2) (q:=3) (ty:=53) rfl _ _ (w.heap.size+1) 53 _ (0,0) _ rfl KR.out Tryz.underlying53 rfl zc2) rfl ?_;rw[FJ.out];exact⟨none,none,0,0,rfl,zcX _ _,FK.out⟩
      ·
       have FJ:=hdq (show R=(noGr,9)from by rw[Fu.out,if_pos (.inr h2)]);obtain⟨wf,Fc⟩:=nmq ((((((w9.setCell ⟨w.heap.size+1,0,none⟩ (.int .i64 0)).setCell ⟨w.heap.size+1,1,none⟩ (.slice none 0 0)).setCell ⟨w.heap.size+1,2,none⟩ (.int .i64 0)).setCell ⟨w.heap.size+1,3,none⟩ (.int .i64 0)).setCell ⟨w.heap.size+1,4,none⟩ (.int .i64 0)).setCell ⟨w.heap.size+1,5,none⟩ (.slice none 0 0));have GH:Fr NoT w wf:=by rw[Fc];exact((((((Gc.trans P7.out).high (by omega) _ _).high (by omega) _ _).high (by omega) _ _).high (by omega) _ _).high (by omega) _ _).high (by omega) _ _
       have Jp:Bk wf (w.heap.size+1) 53 #[.int .i64 0,.slice none 0 0,.int .i64 0,.int .i64 0,.int .i64 0,.slice none 0 0]:=by
        have:=(((((W3.set_ 0 (.int .i64 0)).set_ 1 (.slice none 0 0)).set_ 2 (.int .i64 0)).set_ 3 (.int .i64 0)).set_ 4 (.int .i64 0)).set_ 5 (.slice none 0 0);rw[Fc];simpa using this
       have LA:=hdq Fc;have FK:=hdq GH;have KR:=hdq Jp;clear Fc GH Jp;go_wp2_with fail;rw[<-LA.out];refine bodyPost_ret (zam (p:=2) (q:=3) (ty:=53) rfl _ _ (w.heap.size+1) 53 _ (0,0) _ rfl KR.out Tryz.underlying53 rfl zc2) rfl ?_;rw[FJ.out];exact⟨none,none,0,0,rfl,zcX _ _,FK.out⟩
      ·
       have FJ:=hdq (show R=(⟨x.vars.length,x.arrays.map (·.size),nN,0,1,s9.edges⟩,0)from by rw[Fu.out,if_neg (by omega)]);obtain⟨wf,Fc⟩:=nmq ((((((w9.setCell ⟨w.heap.size+1,0,none⟩ (.int .i64 k)).setCell ⟨w.heap.size+1,1,none⟩ (.slice Aa j ca)).setCell ⟨w.heap.size+1,2,none⟩ (.int .i64 nN)).setCell ⟨w.heap.size+1,3,none⟩ (.int .i64 0)).setCell ⟨w.heap.size+1,4,none⟩ (.int .i64 1)).setCell ⟨w.heap.size+1,5,none⟩ (.slice Ae nE ce));have JM:Fr (λi=>i=w.heap.size+1) w9 wf:=by rw[Fc];exact Fr.own (Fr.own (Fr.own (Fr.own (Fr.own (Fr.own (Fr.refl _ _) _ _) _ _) _ _) _ _) _ _) _ _
       have GH:Fr NoT w wf:=Fr.thenT (Gc.trans P7.out) JM λi hi e=>by have e:i=w.heap.size+1:=e;omega
       have Jp:Bk wf (w.heap.size+1) 53 #[.int .i64 k,.slice Aa j ca,.int .i64 nN,.int .i64 0,.int .i64 1,.slice Ae nE ce]:=by
        have:=(((((W3.set_ 0 (.int .i64 k)).set_ 1 (.slice Aa j ca)).set_ 2 (.int .i64 nN)).set_ 3 (.int .i64 0)).set_ 4 (.int .i64 1)).set_ 5 (.slice Ae nE ce);rw[Fc];simpa using this
       have WU:w.heap.size+1 < M:=by have:=Nw.out;have:=Rj.out;omega
       have qu:=SE.size;have Gm:=JM.size;have SF:SameS (New (M+1) w8) w8 w9:=SE.same λb hb=>⟨hb.2,λe=>by have e:b=M:=e;have:M+1<=b:=hb.1;omega⟩;have SG:SameS (New (M+1) w8) w9 wf:=JM.same λb hb=>⟨by have:b < w8.heap.size:=hb.2;omega,λe=>by have e:b=w.heap.size+1:=e;have:M+1<=b:=hb.1;omega⟩;have Pc:SameS (New (M+1) w9) w9 wf:=JM.same λb hb=>⟨hb.2,λe=>by have e:b=w.heap.size+1:=e;have:M+1<=b:=hb.1;omega⟩;have SH:∀b,New (M+1) w8 b->New w.heap.size wf b:=λb hb=>⟨by have:M+1<=b:=hb.1;omega,by have:b < w8.heap.size:=hb.2;omega⟩;have SI:∀b,New (M+1) w9 b->New w.heap.size wf b:=λb hb=>⟨by have:M+1<=b:=hb.1;omega,by have:b < w9.heap.size:=hb.2;omega⟩;have qv:=hdq (show GrR wf (New w.heap.size wf) ⟨x.vars.length,x.arrays.map (·.size),nN,0,1,s9.edges⟩ Aa ca Ae ce from
        ⟨qq.imp λ_ _ h=>((h.keep SF).keep SG).more SH,
         qt.imp λ_ _ h=>EgR.more SI (EgR.keep Pc h),
         by
          have g1:=Uc.out;have g2:=PB.2;have g3:=FG.2.2.1.2;unfold Gr.ok in64;refine⟨⟨?_,?_⟩,⟨?_,?_⟩,⟨?_,?_⟩,⟨?_,?_⟩⟩
          ·show(-9223372036854775808:Int)<=(x.vars.length:Int);omega
          ·show(x.vars.length:Int)<=9223372036854775807;omega
          ·show -9223372036854775808<=nN;omega
          ·show nN<=9223372036854775807;omega
          ·show(-9223372036854775808:Int)<=0;omega
          ·show(0:Int)<=9223372036854775807;omega
          ·show(-9223372036854775808:Int)<=1;omega
          ·show(1:Int)<=9223372036854775807;omega⟩)
       have LA:=hdq Fc;have FK:=hdq GH;have KR:=hdq Jp;clear Fc JM GH Jp WU qu Gm SF SG Pc SH SI;go_wp2_with fail;rw[<-LA.out];refine bodyPost_ret (zam (p:=2) (q:=3) (ty:=53) rfl _ _ (w.heap.size+1) 53 _ (0,0) _ rfl KR.out Tryz.underlying53 rfl zc2) rfl ?_;rw[FJ.out];refine⟨Aa,Ae,ca,ce,?_,qv.out,FK.out⟩;simp only[grV,List.length_map,<-HM.1,<-HM.2.1,<-PB.1];rfl
 ·have YU:¬er=0:=h0;have q0:=KD.frozen 0;have q1:=KD.frozen 1;have q2:=KD.frozen 2;have q3:=KD.frozen 3;have q4:=KD.frozen 4;have q5:=KD.frozen 5;have p0:=KD.cell 0;have p1:=KD.cell 1;have p2:=KD.cell 2;have p3:=KD.cell 3;have p4:=KD.cell 4;have p5:=KD.cell 5;have pl:=KD.lt;simp only[getsL]at p0 p1 p2 p3 p4 p5;have FJ:=hdq (show R=(noGr,er)from by rw[HR.out,if_neg h0]);obtain⟨wf,Fc⟩:=nmq ((((((w3.setCell ⟨w.heap.size+1,0,none⟩ (.int .i64 0)).setCell ⟨w.heap.size+1,1,none⟩ (.slice none 0 0)).setCell ⟨w.heap.size+1,2,none⟩ (.int .i64 0)).setCell ⟨w.heap.size+1,3,none⟩ (.int .i64 0)).setCell ⟨w.heap.size+1,4,none⟩ (.int .i64 0)).setCell ⟨w.heap.size+1,5,none⟩ (.slice none 0 0));have GH:Fr NoT w wf:=by rw[Fc];exact(((((Gc.high (by omega) _ _).high (by omega) _ _).high (by omega) _ _).high (by omega) _ _).high (by omega) _ _).high (by omega) _ _
  have Jp:Bk wf (w.heap.size+1) 53 #[.int .i64 0,.slice none 0 0,.int .i64 0,.int .i64 0,.int .i64 0,.slice none 0 0]:=by
   have:=(((((KD.set_ 0 (.int .i64 0)).set_ 1 (.slice none 0 0)).set_ 2 (.int .i64 0)).set_ 3 (.int .i64 0)).set_ 4 (.int .i64 0)).set_ 5 (.slice none 0 0);rw[Fc];simpa using this
  have LA:=hdq Fc;have FK:=hdq GH;have KR:=hdq Jp;clear Fc GH Jp;go_wp2_with fail;rw[<-LA.out];refine bodyPost_ret (zam (p:=2) (q:=3) (ty:=53) rfl _ _ (w.heap.size+1) 53 _ (0,0) _ rfl KR.out Tryz.underlying53 rfl zc2) rfl ?_;rw[FJ.out];exact⟨none,none,0,0,rfl,zcX _ _,FK.out⟩
theorem zkl (t:Tre)(w:World)(S:Nat->Prop)(Z:Prop)(Av Aa Ap Am:Option Addr)(cv ca cp cm:Nat)(he:SpEnv w)(Kr:Lib.TabIs Tryz.prog w "internal/strconv.uint64pow10" .u64 Lib.pow10Tab)(hS:∀b,S b->b < w.heap.size)(Ht:SzT t)(hm:CdT 1000000000 t)(hx:TrR w S Z t Av Aa Ap Am cv ca cp cm):
  Calls Tryz.prog 19 #[trV t Av Aa Ap Am cv ca cp cm] w (GraP (graT t) w):=
 zlF t w Av Aa Ap Am cv ca cp cm (λw1 Hi=>zmS t w1 S Z Av Aa Ap Am cv ca cp cm (he.keep Hi.plain) (zhz Hi Kr) (λb hb=>ltq (hS b hb) Hi.size) Ht (hx.keep (Hi.same λb hb=>⟨hS b hb,id⟩)))
  λh=>have h0:=zkj Ht hm (lrq _) h
   ⟨λC=>zka C _ h0.wf,h0.few,h0.vars,h0.arrays⟩
