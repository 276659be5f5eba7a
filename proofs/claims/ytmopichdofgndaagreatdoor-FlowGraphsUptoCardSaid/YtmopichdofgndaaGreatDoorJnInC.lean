/- A region that draws its order, some of whose operations are late: walked in one order. -/
import Derived.OrdersHeld
import Derived.Deep.RegionHeld
import Derived.Test.YtmopichdofgndaaGreatDoorJnInE
set_option linter.all false
set_option maxHeartbeats 1600000
set_option maxRecDepth 100000
namespace Go.Proofs.YtmopichdofgndaaGreatDoor
open Go.RowKit
section
variable {P:Program} {Q:Exit->Act->World->Prop} {md:Region.Mode} {S:World->Prop} {n:Nat->Bool}
def wpE (P:Program)(md:Region.Mode)(ops:Array Oper)(Q:Exit->Act->World->Prop)(S:World->Prop)(n:Nat->Bool):Nat->Array Bool->Act->World->Prop
 |0,listed,a,w=>Region.ready md ops listed= []/\Q .normal a w
 |f+1,listed,a,w=>(Region.ready md ops listed= []->Q .normal a w)/\
   ∀i∈Region.ready md ops listed,wpOp P ops Q i (λa' w'=>(n i=true->S w->S w')/\wpE P md ops Q S n f (listed.setIfInBounds i true) a' w') a w
theorem wpE.any {ops:Array Oper}:∀(f:Nat)(listed:Array Bool)(a:Act)(w:World),wpE P md ops Q S n f listed a w->wpAny P md ops Q f listed a w
 |0,_,_,_,h=>h
 |f+1,_,_,_,h=>⟨h.1,λi hi=>wpOp_mono (λa' w' h'=>wpE.any f _ a' w' h'.2) (h.2 i hi)⟩
def ClosedL (md:Region.Mode)(ops:Array Oper)(listed:Array Bool):Prop:=∀k ok,ops[k]?=some ok->listed.getD k false=true->∀e∈ok.after,Region.binds md e=true->listed.getD e.on false=true
def zdS (md:Region.Mode)(ops:Array Oper)(listed:Array Bool):Bool:=(List.range ops.size).all λk=> !listed.getD k false || ((ops[k]?).map (·.after.all λe=> !Region.binds md e || listed.getD e.on false)).getD true
theorem zc1 {ops:Array Oper}{listed:Array Bool}(h:zdS md ops listed=true):ClosedL md ops listed:=λk ok hk hl e he hb=>by
 have h1:=List.all_eq_true.1 h k (List.mem_range.2 (Array.getElem?_eq_some_iff.1 hk).1);rw[hk,hl]at h1;simp only[Bool.not_true,Bool.false_or,Option.map_some,Option.getD_some,Array.all_eq_true_iff_forall_mem]at h1;have h2:=h1 e he;simpa[hb]using h2
def zjK (md:Region.Mode)(ops:Array Oper)(n:Nat->Bool)(i:Nat):Bool:=(List.range ops.size).all λj=>n j || j==i || Region.waitsFor md ops j i || (List.range ops.size).any λk=>Region.waitsFor md ops j k&&Region.waitsFor md ops k i
theorem zic {ops:Array Oper}{i j:Nat}{listed:Array Bool}(h:zjK md ops n i=true)(hc:ClosedL md ops listed)(hi:listed.getD i true=false)(hj:j∈Region.ready md ops listed)(GU:j≠i):n j=true:=by
 obtain⟨_,oj,Kh,Ha⟩:=mem_ready.1 hj;have Qe:listed.getD i false≠true:=λe=>by
  rcases Nat.lt_or_ge i listed.size with h'|h'
  ·simp[h']at hi e;rw[hi]at e;simp at e
  ·simp[Array.getElem?_eq_none h']at hi
 have h1:=List.all_eq_true.1 h j (List.mem_range.2 (Array.getElem?_eq_some_iff.1 Kh).1);simp only[Bool.or_eq_true,beq_iff_eq]at h1;rcases h1 with((h1|h1)|h1)|h1
 ·exact h1
 ·exact absurd h1 GU
 ·obtain⟨oj',NQ,e,he,hb,Wo⟩:=Region.waitsFor_spec h1;rw[Kh]at NQ;cases NQ;exact absurd (Wo▸Ha e he hb) Qe
 ·obtain⟨k,_,hk⟩:=List.any_eq_true.1 h1;simp only[Bool.and_eq_true]at hk;obtain⟨oj',NQ,e,he,hb,Wo⟩:=Region.waitsFor_spec hk.1;rw[Kh]at NQ;cases NQ;have Xx:=Ha e he hb;rw[Wo]at Xx;obtain⟨ok,G9,e2,Ky,FL,km⟩:=Region.waitsFor_spec hk.2;exact absurd (km▸hc k ok G9 Xx e2 Ky FL) Qe
theorem ClosedL.set {ops:Array Oper}{listed:Array Bool}{j:Nat}(hc:ClosedL md ops listed)(hj:j∈Region.ready md ops listed):ClosedL md ops (listed.setIfInBounds j true):=λk ok hk hl e he hb=>by
 obtain⟨_,oj,Kh,Ha⟩:=mem_ready.1 hj;by_cases yi:k=j
 ·subst yi;rw[hk]at Kh;cases Kh;exact getD_set_true (Ha e he hb)
 ·rw[getD_set_ne false (Ne.symm yi)]at hl;exact getD_set_true (hc k ok hk hl e he hb)
theorem zjL {ops:Array Oper}{i:Nat}{oi:Oper}{v:Value}(hi:ops[i]?=some oi)(hs:Region.noSelect ops=true)(hQ:∀c a w,Q (.panic c) (a.put oi.dst v) w->Q (.panic c) a w)(hl:zjK md ops n i=true):
  ∀(f:Nat)(listed:Array Bool)(a:Act)(w:World),ClosedL md ops listed->(∀j oj,ops[j]?=some oj->j≠i->listed.getD j true=false->(∀e∈oj.after,Region.binds md e=true->e.on≠i)->oi.apart ops oj=true)->
   i∈Region.ready md ops listed->YieldsIf P ops S oi v a->S w->wpE P md ops Q S n f (listed.setIfInBounds i true) (a.put oi.dst v) w->wpE P md ops Q S n (f+1) listed a w:=by
 intro f
 induction f with
 |zero=>
  intro listed a w Ki Jk hr hy hS H;refine⟨λh=>by rw[h]at hr;simp at hr,λj hj=>?_⟩;by_cases JQ:j=i
  ·subst JQ;exact hy.wpOp hi hS ⟨λ_ h=>h,H⟩
  ·have h1:=ready_mono hj JQ;rw[H.1]at h1;simp at h1
 |succ f ih=>
  intro listed a w Ki Jk hr hy hS H;refine⟨λh=>by rw[h]at hr;simp at hr,λj hj=>?_⟩;by_cases JQ:j=i
  ·subst JQ;exact hy.wpOp hi hS ⟨λ_ h=>h,H⟩
  ·have h1:=H.2 j (ready_mono hj JQ);obtain⟨RD,oj,Kh,Ha⟩:=mem_ready.1 hj;have PA:∀e∈oj.after,Region.binds md e=true->e.on≠i:=λe he hb heq=>by
    have g1:=Ha e he hb;have g0:=(mem_ready.1 hr).1;rw[heq]at g1;rcases Nat.lt_or_ge i listed.size with h'|h'
    ·simp[h']at g0 g1;rw[g0]at g1;simp at g1
    ·simp[Array.getElem?_eq_none h']at g1
   have YC:=zic hl Ki (mem_ready.1 hr).1 hj JQ;have J5:=Region.noSelect_spec hs;have h2:=wpOp_putIf Kh (Jk j oj Kh JQ RD PA) (λcs b=>J5 i oi cs b hi) (λcs b=>J5 j oj cs b Kh) hQ hy h1;refine wpOp_mono (λa' w' h3=>⟨h3.2.1,ih (listed.setIfInBounds j true) a' w' (Ki.set hj) (λk ok hk RE Ta Wp=>?_) (ready_mono hr (Ne.symm JQ)) h3.1 (h3.2.1 YC hS) ?_⟩) h2
   ·refine Jk k ok hk RE ?_ Wp;by_cases NM:j=k
    ·subst NM;exact RD
    ·rwa [getD_set_ne true NM]at Ta
   ·rw[Array.setIfInBounds_comm _ _ JQ];exact h3.2.2
theorem zaM {α:Type}{l:List α}{i:Nat}{x:α}{r:List α}(h:l.drop i=x::r):l.toArray[i]?=some x:=by
 have:=congrArg List.head? h;simpa using this
theorem zaR {l:List Oper}(i:Nat){oi:Oper}{r:List Oper}{v:Value}{f:Nat}{listed:Array Bool}{a:Act}{w:World}(hi:l.drop i=oi::r)(hs:(Region.noSelect l.toArray&&Region.free md l.toArray listed i&&(Region.ready md l.toArray listed).contains i&&zjK md l.toArray n i&&zdS md l.toArray listed)=true)
  (hQ:∀c a w,Q (.panic c) (a.put oi.dst v) w->Q (.panic c) a w) (hS:S w) (hw:Region.wanted oi (yielded l.toArray a.tmps)=true) (hy:∀w,S w->(execOp a.eval oi).run P w= .ok (.value v) w)
  (h:wpE P md l.toArray Q S n f (listed.setIfInBounds i true) (a.put oi.dst v) w):wpE P md l.toArray Q S n (f+1) listed a w:=by
 simp only[Bool.and_eq_true]at hs;exact zjL (zaM hi) hs.1.1.1.1 hQ hs.1.2 f listed a w (zc1 hs.2) (Region.free_spec (zaM hi) hs.1.1.1.2) (by simpa using hs.1.1.2) (.inl ⟨hw,hy⟩) hS h
theorem zjM {ops:Array Oper}{i:Nat}{oi:Oper}{v:Value}(hi:ops[i]?=some oi)(hs:Region.noSelect ops=true)(hQ:∀c a w,Q (.panic c) (a.put oi.dst v) w->Q (.panic c) a w):
  ∀(f:Nat)(listed:Array Bool)(a:Act)(w:World),(∀j oj,ops[j]?=some oj->j≠i->listed.getD j true=false->(∀e∈oj.after,Region.binds md e=true->e.on≠i)->oi.apart ops oj=true)->
   i∈Region.ready md ops listed->YieldsIf P ops (λ_=>True) oi v a->wpE P md ops Q S n f (listed.setIfInBounds i true) (a.put oi.dst v) w->wpE P md ops Q S n (f+1) listed a w:=by
 intro f
 induction f with
 |zero=>
  intro listed a w Jk hr hy H;refine⟨λh=>by rw[h]at hr;simp at hr,λj hj=>?_⟩;by_cases JQ:j=i
  ·subst JQ;exact hy.wpOp hi trivial ⟨λ_ h=>h,H⟩
  ·have h1:=ready_mono hj JQ;rw[H.1]at h1;simp at h1
 |succ f ih=>
  intro listed a w Jk hr hy H;refine⟨λh=>by rw[h]at hr;simp at hr,λj hj=>?_⟩;by_cases JQ:j=i
  ·subst JQ;exact hy.wpOp hi trivial ⟨λ_ h=>h,H⟩
  ·have h1:=H.2 j (ready_mono hj JQ);obtain⟨RD,oj,Kh,Ha⟩:=mem_ready.1 hj;have PA:∀e∈oj.after,Region.binds md e=true->e.on≠i:=λe he hb heq=>by
    have g1:=Ha e he hb;have g0:=(mem_ready.1 hr).1;rw[heq]at g1;rcases Nat.lt_or_ge i listed.size with h'|h'
    ·simp[h']at g0 g1;rw[g0]at g1;simp at g1
    ·simp[Array.getElem?_eq_none h']at g1
   have J5:=Region.noSelect_spec hs;have h2:=wpOp_putIf Kh (Jk j oj Kh JQ RD PA) (λcs b=>J5 i oi cs b hi) (λcs b=>J5 j oj cs b Kh) hQ hy h1;refine wpOp_mono (λa' w' h3=>⟨h3.2.1,ih (listed.setIfInBounds j true) a' w' (λk ok hk RE Ta Wp=>?_) (ready_mono hr (Ne.symm JQ)) h3.1 ?_⟩) h2
   ·refine Jk k ok hk RE ?_ Wp;by_cases NM:j=k
    ·subst NM;exact RD
    ·rwa [getD_set_ne true NM]at Ta
   ·rw[Array.setIfInBounds_comm _ _ JQ];exact h3.2.2
theorem zln {l:List Oper}(i:Nat){oi:Oper}{r:List Oper}{v:Value}{f:Nat}{listed:Array Bool}{a:Act}{w:World}(hi:l.drop i=oi::r)(hs:(Region.noSelect l.toArray&&Region.free md l.toArray listed i&&(Region.ready md l.toArray listed).contains i)=true)
  (hQ:∀c a w,Q (.panic c) (a.put oi.dst v) w->Q (.panic c) a w) (hw:Region.wanted oi (yielded l.toArray a.tmps)=true) (hy:∀w,(execOp a.eval oi).run P w= .ok (.value v) w)
  (h:wpE P md l.toArray Q S n f (listed.setIfInBounds i true) (a.put oi.dst v) w):wpE P md l.toArray Q S n (f+1) listed a w:=by
 simp only[Bool.and_eq_true]at hs;exact zjM (zaM hi) hs.1.1 hQ f listed a w (Region.free_spec (zaM hi) hs.1.2) (by simpa using hs.2) (.inl ⟨hw,λw _=>hy w⟩) h
theorem zab {l:List Oper}(i:Nat){oi:Oper}{r:List Oper}{f:Nat}{listed:Array Bool}{a:Act}{w:World}(hi:l.drop i=oi::r)(hr:Region.ready md l.toArray listed= [i])
  (h:∀K':Act->World->Prop,Shut (∀a w',(n i=true->S w->S w')->wpE P md l.toArray Q S n f (listed.setIfInBounds i true) a w'->K' a w')->if Region.wanted oi (yielded l.toArray a.tmps)=true then Oper.wp P oi a w K' Q else K' (a.put oi.dst undef) w):wpE P md l.toArray Q S n (f+1) listed a w:=by
 refine⟨λh0=>by rw[hr]at h0;simp at h0,λj hj=>?_⟩;rw[hr]at hj;have hj:j=i:=by simpa using hj
 subst hj;exact wpOp_step (zaM hi) λK' hK=>h K' λa w hS hW=>hK a w ⟨hS,hW⟩
theorem zgM {l:List Oper}(i j:Nat){oi oj:Oper}{r r':List Oper}{f:Nat}{listed:Array Bool}{a:Act}{w:World}(hi:l.drop i=oi::r)(hj:l.drop j=oj::r')(hr:Region.ready md l.toArray listed= [i,j])
  (h:∀K':Act->World->Prop,Shut (∀a w',(n i=true->S w->S w')->wpE P md l.toArray Q S n f (listed.setIfInBounds i true) a w'->K' a w')->if Region.wanted oi (yielded l.toArray a.tmps)=true then Oper.wp P oi a w K' Q else K' (a.put oi.dst undef) w)
  (h':∀K':Act->World->Prop,Shut (∀a w',(n j=true->S w->S w')->wpE P md l.toArray Q S n f (listed.setIfInBounds j true) a w'->K' a w')->if Region.wanted oj (yielded l.toArray a.tmps)=true then Oper.wp P oj a w K' Q else K' (a.put oj.dst undef) w):wpE P md l.toArray Q S n (f+1) listed a w:=by
 refine⟨λh0=>by rw[hr]at h0;simp at h0,λk hk=>?_⟩;rw[hr]at hk;simp only[List.mem_cons,List.not_mem_nil,or_false]at hk;rcases hk with rfl|rfl
 ·exact wpOp_step (zaM hi) λK' hK=>h K' λa w hS hW=>hK a w ⟨hS,hW⟩
 ·exact wpOp_step (zaM hj) λK' hK=>h' K' λa w hS hW=>hK a w ⟨hS,hW⟩
theorem zai {ops:Array Oper}{f:Nat}{listed:Array Bool}{a:Act}{w:World}(hr:Region.ready md ops listed= [])(h:Q .normal a w):wpE P md ops Q S n f listed a w:=by
 cases f with
 |zero=>exact⟨hr,h⟩
 |succ f=>exact⟨λ_=>h,λi hi=>by rw[hr]at hi;simp at hi⟩
theorem zad {id:Nat}{l:List Oper}{a:Act}{w:World}(S:World->Prop)(n:Nat->Bool)(hm:P.follows .mixedOrders =true)(hS:S w.drew)(h:S w.drew->wpE P .any l.toArray Q S n l.length (Array.replicate l.length false) a w.drew):(Code.region id l.toArray true).wp P Q a w:=
 wp_region_any hm (by
  have:=wpE.any _ _ _ _ (h hS);simpa using this)
end
theorem zaz {P:Program}{Q:Exit->Act->World->Prop}{md:Region.Mode}{S:World->Prop}{n:Nat->Bool}{l:List Oper}(i:Nat){oi:Oper}{r:List Oper}{v:Value}{f:Nat}{listed:Array Bool}{a:Act}{w:World}(hS:S w)
  (h:wpE P md l.toArray Q S n f (listed.setIfInBounds i true) (a.put oi.dst v) w) (hi:l.drop i=oi::r:=by rfl) (hs:(Region.noSelect l.toArray&&Region.free md l.toArray listed i&&(Region.ready md l.toArray listed).contains i&&zjK md l.toArray n i&&zdS md l.toArray listed)=true:=by kernel_rfl)
  (hQ:∀c a w,Q (.panic c) (a.put oi.dst v) w->Q (.panic c) a w:=by exact λ_ _ _ h=>h) (hw:Region.wanted oi (yielded l.toArray a.tmps)=true:=by rfl) (hy:∀w,S w->(execOp a.eval oi).run P w= .ok (.value v) w:=by(intro wz Gq;(try dsimp only at Gq);go_simp;try with_reducible rfl)):wpE P md l.toArray Q S n (f+1) listed a w:=zaR i hi hs hQ hS hw hy h
theorem zaD {P:Program}{Q:Exit->Act->World->Prop}{md:Region.Mode}{S:World->Prop}{n:Nat->Bool}{l:List Oper}(i:Nat){oi:Oper}{r:List Oper}{v:Value}{f:Nat}{listed:Array Bool}{a:Act}{w:World}(hS:S w)
  (h:wpE P md l.toArray Q S n f (listed.setIfInBounds i true) (a.put oi.dst v) w) (hi:l.drop i=oi::r:=by rfl) (hs:(Region.noSelect l.toArray&&Region.free md l.toArray listed i&&(Region.ready md l.toArray listed).contains i&&zjK md l.toArray n i&&zdS md l.toArray listed)=true:=by kernel_rfl)
  (hQ:∀c a w,Q (.panic c) (a.put oi.dst v) w->Q (.panic c) a w:=by exact λ_ _ _ h=>h) (hw:Region.wanted oi (yielded l.toArray a.tmps)=true:=by rfl) (hy:∀w,S w->(execOp a.eval oi).run P w= .ok (.value v) w:=by(intro wz Gq;(try conv at Gq=>whnf);go_simp;try with_reducible rfl)):wpE P md l.toArray Q S n (f+1) listed a w:=zaR i hi hs hQ hS hw hy h
theorem zaa {P:Program}{Q:Exit->Act->World->Prop}{md:Region.Mode}{S:World->Prop}{n:Nat->Bool}{l:List Oper}(i:Nat){oi:Oper}{r:List Oper}{v:Value}{f:Nat}{listed:Array Bool}{a:Act}{w:World}(h:wpE P md l.toArray Q S n f (listed.setIfInBounds i true) (a.put oi.dst v) w)(hi:l.drop i=oi::r:=by rfl)(hs:(Region.noSelect l.toArray&&Region.free md l.toArray listed i&&(Region.ready md l.toArray listed).contains i)=true:=by kernel_rfl)
  (hQ:∀c a w,Q (.panic c) (a.put oi.dst v) w->Q (.panic c) a w:=by exact λ_ _ _ h=>h) (hw:Region.wanted oi (yielded l.toArray a.tmps)=true:=by rfl) (hy:∀w,(execOp a.eval oi).run P w= .ok (.value v) w:=by(intro wz;go_simp;try with_reducible rfl)):wpE P md l.toArray Q S n (f+1) listed a w:=zln i hi hs hQ hw hy h
open Go.Shelf Go.Maps
def CnX (xs:Cds):Prop:=∀(w:World)(S:Nat->Prop)(A:Option Addr)(c:Nat)(n:Nms)(b k:Nat),NmM w b k n->(∀b,S b->b < w.heap.size)->szC xs->SlR (λb o=>CdR w S False xs b o) xs.len 64 A c->
 Calls Tryz.prog 87 #[.slice A xs.len c,.func (.func 88) #[.map (some b)] #[]] w λe w'=>
  ∃A' c',e= .returned (.slice A' xs.len c')/\SlR (λb o=>CdR w' (New w.heap.size w') True (zaJ n xs) b o) xs.len 64 A' c'/\Fr NoT w w'
def zjN (cur DP:Array Value)(o:Nat)(a1 a2:Value):Prop:=DP.size=cur.size/\DP[o+1]?=some a1/\DP[o+2]?=some a2/\∀j,j≠o+1->j≠o+2->DP[j]?=cur[j]?
def CnX1 (args:Exs)(of_:Cds):Prop:=∀(w:World)(S:Nat->Prop)(A B:Option Addr)(c d:Nat)(n:Nms)(b q g o:Nat)(T:TypeId)(cur:Array Value),NmM w b q n->b≠g->(∀b,S b->b < w.heap.size/\b≠g)->szX args->szC of_->
 Bk w g T cur->cur[o+1]?=some (.slice A args.len c)->cur[o+2]?=some (.slice B of_.len d)->SlR (λb o=>ExR w S False args b o) args.len 64 A c->SlR (λb o=>CdR w S False of_ b o) of_.len 64 B d->
 Calls Tryz.prog 88 #[.map (some b),.pointer (some ⟨g,o,none⟩)] w λe w'=>e= .returned (.tuple #[])/\
  ∃A' c' B' d' DP,Bk w' g T DP/\zjN cur DP o (.slice A' args.len c') (.slice B' of_.len d')/\SlR (λb o=>ExR w' (New w.heap.size w') True (zar n args) b o) args.len 64 A' c'/\SlR (λb o=>CdR w' (New w.heap.size w') True (zaJ n of_) b o) of_.len 64 B' d'/\Fr (λb=>b=g) w w'
theorem znm {cur:Array Value}{o:Nat}{x1 x2:Value}(h1:o+1 < cur.size)(h2:o+2 < cur.size):zjN cur ((cur.setIfInBounds (o+1) x1).setIfInBounds (o+2) x2) o x1 x2:=by
 refine⟨by simp,?_,?_,λj j1 j3=>?_⟩
 ·rw[Array.getElem?_setIfInBounds_ne (by omega),Array.getElem?_setIfInBounds_self_of_lt h1]
 ·rw[Array.getElem?_setIfInBounds_self_of_lt (by simpa using h2)]
 ·rw[Array.getElem?_setIfInBounds_ne (by omega),Array.getElem?_setIfInBounds_ne (by omega)]
theorem zjO {w:World}{L L' g i m:Nat}{u:Value}{xs:Cds}{A:Option Addr}{c:Nat}(hg:g < L)(hL:L'<=L)(h:SlR (λb o=>CdR w (New L w) True xs b o) m 64 A c):
  SlR (λb o=>CdR (w.setCell ⟨g,i,none⟩ u) (New L' (w.setCell ⟨g,i,none⟩ u)) True xs b o) m 64 A c:=
 h.imp λ_ _ h=>CdR.more (λb hb=>⟨leq9 hL hb.1,by simpa using hb.2⟩) (CdR.keep ((Fr.own (Fr.refl _ w) i u).same λb hb=>⟨hb.2,λe=>by have e:b=g:=e;have:=hb.1;omega⟩) h)
theorem cnx1 (args:Exs)(of_:Cds)(Ha:CnX of_):CnX1 args of_:=by
 intro w S A B c d n b q g o T cur hn Uu hS UR Wu FP e1 e2 hx hc;have hl:args.len<=9223372036854775807:=leq9 hx.1 hx.2.1.1;have Gl:of_.len<=9223372036854775807:=leq9 hc.1 hc.2.1.1;have c1:=(FP.cell (o+1)).trans e1;have c2:=(FP.cell (o+2)).trans e2;have Nr:=FP.lt;have Ra:=hdq FP;have HX:=hdq (λ(W:World)(hf:Fr NoT w W)=>zfd args W S A c n b q (hn.fr hf id) (λb hb=>ltq (hS b hb).1 hf.size) UR (hx.imp λ_ _ h=>ExR.keep (hf.same λb hb=>⟨(hS b hb).1,id⟩) h));have HC:=hdq (λ(W:World)(hf:Fr NoT w W)=>Ha W S B d n b q (hn.fr hf id) (λb hb=>ltq (hS b hb).1 hf.size) Wu (hc.imp λ_ _ h=>CdR.keep (hf.same λb hb=>⟨(hS b hb).1,id⟩) h));have HB:=hdq (aiq (Array.getElem?_eq_some_iff.1 e1).1 (Array.getElem?_eq_some_iff.1 e2).1);obtain⟨m,hm⟩:=nmq args.len;obtain⟨m2,Fg⟩:=nmq of_.len;rw[<-hm]at hl c1 HX ⊢;rw[<-Fg]at Gl c2 HC ⊢;have HM:=hdq (aiq hm Fg);clear Ha hn hS UR Wu hx hc FP e1 e2 hm Fg Uu;go_enter Tryz.func88,Tryz.ntmps88;go_wp2_with fail;refine zad (λW'=>g < W'.heap.size/\W'.cell? ⟨g,o+1,none⟩=some (.slice A m c)/\W'.cell? ⟨g,o+2,none⟩=some (.slice B m2 d)) (λi=>decide (i < 16)) (by kernel_rfl) ⟨Nr,c1,c2⟩ (λhHeld=>?_);refine zaa 0 ?_;simp only[putsL];refine zaa 1 ?_;simp only[putsL];refine zaa 2 ?_;simp only[putsL];refine zaa 3 ?_;simp only[putsL];refine zaa 4 ?_;simp only[putsL];refine zaa 6 ?_;simp only[putsL];refine zaa 9 ?_;simp only[putsL];refine zaa 10 ?_;simp only[putsL];refine zaa 11 ?_;simp only[putsL];refine zaa 13 ?_;simp only[putsL]
 refine zaz 5 hHeld ?_;simp only[putsL];refine zaz 12 hHeld ?_;simp only[putsL];refine zaa 7 ?_;simp only[putsL];refine zaa 14 ?_;simp only[putsL];refine zab 8 rfl (by kernel_rfl) (λKK hK=>?_);go_simp;go_at_call 85;refine(HX _ ((Fr.refl NoT w).drew)).mono ?_;rintro _ w1 ⟨A',c',rfl,Fh,Hi⟩;have Hn:=hdq (((Fr.refl NoT w).drew).trans Hi);have Hp:=Ra.fr0 Hn.out;have Fs:g < w1.heap.size/\w1.cell? ⟨g,o+1,none⟩=some (.slice A m c)/\w1.cell? ⟨g,o+2,none⟩=some (.slice B m2 d):=⟨Hp.lt,(Hp.cell _).trans ((Ra.cell _).symm.trans c1),(Hp.cell _).trans ((Ra.cell _).symm.trans c2)⟩;have J7:=hdq Fh;clear hHeld Fh Hi Hp;dsimp only;refine hK _ _ (λ_ _=>Fs) ?_;clear hK KK;have hHeld:=Fs;clear Fs;try simp only[putsL]
 refine zab 15 rfl (by kernel_rfl) (λKK hK=>?_);go_simp;go_at_call 87;refine(HC _ Hn.out).mono ?_;rintro _ w2 ⟨B',d',rfl,L8,Gd⟩;have He:=(Ra.fr0 Hn.out).fr0 Gd;have RI:=He.lt;have f1:=He.frozen (o+1);have f2:=He.frozen (o+2);have q1:=(He.cell (o+1)).trans ((Ra.cell _).symm.trans c1);have q2:=(He.cell (o+2)).trans ((Ra.cell _).symm.trans c2);have Hy:=hdq Gd;have FX:=hdq He;have ks:=hdq L8;clear L8 Gd He;dsimp only;refine hK _ _ (λ_ _=>⟨RI,q1,q2⟩) ?_;clear hK KK hHeld;try simp only[putsL]
 refine zab 16 rfl (by kernel_rfl) (λKK hK=>?_);go_simp;refine hK _ _ (λh=>absurd h (by decide)) ?_;clear hK KK;try simp only[putsL]
 refine zab 17 rfl (by kernel_rfl) (λKK hK=>?_);go_simp;refine hK _ _ (λh=>absurd h (by decide)) ?_;clear hK KK;try simp only[putsL]
 refine zab 18 rfl (by kernel_rfl) (λKK hK=>?_);go_simp;refine hK _ _ (λh=>absurd h (by decide)) ?_;clear hK KK;try simp only[putsL]
 refine zab 19 rfl (by kernel_rfl) (λKK hK=>?_);go_simp;refine hK _ _ (λh=>absurd h (by decide)) ?_;clear hK KK;try simp only[putsL]
 refine zab 20 rfl (by kernel_rfl) (λKK hK=>?_);go_simp;refine hK _ _ (λh=>absurd h (by decide)) ?_;clear hK KK;try simp only[putsL]
 refine zab 21 rfl (by kernel_rfl) (λKK hK=>?_);go_simp;refine hK _ _ (λh=>absurd h (by decide)) ?_;clear hK KK;try simp only[putsL]
 refine zai (by kernel_rfl) ?_;go_wp2_with fail;go_end0;have RJ:Fr NoT w w2:=Hn.trans Hy.out;refine⟨rfl,A',c',B',d',_,(FX.set_ (o+1) (.slice A' m c')).set_ (o+2) (.slice B' m2 d'),znm (x1:= .slice A' m c') (x2:= .slice B' m2 d') HB.1 HB.2,?_,?_,((RJ.any:Fr (λb=>b=g) w w2).own _ _).own _ _⟩
 ·refine zhl (ltq Nr (lrq _)) (lrq _) (zhl Nr (lrq _) (J7.imp λ_ _ h=>ExR.more (λb hb=>⟨hb.1,ltq hb.2 Hy.size⟩) (ExR.keep (Hy.same λb hb=>⟨hb.2,id⟩) h)))
 ·exact zjO Nr (lrq _) (zjO Nr (lrq _) (ks.imp λ_ _ h=>CdR.more (λb hb=>⟨leq9 Hn.size hb.1,hb.2⟩) h))
def zid (acc:List Cn)(t:Cds):Cds:=acc.foldr Cn.cons t
theorem zie (acc:List Cn)(x:Cn)(t:Cds):zid (acc++ [x]) t=zid acc (x.cons t):=by simp[zid,List.foldr_append]
theorem zf1:∀acc:List Cn,zid acc .nil =zcv acc
 | []=>rfl
 |x::r=>by show x.cons (zid r .nil)=x.cons (zcv r);rw[zf1 r]
theorem zl9:∀(i:Nat) {xs:Cds} {a0 a1 a2 a3 ar},szC xs->Cds.drop i xs= .cons a0 a1 a2 a3 ar->szX a1/\szC a2
 |0,.cons _ _ _ _ _,_,_,_,_,_,h,hd=>by
  simp only[Cds.drop]at hd;cases hd;exact⟨h.1,h.2.1⟩
 |0,.nil,_,_,_,_,_,_,hd=>by simp[Cds.drop]at hd
 |i+1,.nil,_,_,_,_,_,_,hd=>by simp[Cds.drop]at hd
 |i+1,.cons _ _ _ _ _,_,_,_,_,_,h,hd=>by
  simp only[Cds.drop]at hd;exact zl9 i h.2.2 hd
structure CnSt (w:World)(S:Nat->Prop)(n:Nms)(xs:Cds)(g:Nat)(wr:World)(cur:Array Value)(acc:List Cn)(Es Ez:List Value)(k:Nat):Prop where
 bk:Bk wr g 160 cur
 fr:Fr NoT w wr
 c1:∀(j:Nat)(u:Value),Es[j]?=some u->cur[j]?=some u
 l1:Es.length=k*4
 c2:∀(j:Nat)(u:Value),Ez[j]?=some u->cur[k*4+j]?=some u
 r1:RowR oneC wr (λb=>w.heap.size<=b/\b < wr.heap.size/\b≠g) acc Es
 r2:RowR (zhR False) w S (Cds.drop k xs).toL Ez
 eq:zid acc (zaJ n (Cds.drop k xs))=zaJ n xs
 len:acc.length=k
theorem CnSt.step {w:World}{S:Nat->Prop}{n:Nms}{xs:Cds}{g:Nat}{wr:World}{cur:Array Value}{acc:List Cn}{Es Et:List Value}{k:Nat}{a0:Int}{a1:Exs}{a2:Cds}{a3:Int}{ar:Cds}{A1 A2:Option Addr}{q1 q2:Nat}
  (h:CnSt w S n xs g wr cur acc Es ([.int .u8 a0,.slice A1 a1.len q1,.slice A2 a2.len q2,.int .i64 a3]++Et) k) (hd:Cds.drop k xs= .cons a0 a1 a2 a3 ar) (hr:RowR (zhR False) w S ar.toL Et) (h0:in8 a0) (h3:in64 a3) (Wt:w.heap.size<=g)
  {w2:World} {DP:Array Value} {A' B':Option Addr} {c' d':Nat} (FP:Bk w2 g 160 DP) (Ge:zjN cur DP (k*4) (.slice A' a1.len c') (.slice B' a2.len d')) (Fh:SlR (λb o=>ExR w2 (New wr.heap.size w2) True (zar n a1) b o) a1.len 64 A' c') (L8:SlR (λb o=>CdR w2 (New wr.heap.size w2) True (zaJ n a2) b o) a2.len 64 B' d') (hf:Fr (λb=>b=g) wr w2):
  CnSt w S n xs g w2 DP (acc++ [⟨a0,zar n a1,zaJ n a2,a3⟩]) (Es++ [.int .u8 a0,.slice A' a1.len c',.slice B' a2.len d',.int .i64 a3]) Et (k+1):=by
 have hg:=h.bk.lt;have hz:=h.fr.size;have Gn:=hf.size;obtain⟨hs,e1,e2,ej⟩:=Ge;have at_:∀i u, [.int .u8 a0,.slice A1 a1.len q1,.slice A2 a2.len q2,.int .i64 a3][i]?=some u->cur[k*4+i]?=some u:=λi u hi=>h.c2 i u (by
  rw[List.getElem?_append_left (by have:=(List.getElem?_eq_some_iff.1 hi).1;simpa using this)];exact hi)
 refine⟨FP,Fr.back1 h.fr (hf.mono λb _ (e:b=g)=>(by omega:w.heap.size<=b)) (lrq _),λj u hj=>?_,by simp[h.l1];omega,λj u hj=>?_,?_,?_,?_,by simp[h.len]⟩
 ·by_cases Hr:j < Es.length
  ·rw[List.getElem?_append_left Hr]at hj;have Hv:=h.l1;rw[ej j (by omega) (by omega)];exact h.c1 j u hj
  ·rw[List.getElem?_append_right (by omega),h.l1]at hj;have Hv:=h.l1;obtain⟨i,rfl⟩:∃i,j=k*4+i:=⟨j - k*4,by omega⟩;rw[show k*4+i - k*4=i from by omega]at hj
   match i,hj with
   |0,hj=>rw[ej _ (by omega) (by omega)];exact at_ 0 u hj
   |1,hj=>rw[e1];exact hj
   |2,hj=>rw[e2];exact hj
   |3,hj=>rw[ej _ (by omega) (by omega)];exact at_ 3 u hj
   |i+4,hj=>simp at hj
 ·rw[show(k+1)*4+j=k*4+(4+j)from by omega,ej _ (by omega) (by omega)];refine h.c2 (4+j) u ?_;rw[List.getElem?_append_right (by simp)];simpa using hj
 ·refine RowR.snoc ⟨A',c',B',d',?_,h0,h3,?_,?_⟩ (RowR.imp zbC (hf.same λb hb=>⟨hb.2.1,hb.2.2⟩) (λb hb=>⟨hb.1,by have:=hb.2.1;omega,hb.2.2⟩) h.r1)
  ·rw[zaC,zaO]
  ·rw[zaC];exact Fh.imp λ_ _ hx=>ExR.more (λb hb=>⟨by have:=hb.1;omega,hb.2,by have:=hb.1;omega⟩) hx
  ·rw[zaO];exact L8.imp λ_ _ hx=>CdR.more (λb hb=>⟨by have:=hb.1;omega,hb.2,by have:=hb.1;omega⟩) hx
 ·rw[Cds.drop_succ k xs hd];exact hr
 ·rw[zie,Cds.drop_succ k xs hd,<-h.eq,hd];rfl
theorem zma (xs:Cds)(Ha:∀(i:Nat)(a0:Int)(a1:Exs)(a2:Cds)(a3:Int)(ar:Cds),Cds.drop i xs= .cons a0 a1 a2 a3 ar->CnX a2):CnX xs:=by
 intro w S A c n b q hn hS Ht hx;have hl:xs.len<=9223372036854775807:=leq9 hx.1 hx.2.1.1;obtain⟨cs,Ki,GA,Ge,Kw,F6⟩:=slC hx;have Ke:=hdq (zh9 A xs.len c cs w hl hx.2.1.2 Ki Ge Kw F6);have HA:=hdq Ha;have HX:=hdq hx;have HS:=hdq hS;have HN:=hdq (aiq hn Ht);have Kx:=hdq (aiq Ki GA);obtain⟨m,hm⟩:=nmq xs.len;rw[<-hm]at hl Ke ⊢;have HM:=hdq hm;clear Ha hx hS hm hn Ht Ki GA Ge Kw F6;go_enter Tryz.func87,Tryz.ntmps87;go_wp2_with fail;refine Ke.mono ?_;rintro _ w1 ⟨v,rfl,Hg,Hi,A1,c1,rfl⟩;by_cases h0:m=0
 ·subst h0;have Hn:=hdq Hi;have K1:=hdq (zi1 Hg);clear Hg Hi;go_wp2_with fail;go_loopw [10] (λi wr=>wr=w1/\i= .int .i64 0) (λ_ _=>0);case atStart=>exact⟨rfl,rfl⟩
  case round=>
   obtain⟨rfl,rfl⟩:=hrel;go_wp2_with fail;go_ret;exact⟨A1,c1,rfl,⟨Nat.zero_le _,⟨K1.out,by decide⟩,λh=>absurd h (Nat.lt_irrefl 0)⟩,Hn.out⟩
 ·obtain⟨g,cap,pad,e,Wt,Nr,Qp,Js,FP⟩:=zfJ Hg (Nat.pos_of_ne_zero h0);obtain⟨rfl,rfl⟩:A1=some ⟨g,0,none⟩/\c1=cap:=by
   injection e with e1 e2 e3;exact⟨e1,e3⟩
  have Hj:=hdq (show CnSt w S n xs g w1 (cs++pad).toArray [] [] cs 0 from⟨FP,Hi,by simp,rfl,λj u hj=>by
   have:=(List.getElem?_eq_some_iff.1 hj).1;rw[Nat.zero_mul,Nat.zero_add,List.getElem?_toArray,List.getElem?_append_left this];exact hj,rfl,Kx.2,rfl,rfl⟩)
  have HG:=hdq (aiq Wt (aiq Qp Js));clear Hg Hi FP e Nr Js Wt Qp;go_wp2_with fail;go_loopw [10] (λi wr=>∃k:Nat,k<=m/\i= .int .i64 k/\∃(cur:Array Value)(acc:List Cn)(d1 d2:List Value),Hid (CnSt w S n xs g wr cur acc d1 d2 k)) (λi _=>m - (intOf i).toNat);case atStart=>exact⟨0,Nat.zero_le _,rfl,_,_,_,_,Hj⟩
  case round=>
   clear Hj;obtain⟨k,hk,rfl,cur,acc,d1,d2,hb⟩:=hrel;by_cases Hr:k < m
   ·obtain⟨a0,a1,a2,a3,ar,hd⟩:=Cds.drop_cons (show k < xs.len from by rw[<-HM.out];exact Hr);have JV:=hb.r2;rw[hd]at JV;obtain⟨ys,DW,rfl,⟨A1,q1,A2,q2,rfl,r0,r1,s3,s4⟩,hr⟩:=JV;have Hl:(k:Int) < (m:Int):=by omega
    have Fb:(0:Int)<=(k:Int):=by omega
    have ki:w.heap.size<=g:=HG.1;have hq:=HN.1.lt;have Ht:=zl9 k HN.2 hd;have GW:=hb.fr.same (S:=S) λb Je=>⟨HS b Je,id⟩;have HC:=hdq (cnx1 a1 a2 (HA k a0 a1 a2 a3 ar hd) wr S A1 A2 q1 q2 n b q g (k*4) 160 cur (HN.1.fr hb.fr id) (by omega) (λb Je=>⟨ltq (HS b Je) hb.fr.size,by have:=HS b Je;omega⟩) Ht.1 Ht.2 hb.bk (hb.c2 1 _ rfl) (hb.c2 2 _ rfl) (s3.imp λ_ _ h=>ExR.keep GW h) (s4.imp λ_ _ h=>CdR.keep GW h));have HD:=hdq (aiq hd (aiq hr (aiq r0 r1)));have MQ:=hb.bk.lt;clear hd hr r0 r1 s3 s4 Ht hq GW;go_wp2_with fail;refine HC.mono ?_;rintro _ w2 ⟨rfl,A',c',B',d',DP,FP,Ge,Fh,L8,Gd⟩;have F8:=hdq (hb.step HD.1 HD.2.1 HD.2.2.1 HD.2.2.2 ki FP Ge Fh L8 Gd);clear FP Ge Fh L8 Gd hb MQ;go_wp2_with fail;go_roundw;case rel=>exact⟨k+1,by omega,by go_num,_,_,_,_,F8⟩
    case measure=>simp[intOf];omega
   ·have Hl:¬(k:Int) < (m:Int):=by omega
    have JK:k=m:=by omega
    have heq:zaJ n xs=zcv acc:=by
     rw[<-zf1,<-hb.eq,Cds.drop_nil (by rw[<-HM.out];omega)];rfl
    have Fh:SlR (λb o=>CdR wr (New w.heap.size wr) True (zaJ n xs) b o) m 64 (some ⟨g,0,none⟩) c1:=by
     refine⟨HG.2.1,⟨by have:=HG.2.2;unfold maxLen at this;omega,by have:=HX.2.1.2;rw[<-HM.out]at this;exact this⟩,λ_=>⟨g,0,rfl,?_⟩⟩;show CdR wr (New w.heap.size wr) True (zaJ n xs) g 0
     rw[heq];refine rowC ⟨⟨HG.1,hb.bk.lt⟩,Thaw.of hb.bk⟩ (RowR.imp zbC (SameS.refl _ _) (λb hb=>⟨hb.1,hb.2.1⟩) hb.r1) λj u hj=>?_;rw[Nat.zero_add];exact(hb.bk.cell j).trans (hb.c1 j u hj)
    have J7:=hdq Fh;have HF:=hdq hb.fr;clear heq Fh hb;go_wp2_with fail;go_ret;exact⟨_,_,rfl,J7.out,HF.out⟩
theorem zgN:∀(xs:Cds)(i:Nat)(a0:Int)(a1:Exs)(a2:Cds)(a3:Int)(ar:Cds),Cds.drop i xs= .cons a0 a1 a2 a3 ar->CnX a2
 | .nil,i,_,_,_,_,_,h=>by cases i<;>simp[Cds.drop]at h
 | .cons k args of_ at_ rest,0,a0,a1,a2,a3,ar,h=>by
  simp only[Cds.drop,Cds.cons.injEq]at h;obtain⟨_,_,rfl,_,_⟩:=h;exact zma _ (zgN _)
 | .cons k args of_ at_ rest,i+1,a0,a1,a2,a3,ar,h=>by
  simp only[Cds.drop]at h;exact zgN rest i a0 a1 a2 a3 ar h
theorem zjP (xs:Cds):CnX xs:=zma xs (zgN xs)
def prcV (x:Prc)(A:Option Addr)(c:Nat)(B:Option Addr)(e:Nat):Value:= .agg #[.string x.nm,.slice A x.params.length c,.slice B x.body.len e,.int .i64 x.at_]
structure InK where
 W0:World
 S:Nat->Prop
 P:Nat
 bp:Nat
 np:Nat
 f:List UInt8->Option Value
 procs:List UInt8->Option Prc
structure InK.Ok (K:InK):Prop where
 tab:Lib.TabIs Tryz.prog K.W0 "internal/strconv.uint64pow10" .u64 Lib.pow10Tab
 low:∀b,K.S b->b < K.W0.heap.size
 none_:∀y,K.procs y=none->K.f y=none
 some_:∀y x,K.procs y=some x->∃A c B e,K.f y=some (prcV x A c B e)/\SlR (VaR K.W0 K.S False x.params) x.params.length 24 A c/\SlR (StR K.W0 K.S False x.body) x.body.len 128 B e
 few:∀y x,K.procs y=some x->x.params.length<=4/\x.nm.size<=16/\(∀v∈x.params,v.nm.size<=16/\in64 v.at_)/\szS x.body/\in64 x.at_
structure InAt (K:InK)(w:World)(s:Ist)(v:Value):Prop where
 fr:Fr NoT K.W0 w
 bk:Bk w K.P 76 #[.map (some K.bp),.int .i64 s.calls,v,.int .i64 s.many]
 map:MpV w K.bp K.np K.f
 row:∃cs,w.ownsRow K.W0.heap.size 43 2 v s.vars.length cs/\RowR oneV w (λ_=>True) s.vars cs
 high:K.W0.heap.size<=K.P/\K.W0.heap.size<=K.bp
 ne:K.P≠K.bp/\v.ownBlock≠some K.P/\v.ownBlock≠some K.bp
 most:s.many<=261/\s.calls<=s.many+1/\s.vars.length<=36
def InT (K:InK)(v:Value):Nat->Prop:=λb=>b=K.P\/v.ownBlock=some b
theorem zba {w:World}{base n size:Nat}{t:TypeId}{v:Value}{xs:List Value}(h:w.ownsRow base t size v n xs):∃A c,v= .slice A n c/\(A=none->c=0/\n=0):=by
 rcases h.2 with⟨e1,e2⟩|⟨g,cap,cur,e1,_⟩
 ·exact⟨none,0,by rw[e1,e2],λ_=>⟨rfl,e2⟩⟩
 ·exact⟨_,cap,e1,λh=>by simp at h⟩
theorem zaf {w:World}{base n size:Nat}{t:TypeId}{v:Value}{xs:List Value}(h:w.ownsRow base t size v n xs){b:Nat}(hb:v.ownBlock=some b):base<=b/\b < w.heap.size:=h.lt b hb
theorem zag {w w':World}{base n size:Nat}{t:TypeId}{v:Value}{xs:List Value}{T:Nat->Prop}(h:w.ownsRow base t size v n xs)(hf:Fr T w w')(hv:∀b,v.ownBlock=some b->¬T b):w'.ownsRow base t size v n xs:=by
 refine⟨h.1,?_⟩;rcases h.2 with hn|⟨g,cap,cur,rfl,hb,US,rest⟩
 ·exact .inl hn
 ·exact .inr ⟨g,cap,cur,rfl,hb,(hf.block g (Array.getElem?_eq_some_iff.1 US).1 (hv g rfl)).trans US,rest⟩
theorem zf2 {w:World}{base base' n size:Nat}{t:TypeId}{v:Value}{xs:List Value}(h:w.ownsRow base t size v n xs)(hl:base'<=base):w.ownsRow base' t size v n xs:=by
 refine⟨h.1,?_⟩;rcases h.2 with hn|⟨g,cap,cur,rfl,hb,r⟩
 ·exact .inl hn
 ·exact .inr ⟨g,cap,cur,rfl,leq9 hl hb,r⟩
theorem RowR.any {w w':World}:∀ {xs:List Va} {cs:List Value},RowR oneV w (λ_=>True) xs cs->RowR oneV w' (λ_=>True) xs cs
 | [],_,h=>h
 |x::r,cs,⟨ys,DW,e,h1,h2⟩=>⟨ys,DW,e,h1,RowR.any h2⟩
theorem InAt.frT {K:InK}{w w':World}{s:Ist}{v:Value}(h:InAt K w s v){T:Nat->Prop}(hf:Fr T w w')(hW:∀b,T b->K.W0.heap.size<=b)(hP:¬T K.P)(hb:¬T K.bp)(hv:∀b,v.ownBlock=some b->¬T b):InAt K w' s v:=by
 obtain⟨cs,h1,h2⟩:=h.row;exact⟨Fr.back1 h.fr (hf.mono λi _ ht=>hW i ht) (lrq _),h.bk.fr hf hP,h.map.fr hf hb,⟨cs,zag h1 hf hv,h2.any⟩,h.high,h.ne,h.most⟩
theorem InAt.fr0 {K:InK}{w w':World}{s:Ist}{v:Value}(h:InAt K w s v)(hf:Fr NoT w w'):InAt K w' s v:=h.frT hf (λ_ h=>h.elim) id id λ_ _=>id
theorem InAt.tab {K:InK}{w:World}{s:Ist}{v:Value}(h:InAt K w s v)(hk:K.Ok):Lib.TabIs Tryz.prog w "internal/strconv.uint64pow10" .u64 Lib.pow10Tab:=by
 have:=hk.tab;unfold Lib.TabIs at this ⊢;exact zcp h.fr.plain this
theorem zhm (K:InK)(w:World)(s:Ist)(v:Value)(h:InAt K w s v):Calls Tryz.prog 29 #[.pointer (some ⟨K.P,0,none⟩)] w λe w'=>e= .returned (.bool (zaT s))/\w'=w:=by
 obtain⟨cs,GA,_⟩:=h.row;obtain⟨A,c,rfl,_⟩:=zba GA;have k:=h.bk;have g2:=k.cell 2;have g3:=k.cell 3;have gl:=k.lt;simp only[getsL]at g2 g3;obtain⟨n,hn⟩:=nmq s.vars.length;obtain⟨m,hm⟩:=nmq s.many;unfold zaT;rw[<-hn]at g2 ⊢;rw[<-hm]at g3 ⊢;clear h GA k hn hm;by_cases h1:256 < m
 ·have XI:(256:Int) < (m:Int):=by omega
  go_enter Tryz.func29,Tryz.ntmps29;go_wp2_with fail;go_ret;exact⟨by simp[h1],rfl⟩
 ·have XI:¬(256:Int) < (m:Int):=by omega
  by_cases h2:32 < n
  ·have gN:(32:Int) < (n:Int):=by omega
   go_enter Tryz.func29,Tryz.ntmps29;go_wp2_with fail;go_ret;exact⟨by simp[h2],rfl⟩
  ·have gN:¬(32:Int) < (n:Int):=by omega
   go_enter Tryz.func29,Tryz.ntmps29;go_wp2_with fail;go_ret;exact⟨by simp[h1,h2],rfl⟩
