/- A regi. -/
import Derived.Test.YtfomomaomggpbaaGreatDoorJnInE
set_option linter.all false
namespace Go.Proofs.YtfomomaomggpbaaGreatDoor
open Go.RowKit
section
variable {P:Program} {Q:Exit->Act->World->Prop} {md:Region.Mode} {S:World->Prop} {n:Nat->Bool}
def wpE (P:Program)(md:Region.Mode)(ops:Array Oper)(Q:Exit->Act->World->Prop)(S:World->Prop)(n:Nat->Bool):Nat->Array Bool->Act->World->Prop
 |0,listed,a,w=>Region.ready md ops listed= []/\Q .normal a w
 |f+1,listed,a,w=>(Region.ready md ops listed= []->Q .normal a w)/\
   ∀i∈Region.ready md ops listed,wpOp P ops Q i (λa' w'=>(n i=true->S w->S w')/\wpE P md ops Q S n f (listed.setIfInBounds i true) a' w') a w
theorem wpE.any {ops:Array Oper}:∀(f:Nat)(listed:Array Bool)(a:Act)(w:World),wpE P md ops Q S n f listed a w->wpAny P md ops Q f listed a w
 |0,_,_,_,h=>h
 |f+1,_,_,_,h=>⟨h.1,λi hi=>wpOp_mono (λa' w' h'=>wpE.any f _ a' w' h'.2) (h.2 i hi)⟩
def ClosedL (md:Region.Mode)(ops:Array Oper)(listed:Array Bool):Prop:=∀k ok,ops[k]?=some ok->listed.getD k false=true->∀e∈ok.after,Region.binds md e=true->listed.getD e.on false=true
def zeH (md:Region.Mode)(ops:Array Oper)(listed:Array Bool):Bool:=(List.range ops.size).all λk=> !listed.getD k false || ((ops[k]?).map (·.after.all λe=> !Region.binds md e || listed.getD e.on false)).getD true
theorem zdF {ops:Array Oper}{listed:Array Bool}(h:zeH md ops listed=true):ClosedL md ops listed:=λk ok hk hl e he hb=>by
 have h1:=List.all_eq_true.1 h k (List.mem_range.2 (Array.getElem?_eq_some_iff.1 hk).1);rw[hk,hl]at h1;simp only[Bool.not_true,Bool.false_or,Option.map_some,Option.getD_some,Array.all_eq_true_iff_forall_mem]at h1;have h2:=h1 e he;simpa[hb]using h2
def zlA (md:Region.Mode)(ops:Array Oper)(n:Nat->Bool)(i:Nat):Bool:=(List.range ops.size).all λj=>n j || j==i || Region.waitsFor md ops j i || (List.range ops.size).any λk=>Region.waitsFor md ops j k&&Region.waitsFor md ops k i
theorem zjC {ops:Array Oper}{i j:Nat}{listed:Array Bool}(h:zlA md ops n i=true)(hc:ClosedL md ops listed)(hi:listed.getD i true=false)(hj:j∈Region.ready md ops listed)(Gh:j≠i):n j=true:=by
 obtain⟨_,oj,KR,Hb⟩:=mem_ready.1 hj;have L5:listed.getD i false≠true:=λe=>by
  rcases Nat.lt_or_ge i listed.size with h'|h'
  ·simp[h']at hi e;rw[hi]at e;simp at e
  ·simp[Array.getElem?_eq_none h']at hi
 have h1:=List.all_eq_true.1 h j (List.mem_range.2 (Array.getElem?_eq_some_iff.1 KR).1);simp only[Bool.or_eq_true,beq_iff_eq]at h1;rcases h1 with((h1|h1)|h1)|h1
 ·exact h1
 ·exact absurd h1 Gh
 ·obtain⟨Dl,M2,e,he,hb,WK⟩:=Region.waitsFor_spec h1;rw[KR]at M2;cases M2;exact absurd (WK▸Hb e he hb) L5
 ·obtain⟨k,_,hk⟩:=List.any_eq_true.1 h1;simp only[Bool.and_eq_true]at hk;obtain⟨Dl,M2,e,he,hb,WK⟩:=Region.waitsFor_spec hk.1;rw[KR]at M2;cases M2;have Vt:=Hb e he hb;rw[WK]at Vt;obtain⟨ok,FC,e2,Yj,G2,Z7⟩:=Region.waitsFor_spec hk.2;exact absurd (Z7▸hc k ok FC Vt e2 Yj G2) L5
theorem ClosedL.set {ops:Array Oper}{listed:Array Bool}{j:Nat}(hc:ClosedL md ops listed)(hj:j∈Region.ready md ops listed):ClosedL md ops (listed.setIfInBounds j true):=λk ok hk hl e he hb=>by
 obtain⟨_,oj,KR,Hb⟩:=mem_ready.1 hj;by_cases jY:k=j
 ·subst jY;rw[hk]at KR;cases KR;exact getD_set_true (Hb e he hb)
 ·rw[getD_set_ne false (Ne.symm jY)]at hl;exact getD_set_true (hc k ok hk hl e he hb)
theorem zlB {ops:Array Oper}{i:Nat}{oi:Oper}{v:Value}(hi:ops[i]?=some oi)(hs:Region.noSelect ops=true)(hQ:∀c a w,Q (.panic c) (a.put oi.dst v) w->Q (.panic c) a w)(hl:zlA md ops n i=true):
  ∀(f:Nat)(listed:Array Bool)(a:Act)(w:World),ClosedL md ops listed->(∀j oj,ops[j]?=some oj->j≠i->listed.getD j true=false->(∀e∈oj.after,Region.binds md e=true->e.on≠i)->oi.apart ops oj=true)->
   i∈Region.ready md ops listed->YieldsIf P ops S oi v a->S w->wpE P md ops Q S n f (listed.setIfInBounds i true) (a.put oi.dst v) w->wpE P md ops Q S n (f+1) listed a w:=by
 intro f
 induction f with
 |zero=>
  intro listed a w GC JR hr hy hS H;refine⟨λh=>by rw[h]at hr;simp at hr,λj hj=>?_⟩;by_cases KA:j=i
  ·subst KA;exact hy.wpOp hi hS ⟨λ_ h=>h,H⟩
  ·have h1:=ready_mono hj KA;rw[H.1]at h1;simp at h1
 |succ f ih=>
  intro listed a w GC JR hr hy hS H;refine⟨λh=>by rw[h]at hr;simp at hr,λj hj=>?_⟩;by_cases KA:j=i
  ·subst KA;exact hy.wpOp hi hS ⟨λ_ h=>h,H⟩
  ·have h1:=H.2 j (ready_mono hj KA);obtain⟨Ta,oj,KR,Hb⟩:=mem_ready.1 hj;have PB:∀e∈oj.after,Region.binds md e=true->e.on≠i:=λe he hb heq=>by
    have g1:=Hb e he hb;have g0:=(mem_ready.1 hr).1;rw[heq]at g1;rcases Nat.lt_or_ge i listed.size with h'|h'
    ·simp[h']at g0 g1;rw[g0]at g1;simp at g1
    ·simp[Array.getElem?_eq_none h']at g1
   have Z8:=zjC hl GC (mem_ready.1 hr).1 hj KA;have M3:=Region.noSelect_spec hs;have h2:=wpOp_putIf KR (JR j oj KR KA Ta PB) (λcs b=>M3 i oi cs b hi) (λcs b=>M3 j oj cs b KR) hQ hy h1;refine wpOp_mono (λa' w' h3=>⟨h3.2.1,ih (listed.setIfInBounds j true) a' w' (GC.set hj) (λk ok hk Sn WL Ji=>?_) (ready_mono hr (Ne.symm KA)) h3.1 (h3.2.1 Z8 hS) ?_⟩) h2
   ·refine JR k ok hk Sn ?_ Ji;by_cases Q2:j=k
    ·subst Q2;exact Ta
    ·rwa [getD_set_ne true Q2]at WL
   ·rw[Array.setIfInBounds_comm _ _ KA];exact h3.2.2
theorem zak {α:Type}{l:List α}{i:Nat}{x:α}{r:List α}(h:l.drop i=x::r):l.toArray[i]?=some x:=by
 have:=congrArg List.head? h;simpa using this
theorem zaM {l:List Oper}(i:Nat){oi:Oper}{r:List Oper}{v:Value}{f:Nat}{listed:Array Bool}{a:Act}{w:World}(hi:l.drop i=oi::r)(hs:(Region.noSelect l.toArray&&Region.free md l.toArray listed i&&(Region.ready md l.toArray listed).contains i&&zlA md l.toArray n i&&zeH md l.toArray listed)=true)
  (hQ:∀c a w,Q (.panic c) (a.put oi.dst v) w->Q (.panic c) a w) (hS:S w) (hw:Region.wanted oi (yielded l.toArray a.tmps)=true) (hy:∀w,S w->(execOp a.eval oi).run P w= .ok (.value v) w)
  (h:wpE P md l.toArray Q S n f (listed.setIfInBounds i true) (a.put oi.dst v) w):wpE P md l.toArray Q S n (f+1) listed a w:=by
 simp only[Bool.and_eq_true]at hs;exact zlB (zak hi) hs.1.1.1.1 hQ hs.1.2 f listed a w (zdF hs.2) (Region.free_spec (zak hi) hs.1.1.1.2) (by simpa using hs.1.1.2) (.inl ⟨hw,hy⟩) hS h
theorem zlC {ops:Array Oper}{i:Nat}{oi:Oper}{v:Value}(hi:ops[i]?=some oi)(hs:Region.noSelect ops=true)(hQ:∀c a w,Q (.panic c) (a.put oi.dst v) w->Q (.panic c) a w):
  ∀(f:Nat)(listed:Array Bool)(a:Act)(w:World),(∀j oj,ops[j]?=some oj->j≠i->listed.getD j true=false->(∀e∈oj.after,Region.binds md e=true->e.on≠i)->oi.apart ops oj=true)->
   i∈Region.ready md ops listed->YieldsIf P ops (λ_=>True) oi v a->wpE P md ops Q S n f (listed.setIfInBounds i true) (a.put oi.dst v) w->wpE P md ops Q S n (f+1) listed a w:=by
 intro f
 induction f with
 |zero=>
  intro listed a w JR hr hy H;refine⟨λh=>by rw[h]at hr;simp at hr,λj hj=>?_⟩;by_cases KA:j=i
  ·subst KA;exact hy.wpOp hi trivial ⟨λ_ h=>h,H⟩
  ·have h1:=ready_mono hj KA;rw[H.1]at h1;simp at h1
 |succ f ih=>
  intro listed a w JR hr hy H;refine⟨λh=>by rw[h]at hr;simp at hr,λj hj=>?_⟩;by_cases KA:j=i
  ·subst KA;exact hy.wpOp hi trivial ⟨λ_ h=>h,H⟩
  ·have h1:=H.2 j (ready_mono hj KA);obtain⟨Ta,oj,KR,Hb⟩:=mem_ready.1 hj;have PB:∀e∈oj.after,Region.binds md e=true->e.on≠i:=λe he hb heq=>by
    have g1:=Hb e he hb;have g0:=(mem_ready.1 hr).1;rw[heq]at g1;rcases Nat.lt_or_ge i listed.size with h'|h'
    ·simp[h']at g0 g1;rw[g0]at g1;simp at g1
    ·simp[Array.getElem?_eq_none h']at g1
   have M3:=Region.noSelect_spec hs;have h2:=wpOp_putIf KR (JR j oj KR KA Ta PB) (λcs b=>M3 i oi cs b hi) (λcs b=>M3 j oj cs b KR) hQ hy h1;refine wpOp_mono (λa' w' h3=>⟨h3.2.1,ih (listed.setIfInBounds j true) a' w' (λk ok hk Sn WL Ji=>?_) (ready_mono hr (Ne.symm KA)) h3.1 ?_⟩) h2
   ·refine JR k ok hk Sn ?_ Ji;by_cases Q2:j=k
    ·subst Q2;exact Ta
    ·rwa [getD_set_ne true Q2]at WL
   ·rw[Array.setIfInBounds_comm _ _ KA];exact h3.2.2
theorem znq {l:List Oper}(i:Nat){oi:Oper}{r:List Oper}{v:Value}{f:Nat}{listed:Array Bool}{a:Act}{w:World}(hi:l.drop i=oi::r)(hs:(Region.noSelect l.toArray&&Region.free md l.toArray listed i&&(Region.ready md l.toArray listed).contains i)=true)
  (hQ:∀c a w,Q (.panic c) (a.put oi.dst v) w->Q (.panic c) a w) (hw:Region.wanted oi (yielded l.toArray a.tmps)=true) (hy:∀w,(execOp a.eval oi).run P w= .ok (.value v) w)
  (h:wpE P md l.toArray Q S n f (listed.setIfInBounds i true) (a.put oi.dst v) w):wpE P md l.toArray Q S n (f+1) listed a w:=by
 simp only[Bool.and_eq_true]at hs;exact zlC (zak hi) hs.1.1 hQ f listed a w (Region.free_spec (zak hi) hs.1.2) (by simpa using hs.2) (.inl ⟨hw,λw _=>hy w⟩) h
theorem zab {l:List Oper}(i:Nat){oi:Oper}{r:List Oper}{f:Nat}{listed:Array Bool}{a:Act}{w:World}(hi:l.drop i=oi::r)(hr:Region.ready md l.toArray listed= [i])
  (h:∀K':Act->World->Prop,Shut (∀a w',(n i=true->S w->S w')->wpE P md l.toArray Q S n f (listed.setIfInBounds i true) a w'->K' a w')->if Region.wanted oi (yielded l.toArray a.tmps)=true then Oper.wp P oi a w K' Q else K' (a.put oi.dst undef) w):wpE P md l.toArray Q S n (f+1) listed a w:=by
 refine⟨λh0=>by rw[hr]at h0;simp at h0,λj hj=>?_⟩;rw[hr]at hj;have hj:j=i:=by simpa using hj
 subst hj;exact wpOp_step (zak hi) λK' hK=>h K' λa w hS hW=>hK a w ⟨hS,hW⟩
theorem zae {ops:Array Oper}{f:Nat}{listed:Array Bool}{a:Act}{w:World}(hr:Region.ready md ops listed= [])(h:Q .normal a w):wpE P md ops Q S n f listed a w:=by
 cases f with
 |zero=>exact⟨hr,h⟩
 |succ f=>exact⟨λ_=>h,λi hi=>by rw[hr]at hi;simp at hi⟩
theorem zad {id:Nat}{l:List Oper}{a:Act}{w:World}(S:World->Prop)(n:Nat->Bool)(hm:P.follows .mixedOrders =true)(hS:S w.drew)(h:S w.drew->wpE P .any l.toArray Q S n l.length (Array.replicate l.length false) a w.drew):(Code.region id l.toArray true).wp P Q a w:=
 wp_region_any hm (by
  have:=wpE.any _ _ _ _ (h hS);simpa using this)
end
theorem zbY {P:Program}{Q:Exit->Act->World->Prop}{md:Region.Mode}{S:World->Prop}{n:Nat->Bool}{l:List Oper}(i:Nat){oi:Oper}{r:List Oper}{v:Value}{f:Nat}{listed:Array Bool}{a:Act}{w:World}(hS:S w)
  (h:wpE P md l.toArray Q S n f (listed.setIfInBounds i true) (a.put oi.dst v) w) (hi:l.drop i=oi::r:=by rfl) (hs:(Region.noSelect l.toArray&&Region.free md l.toArray listed i&&(Region.ready md l.toArray listed).contains i&&zlA md l.toArray n i&&zeH md l.toArray listed)=true:=by kernel_rfl)
  (hQ:∀c a w,Q (.panic c) (a.put oi.dst v) w->Q (.panic c) a w:=by exact λ_ _ _ h=>h) (hw:Region.wanted oi (yielded l.toArray a.tmps)=true:=by rfl) (hy:∀w,S w->(execOp a.eval oi).run P w= .ok (.value v) w:=by(intro wz Ft;(try dsimp only at Ft);go_simp;try with_reducible rfl)):wpE P md l.toArray Q S n (f+1) listed a w:=zaM i hi hs hQ hS hw hy h
theorem zac {P:Program}{Q:Exit->Act->World->Prop}{md:Region.Mode}{S:World->Prop}{n:Nat->Bool}{l:List Oper}(i:Nat){oi:Oper}{r:List Oper}{v:Value}{f:Nat}{listed:Array Bool}{a:Act}{w:World}(hS:S w)
  (h:wpE P md l.toArray Q S n f (listed.setIfInBounds i true) (a.put oi.dst v) w) (hi:l.drop i=oi::r:=by rfl) (hs:(Region.noSelect l.toArray&&Region.free md l.toArray listed i&&(Region.ready md l.toArray listed).contains i&&zlA md l.toArray n i&&zeH md l.toArray listed)=true:=by kernel_rfl)
  (hQ:∀c a w,Q (.panic c) (a.put oi.dst v) w->Q (.panic c) a w:=by exact λ_ _ _ h=>h) (hw:Region.wanted oi (yielded l.toArray a.tmps)=true:=by rfl) (hy:∀w,S w->(execOp a.eval oi).run P w= .ok (.value v) w:=by(intro wz Ft;(try conv at Ft=>whnf);go_simp;try with_reducible rfl)):wpE P md l.toArray Q S n (f+1) listed a w:=zaM i hi hs hQ hS hw hy h
theorem zaa {P:Program}{Q:Exit->Act->World->Prop}{md:Region.Mode}{S:World->Prop}{n:Nat->Bool}{l:List Oper}(i:Nat){oi:Oper}{r:List Oper}{v:Value}{f:Nat}{listed:Array Bool}{a:Act}{w:World}(h:wpE P md l.toArray Q S n f (listed.setIfInBounds i true) (a.put oi.dst v) w)(hi:l.drop i=oi::r:=by rfl)(hs:(Region.noSelect l.toArray&&Region.free md l.toArray listed i&&(Region.ready md l.toArray listed).contains i)=true:=by kernel_rfl)
  (hQ:∀c a w,Q (.panic c) (a.put oi.dst v) w->Q (.panic c) a w:=by exact λ_ _ _ h=>h) (hw:Region.wanted oi (yielded l.toArray a.tmps)=true:=by rfl) (hy:∀w,(execOp a.eval oi).run P w= .ok (.value v) w:=by(intro wz;go_simp;try with_reducible rfl)):wpE P md l.toArray Q S n (f+1) listed a w:=znq i hi hs hQ hw hy h
open Go.Shelf Go.Maps
section
variable {P:Program} {Q:Exit->Act->World->Prop} {md:Region.Mode} {S:World->Prop} {n:Nat->Bool} {ops:Array Oper}
def zfw (md:Region.Mode)(ops:Array Oper):Nat->Nat->Nat->Bool
 |0,j,i=>Region.waitsFor md ops j i
 |f+1,j,i=>Region.waitsFor md ops j i || (List.range ops.size).any λk=>Region.waitsFor md ops j k&&zfw md ops f k i
theorem zhJ {listed:Array Bool}(hc:ClosedL md ops listed):∀(f j i:Nat)(oj:Oper),ops[j]?=some oj->(∀e∈oj.after,Region.binds md e=true->listed.getD e.on false=true)->zfw md ops f j i=true->listed.getD i false=true:=by
 have h0:∀(j i:Nat)(oj:Oper),ops[j]?=some oj->(∀e∈oj.after,Region.binds md e=true->listed.getD e.on false=true)->Region.waitsFor md ops j i=true->listed.getD i false=true:=λj i oj KR Hb h=>by
  obtain⟨Dl,M2,e,he,hb,WK⟩:=Region.waitsFor_spec h;rw[KR]at M2;cases M2;exact WK▸Hb e he hb
 intro f
 induction f with
 |zero=>exact h0
 |succ f ih=>
  intro j i oj KR Hb h;simp only[zfw,Bool.or_eq_true,List.any_eq_true,Bool.and_eq_true]at h;rcases h with h|⟨k,_,Q2,Sn⟩
  ·exact h0 j i oj KR Hb h
  ·have hk:=h0 j k oj KR Hb Q2;cases FC:ops[k]? with
   |none=>
    exfalso
    cases f with
    |zero=>simp[zfw,Region.waitsFor,FC]at Sn
    |succ f=>
     have:∀x,Region.waitsFor md ops k x=false:=λx=>by simp[Region.waitsFor,FC]
     simp[zfw,this]at Sn
   |some ok=>exact ih k i ok FC (λe he hb=>hc k ok FC hk e he hb) Sn
def zpd (md:Region.Mode)(ops:Array Oper)(n:Nat->Bool)(i:Nat):Bool:=(List.range ops.size).all λj=>n j || j==i || zfw md ops 5 j i
theorem zjD {i j:Nat}{listed:Array Bool}(h:zpd md ops n i=true)(hc:ClosedL md ops listed)(hi:listed.getD i true=false)(hj:j∈Region.ready md ops listed)(Gh:j≠i):n j=true:=by
 obtain⟨_,oj,KR,Hb⟩:=mem_ready.1 hj;have L5:listed.getD i false≠true:=λe=>by
  rcases Nat.lt_or_ge i listed.size with h'|h'
  ·simp[h']at hi e;rw[hi]at e;simp at e
  ·simp[Array.getElem?_eq_none h']at hi
 have h1:=List.all_eq_true.1 h j (List.mem_range.2 (Array.getElem?_eq_some_iff.1 KR).1);simp only[Bool.or_eq_true,beq_iff_eq]at h1;rcases h1 with(h1|h1)|h1
 ·exact h1
 ·exact absurd h1 Gh
 ·exact absurd (zhJ hc 5 j i oj KR Hb h1) L5
theorem zjE {i:Nat}{oi:Oper}{v:Value}(hi:ops[i]?=some oi)(hs:Region.noSelect ops=true)(hQ:∀c a w,Q (.panic c) (a.put oi.dst v) w->Q (.panic c) a w)(hl:zpd md ops n i=true):
  ∀(f:Nat)(listed:Array Bool)(a:Act)(w:World),ClosedL md ops listed->(∀j oj,ops[j]?=some oj->j≠i->listed.getD j true=false->(∀e∈oj.after,Region.binds md e=true->e.on≠i)->oi.apart ops oj=true)->
   i∈Region.ready md ops listed->YieldsIf P ops S oi v a->S w->wpE P md ops Q S n f (listed.setIfInBounds i true) (a.put oi.dst v) w->wpE P md ops Q S n (f+1) listed a w:=by
 intro f
 induction f with
 |zero=>
  intro listed a w GC JR hr hy hS H;refine⟨λh=>by rw[h]at hr;simp at hr,λj hj=>?_⟩;by_cases KA:j=i
  ·subst KA;exact hy.wpOp hi hS ⟨λ_ h=>h,H⟩
  ·have h1:=ready_mono hj KA;rw[H.1]at h1;simp at h1
 |succ f ih=>
  intro listed a w GC JR hr hy hS H;refine⟨λh=>by rw[h]at hr;simp at hr,λj hj=>?_⟩;by_cases KA:j=i
  ·subst KA;exact hy.wpOp hi hS ⟨λ_ h=>h,H⟩
  ·have h1:=H.2 j (ready_mono hj KA);obtain⟨Ta,oj,KR,Hb⟩:=mem_ready.1 hj;have PB:∀e∈oj.after,Region.binds md e=true->e.on≠i:=λe he hb heq=>by
    have g1:=Hb e he hb;have g0:=(mem_ready.1 hr).1;rw[heq]at g1;rcases Nat.lt_or_ge i listed.size with h'|h'
    ·simp[h']at g0 g1;rw[g0]at g1;simp at g1
    ·simp[Array.getElem?_eq_none h']at g1
   have Z8:=zjD hl GC (mem_ready.1 hr).1 hj KA;have M3:=Region.noSelect_spec hs;have h2:=wpOp_putIf KR (JR j oj KR KA Ta PB) (λcs b=>M3 i oi cs b hi) (λcs b=>M3 j oj cs b KR) hQ hy h1;refine wpOp_mono (λa' w' h3=>⟨h3.2.1,ih (listed.setIfInBounds j true) a' w' (GC.set hj) (λk ok hk Sn WL Ji=>?_) (ready_mono hr (Ne.symm KA)) h3.1 (h3.2.1 Z8 hS) ?_⟩) h2
   ·refine JR k ok hk Sn ?_ Ji;by_cases Q2:j=k
    ·subst Q2;exact Ta
    ·rwa [getD_set_ne true Q2]at WL
   ·rw[Array.setIfInBounds_comm _ _ KA];exact h3.2.2
theorem zay {l:List Oper}(i:Nat){oi:Oper}{r:List Oper}{v:Value}{f:Nat}{listed:Array Bool}{a:Act}{w:World}(hi:l.drop i=oi::r)(hs:(Region.noSelect l.toArray&&Region.free md l.toArray listed i&&(Region.ready md l.toArray listed).contains i&&zpd md l.toArray n i&&zeH md l.toArray listed)=true)
  (hQ:∀c a w,Q (.panic c) (a.put oi.dst v) w->Q (.panic c) a w) (hS:S w) (hw:Region.wanted oi (yielded l.toArray a.tmps)=true) (hy:∀w,S w->(execOp a.eval oi).run P w= .ok (.value v) w)
  (h:wpE P md l.toArray Q S n f (listed.setIfInBounds i true) (a.put oi.dst v) w):wpE P md l.toArray Q S n (f+1) listed a w:=by
 simp only[Bool.and_eq_true]at hs;exact zjE (zak hi) hs.1.1.1.1 hQ hs.1.2 f listed a w (zdF hs.2) (Region.free_spec (zak hi) hs.1.1.1.2) (by simpa using hs.1.1.2) (.inl ⟨hw,hy⟩) hS h
end
