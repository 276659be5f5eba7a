/-
  inline: statements put out, one behind another.
-/
import Derived.Test.YtmopichdofgndaaGreatDoorJnInC
import Derived.Laws.AppendOwnNone
set_option linter.unusedVariables false
set_option linter.unusedSimpArgs false
namespace Go.Proofs.YtmopichdofgndaaGreatDoor
open Go.RowKit Go.Shelf Go.Maps

section
variable {P:Program} (w:World)
theorem wpList_append_spotA {ops:Array Oper} {rest:List Oper} {o:Oper} {a:Act} {Q:Exit→Act→World→Prop} (hgd:o.guard=none) (s x:Operand) (t:TypeId)
  (ho:o.op= .call {callee:= .builtin .append,args:= #[s,x],argTypes:= #[t,t]})
  (base:Nat) (e:TypeId) (i:TypeInfo) (z:Value) (size bytes:Nat) (ht:P.underlying t=some (.slice e)) (hi:P.info? e=some i) (hz:i.zero=some z)
  (hsize:i.size=size) (hby:i.bytes=bytes) (hzs:z.cells.size=size) (hsz:0 < size)
  (v:Value) (n:Nat) (xs:List Value) (hs:a.eval s=v) (hown:w.ownsRow base e size v n xs)
  (ad:Addr) (m c:Nat) (news:List Value) (hx:a.eval x= .slice (some ad) m c) (hl:news.length=m*size) (hnews:∀j u,news[j]?=some u→w.cell? (ad.add j)=some u) (h1:∀u∈news,u.oneCell'=true)
  (h63:n+m≤maxLen) (hbytes:(n+m)*bytes≤140737488355328) (hbase:base≤w.heap.size)
  (h:∀v' w',w'.ownsRow base e size v' (n+m) (xs++news)→w.grownBy w' v.ownBlock→(v'.ownBlock=v.ownBlock∨v'.ownBlock=some w.heap.size)→wpList P ops Q rest (a.put o.dst v') w'):wpList P ops Q (o::rest) a w:=by
 subst hsize
 subst hby
 refine wpList_plain hgd fun K hK=>?_
 obtain⟨v',w',hr,h2,h3,h5⟩:=run_append_own (P:=P) w base t o.type e i z i.size i.bytes ht hi hz rfl rfl hzs hsz v n xs hown ad m c news hl hnews h1 h63 hbytes hbase
 have h4:v'.ownBlock=v.ownBlock∨v'.ownBlock=some w.heap.size:=by
  rcases Nat.eq_zero_or_pos m with h0|h0
  ·subst h0
   rcases hown.2 with⟨e1,e2⟩|⟨g,cap,cur,e1,hbg,hg,hnc,hcm,hcs,htake⟩
   ·have:=h5.2 ⟨e1,rfl⟩
    rw[this,e1]
    exact .inl rfl
   ·subst e1
    have h6:=run_append_room (P:=P) w t o.type e i ht hi g n cap cur hg ad 0 c news hl hnews h1 (by omega) (by rw[hl,hcs,←Nat.add_mul];exact Nat.mul_le_mul_right _ (by omega))
    rw[hr]at h6
    injection h6 with h7
    rw[h7]
    exact .inl rfl
  ·exact append_spot (P:=P) w base t o.type e i z i.size i.bytes ht hi hz rfl rfl hzs hsz v n xs hown ad m c news hl hnews h1 h0 h63 hbytes v' w' hr
 unfold Oper.wp execOp
 simp only[ho,resolve,invoke,builtin,Sem.run_bind,Sem.run_pure,Result.andThen_ok,List.map_toArray,List.map_cons,List.map_nil,hs,hx,hr]
 exact hK _ _ (h v' w' h2 h3 h4)
end
def OutS (L:Nat) (vo v:Value) (w:World):Nat→Prop:=fun b=>L≤b∧b < w.heap.size∧vo.ownBlock≠some b∧v.ownBlock≠some b
structure OutRow (L:Nat) (v:Value) (w:World) (vo:Value) (acc:List St) (cs:List Value):Prop where
 row:w.ownsRow L 39 7 vo acc.length cs
 rows:RowR oneS w (OutS L vo v w) acc cs
 one:One1 cs
 ne:∀b,vo.ownBlock=some b→v.ownBlock≠some b
def SpotP (w:World) (v v':Value):Prop:=v'.ownBlock=v.ownBlock∨∃g,v'.ownBlock=some g∧w.heap.size≤g
theorem SpotP.refl (w:World) (v:Value):SpotP w v v:= .inl rfl
theorem SpotP.trans {w w':World} {a b c:Value} (h:SpotP w a b) (k:SpotP w' b c) (hz:w.heap.size≤w'.heap.size):SpotP w a c:=by
 rcases k with k|⟨g,k1,k2⟩
 ·rcases h with h|⟨g,h1,h2⟩
  ·exact .inl (k.trans h)
  ·exact .inr ⟨g,k.trans h1,h2⟩
 ·exact .inr ⟨g,k1,leq9 hz k2⟩
theorem OutRow.keep {L P:Nat} {v v':Value} {w w':World} {vo:Value} {acc:List St} {cs:List Value} (h:OutRow L v w vo acc cs) (hf:Fr (fun b=>b=P∨v.ownBlock=some b) w w') (hsp:SpotP w v v') (hP:P < L):OutRow L v' w' vo acc cs:=by
 have hne:∀b,b < w.heap.size→v.ownBlock≠some b→v'.ownBlock≠some b:=fun b hb hn e=>by
  rcases hsp with h|⟨g,h1,h2⟩
  ·exact hn (h▸e)
  ·rw[h1]at e
   have:=Option.some.inj e
   omega
 refine⟨rw_keep h.row hf fun b hb e=>?_,RowR.imp oneS_keep (hf.same fun b hb=>⟨hb.2.1,fun e=>?_⟩) (fun b hb=>⟨hb.1,ltq hb.2.1 hf.size,hb.2.2.1,hne b hb.2.1 hb.2.2.2⟩) h.rows,h.one,fun b hb=>hne b (row_lt h.row hb).2 (h.ne b hb)⟩
 ·have:=(row_lt h.row hb).1
  rcases e with e|e
  ·omega
  ·exact h.ne b hb e
 ·rcases e with e|e
  ·have:=hb.1;omega
  ·exact hb.2.2.2 e
theorem OutRow.frT {L:Nat} {v:Value} {w w':World} {vo:Value} {acc:List St} {cs:List Value} {T:Nat→Prop} (h:OutRow L v w vo acc cs) (hf:Fr T w w') (ht:∀b,L≤b→¬T b):OutRow L v w' vo acc cs:=
 ⟨rw_keep h.row hf fun b hb=>ht b (row_lt h.row hb).1,RowR.imp oneS_keep (hf.same fun b hb=>⟨hb.2.1,ht b hb.1⟩) (fun b hb=>⟨hb.1,ltq hb.2.1 hf.size,hb.2.2⟩) h.rows,h.one,h.ne⟩
theorem OutRow.fr0 {L:Nat} {v:Value} {w w':World} {vo:Value} {acc:List St} {cs:List Value} (h:OutRow L v w vo acc cs) (hf:Fr NoT w w'):OutRow L v w' vo acc cs:=
 ⟨rw_keep h.row hf fun _ _=>id,RowR.imp oneS_keep (hf.same fun b hb=>⟨hb.2.1,id⟩) (fun b hb=>⟨hb.1,ltq hb.2.1 hf.size,hb.2.2⟩) h.rows,h.one,h.ne⟩
theorem RowR.app {w:World} {S:Nat→Prop} {ys:List St} {zs:List Value} (hy:RowR oneS w S ys zs):∀ {xs:List St} {cs:List Value},RowR oneS w S xs cs→RowR oneS w S (xs++ys) (cs++zs)
 | [],cs,h=>by
  have h:cs= []:=h
  subst h
  exact hy
 |x::xs,cs,⟨us,cs',e,h1,h2⟩=>⟨us,cs'++zs,by rw[e,List.append_assoc],h1,RowR.app hy h2⟩
theorem OutRow.step {L:Nat} {v:Value} {w w9:World} {vo vo':Value} {acc ys:List St} {cs zs:List Value} (h:OutRow L v w vo acc cs) (hy:RowR oneS w (OutS L vo v w) ys zs) (h1:One1 zs)
  (hrow:w9.ownsRow L 39 7 vo' (acc.length+ys.length) (cs++zs)) (hg:w.grownBy w9 vo.ownBlock) (hsp:vo'.ownBlock=vo.ownBlock∨vo'.ownBlock=some w.heap.size) (hv:∀b,v.ownBlock=some b→b < w.heap.size):
  OutRow L v w9 vo' (acc++ys) (cs++zs)∧Fr (fun b=>vo.ownBlock=some b) w w9:=by
 have hf:Fr (fun b=>vo.ownBlock=some b) w w9:=Fr.grown hg fun g e _=>e
 have hs:∀b,OutS L vo v w b→OutS L vo' v w9 b:=fun b hb=>⟨hb.1,ltq hb.2.1 hf.size,fun e=>by
  rcases hsp with h|h
  ·exact hb.2.2.1 (h▸e)
  ·rw[h]at e
   have:=Option.some.inj e
   have:=hb.2.1
   omega,hb.2.2.2⟩
 have hsm:SameS (OutS L vo v w) w w9:=hf.same fun b hb=>⟨hb.2.1,hb.2.2.1⟩
 refine⟨⟨by rw[List.length_append];exact hrow,RowR.app (RowR.imp oneS_keep hsm hs hy) (RowR.imp oneS_keep hsm hs h.rows),h.one.app h1,fun b hb=>?_⟩,hf⟩
 rcases hsp with e|e
 ·exact h.ne b (e▸hb)
 ·rw[e]at hb
  have:=Option.some.inj hb
  exact fun hvb=>by have:=hv b hvb;omega
theorem wpList_out {ops:Array Oper} {rest:List Oper} {o:Oper} {a:Act} {Q:Exit→Act→World→Prop} {L L2:Nat} {v:Value} {w:World} {vo vo2:Value} {acc acc2:List St} {cs cs2:List Value} (hgd:o.guard=none) (s x:Operand)
  (ho:o.op= .call {callee:= .builtin .append,args:= #[s,x],argTypes:= #[25,25]}) (hs:a.eval s=vo) (hx:a.eval x=vo2) (h1:OutRow L v w vo acc cs) (h2:OutRow L2 v w vo2 acc2 cs2) (hL:L≤L2) (hlow:∀b,vo.ownBlock=some b→b < L2)
  (hL0:L≤w.heap.size) (hsz:acc.length+acc2.length≤1000000) (hv:∀b,v.ownBlock=some b→b < w.heap.size)
  (h:∀vo' w',OutRow L v w' vo' (acc++acc2) (cs++cs2)→Fr (fun b=>vo.ownBlock=some b) w w'→(vo'.ownBlock=vo.ownBlock∨vo'.ownBlock=some w.heap.size)→wpList Tryz.prog ops Q rest (a.put o.dst vo') w'):wpList Tryz.prog ops Q (o::rest) a w:=by
 obtain⟨i0,hi,hz0,hz1,hz2⟩:=info_parts infoSt
 have hy:RowR oneS w (OutS L vo v w) acc2 cs2:=RowR.imp oneS_keep (SameS.refl _ _) (fun b hb=>⟨leq9 hL hb.1,hb.2.1,fun e=>by have:=hlow b e;have:=hb.1;omega,hb.2.2.2⟩) h2.rows
 rcases h2.row.2 with⟨e1,e2⟩|⟨g,cap,cur,e1,hbg,hg,hnc,hcm,hcs,htake⟩
 ·subst e1
  have e3:acc2= []:=List.length_eq_zero_iff.1 e2
  subst e3
  have e4:cs2= []:=h2.rows
  subst e4
  refine wpList_append_own_none hgd s x 25 ho L 39 i0 7 Tryz.underlying25 hi vo acc.length cs hs h1.row hx ?_
  refine h vo w (by simpa using h1) (Fr.refl _ _) (.inl rfl)
 ·subst e1
  refine wpList_append_spotA w hgd s x 25 ho L 39 i0 (.agg zeroSt) 7 128 Tryz.underlying25 hi hz0 hz1 hz2 rfl (by decide) vo acc.length cs hs h1.row ⟨g,0,none⟩ acc2.length cap cs2 hx h2.row.1 (h2.row.cells (g:=g) rfl) h2.one (by unfold maxLen;omega) (by omega) hL0 ?_
  intro v' w' hown hgrow hspot
  obtain⟨k1,k2⟩:=h1.step hy h2.one hown hgrow hspot hv
  exact h v' w' k1 k2 hspot
theorem OutRow.nil (L:Nat) (v:Value) (w:World):OutRow L v w (.slice none 0 0) [] []:=⟨World.ownsRow_nil _ _ _ _,rfl,by simp[One1],fun b hb=>by simp[Value.ownBlock]at hb⟩
theorem OutRow.lower {L L':Nat} {v:Value} {w:World} {vo:Value} {acc:List St} {cs:List Value} (h:OutRow L v w vo acc cs) (hl:L'≤L):OutRow L' v w vo acc cs:=
 ⟨by
  refine⟨h.row.1,?_⟩
  rcases h.row.2 with hn|⟨g,cap,cur,e,hb,r⟩
  ·exact .inl hn
  ·exact .inr ⟨g,cap,cur,e,leq9 hl hb,r⟩,RowR.imp oneS_keep (SameS.refl _ _) (fun b hb=>⟨leq9 hl hb.1,hb.2⟩) h.rows,h.one,h.ne⟩
theorem InAt.set {K:InK} {w:World} {s s':Ist} {v:Value} (h:InAt K w s v) (i:Nat) (u:Value) (hc:(#[.map (some K.bp),.int .i64 s.calls,v,.int .i64 s.many]:Array Value).setIfInBounds i u= #[.map (some K.bp),.int .i64 s'.calls,v,.int .i64 s'.many]) (hv:s'.vars=s.vars) (hm:s'.many≤261∧s'.calls≤s'.many+1):
  InAt K (w.setCell ⟨K.P,i,none⟩ u) s' v:=by
 have hf:Fr (fun b=>b=K.P) w (w.setCell ⟨K.P,i,none⟩ u):=Fr.own (Fr.refl _ _) i u
 obtain⟨cs,h1,h2⟩:=h.row
 refine⟨Fr.back1 h.fr (hf.mono fun b _ e=>(by have e:b=K.P:=e;have:=h.high.1;show K.W0.heap.size≤b;omega)) (lrq _),?_,h.map.fr hf (fun e=>h.ne.1 e.symm),⟨cs,?_,by rw[hv];exact h2.any⟩,h.high,h.ne,hm.1,hm.2,by rw[hv];exact h.most.2.2⟩
 ·have:=h.bk.set_ i u
  rw[hc]at this
  exact this
 ·rw[hv]
  exact rw_keep h1 hf fun b hb e=>by have e:b=K.P:=e;subst e;exact h.ne.2.1 hb
theorem InAt.push {K:InK} {w w9:World} {c m:Nat} {vs:List Va} {v v':Value} {cs:List Value} {x:Va} (h:InAt K w ⟨c,vs,m⟩ v) (hrows:RowR oneV w (fun _=>True) vs cs) (hx:in64 x.at_) (hlen:vs.length+1≤36)
  (hrow:w9.ownsRow K.W0.heap.size 43 2 v' (vs.length+1) (cs++ [.string x.nm,.int .i64 x.at_])) (hg:w.grownBy w9 v.ownBlock) (hsp:v'.ownBlock=v.ownBlock∨v'.ownBlock=some w.heap.size):
  InAt K (w9.setCell ⟨K.P,2,none⟩ v') ⟨c,vs++ [x],m⟩ v'∧Fr (fun b=>b=K.P∨v.ownBlock=some b) w (w9.setCell ⟨K.P,2,none⟩ v'):=by
 have hf:Fr (fun b=>v.ownBlock=some b) w w9:=Fr.grown hg fun g e _=>e
 have hlow:∀b,v.ownBlock=some b→K.W0.heap.size≤b:=fun b hb=>by
  obtain⟨cs,h1,_⟩:=h.row
  exact(row_lt h1 hb).1
 have hPl:=h.bk.lt
 have hml:=h.map.lt
 have hbk9:=h.bk.fr hf h.ne.2.1
 have hne:v'.ownBlock≠some K.P∧v'.ownBlock≠some K.bp:=by
  rcases hsp with e|e
  ·rw[e];exact h.ne.2
  ·rw[e];exact⟨fun e=>by have:=Option.some.inj e;omega,fun e=>by have:=Option.some.inj e;omega⟩
 have hf9:Fr (fun b=>b=K.P) w9 (w9.setCell ⟨K.P,2,none⟩ v'):=Fr.own (Fr.refl _ _) 2 v'
 have hft:Fr (fun b=>b=K.P∨v.ownBlock=some b) w (w9.setCell ⟨K.P,2,none⟩ v'):=(hf.mono fun _ _ e=> .inr e).trans (hf9.mono fun _ _ e=> .inl e)
 refine⟨⟨Fr.back1 h.fr (hft.mono fun b _ e=>(by
   show K.W0.heap.size≤b
   rcases e with e|e
   ·have:=h.high.1;omega
   ·exact hlow b e)) (lrq _),?_,(h.map.fr hf h.ne.2.2).fr hf9 (fun e=>h.ne.1 e.symm),⟨cs++ [.string x.nm,.int .i64 x.at_],?_,?_⟩,h.high,⟨h.ne.1,hne⟩,h.most.1,h.most.2.1,?_⟩,hft⟩
 ·have:=hbk9.set_ 2 v'
  simpa using this
 ·show World.ownsRow _ _ _ _ _ (vs++ [x]).length _
  rw[List.length_append]
  exact rw_keep hrow hf9 fun b hb e=>by have e:b=K.P:=e;subst e;exact hne.1 hb
 ·exact RowR.any (RowR.snoc (w:=w) ⟨rfl,hx⟩ hrows)
 ·show(vs++ [x]).length ≤36
  simpa using hlen
theorem slr0 {P:Nat→Nat→Prop} {sz:Nat}:SlR P 0 sz none 0:=⟨lrq _,⟨by decide,by omega⟩,fun h=>absurd h (Nat.lt_irrefl 0)⟩
theorem OutRow.slice {L:Nat} {v:Value} {w:World} {vo:Value} {acc:List St} {cs:List Value} (h:OutRow L v w vo acc cs) (hsz:acc.length*128≤140737488355328):
  ∃A c,vo= .slice A acc.length c∧SlR (fun b o=>StR w (fun i=>L≤i∧i < w.heap.size∧v.ownBlock≠some i) True (stsOf acc) b o) acc.length 128 A c:=by
 rcases h.row.2 with⟨e,h0⟩|⟨g,cap,cur,e,hb,hg,hn,hc,hcs,ht⟩
 ·exact⟨none,0,by rw[e,h0],by rw[h0];exact slr0⟩
 ·have hl:g < w.heap.size:=(Array.getElem?_eq_some_iff.1 hg).1
  refine⟨some ⟨g,0,none⟩,cap,e,hn,⟨by unfold maxLen at hc;omega,hsz⟩,fun _=>⟨g,0,rfl,?_⟩⟩
  refine rowS ⟨⟨hb,hl,h.ne g (by rw[e];rfl)⟩,Thaw.of hg⟩ (RowR.imp oneS_keep (SameS.refl _ _) (fun b hb=>⟨hb.1,hb.2.1,hb.2.2.2⟩) h.rows) fun j u hj=>?_
  have h2:=h.row
  rw[e]at h2
  have:=h2.cells (g:=g) rfl j u hj
  rw[add_at]at this
  exact this
def skipSt (at_:Int):St:=⟨1,⟨#[]⟩,.nil,.nil,.nil,.nil,at_⟩
theorem skip_one {w:World} {S:Nat→Prop} {at_:Int} (h:in64 at_):oneS w S (skipSt at_) [.int .u8 1,.string ⟨#[]⟩,.slice none 0 0,.slice none 0 0,.slice none 0 0,.slice none 0 0,.int .i64 at_]:=
 ⟨none,0,none,0,none,0,none,0,rfl,by simp[skipSt,in8],h,slr0,slr0,slr0,slr0⟩
end Go.Proofs.YtmopichdofgndaaGreatDoor
