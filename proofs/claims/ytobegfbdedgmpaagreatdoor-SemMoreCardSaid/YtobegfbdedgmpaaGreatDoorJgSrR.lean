/-
  What both runs answer; more room for a graph; what ref14's Run begins with.
-/
import Derived.Test.YtobegfbdedgmpaaGreatDoorJgSrStep2
import Derived.Test.YtobegfbdedgmpaaGreatDoorJgSrB
import Derived.Deep.RegionWith
import Derived.Test.YtobegfbdedgmpaaGreatDoorJgSrRun
import Derived.Test.YtobegfbdedgmpaaGreatDoorJnCk3
set_option linter.unusedVariables false
set_option linter.unusedSimpArgs false
namespace Go.Proofs.YtobegfbdedgmpaaGreatDoor
open Go.RowKit Go.Shelf

theorem EdAt.up {w:World} {B B':Nat} (hB:B≤B'):∀ {l:List Ed} {b o:Nat},EdAt w B l b o→EdAt w B' l b o
 | [],_,_,_=>trivial
 |e::r,b,o,hx=>by
  obtain⟨hb,h0,h1,h2,h3,h4,⟨A,c,h5,hs⟩,h6,hok,hr⟩:=hx
  exact⟨Nat.lt_of_lt_of_le hb hB,h0,h1,h2,h3,h4,⟨A,c,h5,hs.more hB⟩,h6,hok,EdAt.up hB hr⟩
theorem EdSl.up {w:World} {B B':Nat} (hB:B≤B') {l:List Ed} {A:Option Addr} {c:Nat} (hx:EdSl w B l A c):EdSl w B' l A c:=
 ⟨hx.1,hx.2.1,fun hp=>by obtain⟨b,o,e,hh⟩:=hx.2.2 hp;exact⟨b,o,e,hh.up hB⟩⟩
theorem IsSl.up {w:World} {B B':Nat} {l:List Int} {A:Option Addr} {c:Nat} (h:B≤B') (hx:IsSl w B l A c):IsSl w B' l A c:=
 ⟨hx.1,hx.2.1,fun hp=>by obtain⟨b,o,e,hh⟩:=hx.2.2 hp;exact⟨b,o,e,Nat.lt_of_lt_of_le hh.1 h,hh.2⟩⟩
theorem GrSl.up {w:World} {B B':Nat} (hB:B≤B') {g:Gr} {Aa:Option Addr} {ca:Nat} {Ae:Option Addr} {ce:Nat} (h:GrSl w B g Aa ca Ae ce):GrSl w B' g Aa ca Ae ce:=⟨h.arrays.up hB,h.edges.up hB⟩
theorem Sto.lower {w:World} {L L':Nat} {vs:List Int} {ls:List (List Int)} {bv:Nat} {A:Option Addr} {c:Nat} {bs:List Nat} (hL:L≤L') (h:Sto w L' vs ls bv A c bs):Sto w L vs ls bv A c bs:=by
 refine⟨h.v,Nat.le_trans hL h.vl,⟨h.row.1,?_⟩,h.len,fun i b l hi hl=>⟨Nat.le_trans hL (h.each i b l hi hl).1,(h.each i b l hi hl).2⟩,h.nd,h.nv,h.rv,h.rb,h.i64,h.few⟩
 rcases h.row.2 with h2|⟨g,cap,cur,e,h3,r⟩
 ·exact .inl h2
 ·exact .inr ⟨g,cap,cur,e,Nat.le_trans hL h3,r⟩
def EndIs (w:World) (en:En) (v:Value):Prop:=
 ∃Av cv Aa ca,v= .agg #[.int .u8 en.kind,.int .u8 en.wrong,.int .i64 en.at_,.int .i64 en.node,.int .i64 en.edge,.int .i64 en.left,.slice Av en.vs.length cv,.slice Aa en.ls.length ca]∧StSl w w.heap.size en.vs en.ls Av cv Aa ca
def zeroEnd:Value:= .agg #[.int .u8 0,.int .u8 0,.int .i64 0,.int .i64 0,.int .i64 0,.int .i64 0,.slice none 0 0,.slice none 0 0]
def errNo (g:Gr) (n:Nat) (steps:Int):Int:=if mayG g=true then(if 4096 < n then 4 else if steps < 0∨65536 < steps then 2 else 0)else 8
def run0 (g:Gr) (script:List Int) (steps:Int):Rs:=⟨zeros g.vars.toNat,begA g.arrays,script,g.start,steps.toNat⟩
def RunP (g:Gr) (script:List Int) (steps:Int) (w:World) (e:Ending) (w':World):Prop:=
 Fr NoT w w'∧if errNo g script.length steps=0 then ∃en v,Ends g (run0 g script steps) en∧EndIs w' en v∧e= .returned (.tuple #[v,.int .i64 0])
  else e= .returned (.tuple #[zeroEnd,.int .i64 (errNo g script.length steps)])
theorem infoEnd:(Tryz.prog.info? 59).map (·.size)=some 8:=by kernel_rfl
theorem wpF_two {P:Program} {Q:Exit→Act→World→Prop} {md:Region.Mode} {S:World→Prop} {n:Nat} {l:List Oper} (i j:Nat) {oi oj:Oper} {r r':List Oper} {f:Nat} {listed:Array Bool} {a:Act} {w:World} (hi:l.drop i=oi::r) (hj:l.drop j=oj::r') (hr:Region.ready md l.toArray listed= [i,j])
  (h:∀K':Act→World→Prop,Shut (∀a w,S w→wpF P md l.toArray Q S n f (listed.setIfInBounds i true) a w→K' a w)→if Region.wanted oi (yielded l.toArray a.tmps)=true then Oper.wp P oi a w K' Q else K' (a.put oi.dst undef) w)
  (h':∀K':Act→World→Prop,Shut (∀a w,S w→wpF P md l.toArray Q S n f (listed.setIfInBounds j true) a w→K' a w)→if Region.wanted oj (yielded l.toArray a.tmps)=true then Oper.wp P oj a w K' Q else K' (a.put oj.dst undef) w):wpF P md l.toArray Q S n (f+1) listed a w:=by
 refine⟨fun h0=>by rw[hr]at h0;simp at h0,fun k hk=>?_⟩
 rw[hr]at hk
 have hk:k=i∨k=j:=by simpa using hk
 rcases hk with rfl|rfl
 ·exact wpOp_step (at_drop hi) fun K' hK=>h K' fun a w hS hW=>hK a w ⟨fun _=>hS,hW⟩
 ·exact wpOp_step (at_drop hj) fun K' hK=>h' K' fun a w hS hW=>hK a w ⟨fun _=>hS,hW⟩
theorem step_left_le {g:Gr} (hm:mayG g=true) {s t:Rs} (h:stepG g s= .inl t):t.left≤s.left:=by
 obtain⟨_,_,_,_,_,_,_,_,h,_⟩:=step_on hm h
 rw[h];split<;>omega

theorem Sto.lo2 {w:World} {L:Nat} {vs:List Int} {ls:List (List Int)} {bv:Nat} {A:Option Addr} {c:Nat} {bs:List Nat} (h:Sto w L vs ls bv A c bs):∀b∈bs,L≤b:=fun b hb=>by
 obtain⟨i,hi⟩:=List.getElem?_of_mem hb
 have hil:=(List.getElem?_eq_some_iff.1 hi).1
 rw[h.len]at hil
 exact(h.each i b _ hi (List.getElem?_eq_getElem hil)).1
theorem may_sizes {g:Gr} (h:mayG g=true):∀n∈g.arrays,0≤n∧n≤1000:=by
 simp only[mayG,Bool.and_eq_true,Bool.not_eq_true',Bool.or_eq_false_iff,odd2]at h
 intro n hn
 have h2:=h.1.1.2.2
 rw[Bool.eq_false_iff]at h2
 have:sizeBad n=false:=by
  cases hs:sizeBad n with
  |false=>rfl
  |true=>exact absurd (List.any_eq_true.2 ⟨n,hn,hs⟩) h2
 simp only[sizeBad,Bool.or_eq_false_iff,decide_eq_false_iff_not]at this
 omega

open Go.RowKit Go.Shelf Go.Maps

theorem ownsRow_fr {w w':World} {T:Nat→Prop} {base n k:Nat} {e:TypeId} {v:Value} {xs:List Value} (h:w.ownsRow base e k v n xs) (hf:Fr T w w') (hr:∀b,v.ownBlock=some b→¬T b):w'.ownsRow base e k v n xs:=by
 obtain⟨h1,h2⟩:=h
 refine⟨h1,?_⟩
 rcases h2 with h2|⟨g,cap,cur,hv',hg,hh,r⟩
 ·exact .inl h2
 ·refine .inr ⟨g,cap,cur,hv',hg,?_,r⟩
  have hlt:g < w.heap.size:=(Array.getElem?_eq_some_iff.1 hh).1
  rw[hf.block g hlt (hr g (by rw[hv'];rfl))]
  exact hh
theorem ownsMap_fr {w w':World} {T:Nat→Prop} {P:Program} {k:TypeId} {R:Value→Option (DataW Value×List MemPlace)} {b n:Nat} {D:DataW Value} (h:w.ownsMap P k R b n D) (hf:Fr T w w') (hb:¬T b):w'.ownsMap P k R b n D:=by
 have hlt:=h.lt
 obtain⟨es,clock,hb',F,hs,hD⟩:=h
 exact⟨es,clock,(hf.block b hlt hb).trans hb',F,hs,hD⟩
structure GI (w:World) (b base n:Nat) (V:Int→Value) (l:List Ed) (k:Nat) (D:DataW Value):Prop where
 own:w.ownsMap Tryz.prog 3 heldE b n D
 at_:∀x,in64 x→D.atKey (.int .i64 x) (.held nilS)= .held (V x)
 rows:∀x,in64 x→w.ownsRow base 3 1 (V x) (idxE l x k).length (intsV (idxE l x k))
 apart:∀x y,in64 x→in64 y→x≠y→(V x).ownBlock =none∨(V x).ownBlock ≠(V y).ownBlock
theorem zeroInts (w:World):(zeroValue 37).run Tryz.prog w= .ok nilS w:=by kernel_rfl
theorem GI.look {w:World} {b base n:Nat} {V:Int→Value} {l:List Ed} {k:Nat} {D:DataW Value} (h:GI w b base n V l k D) {x:Int} (hx:in64 x):
  (Instr.lookup 165 (.map (some b)) (.int .i64 x) false).run Tryz.prog w= .ok (V x) w:=by
 obtain⟨v,hrun,hv⟩:=heldE_at h.own intKey Tryz.underlying165 (zeroInts w) (keyI hx)
 rw[h.at_ x hx]at hv
 simp only[DataW.held.injEq]at hv
 rw[hv]
 exact hrun
theorem GI.fr {w w':World} {T:Nat→Prop} {b base n:Nat} {V:Int→Value} {l:List Ed} {k:Nat} {D:DataW Value} (h:GI w b base n V l k D) (hf:Fr T w w') (hb:¬T b) (hr:∀x,in64 x→∀g,(V x).ownBlock =some g→¬T g):GI w' b base n V l k D:=
 ⟨ownsMap_fr h.own hf hb,h.at_,fun x hx=>ownsRow_fr (h.rows x hx) hf (hr x hx),h.apart⟩
theorem GI.fr0 {w w':World} {b base n:Nat} {V:Int→Value} {l:List Ed} {k:Nat} {D:DataW Value} (h:GI w b base n V l k D) (hf:Fr NoT w w'):GI w' b base n V l k D:=h.fr hf id fun _ _ _ _=>id
theorem GI.made (w:World) (base:Nat) (l:List Ed):GI (w.alloc (.map #[] 0)) w.heap.size base 0 (fun _=>nilS) l 0 (.map []):=
 ⟨World.ownsMap_made _ _ _ _,fun _ _=>rfl,fun x _=>by show World.ownsRow _ _ _ _ _ (idxE l x 0).length (intsV (idxE l x 0));exact World.ownsRow_nil _ _ _ _,fun _ _ _ _ _=> .inl rfl⟩
theorem GI.sl {w:World} {b base n:Nat} {V:Int→Value} {l:List Ed} {D:DataW Value} (h:GI w b base n V l l.length D) {x:Int} (hx:in64 x) (hl:l.length≤2048):
  ∃A c,V x= .slice A (idxE l x l.length).length c∧IsSl w w.heap.size ((idxE l x l.length).map fun(i:Nat)=>(i:Int)) A c∧∀b o,A=some ⟨b,o,none⟩→base≤b∧(V x).ownBlock =some b:=by
 have hr:=h.rows x hx
 obtain⟨A,c,e,hs⟩:=isSl_of_owns hr (fun i hi=>by have:=idxE_lt l x l.length i hi;omega)
 refine⟨A,c,e,hs,fun b o hA=>?_⟩
 have:(V x).ownBlock =some b:=by rw[e,hA];simp[Value.ownBlock]
 exact⟨(hr.lt b this).1,this⟩
theorem GI.step {w w1:World} {b base n:Nat} {V:Int→Value} {l:List Ed} {k:Nat} {D:DataW Value} (h:GI w b base n V l k D) {e:Ed} (he:l[k]?=some e) (hx:in64 e.from_) (v':Value) (hn:n < maxLen)
  (hbr:∀x,in64 x→(V x).ownBlock ≠some b) (hbv:v'.ownBlock≠some b)
  (hg:w.grownBy w1 (V e.from_).ownBlock) (hown:w1.ownsRow base 3 1 v' ((idxE l e.from_ k).length +1) (intsV (idxE l e.from_ k)++ [.int .i64 (k:Int)]))
  (hat:v'.ownBlock=(V e.from_).ownBlock ∨∃g,v'.ownBlock=some g∧w.heap.size≤g):
  ∃w2 D2,(Instr.mapUpdate 165 (.map (some b)) (.int .i64 e.from_) v').run Tryz.prog w1= .ok () w2∧GI w2 b base (n+1) (fun x=>if x=e.from_ then v' else V x) l (k+1) D2∧w1.grownBy w2 (some b):=by
 have hvb:(V e.from_).ownBlock ≠some b:=hbr _ hx
 have hown1:w1.ownsMap Tryz.prog 3 heldE b n D:=h.own.kept hg (fun e=>hvb e.symm)
 obtain⟨w2,hrun,hown2,hg2⟩:=hown1.update intKey Tryz.underlying165 hn (keyI hx) (val:=v') (d:= .held v') (ps:= []) rfl
 have kx:WideAt.IsKeyLit (.int .i64 e.from_):=intKey.key (keyI hx)
 have oth:∀x,x≠e.from_→idxE l x (k+1)=idxE l x k:=fun x hne=>by
  rw[idxE_succ,if_neg]
  simp[fromAt,he,Ne.symm hne]
 have same:idxE l e.from_ (k+1)=idxE l e.from_ k++ [k]:=by
  rw[idxE_succ,if_pos]
  simp[fromAt,he]
 refine⟨w2,_,hrun,⟨hown2,fun x hxx=>?_,fun x hxx=>?_,fun x y hxx hyy hne=>?_⟩,hg2⟩
 ·by_cases e':x=e.from_
  ·subst e'
   rw[Maps.atKey_put_same hown1.isMap kx,if_pos rfl]
  ·rw[Maps.atKey_put_other (by simpa using e'),if_neg e']
   exact h.at_ x hxx
 ·by_cases e':x=e.from_
  ·subst e'
   rw[if_pos rfl,same]
   have:intsV (idxE l e.from_ k++ [k])=intsV (idxE l e.from_ k)++ [.int .i64 (k:Int)]:=by simp[intsV]
   rw[this,List.length_append]
   exact hown.kept hg2 (.inr hbv)
  ·rw[if_neg e',oth x e']
   have h1:=(h.rows x hxx).kept hg (h.apart x e.from_ hxx hx e')
   exact h1.kept hg2 (.inr (hbr x hxx))
 ·have far:∀x,in64 x→x≠e.from_→(V x).ownBlock =none∨(V x).ownBlock ≠v'.ownBlock:=fun x hxx hne=>by
   rcases hat with e1|⟨g,e1,hge⟩
   ·rw[e1]
    exact h.apart x _ hxx hx hne
   ·cases hu:(V x).ownBlock with
    |none=>exact .inl rfl
    |some g'=>
     refine .inr fun e'=>?_
     rw[e1]at e'
     have:=((h.rows x hxx).lt g' hu).2
     cases e'
     omega
  by_cases e1:x=e.from_
  ·subst e1
   have hy:y≠e.from_:=fun e2=>hne e2.symm
   rw[if_pos rfl,if_neg hy]
   rcases far y hyy hy with h1|h1
   ·cases hv:v'.ownBlock with
    |none=>exact .inl rfl
    |some g=>exact .inr (by rw[h1];simp)
   ·exact .inr (fun e2=>h1 e2.symm)
  ·rw[if_neg e1]
   by_cases e':y=e.from_
   ·rw[if_pos e']
    exact far x hxx e1
   ·rw[if_neg e']
    exact h.apart x y hxx hyy hne

structure MW where
 c:RW
 b:Nat
 n:Nat
 V:Int→Value
 D:DataW Value
def mnC (m:MW) (s:Rs) (As:Option Addr) (cs:Nat) (k wr at_ ed:Int):List Value:= .map (some m.b)::rnC m.c s As cs k wr at_ ed
structure MnR (m:MW) (w:World) (s:Rs) (As:Option Addr) (cs:Nat) (k wr at_ ed:Int):Prop where
 blk:Bk w m.c.R 167 (mnC m s As cs k wr at_ ed).toArray
 sto:Sto w m.c.L s.vs s.ls m.c.bv m.c.Ar m.c.cr m.c.bs
 gr:GrSl w m.c.L m.c.g m.c.Aa m.c.ca m.c.Ae m.c.ce
 sc:IsSl w m.c.L s.script As cs
 rl:m.c.L≤m.c.R
 rv:m.c.R≠m.c.bv
 rb:m.c.R∉m.c.bs
 rr:(Value.slice m.c.Ar s.ls.length m.c.cr).ownBlock ≠some m.c.R
 nv:(s.vs.length:Int)=m.c.g.vars
 na:s.ls.length=m.c.g.arrays.length
 map:GI w m.b m.c.L m.n m.V m.c.g.edges m.c.g.edges.length m.D
 mb:¬m.c.T m.b∧m.c.L≤m.b
 mv:∀x,in64 x→∀g,(m.V x).ownBlock =some g→¬m.c.T g
theorem MnR.lt {m:MW} {w:World} {s:Rs} {As:Option Addr} {cs:Nat} {k wr at_ ed:Int} (h:MnR m w s As cs k wr at_ ed):m.c.L≤w.heap.size:=Nat.le_trans h.rl (Nat.le_of_lt h.blk.lt)
theorem MnR.low {m:MW} {w:World} {s:Rs} {As:Option Addr} {cs:Nat} {k wr at_ ed:Int} (h:MnR m w s As cs k wr at_ ed):∀b,m.c.T b→m.c.L≤b:=by
 rintro b (rfl|rfl|hb)
 ·exact h.rl
 ·exact h.sto.vl
 ·obtain⟨i,hi⟩:=List.getElem?_of_mem hb
  have hil:=(List.getElem?_eq_some_iff.1 hi).1
  rw[h.sto.len]at hil
  exact(h.sto.each i b _ hi (List.getElem?_eq_getElem hil)).1
theorem MnR.below {m:MW} {w:World} {s:Rs} {As:Option Addr} {cs:Nat} {k wr at_ ed:Int} (h:MnR m w s As cs k wr at_ ed):∀b,m.c.T b→b < w.heap.size:=by
 rintro b (rfl|rfl|hb)
 ·exact h.blk.lt
 ·exact h.sto.v.lt
 ·obtain⟨i,hi⟩:=List.getElem?_of_mem hb
  have hil:=(List.getElem?_eq_some_iff.1 hi).1
  rw[h.sto.len]at hil
  exact(h.sto.each i b _ hi (List.getElem?_eq_getElem hil)).2.lt
theorem MnR.fr0 {m:MW} {w w':World} {s:Rs} {As:Option Addr} {cs:Nat} {k wr at_ ed:Int} (h:MnR m w s As cs k wr at_ ed) (hf:Fr NoT w w'):MnR m w' s As cs k wr at_ ed:=
 ⟨h.blk.fr0 hf,h.sto.fr0 hf,h.gr.keep (Same.of_fr hf h.lt fun _ h=>h.elim),h.sc.keep (Same.of_fr hf h.lt fun _ h=>h.elim),h.rl,h.rv,h.rb,h.rr,h.nv,h.na,h.map.fr0 hf,h.mb,h.mv⟩
theorem MnR.own {m:MW} {w w':World} {s:Rs} {As:Option Addr} {cs:Nat} {k wr at_ ed:Int} (h:MnR m w s As cs k wr at_ ed) (hf:Fr (fun b=>b=m.c.R) w w')
  {s':Rs} {As':Option Addr} {cs':Nat} {k' wr' at' ed':Int} (hv:s'.vs=s.vs) (hl:s'.ls=s.ls) (hs:IsSl w m.c.L s'.script As' cs') (hb:Bk w' m.c.R 167 (mnC m s' As' cs' k' wr' at' ed').toArray):MnR m w' s' As' cs' k' wr' at' ed':=by
 have hlow:∀b,b=m.c.R→m.c.L≤b:=fun b e=>e▸h.rl
 have hT:∀b,b=m.c.R→m.c.T b:=fun b e=> .inl e
 refine⟨hb,?_,h.gr.keep (Same.of_fr hf h.lt hlow),hs.keep (Same.of_fr hf h.lt hlow),h.rl,h.rv,h.rb,by rw[hl];exact h.rr,by rw[hv];exact h.nv,by rw[hl];exact h.na,h.map.fr hf (fun e=>h.mb.1 (hT _ e)) (fun x hx g hg e=>h.mv x hx g hg (hT _ e)),h.mb,h.mv⟩
 rw[hv,hl]
 exact h.sto.fr hf (fun e=>h.rv (by have e:m.c.bv=m.c.R:=e;exact e.symm)) (fun b hb e=>h.rb (by have e:b=m.c.R:=e;exact e▸hb)) fun b e e'=>h.rr (by have e':b=m.c.R:=e';rw[e,e'])
theorem MnR.store {m:MW} {w w':World} {s:Rs} {As:Option Addr} {cs:Nat} {k wr at_ ed:Int} (h:MnR m w s As cs k wr at_ ed) {b:Nat} (hbT:b=m.c.bv∨b∈m.c.bs) (hf:Fr (fun x=>x=b) w w')
  {s':Rs} (hn:s'.node=s.node) (hsc:s'.script=s.script) (hlf:s'.left=s.left) (hv:s'.vs.length=s.vs.length) (hl:s'.ls.length=s.ls.length) (hs:Sto w' m.c.L s'.vs s'.ls m.c.bv m.c.Ar m.c.cr m.c.bs):MnR m w' s' As cs k wr at_ ed:=by
 have hbL:m.c.L≤b:=h.low b (.inr hbT)
 have hlow:∀x,x=b→m.c.L≤x:=fun x e=>e▸hbL
 have hT:∀x,x=b→m.c.T x:=fun x e=>e▸ .inr hbT
 have hne:¬m.c.R=b:=fun e=>hbT.elim (fun e'=>h.rv (e.trans e')) fun hm=>h.rb (e▸hm)
 refine⟨?_,hs,h.gr.keep (Same.of_fr hf h.lt hlow),?_,h.rl,h.rv,h.rb,by rw[hl];exact h.rr,by rw[hv];exact h.nv,by rw[hl];exact h.na,h.map.fr hf (fun e=>h.mb.1 (hT _ e)) (fun x hx g hg e=>h.mv x hx g hg (hT _ e)),h.mb,h.mv⟩
 ·have:=h.blk.fr hf hne
  unfold mnC rnC at this ⊢
  rw[hn,hsc,hlf,hv,hl]
  exact this
 ·rw[hsc];exact h.sc.keep (Same.of_fr hf h.lt hlow)
theorem MnR.far {m:MW} {w0 w w':World} {s0 s:Rs} {As0 As:Option Addr} {cs0 cs:Nat} {a0 b0 d0 e0 k wr at_ ed:Int} (h0:MnR m w0 s0 As0 cs0 a0 b0 d0 e0) (h:MnR m w s As cs k wr at_ ed)
  (hf:Fr (fun x=>w0.heap.size≤x) w w'):MnR m w' s As cs k wr at_ ed:=by
 have hT:=h0.below
 have hlow:∀x,w0.heap.size≤x→m.c.L≤x:=fun x hx=>Nat.le_trans h0.lt hx
 refine⟨h.blk.fr hf (Nat.not_le.2 (hT _ (.inl rfl))),h.sto.fr hf (Nat.not_le.2 (hT _ (.inr (.inl rfl)))) (fun b hb=>Nat.not_le.2 (hT _ (.inr (.inr hb)))) (fun b hb=>?_),h.gr.keep (Same.of_fr hf h.lt hlow),h.sc.keep (Same.of_fr hf h.lt hlow),h.rl,h.rv,h.rb,h.rr,h.nv,h.na,
  h.map.fr hf (Nat.not_le.2 h0.map.own.lt) (fun x hx g hg=>Nat.not_le.2 ((h0.map.rows x hx).lt g hg).2),h.mb,h.mv⟩
 have hl:s.ls.length=s0.ls.length:=h.na.trans h0.na.symm
 rw[hl]at hb
 exact Nat.not_le.2 (h0.sto.row.lt b hb).2
theorem MnR.setV {m:MW} {w:World} {s:Rs} {As:Option Addr} {cs:Nat} {k wr at_ ed:Int} (h:MnR m w s As cs k wr at_ ed) (n:Nat) {x:Int} (hx:is64 x):
  MnR m (w.setCell ⟨m.c.bv,n,none⟩ (.int .i64 x)) {s with vs:=s.vs.set n x} As cs k wr at_ ed∧Fr m.c.T w (w.setCell ⟨m.c.bv,n,none⟩ (.int .i64 x)):=by
 obtain⟨h1,h2⟩:=h.sto.setV n hx
 exact⟨h.store (.inl rfl) h2 rfl rfl rfl (by simp) rfl h1,h2.toT (.inr (.inl rfl))⟩
theorem MnR.setA {m:MW} {w:World} {s:Rs} {As:Option Addr} {cs:Nat} {k wr at_ ed:Int} (h:MnR m w s As cs k wr at_ ed) {n b:Nat} {l:List Int} (hb:m.c.bs[n]?=some b) (hl:s.ls[n]?=some l) (j:Nat) {x:Int} (hx:is64 x):
  MnR m (w.setCell ⟨b,j,none⟩ (.int .i64 x)) {s with ls:=s.ls.set n (l.set j x)} As cs k wr at_ ed∧Fr m.c.T w (w.setCell ⟨b,j,none⟩ (.int .i64 x)):=by
 obtain⟨h1,h2⟩:=h.sto.setA hb hl j hx
 exact⟨h.store (.inr (List.mem_of_getElem? hb)) h2 rfl rfl rfl rfl (by simp) h1,h2.toT (.inr (.inr (List.mem_of_getElem? hb)))⟩
theorem MnR.input {m:MW} {w:World} {s:Rs} {cs b6 o6:Nat} {k wr at_ ed:Int} (h:MnR m w s (some ⟨b6,o6,none⟩) cs k wr at_ ed) {x:Int} {q:List Int} (hq:s.script=x::q) (n:Nat) {A:Option Addr} (hA:A=some ⟨b6,o6+1,none⟩∨q= []) {l:Nat} (hm:l=q.length):
  MnR m ((w.setCell ⟨m.c.bv,n,none⟩ (.int .i64 x)).setCell ⟨m.c.R,7,none⟩ (.slice A l (cs - 1))) {s with vs:=s.vs.set n x,script:=q} A (cs - 1) k wr at_ ed∧Fr m.c.T w ((w.setCell ⟨m.c.bv,n,none⟩ (.int .i64 x)).setCell ⟨m.c.R,7,none⟩ (.slice A l (cs - 1))):=by
 have hsl:=h.sc
 rw[hq]at hsl
 have hx:is64 x:=in_is64 (by obtain⟨b,o,_,hh⟩:=hsl.2.2 (by simp);exact(hh.2 0 x rfl).2)
 obtain⟨h1,h2⟩:=h.setV n hx
 have hsl1:=h1.sc
 simp only[hq]at hsl1
 have hf:Fr (fun b=>b=m.c.R) (w.setCell ⟨m.c.bv,n,none⟩ (.int .i64 x)) ((w.setCell ⟨m.c.bv,n,none⟩ (.int .i64 x)).setCell ⟨m.c.R,7,none⟩ (.slice A l (cs - 1))):=Fr.own (Fr.refl _ _) _ _
 refine⟨h1.own hf rfl rfl (isSl_tail hsl1 hA) ?_,h2.trans (hf.toT m.c.tR)⟩
 have:=h1.blk.set_ 7 (.slice A l (cs - 1))
 rw[hm]at this ⊢
 simpa[mnC,rnC]using this

theorem Ends.uniq {g:Gr} {s:Rs} {en:En} (h:Ends g s en):∀en',Ends g s en'→en'=en:=by
 induction h with
 |done hl=>exact fun en' h'=>h'.at_last hl
 |stop hl he=>exact fun en' h'=>h'.stops hl he
 |go hl he _ ih=>exact fun en' h'=>ih en' (h'.goes hl he)
def enEq (a b:En):Bool:=eq6 a.kind b.kind a.wrong b.wrong a.at_ b.at_ a.node b.node a.edge b.edge a.left b.left (a.vs==b.vs) (a.ls==b.ls)
theorem enEq_refl (a:En):enEq a a=true:=by simp[enEq,eq6]
theorem same_ends {w:World} {a b:En} {va vb:Value} (h:EndIs w a va) (h':EndIs w b vb):Calls Tryz.prog 32 #[va,vb] w (BoolPost (enEq a b) w):=by
 obtain⟨Av,cv,Aa,ca,rfl,hs⟩:=h
 obtain⟨Av',cv',Aa',ca',rfl,hs'⟩:=h'
 exact same_any _ _ _ _ _ _ _ _ _ _ _ _ a.vs b.vs a.ls b.ls Av Av' Aa Aa' cv cv' ca ca' w.heap.size w (Nat.le_refl _) hs hs'

open Go.RowKit

def Rs.more (m:Nat) (s:Rs):Rs:={s with left:=s.left+m}
def En.more (m:Nat) (e:En):En:={e with left:=e.left+m}
theorem stepG_more (g:Gr) (s:Rs) (m:Nat):(∃en,stepG g s= .inr en∧en.kind=2∧en.left=0∧s.left=0)∨(stepG g (s.more m)=Sum.map (Rs.more m) (En.more m) (stepG g s)∧∀en,stepG g s= .inr en→en.kind≠2):=by
 have hn:(s.more m).node =s.node:=rfl
 unfold stepG
 rw[hn]
 cases h1:idxE g.edges s.node g.edges.length with
 |nil=>exact .inr ⟨by simp[Rs.more,Rs.stop,En.more,Sum.map],fun en h=>by simp only[Sum.inr.injEq]at h;subst h;simp[Rs.stop]⟩
 |cons i r=>
  simp only
  cases h2:g.edges[i]? with
  |none=>exact .inr ⟨by simp[Rs.more,Rs.stop,En.more,Sum.map],fun en h=>by simp only[Sum.inr.injEq]at h;subst h;simp[Rs.stop]⟩
  |some x=>
   simp only
   by_cases h3:costs x.kind=true∧s.left=0
   ·left
    rw[if_pos h3]
    exact⟨_,rfl,rfl,by simp[Rs.stop,h3.2],h3.2⟩
   ·right
    have h3':¬(costs x.kind=true∧(s.more m).left =0):=fun h=>h3 ⟨h.1,by have:s.left+m=0:=h.2;omega⟩
    have hl:(if costs x.kind=true then(s.more m).left - 1 else(s.more m).left)=(if costs x.kind=true then s.left - 1 else s.left)+m:=by
     show(if costs x.kind=true then s.left+m - 1 else s.left+m)=_
     by_cases hc:costs x.kind=true
     ·rw[if_pos hc,if_pos hc]
      have:s.left≠0:=fun h=>h3 ⟨hc,h⟩
      omega
     ·rw[if_neg hc,if_neg hc]
    rw[if_neg h3,if_neg h3',hl]
    generalize (if costs x.kind=true then s.left - 1 else s.left)=q
    have e1:(s.more m).script =s.script:=rfl
    have e2:(s.more m).vs =s.vs:=rfl
    have e3:(s.more m).ls =s.ls:=rfl
    rw[e1,e2,e3]
    constructor
    ·repeat' split
     all_goals first
      |rfl
      |(simp_all [Rs.more,Rs.stop,En.more,Sum.map];done)
    ·intro en
     repeat' split
     all_goals first
      |(intro h;simp only[Sum.inr.injEq]at h;subst h;simp[Rs.stop];done)
      |(intro h;cases h;done)
theorem stepG_left (g:Gr) (s:Rs):(∀t,stepG g s= .inl t→t.left≤s.left)∧∀en,stepG g s= .inr en→en.left≤s.left:=by
 unfold stepG
 cases h1:idxE g.edges s.node g.edges.length with
 |nil=>exact⟨fun t h=>(by cases h),fun en h=>by simp only[Sum.inr.injEq]at h;subst h;simp[Rs.stop]⟩
 |cons i r=>
  simp only
  cases h2:g.edges[i]? with
  |none=>exact⟨fun t h=>(by cases h),fun en h=>by simp only[Sum.inr.injEq]at h;subst h;simp[Rs.stop]⟩
  |some x=>
   simp only
   by_cases h3:costs x.kind=true∧s.left=0
   ·rw[if_pos h3]
    exact⟨fun t h=>(by cases h),fun en h=>by simp only[Sum.inr.injEq]at h;subst h;simp[Rs.stop]⟩
   ·rw[if_neg h3]
    have hq:(if costs x.kind=true then s.left - 1 else s.left)≤s.left:=by split<;>omega
    generalize (if costs x.kind=true then s.left - 1 else s.left)=q at hq ⊢
    constructor
    ·intro t
     repeat' split
     all_goals first
      |(intro h;cases h;done)
      |(intro h;simp only[Sum.inl.injEq]at h;subst h;exact hq)
    ·intro en
     repeat' split
     all_goals first
      |(intro h;cases h;done)
      |(intro h;simp only[Sum.inr.injEq]at h;subst h;simp only[Rs.stop];omega)
theorem stepG_ge (g:Gr) (s:Rs):∀en,stepG g s= .inr en→0≤en.left:=by
 unfold stepG
 cases h1:idxE g.edges s.node g.edges.length with
 |nil=>exact fun en h=>by simp only[Sum.inr.injEq]at h;subst h;simp[Rs.stop]
 |cons i r=>
  simp only
  cases h2:g.edges[i]? with
  |none=>exact fun en h=>by simp only[Sum.inr.injEq]at h;subst h;simp[Rs.stop]
  |some x=>
   simp only
   by_cases h3:costs x.kind=true∧s.left=0
   ·rw[if_pos h3]
    exact fun en h=>by simp only[Sum.inr.injEq]at h;subst h;simp[Rs.stop]
   ·rw[if_neg h3]
    generalize (if costs x.kind=true then s.left - 1 else s.left)=q
    intro en
    repeat' split
    all_goals first
     |(intro h;cases h;done)
     |(intro h;simp only[Sum.inr.injEq]at h;subst h;simp only[Rs.stop];omega)
theorem Ends.left_ge {g:Gr} {s:Rs} {en:En} (h:Ends g s en):0≤en.left:=by
 induction h with
 |done h=>simp[Rs.stop]
 |stop h he=>exact stepG_ge g _ _ he
 |go h he _ ih=>exact ih
theorem Ends.left_le {g:Gr} {s:Rs} {en:En} (h:Ends g s en):en.left≤s.left:=by
 induction h with
 |done h=>simp[Rs.stop]
 |stop h he=>exact(stepG_left g _).2 _ he
 |go h he _ ih=>have:=(stepG_left g _).1 _ he;omega
theorem Ends.more {g:Gr} {s:Rs} {en:En} (m:Nat) (h:Ends g s en):(en.kind≠2→Ends g (s.more m) (en.more m))∧(en.kind=2→en.left=0∧∀en',Ends g (s.more m) en'→en'.left≤m):=by
 induction h with
 | @done s hl=>exact⟨fun _=>Ends.done (s:=s.more m) hl,fun h=>absurd h (by simp[Rs.stop])⟩
 | @stop s en hl he=>
  rcases stepG_more g s m with⟨e2,h1,h2,h3,h4⟩|⟨h1,h2⟩
  ·rw[he]at h1
   cases h1
   refine⟨fun h=>absurd h2 h,fun _=>⟨h3,fun en' h'=>?_⟩⟩
   have h5:=h'.left_le
   have:((s.more m).left :Int)=(s.left:Int)+m:=by simp[Rs.more]
   omega
  ·rw[he]at h1
   exact⟨fun _=>Ends.stop (s:=s.more m) hl h1,fun h=>absurd h (h2 en he)⟩
 | @go s t en hl he hn ih=>
  rcases stepG_more g s m with⟨e2,h1,h2,h3,h4⟩|⟨h1,h2⟩
  ·rw[he]at h1;cases h1
  ·rw[he]at h1
   exact⟨fun h=>Ends.go (s:=s.more m) hl h1 (ih.1 h),fun h=>⟨(ih.2 h).1,fun en' h'=>(ih.2 h).2 en' (h'.goes (s:=s.more m) hl h1)⟩⟩
def endsN (g:Gr):Nat→Rs→Option En
 |0,_=>none
 |n+1,s=>if s.node=g.last then some (s.stop 1 0 0 0)else match stepG g s with
  | .inr en=>some en
  | .inl t=>endsN g n t
theorem endsN_ends {g:Gr}:∀ {n:Nat} {s:Rs} {en:En},endsN g n s=some en→Ends g s en
 |0,_,_,h=>by cases h
 |n+1,s,en,h=>by
  unfold endsN at h
  split at h
  ·rename_i hl
   cases h
   exact .done hl
  ·rename_i hl
   split at h
   ·rename_i e he
    cases h
    exact .stop hl he
   ·rename_i t ht
    exact .go hl ht (endsN_ends h)
end Go.Proofs.YtobegfbdedgmpaaGreatDoor
