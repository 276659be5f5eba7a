/-
  What both runs answer; more room for a graph; what ref14's Run begins with.
-/
import Derived.Test.YtobegfbdedgmpaaGreatDoorJgSrStep2
import Derived.Test.YtobegfbdedgmpaaGreatDoorJgSrB
import Derived.Deep.RegionWith
import Derived.Test.YtobegfbdedgmpaaGreatDoorJgSrRun
import Derived.Test.YtobegfbdedgmpaaGreatDoorJnCk3
set_option linter.unusedVariables false
set_option linter.unusedSimpArgs false
namespace Go.Proofs.YtobegfbdedgmpaaGreatDoor
open Go.RowKit Go.Shelf

theorem EdAt.up {w:World} {B B':Nat} (hB:B≤B'):∀ {l:List Ed} {b o:Nat},EdAt w B l b o→EdAt w B' l b o
 | [],_,_,_=>trivial
 |e::r,b,o,hx=>by
  obtain⟨hb,h0,h1,h2,h3,h4,⟨A,c,h5,hs⟩,h6,hok,hr⟩:=hx
  exact⟨Nat.lt_of_lt_of_le hb hB,h0,h1,h2,h3,h4,⟨A,c,h5,hs.more hB⟩,h6,hok,EdAt.up hB hr⟩
theorem EdSl.up {w:World} {B B':Nat} (hB:B≤B') {l:List Ed} {A:Option Addr} {c:Nat} (hx:EdSl w B l A c):EdSl w B' l A c:=
 ⟨hx.1,hx.2.1,fun hp=>by obtain⟨b,o,e,hh⟩:=hx.2.2 hp;exact⟨b,o,e,hh.up hB⟩⟩
theorem IsSl.up {w:World} {B B':Nat} {l:List Int} {A:Option Addr} {c:Nat} (h:B≤B') (hx:IsSl w B l A c):IsSl w B' l A c:=
 ⟨hx.1,hx.2.1,fun hp=>by obtain⟨b,o,e,hh⟩:=hx.2.2 hp;exact⟨b,o,e,Nat.lt_of_lt_of_le hh.1 h,hh.2⟩⟩
theorem GrSl.up {w:World} {B B':Nat} (hB:B≤B') {g:Gr} {Aa:Option Addr} {ca:Nat} {Ae:Option Addr} {ce:Nat} (h:GrSl w B g Aa ca Ae ce):GrSl w B' g Aa ca Ae ce:=⟨h.arrays.up hB,h.edges.up hB⟩
theorem Sto.lower {w:World} {L L':Nat} {vs:List Int} {ls:List (List Int)} {bv:Nat} {A:Option Addr} {c:Nat} {bs:List Nat} (hL:L≤L') (h:Sto w L' vs ls bv A c bs):Sto w L vs ls bv A c bs:=by
 refine⟨h.v,Nat.le_trans hL h.vl,⟨h.row.1,?_⟩,h.len,fun i b l hi hl=>⟨Nat.le_trans hL (h.each i b l hi hl).1,(h.each i b l hi hl).2⟩,h.nd,h.nv,h.rv,h.rb,h.i64,h.few⟩
 rcases h.row.2 with h2|⟨g,cap,cur,e,h3,r⟩
 ·exact .inl h2
 ·exact .inr ⟨g,cap,cur,e,Nat.le_trans hL h3,r⟩
def EndIs (w:World) (en:En) (v:Value):Prop:=
 ∃Av cv Aa ca,v= .agg #[.int .u8 en.kind,.int .u8 en.wrong,.int .i64 en.at_,.int .i64 en.node,.int .i64 en.edge,.int .i64 en.left,.slice Av en.vs.length cv,.slice Aa en.ls.length ca]∧StSl w w.heap.size en.vs en.ls Av cv Aa ca
def zku:Value:= .agg #[.int .u8 0,.int .u8 0,.int .i64 0,.int .i64 0,.int .i64 0,.int .i64 0,.slice none 0 0,.slice none 0 0]
def zbd (g:Gr) (n:Nat) (steps:Int):Int:=if mayG g=true then(if 4096 < n then 4 else if steps < 0∨65536 < steps then 2 else 0)else 8
def run0 (g:Gr) (script:List Int) (steps:Int):Rs:=⟨zbX g.vars.toNat,begA g.arrays,script,g.start,steps.toNat⟩
def RunP (g:Gr) (script:List Int) (steps:Int) (w:World) (e:Ending) (w':World):Prop:=
 Fr NoT w w'∧if zbd g script.length steps=0 then ∃en v,Ends g (run0 g script steps) en∧EndIs w' en v∧e= .returned (.tuple #[v,.int .i64 0])
  else e= .returned (.tuple #[zku,.int .i64 (zbd g script.length steps)])
theorem zcX:(Tryz.prog.info? 59).map (·.size)=some 8:=by kernel_rfl
theorem znD {P:Program} {Q:Exit→Act→World→Prop} {md:Region.Mode} {S:World→Prop} {n:Nat} {l:List Oper} (i j:Nat) {oi oj:Oper} {r r':List Oper} {f:Nat} {listed:Array Bool} {a:Act} {w:World} (hi:l.drop i=oi::r) (hj:l.drop j=oj::r') (hr:Region.ready md l.toArray listed= [i,j])
  (h:∀K':Act→World→Prop,Shut (∀a w,S w→wpF P md l.toArray Q S n f (listed.setIfInBounds i true) a w→K' a w)→if Region.wanted oi (yielded l.toArray a.tmps)=true then Oper.wp P oi a w K' Q else K' (a.put oi.dst undef) w)
  (h':∀K':Act→World→Prop,Shut (∀a w,S w→wpF P md l.toArray Q S n f (listed.setIfInBounds j true) a w→K' a w)→if Region.wanted oj (yielded l.toArray a.tmps)=true then Oper.wp P oj a w K' Q else K' (a.put oj.dst undef) w):wpF P md l.toArray Q S n (f+1) listed a w:=by
 refine⟨fun h0=>by rw[hr]at h0;simp at h0,fun k hk=>?_⟩
 rw[hr]at hk
 have hk:k=i∨k=j:=by simpa using hk
 rcases hk with rfl|rfl
 ·exact wpOp_step (zcV hi) fun K' hK=>h K' fun a w hS hW=>hK a w ⟨fun _=>hS,hW⟩
 ·exact wpOp_step (zcV hj) fun K' hK=>h' K' fun a w hS hW=>hK a w ⟨fun _=>hS,hW⟩
theorem zfY {g:Gr} (hm:mayG g=true) {s t:Rs} (h:zaP g s= .inl t):t.left≤s.left:=by
 obtain⟨_,_,_,_,_,_,_,_,h,_⟩:=zkr hm h
 rw[h];split<;>omega

theorem Sto.lo2 {w:World} {L:Nat} {vs:List Int} {ls:List (List Int)} {bv:Nat} {A:Option Addr} {c:Nat} {bs:List Nat} (h:Sto w L vs ls bv A c bs):∀b∈bs,L≤b:=fun b hb=>by
 obtain⟨i,hi⟩:=List.getElem?_of_mem hb
 have hil:=(List.getElem?_eq_some_iff.1 hi).1
 rw[h.len]at hil
 exact(h.each i b _ hi (List.getElem?_eq_getElem hil)).1
theorem zfZ {g:Gr} (h:mayG g=true):∀n∈g.arrays,0≤n∧n≤1000:=by
 simp only[mayG,Bool.and_eq_true,Bool.not_eq_true',Bool.or_eq_false_iff,odd2]at h
 intro n hn
 have h2:=h.1.1.2.2
 rw[Bool.eq_false_iff]at h2
 have:zaI n=false:=by
  cases hs:zaI n with
  |false=>rfl
  |true=>exact absurd (List.any_eq_true.2 ⟨n,hn,hs⟩) h2
 simp only[zaI,Bool.or_eq_false_iff,decide_eq_false_iff_not]at this
 omega

open Go.RowKit Go.Shelf Go.Maps

theorem zep {w w':World} {T:Nat→Prop} {base n k:Nat} {e:TypeId} {v:Value} {xs:List Value} (h:w.ownsRow base e k v n xs) (hf:Fr T w w') (hr:∀b,v.ownBlock=some b→¬T b):w'.ownsRow base e k v n xs:=by
 obtain⟨h1,h2⟩:=h
 refine⟨h1,?_⟩
 rcases h2 with h2|⟨g,cap,cur,hv',hg,hh,r⟩
 ·exact .inl h2
 ·refine .inr ⟨g,cap,cur,hv',hg,?_,r⟩
  have hlt:g < w.heap.size:=(Array.getElem?_eq_some_iff.1 hh).1
  rw[hf.block g hlt (hr g (by rw[hv'];rfl))]
  exact hh
theorem zeq {w w':World} {T:Nat→Prop} {P:Program} {k:TypeId} {R:Value→Option (DataW Value×List MemPlace)} {b n:Nat} {D:DataW Value} (h:w.ownsMap P k R b n D) (hf:Fr T w w') (hb:¬T b):w'.ownsMap P k R b n D:=by
 have hlt:=h.lt
 obtain⟨es,clock,hb',F,hs,hD⟩:=h
 exact⟨es,clock,(hf.block b hlt hb).trans hb',F,hs,hD⟩
structure GI (w:World) (b base n:Nat) (V:Int→Value) (l:List Ed) (k:Nat) (D:DataW Value):Prop where
 own:w.ownsMap Tryz.prog 3 zdX b n D
 at_:∀x,in64 x→D.atKey (.int .i64 x) (.held nilS)= .held (V x)
 rows:∀x,in64 x→w.ownsRow base 3 1 (V x) (idxE l x k).length (zeS (idxE l x k))
 apart:∀x y,in64 x→in64 y→x≠y→(V x).ownBlock =none∨(V x).ownBlock ≠(V y).ownBlock
theorem zhr (w:World):(zeroValue 37).run Tryz.prog w= .ok nilS w:=by kernel_rfl
theorem GI.look {w:World} {b base n:Nat} {V:Int→Value} {l:List Ed} {k:Nat} {D:DataW Value} (h:GI w b base n V l k D) {x:Int} (hx:in64 x):
  (Instr.lookup 165 (.map (some b)) (.int .i64 x) false).run Tryz.prog w= .ok (V x) w:=by
 obtain⟨v,hrun,hv⟩:=zeL h.own intKey Tryz.underlying165 (zhr w) (keyI hx)
 rw[h.at_ x hx]at hv
 simp only[DataW.held.injEq]at hv
 rw[hv]
 exact hrun
theorem GI.fr {w w':World} {T:Nat→Prop} {b base n:Nat} {V:Int→Value} {l:List Ed} {k:Nat} {D:DataW Value} (h:GI w b base n V l k D) (hf:Fr T w w') (hb:¬T b) (hr:∀x,in64 x→∀g,(V x).ownBlock =some g→¬T g):GI w' b base n V l k D:=
 ⟨zeq h.own hf hb,h.at_,fun x hx=>zep (h.rows x hx) hf (hr x hx),h.apart⟩
theorem GI.fr0 {w w':World} {b base n:Nat} {V:Int→Value} {l:List Ed} {k:Nat} {D:DataW Value} (h:GI w b base n V l k D) (hf:Fr NoT w w'):GI w' b base n V l k D:=h.fr hf id fun _ _ _ _=>id
theorem GI.made (w:World) (base:Nat) (l:List Ed):GI (w.alloc (.map #[] 0)) w.heap.size base 0 (fun _=>nilS) l 0 (.map []):=
 ⟨World.ownsMap_made _ _ _ _,fun _ _=>rfl,fun x _=>by show World.ownsRow _ _ _ _ _ (idxE l x 0).length (zeS (idxE l x 0));exact World.ownsRow_nil _ _ _ _,fun _ _ _ _ _=> .inl rfl⟩
theorem GI.sl {w:World} {b base n:Nat} {V:Int→Value} {l:List Ed} {D:DataW Value} (h:GI w b base n V l l.length D) {x:Int} (hx:in64 x) (hl:l.length≤2048):
  ∃A c,V x= .slice A (idxE l x l.length).length c∧IsSl w w.heap.size ((idxE l x l.length).map fun(i:Nat)=>(i:Int)) A c∧∀b o,A=some ⟨b,o,none⟩→base≤b∧(V x).ownBlock =some b:=by
 have hr:=h.rows x hx
 obtain⟨A,c,e,hs⟩:=zfT hr (fun i hi=>by have:=zkn l x l.length i hi;omega)
 refine⟨A,c,e,hs,fun b o hA=>?_⟩
 have:(V x).ownBlock =some b:=by rw[e,hA];simp[Value.ownBlock]
 exact⟨(hr.lt b this).1,this⟩
theorem GI.step {w w1:World} {b base n:Nat} {V:Int→Value} {l:List Ed} {k:Nat} {D:DataW Value} (h:GI w b base n V l k D) {e:Ed} (he:l[k]?=some e) (hx:in64 e.from_) (v':Value) (hn:n < maxLen)
  (hbr:∀x,in64 x→(V x).ownBlock ≠some b) (hbv:v'.ownBlock≠some b)
  (hg:w.grownBy w1 (V e.from_).ownBlock) (hown:w1.ownsRow base 3 1 v' ((idxE l e.from_ k).length +1) (zeS (idxE l e.from_ k)++ [.int .i64 (k:Int)]))
  (hat:v'.ownBlock=(V e.from_).ownBlock ∨∃g,v'.ownBlock=some g∧w.heap.size≤g):
  ∃w2 D2,(Instr.mapUpdate 165 (.map (some b)) (.int .i64 e.from_) v').run Tryz.prog w1= .ok () w2∧GI w2 b base (n+1) (fun x=>if x=e.from_ then v' else V x) l (k+1) D2∧w1.grownBy w2 (some b):=by
 have hvb:(V e.from_).ownBlock ≠some b:=hbr _ hx
 have hown1:w1.ownsMap Tryz.prog 3 zdX b n D:=h.own.kept hg (fun e=>hvb e.symm)
 obtain⟨w2,hrun,hown2,hg2⟩:=hown1.update intKey Tryz.underlying165 hn (keyI hx) (val:=v') (d:= .held v') (ps:= []) rfl
 have kx:WideAt.IsKeyLit (.int .i64 e.from_):=intKey.key (keyI hx)
 have oth:∀x,x≠e.from_→idxE l x (k+1)=idxE l x k:=fun x hne=>by
  rw[zdI,if_neg]
  simp[zcf,he,Ne.symm hne]
 have same:idxE l e.from_ (k+1)=idxE l e.from_ k++ [k]:=by
  rw[zdI,if_pos]
  simp[zcf,he]
 refine⟨w2,_,hrun,⟨hown2,fun x hxx=>?_,fun x hxx=>?_,fun x y hxx hyy hne=>?_⟩,hg2⟩
 ·by_cases e':x=e.from_
  ·subst e'
   rw[Maps.atKey_put_same hown1.isMap kx,if_pos rfl]
  ·rw[Maps.atKey_put_other (by simpa using e'),if_neg e']
   exact h.at_ x hxx
 ·by_cases e':x=e.from_
  ·subst e'
   rw[if_pos rfl,same]
   have:zeS (idxE l e.from_ k++ [k])=zeS (idxE l e.from_ k)++ [.int .i64 (k:Int)]:=by simp[zeS]
   rw[this,List.length_append]
   exact hown.kept hg2 (.inr hbv)
  ·rw[if_neg e',oth x e']
   have h1:=(h.rows x hxx).kept hg (h.apart x e.from_ hxx hx e')
   exact h1.kept hg2 (.inr (hbr x hxx))
 ·have far:∀x,in64 x→x≠e.from_→(V x).ownBlock =none∨(V x).ownBlock ≠v'.ownBlock:=fun x hxx hne=>by
   rcases hat with e1|⟨g,e1,hge⟩
   ·rw[e1]
    exact h.apart x _ hxx hx hne
   ·cases hu:(V x).ownBlock with
    |none=>exact .inl rfl
    |some g'=>
     refine .inr fun e'=>?_
     rw[e1]at e'
     have:=((h.rows x hxx).lt g' hu).2
     cases e'
     omega
  by_cases e1:x=e.from_
  ·subst e1
   have hy:y≠e.from_:=fun e2=>hne e2.symm
   rw[if_pos rfl,if_neg hy]
   rcases far y hyy hy with h1|h1
   ·cases hv:v'.ownBlock with
    |none=>exact .inl rfl
    |some g=>exact .inr (by rw[h1];simp)
   ·exact .inr (fun e2=>h1 e2.symm)
  ·rw[if_neg e1]
   by_cases e':y=e.from_
   ·rw[if_pos e']
    exact far x hxx e1
   ·rw[if_neg e']
    exact h.apart x y hxx hyy hne

structure MW where
 c:RW
 b:Nat
 n:Nat
 V:Int→Value
 D:DataW Value
def mnC (m:MW) (s:Rs) (As:Option Addr) (cs:Nat) (k wr at_ ed:Int):List Value:= .map (some m.b)::rnC m.c s As cs k wr at_ ed
structure MnR (m:MW) (w:World) (s:Rs) (As:Option Addr) (cs:Nat) (k wr at_ ed:Int):Prop where
 blk:Bk w m.c.R 167 (mnC m s As cs k wr at_ ed).toArray
 sto:Sto w m.c.L s.vs s.ls m.c.bv m.c.Ar m.c.cr m.c.bs
 gr:GrSl w m.c.L m.c.g m.c.Aa m.c.ca m.c.Ae m.c.ce
 sc:IsSl w m.c.L s.script As cs
 rl:m.c.L≤m.c.R
 rv:m.c.R≠m.c.bv
 rb:m.c.R∉m.c.bs
 rr:(Value.slice m.c.Ar s.ls.length m.c.cr).ownBlock ≠some m.c.R
 nv:(s.vs.length:Int)=m.c.g.vars
 na:s.ls.length=m.c.g.arrays.length
 map:GI w m.b m.c.L m.n m.V m.c.g.edges m.c.g.edges.length m.D
 mb:¬m.c.T m.b∧m.c.L≤m.b
 mv:∀x,in64 x→∀g,(m.V x).ownBlock =some g→¬m.c.T g
theorem MnR.lt {m:MW} {w:World} {s:Rs} {As:Option Addr} {cs:Nat} {k wr at_ ed:Int} (h:MnR m w s As cs k wr at_ ed):m.c.L≤w.heap.size:=Nat.le_trans h.rl (Nat.le_of_lt h.blk.lt)
theorem MnR.low {m:MW} {w:World} {s:Rs} {As:Option Addr} {cs:Nat} {k wr at_ ed:Int} (h:MnR m w s As cs k wr at_ ed):∀b,m.c.T b→m.c.L≤b:=by
 rintro b (rfl|rfl|hb)
 ·exact h.rl
 ·exact h.sto.vl
 ·obtain⟨i,hi⟩:=List.getElem?_of_mem hb
  have hil:=(List.getElem?_eq_some_iff.1 hi).1
  rw[h.sto.len]at hil
  exact(h.sto.each i b _ hi (List.getElem?_eq_getElem hil)).1
theorem MnR.below {m:MW} {w:World} {s:Rs} {As:Option Addr} {cs:Nat} {k wr at_ ed:Int} (h:MnR m w s As cs k wr at_ ed):∀b,m.c.T b→b < w.heap.size:=by
 rintro b (rfl|rfl|hb)
 ·exact h.blk.lt
 ·exact h.sto.v.lt
 ·obtain⟨i,hi⟩:=List.getElem?_of_mem hb
  have hil:=(List.getElem?_eq_some_iff.1 hi).1
  rw[h.sto.len]at hil
  exact(h.sto.each i b _ hi (List.getElem?_eq_getElem hil)).2.lt
theorem MnR.fr0 {m:MW} {w w':World} {s:Rs} {As:Option Addr} {cs:Nat} {k wr at_ ed:Int} (h:MnR m w s As cs k wr at_ ed) (hf:Fr NoT w w'):MnR m w' s As cs k wr at_ ed:=
 ⟨h.blk.fr0 hf,h.sto.fr0 hf,h.gr.keep (Same.of_fr hf h.lt fun _ h=>h.elim),h.sc.keep (Same.of_fr hf h.lt fun _ h=>h.elim),h.rl,h.rv,h.rb,h.rr,h.nv,h.na,h.map.fr0 hf,h.mb,h.mv⟩
theorem MnR.own {m:MW} {w w':World} {s:Rs} {As:Option Addr} {cs:Nat} {k wr at_ ed:Int} (h:MnR m w s As cs k wr at_ ed) (hf:Fr (fun b=>b=m.c.R) w w')
  {s':Rs} {As':Option Addr} {cs':Nat} {k' wr' at' ed':Int} (hv:s'.vs=s.vs) (hl:s'.ls=s.ls) (hs:IsSl w m.c.L s'.script As' cs') (hb:Bk w' m.c.R 167 (mnC m s' As' cs' k' wr' at' ed').toArray):MnR m w' s' As' cs' k' wr' at' ed':=by
 have hlow:∀b,b=m.c.R→m.c.L≤b:=fun b e=>e▸h.rl
 have hT:∀b,b=m.c.R→m.c.T b:=fun b e=> .inl e
 refine⟨hb,?_,h.gr.keep (Same.of_fr hf h.lt hlow),hs.keep (Same.of_fr hf h.lt hlow),h.rl,h.rv,h.rb,by rw[hl];exact h.rr,by rw[hv];exact h.nv,by rw[hl];exact h.na,h.map.fr hf (fun e=>h.mb.1 (hT _ e)) (fun x hx g hg e=>h.mv x hx g hg (hT _ e)),h.mb,h.mv⟩
 rw[hv,hl]
 exact h.sto.fr hf (fun e=>h.rv (by have e:m.c.bv=m.c.R:=e;exact e.symm)) (fun b hb e=>h.rb (by have e:b=m.c.R:=e;exact e▸hb)) fun b e e'=>h.rr (by have e':b=m.c.R:=e';rw[e,e'])
theorem MnR.store {m:MW} {w w':World} {s:Rs} {As:Option Addr} {cs:Nat} {k wr at_ ed:Int} (h:MnR m w s As cs k wr at_ ed) {b:Nat} (hbT:b=m.c.bv∨b∈m.c.bs) (hf:Fr (fun x=>x=b) w w')
  {s':Rs} (hn:s'.node=s.node) (hsc:s'.script=s.script) (hlf:s'.left=s.left) (hv:s'.vs.length=s.vs.length) (hl:s'.ls.length=s.ls.length) (hs:Sto w' m.c.L s'.vs s'.ls m.c.bv m.c.Ar m.c.cr m.c.bs):MnR m w' s' As cs k wr at_ ed:=by
 have hbL:m.c.L≤b:=h.low b (.inr hbT)
 have hlow:∀x,x=b→m.c.L≤x:=fun x e=>e▸hbL
 have hT:∀x,x=b→m.c.T x:=fun x e=>e▸ .inr hbT
 have hne:¬m.c.R=b:=fun e=>hbT.elim (fun e'=>h.rv (e.trans e')) fun hm=>h.rb (e▸hm)
 refine⟨?_,hs,h.gr.keep (Same.of_fr hf h.lt hlow),?_,h.rl,h.rv,h.rb,by rw[hl];exact h.rr,by rw[hv];exact h.nv,by rw[hl];exact h.na,h.map.fr hf (fun e=>h.mb.1 (hT _ e)) (fun x hx g hg e=>h.mv x hx g hg (hT _ e)),h.mb,h.mv⟩
 ·have:=h.blk.fr hf hne
  unfold mnC rnC at this ⊢
  rw[hn,hsc,hlf,hv,hl]
  exact this
 ·rw[hsc];exact h.sc.keep (Same.of_fr hf h.lt hlow)
theorem MnR.far {m:MW} {w0 w w':World} {s0 s:Rs} {As0 As:Option Addr} {cs0 cs:Nat} {a0 b0 d0 e0 k wr at_ ed:Int} (h0:MnR m w0 s0 As0 cs0 a0 b0 d0 e0) (h:MnR m w s As cs k wr at_ ed)
  (hf:Fr (fun x=>w0.heap.size≤x) w w'):MnR m w' s As cs k wr at_ ed:=by
 have hT:=h0.below
 have hlow:∀x,w0.heap.size≤x→m.c.L≤x:=fun x hx=>Nat.le_trans h0.lt hx
 refine⟨h.blk.fr hf (Nat.not_le.2 (hT _ (.inl rfl))),h.sto.fr hf (Nat.not_le.2 (hT _ (.inr (.inl rfl)))) (fun b hb=>Nat.not_le.2 (hT _ (.inr (.inr hb)))) (fun b hb=>?_),h.gr.keep (Same.of_fr hf h.lt hlow),h.sc.keep (Same.of_fr hf h.lt hlow),h.rl,h.rv,h.rb,h.rr,h.nv,h.na,
  h.map.fr hf (Nat.not_le.2 h0.map.own.lt) (fun x hx g hg=>Nat.not_le.2 ((h0.map.rows x hx).lt g hg).2),h.mb,h.mv⟩
 have hl:s.ls.length=s0.ls.length:=h.na.trans h0.na.symm
 rw[hl]at hb
 exact Nat.not_le.2 (h0.sto.row.lt b hb).2
theorem MnR.setV {m:MW} {w:World} {s:Rs} {As:Option Addr} {cs:Nat} {k wr at_ ed:Int} (h:MnR m w s As cs k wr at_ ed) (n:Nat) {x:Int} (hx:is64 x):
  MnR m (w.setCell ⟨m.c.bv,n,none⟩ (.int .i64 x)) {s with vs:=s.vs.set n x} As cs k wr at_ ed∧Fr m.c.T w (w.setCell ⟨m.c.bv,n,none⟩ (.int .i64 x)):=by
 obtain⟨h1,h2⟩:=h.sto.setV n hx
 exact⟨h.store (.inl rfl) h2 rfl rfl rfl (by simp) rfl h1,h2.toT (.inr (.inl rfl))⟩
theorem MnR.setA {m:MW} {w:World} {s:Rs} {As:Option Addr} {cs:Nat} {k wr at_ ed:Int} (h:MnR m w s As cs k wr at_ ed) {n b:Nat} {l:List Int} (hb:m.c.bs[n]?=some b) (hl:s.ls[n]?=some l) (j:Nat) {x:Int} (hx:is64 x):
  MnR m (w.setCell ⟨b,j,none⟩ (.int .i64 x)) {s with ls:=s.ls.set n (l.set j x)} As cs k wr at_ ed∧Fr m.c.T w (w.setCell ⟨b,j,none⟩ (.int .i64 x)):=by
 obtain⟨h1,h2⟩:=h.sto.setA hb hl j hx
 exact⟨h.store (.inr (List.mem_of_getElem? hb)) h2 rfl rfl rfl rfl (by simp) h1,h2.toT (.inr (.inr (List.mem_of_getElem? hb)))⟩
theorem MnR.input {m:MW} {w:World} {s:Rs} {cs b6 o6:Nat} {k wr at_ ed:Int} (h:MnR m w s (some ⟨b6,o6,none⟩) cs k wr at_ ed) {x:Int} {q:List Int} (hq:s.script=x::q) (n:Nat) {A:Option Addr} (hA:A=some ⟨b6,o6+1,none⟩∨q= []) {l:Nat} (hm:l=q.length):
  MnR m ((w.setCell ⟨m.c.bv,n,none⟩ (.int .i64 x)).setCell ⟨m.c.R,7,none⟩ (.slice A l (cs - 1))) {s with vs:=s.vs.set n x,script:=q} A (cs - 1) k wr at_ ed∧Fr m.c.T w ((w.setCell ⟨m.c.bv,n,none⟩ (.int .i64 x)).setCell ⟨m.c.R,7,none⟩ (.slice A l (cs - 1))):=by
 have hsl:=h.sc
 rw[hq]at hsl
 have hx:is64 x:=znC (by obtain⟨b,o,_,hh⟩:=hsl.2.2 (by simp);exact(hh.2 0 x rfl).2)
 obtain⟨h1,h2⟩:=h.setV n hx
 have hsl1:=h1.sc
 simp only[hq]at hsl1
 have hf:Fr (fun b=>b=m.c.R) (w.setCell ⟨m.c.bv,n,none⟩ (.int .i64 x)) ((w.setCell ⟨m.c.bv,n,none⟩ (.int .i64 x)).setCell ⟨m.c.R,7,none⟩ (.slice A l (cs - 1))):=Fr.own (Fr.refl _ _) _ _
 refine⟨h1.own hf rfl rfl (zkt hsl1 hA) ?_,h2.trans (hf.toT m.c.tR)⟩
 have:=h1.blk.set_ 7 (.slice A l (cs - 1))
 rw[hm]at this ⊢
 simpa[mnC,rnC]using this
end Go.Proofs.YtobegfbdedgmpaaGreatDoor
