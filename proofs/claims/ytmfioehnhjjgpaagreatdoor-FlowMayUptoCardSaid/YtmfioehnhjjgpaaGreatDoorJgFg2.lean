/-
  flow's maker: its state in memory; a node more, an edge more.
-/
import Derived.Test.YtmfioehnhjjgpaaGreatDoorJnFg1
import Derived.Test.YtmfioehnhjjgpaaGreatDoorJnInC
set_option linter.unusedVariables false
set_option linter.unusedSimpArgs false
set_option maxHeartbeats 3200000
set_option maxRecDepth 100000
namespace Go.Proofs.YtmfioehnhjjgpaaGreatDoor
open Go.RowKit Go.Shelf

def oneE (w:World) (S:Nat→Prop) (e:Ed) (ys:List Value):Prop:=∃A c,ys= [.int .i64 e.from_,.int .i64 e.to_,.int .u8 e.kind,.int .i64 e.n,.int .u8 e.cmp,.slice A e.args.len c,.int .i64 e.at_]∧e.ok∧SlR (fun b o=>ExR w S False e.args b o) e.args.len 64 A c
theorem zce:OneK oneE:=fun w w' S S' x ys hf hs h=>by
 obtain⟨A,c,e,h1,h2⟩:=h
 exact⟨A,c,e,h1,h2.imp fun _ _ hx=>ExR.more hs (ExR.keep hf hx)⟩
def MOwn (b:Nat) (v:Value) (i:Nat):Prop:=i=b∨v.ownBlock=some i
structure Made (b:Nat) (v v':Value) (w w':World):Prop where
 fr:Fr (MOwn b v) w w'
 row:∀g,v'.ownBlock=some g→v.ownBlock=some g∨w.heap.size≤g
theorem Made.refl (b:Nat) (v:Value) (w:World):Made b v v w w:=⟨Fr.refl _ _,fun _ h=> .inl h⟩
theorem Made.trans {b:Nat} {v v1 v2:Value} {w w1 w2:World} (h:Made b v v1 w w1) (k:Made b v1 v2 w1 w2):Made b v v2 w w2:=by
 refine⟨⟨k.fr.os.trans h.fr.os,k.fr.tape.trans h.fr.tape,k.fr.output.trans h.fr.output,leq9 h.fr.size k.fr.size,fun i hi hn=>?_⟩,fun g hg=>?_⟩
 ·refine(k.fr.block i (ltq hi h.fr.size) ?_).trans (h.fr.block i hi hn)
  rintro(e|e)
  ·exact hn (.inl e)
  ·rcases h.row i e with e2|e2
   ·exact hn (.inr e2)
   ·omega
 ·rcases k.row g hg with e|e
  ·exact h.row g e
  ·exact .inr (leq9 h.fr.size e)
theorem Made.of {b:Nat} {v:Value} {w w':World} (h:Fr NoT w w'):Made b v v w w':=⟨h.any,fun _ h=> .inl h⟩
theorem Made.bk {b:Nat} {v v':Value} {w w':World} (h:Made b v v' w w') {g:Nat} {t:TypeId} {cs:Array Value} (hk:Bk w g t cs) (hn:¬MOwn b v g):Bk w' g t cs∧¬MOwn b v' g:=by
 refine⟨hk.fr h.fr hn,?_⟩
 rintro(e|e)
 ·exact hn (.inl e)
 ·rcases h.row g e with e2|e2
  ·exact hn (.inr e2)
  ·have:=hk.lt;omega
structure MkS (B b mS mA:Nat) (vars:Int) (sl:Value) (sc ar:NoN) (s:FgS) (v:Value) (w:World):Prop where
 low:B≤b
 bk:Bk w b 63 #[.int .i64 vars,sl,.int .i64 s.nodes,.int .i64 0,.int .i64 1,v,.map (some mS),.map (some mA)]
 maps:(∃n,NoM w mS n sc)∧∃n,NoM w mA n ar
 ne:mS≠b∧mA≠b∧v.ownBlock≠some b∧v.ownBlock≠some mS∧v.ownBlock≠some mA
 row:∃cs,w.ownsRow (b+1) 45 7 v s.edges.length cs∧RowR oneE w (NewR (b+1) v w) s.edges cs
section
variable {B b mS mA:Nat} {vars:Int} {sl:Value} {sc ar:NoN} {s:FgS} {v:Value} {w:World}
theorem MkS.mkN (h:MkS B b mS mA vars sl sc ar s v w):MkN w b sc ar:=by
 obtain⟨⟨n,h1⟩,m,h2⟩:=h.maps
 exact⟨_,_,_,_,_,_,_,_,n,m,h.bk,h1,h2⟩
theorem MkS.base (h:MkS B b mS mA vars sl sc ar s v w):B≤w.heap.size:=leq9 h.low (Nat.le_of_lt h.bk.lt)
theorem zph {B:Nat} {w':World} {cs:List Value} {l:List Ed} (hr:RowR oneE w (NewR B v w) l cs) (hf:Fr NoT w w'):RowR oneE w' (NewR B v w') l cs:=
 RowR.imp zce (hf.same fun b hb=>⟨hb.2.1,id⟩) (fun b hb=>⟨hb.1,ltq hb.2.1 hf.size,hb.2.2⟩) hr
theorem zbX {B:Nat} {w':World} {n size:Nat} {t:TypeId} {cs:List Value} (h:w.ownsRow B t size v n cs) (hf:Fr NoT w w'):w'.ownsRow B t size v n cs:=by
 refine⟨h.1,h.2.imp id ?_⟩
 rintro⟨g,cap,cur,e1,e2,e3,e4⟩
 exact⟨g,cap,cur,e1,e2,(hf.block g (Bk.lt (t:=t) (cs:=cur) e3) id).trans e3,e4⟩
theorem MkS.fr0 {w':World} (h:MkS B b mS mA vars sl sc ar s v w) (hf:Fr NoT w w'):MkS B b mS mA vars sl sc ar s v w':=by
 obtain⟨cs,h1,h2⟩:=h.row
 obtain⟨⟨n,m1⟩,m,m2⟩:=h.maps
 exact⟨h.low,h.bk.fr0 hf,⟨⟨n,m1.fr hf id⟩,m,m2.fr hf id⟩,h.ne,cs,zbX h1 hf,zph h2 hf⟩
theorem MkS.new (h:MkS B b mS mA vars sl sc ar s v w) {g:Nat} (hg:w.heap.size≤g):¬MOwn b v g:=by
 rintro(e|e)
 ·have:=h.bk.lt;omega
 ·obtain⟨cs,h1,_⟩:=h.row
  have:=(h1.lt g e).2
  omega
theorem MkS.low_ (h:MkS B b mS mA vars sl sc ar s v w) {g:Nat} (hg:g < B):¬MOwn b v g:=by
 rintro(e|e)
 ·have:=h.low;omega
 ·obtain⟨cs,h1,_⟩:=h.row
  have:=(h1.lt g e).1
  have:=h.low
  omega
theorem Made.same {v':Value} {w':World} (h:Made b v v' w w') (hw:MkS B b mS mA vars sl sc ar s v w) {S:Nat→Prop} (hS:∀x,S x→x < B):SameS S w w':=
 h.fr.same fun x hx=>⟨ltq (hS x hx) hw.base,hw.low_ (hS x hx)⟩
theorem zcC {L n size i:Nat} {t:TypeId} {cs:List Value} (h:w.ownsRow L t size v n cs) (hb:b < L) (u:Value):(w.setCell ⟨b,i,none⟩ u).ownsRow L t size v n cs:=by
 refine⟨h.1,h.2.imp id ?_⟩
 rintro⟨g,cap,cur,e1,e2,e3,e4⟩
 exact⟨g,cap,cur,e1,e2,(Below.heap_setCell w ⟨b,i,none⟩ u g (by show g≠b;omega)).trans e3,e4⟩
theorem MkS.set (h:MkS B b mS mA vars sl sc ar s v w) (n:Int):MkS B b mS mA vars sl sc ar ⟨n,s.edges⟩ v (w.setCell ⟨b,2,none⟩ (.int .i64 n))∧Made b v v w (w.setCell ⟨b,2,none⟩ (.int .i64 n)):=by
 obtain⟨cs,h1,h2⟩:=h.row
 obtain⟨⟨k,m1⟩,m,m2⟩:=h.maps
 have hf:Fr (fun i=>i=b) w (w.setCell ⟨b,2,none⟩ (.int .i64 n)):=Fr.own (Fr.refl _ _) _ _
 refine⟨⟨h.low,?_,⟨⟨k,m1.fr hf h.ne.1⟩,m,m2.fr hf h.ne.2.1⟩,h.ne,cs,zcC h1 (Nat.lt_succ_self b) _,RowR.imp zce (hf.same fun x hx=>⟨hx.2.1,fun e=>by have e:x=b:=e;have:=hx.1;omega⟩) (fun x hx=>⟨hx.1,ltq hx.2.1 hf.size,hx.2.2⟩) h2⟩,⟨hf.mono fun _ _ e=> .inl e,fun _ h=> .inl h⟩⟩
 have:=h.bk.set_ 2 (.int .i64 n)
 simpa using this
theorem MkS.push {w7 w9:World} {v':Value} {cs zs:List Value} {e:Ed} (h:MkS B b mS mA vars sl sc ar s v w) (hrow:w.ownsRow (b+1) 45 7 v s.edges.length cs) (hrows:RowR oneE w (NewR (b+1) v w) s.edges cs) (hf:Fr NoT w w7)
  (hy:oneE w7 (fun x=>w.heap.size≤x∧x < w7.heap.size) e zs) (hown:w9.ownsRow (b+1) 45 7 v' (s.edges.length+1) (cs++zs)) (hg:w7.grownBy w9 v.ownBlock) (hsp:v'.ownBlock=v.ownBlock∨v'.ownBlock=some w7.heap.size):
  MkS B b mS mA vars sl sc ar ⟨s.nodes,s.edges++ [e]⟩ v' (w9.setCell ⟨b,5,none⟩ v')∧Made b v v' w (w9.setCell ⟨b,5,none⟩ v'):=by
 have hlt:=h.bk.lt
 obtain⟨hr9,hf9⟩:=RowR.step zce hrow (by omega) hrows hf hy hg hsp
 obtain⟨⟨k,m1⟩,m,m2⟩:=h.maps
 have hneb:some b≠v.ownBlock:=fun e=>h.ne.2.2.1 e.symm
 have hk9:Bk w9 b 63 #[.int .i64 vars,sl,.int .i64 s.nodes,.int .i64 0,.int .i64 1,v,.map (some mS),.map (some mA)]:=(hg.block b (ltq hlt hf.size) hneb).trans (h.bk.fr0 hf)
 have hb9:Fr (fun i=>i=b) w9 (w9.setCell ⟨b,5,none⟩ v'):=Fr.own (Fr.refl _ _) _ _
 have hlS:mS < w7.heap.size:=(m1.fr hf id).lt
 have hlA:mA < w7.heap.size:=(m2.fr hf id).lt
 have hv':∀q,q < w7.heap.size→v.ownBlock≠some q→v'.ownBlock≠some q:=fun q hq hn e=>by
  rcases hsp with e2|e2
  ·exact hn (e2▸e)
  ·rw[e2]at e
   have:=Option.some.inj e
   omega
 have hgf:Fr (fun i=>v.ownBlock=some i) w7 w9:=Fr.grown hg fun g e _=>e
 refine⟨⟨h.low,?_,⟨⟨k,(MpV.kept (m1.fr hf id) hg (fun e=>h.ne.2.2.2.1 e.symm)).fr hb9 h.ne.1⟩,m,(MpV.kept (m2.fr hf id) hg (fun e=>h.ne.2.2.2.2 e.symm)).fr hb9 h.ne.2.1⟩,⟨h.ne.1,h.ne.2.1,hv' b (ltq hlt hf.size) h.ne.2.2.1,hv' mS hlS h.ne.2.2.2.1,hv' mA hlA h.ne.2.2.2.2⟩,cs++zs,?_,?_⟩,⟨?_,fun q hq=>?_⟩⟩
 ·have:=hk9.set_ 5 v'
  simpa using this
 ·rw[List.length_append]
  exact zcC hown (Nat.lt_succ_self b) _
 ·exact RowR.imp zce (hb9.same fun x hx=>⟨hx.2.1,fun e=>by have e:x=b:=e;have:=hx.1;omega⟩) (fun x hx=>⟨hx.1,ltq hx.2.1 hb9.size,hx.2.2⟩) hr9
 ·exact((hf.any:Fr (MOwn b v) w w7).trans (hgf.mono fun _ _ e=> .inr e)).trans (hb9.mono fun _ _ e=> .inl e)
 ·rcases hsp with e|e
  ·exact .inl (e▸hq)
  ·rw[e]at hq
   have:=Option.some.inj hq
   have:=hf.size
   exact .inr (by omega)
theorem znl (h:MkS B b mS mA vars sl sc ar s v w) (h0:0≤s.nodes) (h1:s.nodes≤4611686018427387904):Calls Tryz.prog 51 #[.pointer (some ⟨b,0,none⟩)] w fun e w'=>e= .returned (.int .i64 s.nodes)∧MkS B b mS mA vars sl sc ar s.node v w'∧Made b v v w w':=by
 have c2:=h.bk.cell 2
 have f2:=h.bk.frozen 2
 have hl:=h.bk.lt
 simp only[getsL]at c2
 have HS:=hdq (h.set (s.nodes+1))
 obtain⟨n,hn⟩:=nmq s.nodes
 unfold FgS.node
 rw[←hn]at c2 h0 h1 HS ⊢
 clear h hn
 go_enter Tryz.func51,Tryz.ntmps51
 go_wp2_with fail
 go_ret
 exact⟨by simp,HS.out.1,HS.out.2⟩
end
end Go.Proofs.YtmfioehnhjjgpaaGreatDoor

namespace Go.Proofs.YtmfioehnhjjgpaaGreatDoor
open Go.RowKit Go.Shelf

theorem zqu:(Tryz.prog.info? 45).map (fun i=>(i.zero,i.size,i.bytes))=some (some (.agg #[.int .i64 0,.int .i64 0,.int .u8 0,.int .i64 0,.int .u8 0,.slice none 0 0,.int .i64 0]),7,72):=by kernel_rfl
def PutS (b g:Nat) (v:Value) (kind n cmp:Int) (sl:Value) (W':World):Prop:=b < W'.heap.size∧g < W'.heap.size∧W'.cell? ⟨b,5,none⟩=some v∧W'.cell? ⟨g,0,none⟩=some (.int .u8 kind)∧W'.cell? ⟨g,1,none⟩=some (.int .i64 n)∧W'.cell? ⟨g,2,none⟩=some (.int .u8 cmp)∧W'.cell? ⟨g,3,none⟩=some sl
theorem znm {B b mS mA:Nat} {vars:Int} {sl:Value} {sc ar:NoN} {s:FgS} {v:Value} {w:World} (h:MkS B b mS mA vars sl sc ar s v w) (r1:NoR sc) (r2:NoR ar) (from_ to_ at_ kind n cmp:Int) (hok:in64 from_∧in64 to_∧in8 kind∧in64 n∧in8 cmp∧in64 at_) (dsl:Value) (hd:dsl= .slice none 0 0) (xs:Exs) (S:Nat→Prop) (Z:Prop) (A:Option Addr) (c:Nat) (hS:∀x,S x→x < B) (hz:szQ xs) (hx:SlR (fun b o=>ExR w S Z xs b o) xs.len 64 A c) (hlen:(s.edges.length+1)*72≤140737488355328):
  Calls Tryz.prog 50 #[.pointer (some ⟨b,0,none⟩),.int .i64 from_,.int .i64 to_,.int .i64 at_,.agg #[.int .u8 kind,.int .i64 n,.int .u8 cmp,dsl],.slice A xs.len c] w
   fun e w'=>∃v',e= .returned (.tuple #[])∧MkS B b mS mA vars sl sc ar (s.put sc ar from_ to_ at_ kind n cmp xs) v' w'∧Made b v v' w w':=by
 subst hd
 obtain⟨W,hW⟩:=nmq (w.alloc (.cells #[.int .u8 kind,.int .i64 n,.int .u8 cmp,.slice none 0 0] 43))
 have hf:Fr NoT w W:=by rw[hW];exact(Fr.refl _ _).alloc _
 have hk:Bk W w.heap.size 43 #[.int .u8 kind,.int .i64 n,.int .u8 cmp,.slice none 0 0]:=by rw[hW];exact Bk.new w _ _
 have hc:=zg2 sc ar r1 r2 xs hz W S Z A c b (h.fr0 hf).mkN (fun x hx=>ltq (ltq (hS x hx) h.base) hf.size) hz (hx.imp fun _ _ hx=>ExR.keep (hf.same fun x hx=>⟨ltq (hS x hx) h.base,id⟩) hx)
 obtain⟨l,hl⟩:=nmq xs.len
 rw[←hl]at hc ⊢
 obtain⟨i0,hi,hz0,hz1,hz2⟩:=info_parts zqu
 have HI:=hdq (aiq hi (aiq hz0 (aiq hz1 hz2)))
 obtain⟨cs,hrow,hrows⟩:=h.row
 have HC:=hdq hc
 have HH:=hdq h
 have HROW:=hdq (aiq hrow hrows)
 have HF:=hdq hf
 have HK:=hdq hk
 have HWE:=hdq hW
 have HOK:=hdq hok
 have HLEN:=hdq hlen
 have HX:=hdq (show(numX sc ar xs).len =l from by rw[hl,zbW])
 clear h r1 r2 hok hS hz hx hlen hW hf hk hc hl hi hz0 hz1 hz2 hrow hrows
 go_enter Tryz.func50,Tryz.ntmps50
 go_wp2_with fail
 rw[←HWE.out]
 refine HC.out.mono ?_
 rintro _ w2 ⟨A',c',rfl,hs2,hf2⟩
 rw[HX.out]
 have hk2:=HK.out.fr0 hf2
 have z3:=hk2.frozen 3
 have zl:=hk2.lt
 have c3:=hk2.cell 3
 simp only[getsL]at c3
 obtain⟨w3,hw3⟩:=nmq (w2.setCell ⟨w.heap.size,3,none⟩ (.slice A' l c'))
 have hf23:Fr (fun i=>i=w.heap.size) w2 w3:=by rw[hw3];exact Fr.own (Fr.refl _ _) _ _
 have hf3:Fr NoT w w3:=by rw[hw3];exact Fr.high (HF.out.trans hf2) (lrq _) _ _
 have hk3:Bk w3 w.heap.size 43 #[.int .u8 kind,.int .i64 n,.int .u8 cmp,.slice A' l c']:=by
  have:=hk2.set_ 3 (.slice A' l c')
  rw[hw3];simpa using this
 have h3:=HH.out.fr0 hf3
 have HS:Hid (∀W',Fr NoT w3 W'→PutS b w.heap.size v kind n cmp (.slice A' l c') W'):=
  hdq (fun W' hf=>⟨ltq h3.bk.lt hf.size,ltq hk3.lt hf.size,(h3.fr0 hf).bk.cell 5,(hk3.fr0 hf).cell 0,(hk3.fr0 hf).cell 1,(hk3.fr0 hf).cell 2,(hk3.fr0 hf).cell 3⟩)
 have HS2:=hdq (hs2.imp fun _ _ h=>ExR.more (T:=fun x=>w.heap.size≤x∧x < w3.heap.size) (fun b hb=>⟨by have h1:=hb.1;have:=HF.out.size;omega,by have h2:=hb.2;have:=hf23.size;omega⟩) (ExR.keep (hf23.same fun b hb=>⟨hb.2,fun e=>by have e:b=w.heap.size:=e;have h1:=hb.1;have:=HK.out.lt;omega⟩) h))
 have HF3:=hdq hf3
 have HW3:=hdq hw3
 have HH3:=hdq h3
 have HBL:=hdq (show b < w.heap.size from HH.out.bk.lt)
 clear hs2 hf2 hk2 hw3 hf23 hf3 hk3 h3 HC
 go_wp2_with fail
 rw[←HW3.out]
 refine zac (PutS b w.heap.size v kind n cmp (.slice A' l c')) (fun i=>decide (i < 13)) (by kernel_rfl) (HS.out _ ((Fr.refl NoT w3).drew)) (fun hHeld=>?_)
 refine zaa 0 ?_
 try simp only[putsL]
 refine zaa 1 ?_
 try simp only[putsL]
 refine zaa 2 ?_
 try simp only[putsL]
 refine zaa 3 ?_
 try simp only[putsL]
 refine zaa 4 ?_
 try simp only[putsL]
 refine zao 5 (v:=?_) rfl (by kernel_rfl) (fun _ _ _ h=>h) hHeld (by rfl) ?_ ?_;rotate_left
 ·intro wz hSz;(try dsimp only[PutS]at hSz);go_simp;try with_reducible rfl
 try simp only[putsL]
 refine zaa 6 ?_
 try simp only[putsL]
 refine zaa 7 ?_
 try simp only[putsL]
 refine zao 8 (v:=?_) rfl (by kernel_rfl) (fun _ _ _ h=>h) hHeld (by rfl) ?_ ?_;rotate_left
 ·intro wz hSz;(try dsimp only[PutS]at hSz);go_simp;try with_reducible rfl
 try simp only[putsL]
 refine zaa 9 ?_
 try simp only[putsL]
 refine zaa 10 ?_
 try simp only[putsL]
 refine zab 11 rfl (by kernel_rfl) (fun KK hK=>?_)
 go_simp
 obtain⟨w8,hw8⟩:=nmq ((w3.alloc (.cells #[.int .i64 from_,.int .i64 to_,.int .u8 kind,.int .i64 n,.int .u8 cmp,.slice A' l c',.int .i64 at_] 45)).drew )
 rw[←hw8]
 have hf8:Fr NoT w3 w8:=by rw[hw8];exact((Fr.refl _ _).alloc _).drew
 have hk8:Bk w8 w3.heap.size 45 ([.int .i64 from_,.int .i64 to_,.int .u8 kind,.int .i64 n,.int .u8 cmp,.slice A' l c',.int .i64 at_]:List Value).toArray :=by rw[hw8];exact(Bk.new _ _ _).fr0 ((Fr.refl _ _).drew)
 have hs8:=HS.out w8 hf8
 have HF8:=hdq hf8
 have HK8:=hdq hk8
 have HROW8:=hdq (zbX HROW.out.1 (HF3.out.trans hf8))
 have hb8:b+1≤w8.heap.size:=by have:=HBL.out;have:=(HF3.out.trans hf8).size;omega
 clear hw8 hf8 hk8 hHeld
 try dsimp only
 refine hK _ _ (fun _ _=>hs8) ?_
 clear hK KK
 try simp only[putsL]
 refine zab 12 rfl (by kernel_rfl) (fun KK hK=>?_)
 refine step_append_lies _ (by rfl) _ _ _ (by rfl) (b+1) 45 i0 (.agg #[.int .i64 0,.int .i64 0,.int .u8 0,.int .i64 0,.int .u8 0,.slice none 0 0,.int .i64 0]) 7 72 Tryz.underlying31 HI.out.1 HI.out.2.1 HI.out.2.2.1 HI.out.2.2.2 rfl (by decide) v s.edges.length cs (by rfl) HROW8.out
  ⟨w3.heap.size,0,none⟩ 1 1 _ (by rfl) (by rfl) HK8.out.newsL (by simp[Value.oneCell']) (by omega) ?c63 HLEN.out hb8 _ rfl ?_
 case c63=>have:=HLEN.out;unfold maxLen;omega
 intro gg cap w9 hown hgrow hsp hlt9
 have hvn:(Value.slice (some ⟨gg,0,none⟩) (s.edges.length+1) cap).ownBlock =v.ownBlock∨(Value.slice (some ⟨gg,0,none⟩) (s.edges.length+1) cap).ownBlock =some w8.heap.size:=by
  rcases hsp with e|e
  ·exact .inl e.symm
  ·exact .inr (by rw[e];rfl)
 have hpush:=HH.out.push (e:=⟨from_,to_,kind,n,cmp,numX sc ar xs,at_⟩) HROW.out.1 HROW.out.2 (HF3.out.trans HF8.out) ⟨A',c',by rw[HX.out],HOK.out,by
  rw[HX.out]
  have hh:=HS2.out
  rw[HX.out]at hh
  exact hh.imp fun _ _ h=>ExR.more (fun x hx=>⟨hx.1,ltq hx.2 HF8.out.size⟩) (ExR.keep (HF8.out.same fun x hx=>⟨hx.2,id⟩) h)⟩ hown hgrow hvn
 have hne:some b≠v.ownBlock:=fun e=>HH.out.ne.2.2.1 e.symm
 have hng:some w.heap.size≠v.ownBlock:=fun e=>by
  have:=(HROW.out.1.lt _ e.symm).2
  omega
 have h8:=HH.out.fr0 (HF3.out.trans HF8.out)
 have f9:=(hgrow.frozen_far ⟨b,5,none⟩ h8.bk.lt hne).trans (h8.bk.frozen 5)
 have q9:=(hgrow.cell_far ⟨b,5,none⟩ h8.bk.lt hne).trans hs8.2.2.1
 have l9:b < w9.heap.size:=ltq h8.bk.lt hgrow.size
 have hs9:PutS b w.heap.size v kind n cmp (.slice A' l c') w9:=⟨l9,ltq hs8.2.1 hgrow.size,q9,(hgrow.cell_far ⟨w.heap.size,0,none⟩ hs8.2.1 hng).trans hs8.2.2.2.1,(hgrow.cell_far ⟨w.heap.size,1,none⟩ hs8.2.1 hng).trans hs8.2.2.2.2.1,(hgrow.cell_far ⟨w.heap.size,2,none⟩ hs8.2.1 hng).trans hs8.2.2.2.2.2.1,(hgrow.cell_far ⟨w.heap.size,3,none⟩ hs8.2.1 hng).trans hs8.2.2.2.2.2.2⟩
 have HPU:=hdq hpush
 clear hvn hown hgrow hsp h8 hpush hne hng hs8 hb8
 try dsimp only
 refine hK _ _ (fun _ _=>hs9) ?_
 clear hK KK
 try simp only[putsL]
 refine zab 13 rfl (by kernel_rfl) (fun KK hK=>?_)
 go_simp
 refine hK _ _ (fun h=>absurd h (by decide)) ?_
 clear hK KK
 try simp only[putsL]
 refine zab 14 rfl (by kernel_rfl) (fun KK hK=>?_)
 go_simp
 refine hK _ _ (fun h=>absurd h (by decide)) ?_
 clear hK KK
 try simp only[putsL]
 refine zab 15 rfl (by kernel_rfl) (fun KK hK=>?_)
 go_simp
 refine hK _ _ (fun h=>absurd h (by decide)) ?_
 clear hK KK
 try simp only[putsL]
 refine zab 16 rfl (by kernel_rfl) (fun KK hK=>?_)
 go_simp
 refine hK _ _ (fun h=>absurd h (by decide)) ?_
 clear hK KK
 try simp only[putsL]
 refine zae (by kernel_rfl) ?_
 go_wp2_with fail
 go_end0
 exact⟨_,rfl,HPU.out.1,HPU.out.2⟩

open Go.RowKit

section
variable {P:Program} {Q:Exit→Act→World→Prop} {md:Region.Mode} {S:World→Prop} {n:Nat→Bool} {ops:Array Oper}
theorem zdI {f:Nat} {L:Array Bool} {a:Act} {w:World} {l:List Nat} (hr:Region.ready md ops L=l) (hl:l≠ []) (h:∀i∈l,wpOp P ops Q i (fun a' w'=>S w'∧wpE P md ops Q S n f (L.setIfInBounds i true) a' w') a w):wpE P md ops Q S n (f+1) L a w:=by
 refine⟨fun e=>absurd (hr▸e) hl,fun i hi=>?_⟩
 rw[hr]at hi
 exact wpOp_mono (fun a' w' h'=>⟨fun _ _=>h'.1,h'.2⟩) (h i hi)
def ls2 (L:Array Bool) (i j:Nat) (b c:Bool):Array Bool:=(L.setIfInBounds i b).setIfInBounds j c
theorem znn {f:Nat} {L:Array Bool} (i j:Nat) (hij:i≠j) (I:Option Value→Option Nat→Act→World→Prop) (hS:∀v g a w,I v g a w→S w)
  (hr:Region.ready md ops (ls2 L i j false false)= [i,j]∧Region.ready md ops (ls2 L i j true false)= [j]∧Region.ready md ops (ls2 L i j false true)= [i])
  (h1:∀g a w,I none g a w→wpOp P ops Q i (fun a' w'=>∃v,I (some v) g a' w') a w) (h2:∀v a w,I v none a w→wpOp P ops Q j (fun a' w'=>∃g,I v (some g) a' w') a w)
  (hend:∀v g a w,I (some v) (some g) a w→wpE P md ops Q S n f (ls2 L i j true true) a w) {a:Act} {w:World} (hL:ls2 L i j false false=L) (h:I none none a w):wpE P md ops Q S n (f+2) L a w:=by
 have e1:∀c,(ls2 L i j false c).setIfInBounds i true=ls2 L i j true c:=fun c=>by
  unfold ls2
  rw[Array.setIfInBounds_comm _ _ (Ne.symm hij),Array.setIfInBounds_setIfInBounds]
 have e2:∀b,(ls2 L i j b false).setIfInBounds j true=ls2 L i j b true:=fun b=>by
  unfold ls2
  rw[Array.setIfInBounds_setIfInBounds]
 have hA:∀v a w,I (some v) none a w→wpE P md ops Q S n (f+1) (ls2 L i j true false) a w:=fun v a w hi=>by
  refine zdI hr.2.1 (by simp) (fun k hk=>?_)
  obtain rfl:k=j:=by simpa using hk
  refine wpOp_mono (fun a' w' h'=>?_) (h2 _ _ _ hi)
  obtain⟨g,hg⟩:=h'
  exact⟨hS _ _ _ _ hg,e2 true▸hend _ _ _ _ hg⟩
 have hB:∀g a w,I none (some g) a w→wpE P md ops Q S n (f+1) (ls2 L i j false true) a w:=fun v a w hi=>by
  refine zdI hr.2.2 (by simp) (fun k hk=>?_)
  obtain rfl:k=i:=by simpa using hk
  refine wpOp_mono (fun a' w' h'=>?_) (h1 _ _ _ hi)
  obtain⟨g,hg⟩:=h'
  exact⟨hS _ _ _ _ hg,e1 true▸hend _ _ _ _ hg⟩
 rw[←hL]
 refine zdI hr.1 (by simp) (fun k hk=>?_)
 rcases(show k=i∨k=j from by simpa using hk)with rfl|rfl
 ·refine wpOp_mono (fun a' w' h'=>?_) (h1 _ _ _ h)
  obtain⟨v,hv⟩:=h'
  exact⟨hS _ _ _ _ hv,e1 false▸hA _ _ _ hv⟩
 ·refine wpOp_mono (fun a' w' h'=>?_) (h2 _ _ _ h)
  obtain⟨v,hv⟩:=h'
  exact⟨hS _ _ _ _ hv,e2 false▸hB _ _ _ hv⟩
def ls4 (L:Array Bool) (i j k l:Nat) (b c d e:Bool):Array Bool:=(((L.setIfInBounds i b).setIfInBounds j c).setIfInBounds k d).setIfInBounds l e
def rd4 (i j k l:Nat) (b c d e:Bool):List Nat:=(if b then(if c then []else [j])else [i])++((if d then []else [k])++(if e then []else [l]))
abbrev In4:=Option Value→Option Value→Option Nat→Option Nat→Act→World→Prop
theorem zpi {i j k l q:Nat} {b c d e:Bool} (hbc:c=true→b=true) (h:q∈rd4 i j k l b c d e):(b=false∧c=false∧q=i)∨(b=true∧c=false∧q=j)∨(d=false∧q=k)∨(e=false∧q=l):=by
 unfold rd4 at h
 cases b<;>cases c<;>cases d<;>cases e<;>simp at h hbc ⊢ <;>first|exact h|omega
theorem zqv {i j k l:Nat} {b c d e:Bool} (h:(b&&c&&d&&e)=false) (hbc:c=true→b=true):rd4 i j k l b c d e≠ []:=by
 unfold rd4
 cases b<;>cases c<;>cases d<;>cases e<;>simp at h hbc ⊢
theorem m4 {b c d e:Bool} {m:Nat} (h:(if b then 0 else 1)+(if c then 0 else 1)+(if d then 0 else 1)+(if e then 0 else 1)=m+1):(b&&c&&d&&e)=false:=by
 cases b<;>cases c<;>cases d<;>cases e<;>simp at h ⊢
theorem m40 {b c d e:Bool} (h:(if b then 0 else 1)+(if c then 0 else 1)+(if d then 0 else 1)+(if e then 0 else 1)=0):b=true∧c=true∧d=true∧e=true:=by
 cases b<;>cases c<;>cases d<;>cases e<;>simp at h ⊢
theorem zno {f:Nat} {L:Array Bool} (i j k l:Nat) (hne:i≠j∧i≠k∧i≠l∧j≠k∧j≠l∧k≠l) (I:In4) (hS:∀u v g h a w,I u v g h a w→S w)
  (hr:∀b c d e:Bool,(c=true→b=true)→Region.ready md ops (ls4 L i j k l b c d e)=rd4 i j k l b c d e∨(b&&c&&d&&e)=true)
  (h1:∀g h a w,I none none g h a w→wpOp P ops Q i (fun a' w'=>∃v,I (some v) none g h a' w') a w)
  (h2:∀u g h a w,I (some u) none g h a w→wpOp P ops Q j (fun a' w'=>∃v,I (some u) (some v) g h a' w') a w)
  (h3:∀u v h a w,I u v none h a w→wpOp P ops Q k (fun a' w'=>∃g,I u v (some g) h a' w') a w)
  (h4:∀u v g a w,I u v g none a w→wpOp P ops Q l (fun a' w'=>∃h,I u v g (some h) a' w') a w)
  (ho:∀v g h a w,¬I none (some v) g h a w)
  (hend:∀u v g h a w,I (some u) (some v) (some g) (some h) a w→wpE P md ops Q S n f (ls4 L i j k l true true true true) a w):
  ∀(m:Nat) (u v:Option Value) (g h:Option Nat) (a:Act) (w:World),I u v g h a w→(if u.isSome then 0 else 1)+(if v.isSome then 0 else 1)+(if g.isSome then 0 else 1)+(if h.isSome then 0 else 1)=m→wpE P md ops Q S n (f+m) (ls4 L i j k l u.isSome v.isSome g.isSome h.isSome) a w:=by
 obtain⟨nij,nik,nil_,njk,njl,nkl⟩:=hne
 have e1:∀c d e,(ls4 L i j k l false c d e).setIfInBounds i true=ls4 L i j k l true c d e:=fun c d e=>by
  unfold ls4
  rw[Array.setIfInBounds_comm _ _ (Ne.symm nil_),Array.setIfInBounds_comm _ _ (Ne.symm nik),Array.setIfInBounds_comm _ _ (Ne.symm nij),Array.setIfInBounds_setIfInBounds]
 have e2:∀b d e,(ls4 L i j k l b false d e).setIfInBounds j true=ls4 L i j k l b true d e:=fun c d e=>by
  unfold ls4
  rw[Array.setIfInBounds_comm _ _ (Ne.symm njl),Array.setIfInBounds_comm _ _ (Ne.symm njk),Array.setIfInBounds_setIfInBounds]
 have e3:∀b c e,(ls4 L i j k l b c false e).setIfInBounds k true=ls4 L i j k l b c true e:=fun c d e=>by
  unfold ls4
  rw[Array.setIfInBounds_comm _ _ (Ne.symm nkl),Array.setIfInBounds_setIfInBounds]
 have e4:∀b c d,(ls4 L i j k l b c d false).setIfInBounds l true=ls4 L i j k l b c d true:=fun c d e=>by
  unfold ls4
  rw[Array.setIfInBounds_setIfInBounds]
 intro m
 induction m with
 |zero=>
  intro u v g h a w hi hm
  obtain⟨q1,q2,q3,q4⟩:=m40 hm
  obtain⟨u,rfl⟩:=Option.isSome_iff_exists.1 q1
  obtain⟨v,rfl⟩:=Option.isSome_iff_exists.1 q2
  obtain⟨g,rfl⟩:=Option.isSome_iff_exists.1 q3
  obtain⟨h,rfl⟩:=Option.isSome_iff_exists.1 q4
  exact hend _ _ _ _ _ _ hi
 |succ m ih=>
  intro u v g h a w hi hm
  have hord:v.isSome=true→u.isSome=true:=fun hv=>by
   cases u with
   |some _=>rfl
   |none=>
    cases v with
    |none=>simp at hv
    |some v=>exact absurd hi (ho _ _ _ _ _)
  have hrr:Region.ready md ops (ls4 L i j k l u.isSome v.isSome g.isSome h.isSome)=rd4 i j k l u.isSome v.isSome g.isSome h.isSome:=by
   rcases hr _ _ g.isSome h.isSome hord with e|e
   ·exact e
   ·rw[m4 hm]at e
    cases e
  refine zdI hrr ?_ (fun q hq=>?_)
  ·exact zqv (m4 hm) hord
  ·have hq':(u=none∧v=none∧q=i)∨(u.isSome=true∧v=none∧q=j)∨(g=none∧q=k)∨(h=none∧q=l):=by
    have:=zpi hord hq
    simpa only[Option.isSome_eq_false_iff,Option.isNone_iff_eq_none]using this
   rcases hq' with⟨rfl,rfl,rfl⟩|⟨hu,rfl,rfl⟩|⟨rfl,rfl⟩|⟨rfl,rfl⟩
   ·refine wpOp_mono (fun a' w' h'=>?_) (h1 _ _ _ _ hi)
    obtain⟨x,hx⟩:=h'
    have hz:=ih _ _ _ _ _ _ hx (by simp only[Option.isSome_some,Option.isSome_none]at hm ⊢;simp at hm ⊢;omega)
    simp only[Option.isSome_some,Option.isSome_none]at hz ⊢
    rw[e1]
    exact⟨hS _ _ _ _ _ _ hx,hz⟩
   ·obtain⟨y,rfl⟩:=Option.isSome_iff_exists.1 hu
    refine wpOp_mono (fun a' w' h'=>?_) (h2 _ _ _ _ _ hi)
    obtain⟨x,hx⟩:=h'
    have hz:=ih _ _ _ _ _ _ hx (by simp only[Option.isSome_some,Option.isSome_none]at hm ⊢;simp at hm ⊢;omega)
    simp only[Option.isSome_some,Option.isSome_none]at hz ⊢
    rw[e2]
    exact⟨hS _ _ _ _ _ _ hx,hz⟩
   ·refine wpOp_mono (fun a' w' h'=>?_) (h3 _ _ _ _ _ hi)
    obtain⟨x,hx⟩:=h'
    have hz:=ih _ _ _ _ _ _ hx (by simp only[Option.isSome_some,Option.isSome_none]at hm ⊢;simp at hm ⊢;omega)
    simp only[Option.isSome_some,Option.isSome_none]at hz ⊢
    rw[e3]
    exact⟨hS _ _ _ _ _ _ hx,hz⟩
   ·refine wpOp_mono (fun a' w' h'=>?_) (h4 _ _ _ _ _ hi)
    obtain⟨x,hx⟩:=h'
    have hz:=ih _ _ _ _ _ _ hx (by simp only[Option.isSome_some,Option.isSome_none]at hm ⊢;simp at hm ⊢;omega)
    simp only[Option.isSome_some,Option.isSome_none]at hz ⊢
    rw[e4]
    exact⟨hS _ _ _ _ _ _ hx,hz⟩
def putO (a:Act) (i:Nat):Option Value→Act
 |none=>a
 |some v=>a.put (some i) v
def ptrO (g:Option Nat):Option Value:=g.map fun g=> .pointer (some ⟨g,0,none⟩)
theorem zli {f:Nat} {L:Array Bool} (i j ti tj:Nat) (hij:i≠j) {a:Act} {w:World} (I:Option Value→Option Nat→World→Prop) (hS:∀v g w,I v g w→S w) (hL:ls2 L i j false false=L)
  (hr:Region.ready md ops (ls2 L i j false false)= [i,j]∧Region.ready md ops (ls2 L i j true false)= [j]∧Region.ready md ops (ls2 L i j false true)= [i])
  (h1:∀g w,I none g w→wpOp P ops Q i (fun a' w'=>∃v,a'=putO (putO a ti (some v)) tj (ptrO g)∧I (some v) g w') (putO a tj (ptrO g)) w) (h2:∀v w,I v none w→wpOp P ops Q j (fun a' w'=>∃g,a'=putO (putO a ti v) tj (ptrO (some g))∧I v (some g) w') (putO a ti v) w)
  (hend:∀v g w,I (some v) (some g) w→wpE P md ops Q S n f (ls2 L i j true true) (putO (putO a ti (some v)) tj (ptrO (some g))) w) (h:I none none w):wpE P md ops Q S n (f+2) L a w:=by
 refine znn i j hij (fun v g a' w=>a'=putO (putO a ti v) tj (ptrO g)∧I v g w) (fun v g a w h=>hS v g w h.2) hr (fun g a' w h=>?_) (fun v a' w h=>?_) (fun v g a' w h=>?_) hL ⟨rfl,h⟩
 ·obtain⟨rfl,h⟩:=h
  exact h1 g w h
 ·obtain⟨rfl,h⟩:=h
  exact h2 v w h
 ·obtain⟨rfl,h⟩:=h
  exact hend v g w h
theorem zlj {f:Nat} {L:Array Bool} (i j k l ti tj tk tl:Nat) (hne:i≠j∧i≠k∧i≠l∧j≠k∧j≠l∧k≠l) {a:Act} {w:World} (I:Option Value→Option Value→Option Nat→Option Nat→World→Prop) (hS:∀u v g h w,I u v g h w→S w) (hL:ls4 L i j k l false false false false=L)
  (hr:∀b c d e:Bool,(c=true→b=true)→Region.ready md ops (ls4 L i j k l b c d e)=rd4 i j k l b c d e∨(b&&c&&d&&e)=true)
  (h1:∀g h w,I none none g h w→wpOp P ops Q i (fun a' w'=>∃v,a'=putO (putO (putO (putO a ti (some v)) tj none) tk (ptrO g)) tl (ptrO h)∧I (some v) none g h w') (putO (putO (putO (putO a ti none) tj none) tk (ptrO g)) tl (ptrO h)) w)
  (h2:∀u g h w,I (some u) none g h w→wpOp P ops Q j (fun a' w'=>∃v,a'=putO (putO (putO (putO a ti (some u)) tj (some v)) tk (ptrO g)) tl (ptrO h)∧I (some u) (some v) g h w') (putO (putO (putO (putO a ti (some u)) tj none) tk (ptrO g)) tl (ptrO h)) w)
  (h3:∀u v h w,I u v none h w→wpOp P ops Q k (fun a' w'=>∃g,a'=putO (putO (putO (putO a ti u) tj v) tk (ptrO (some g))) tl (ptrO h)∧I u v (some g) h w') (putO (putO (putO (putO a ti u) tj v) tk none) tl (ptrO h)) w)
  (h4:∀u v g w,I u v g none w→wpOp P ops Q l (fun a' w'=>∃h,a'=putO (putO (putO (putO a ti u) tj v) tk (ptrO g)) tl (ptrO (some h))∧I u v g (some h) w') (putO (putO (putO (putO a ti u) tj v) tk (ptrO g)) tl none) w)
  (ho:∀v g h w,¬I none (some v) g h w)
  (hend:∀u v g h w,I (some u) (some v) (some g) (some h) w→wpE P md ops Q S n f (ls4 L i j k l true true true true) (putO (putO (putO (putO a ti (some u)) tj (some v)) tk (ptrO (some g))) tl (ptrO (some h))) w) (h:I none none none none w):wpE P md ops Q S n (f+4) L a w:=by
 have:=zno (f:=f) (L:=L) i j k l hne (fun u v g h a' w=>a'=putO (putO (putO (putO a ti u) tj v) tk (ptrO g)) tl (ptrO h)∧I u v g h w) (P:=P) (Q:=Q) (md:=md) (S:=S) (n:=n) (ops:=ops) (fun u v g h a w hh=>hS u v g h w hh.2) hr (fun g h a' w hh=>?_) (fun u g h a' w hh=>?_) (fun u v h a' w hh=>?_) (fun u v g a' w hh=>?_) (fun v g h a' w hh=>ho v g h w hh.2) (fun u v g h a' w hh=>?_) 4 none none none none a w ⟨rfl,h⟩ rfl
 ·rw[←hL];exact this
 ·obtain⟨rfl,hh⟩:=hh
  exact h1 g h w hh
 ·obtain⟨rfl,hh⟩:=hh
  exact h2 u g h w hh
 ·obtain⟨rfl,hh⟩:=hh
  exact h3 u v h w hh
 ·obtain⟨rfl,hh⟩:=hh
  exact h4 u v g w hh
 ·obtain⟨rfl,hh⟩:=hh
  exact hend u v g h w hh
def zfc (md:Region.Mode) (ops:Array Oper):Nat→Nat→Nat→Bool
 |0,j,i=>Region.waitsFor md ops j i
 |f+1,j,i=>Region.waitsFor md ops j i || (List.range ops.size).any fun k=>Region.waitsFor md ops j k&&zfc md ops f k i
theorem zhT {listed:Array Bool} (hc:ClosedL md ops listed):∀(f j i:Nat) (oj:Oper),ops[j]?=some oj→(∀e∈oj.after,Region.binds md e=true→listed.getD e.on false=true)→zfc md ops f j i=true→listed.getD i false=true:=by
 have h0:∀(j i:Nat) (oj:Oper),ops[j]?=some oj→(∀e∈oj.after,Region.binds md e=true→listed.getD e.on false=true)→Region.waitsFor md ops j i=true→listed.getD i false=true:=fun j i oj hoj hall h=>by
  obtain⟨oj',hoj',e,he,hb,hon⟩:=Region.waitsFor_spec h
  rw[hoj]at hoj'
  cases hoj'
  exact hon▸hall e he hb
 intro f
 induction f with
 |zero=>exact h0
 |succ f ih=>
  intro j i oj hoj hall h
  simp only[zfc,Bool.or_eq_true,List.any_eq_true,Bool.and_eq_true]at h
  rcases h with h|⟨k,_,hjk,hki⟩
  ·exact h0 j i oj hoj hall h
  ·have hk:=h0 j k oj hoj hall hjk
   cases hok:ops[k]? with
   |none=>
    exfalso
    cases f with
    |zero=>simp[zfc,Region.waitsFor,hok]at hki
    |succ f=>
     have:∀x,Region.waitsFor md ops k x=false:=fun x=>by simp[Region.waitsFor,hok]
     simp[zfc,this]at hki
   |some ok=>exact ih k i ok hok (fun e he hb=>hc k ok hok hk e he hb) hki
def zpj (md:Region.Mode) (ops:Array Oper) (n:Nat→Bool) (i:Nat):Bool:=(List.range ops.size).all fun j=>n j || j==i || zfc md ops 5 j i
theorem zjB {i j:Nat} {listed:Array Bool} (h:zpj md ops n i=true) (hc:ClosedL md ops listed) (hi:listed.getD i true=false) (hj:j∈Region.ready md ops listed) (hne:j≠i):n j=true:=by
 obtain⟨_,oj,hoj,hall⟩:=mem_ready.1 hj
 have hi':listed.getD i false≠true:=fun e=>by
  rcases Nat.lt_or_ge i listed.size with h'|h'
  ·simp[h']at hi e;rw[hi]at e;simp at e
  ·simp[Array.getElem?_eq_none h']at hi
 have h1:=List.all_eq_true.1 h j (List.mem_range.2 (Array.getElem?_eq_some_iff.1 hoj).1)
 simp only[Bool.or_eq_true,beq_iff_eq]at h1
 rcases h1 with(h1|h1)|h1
 ·exact h1
 ·exact absurd h1 hne
 ·exact absurd (zhT hc 5 j i oj hoj hall h1) hi'
theorem zjC {i:Nat} {oi:Oper} {v:Value} (hi:ops[i]?=some oi) (hs:Region.noSelect ops=true) (hQ:∀c a w,Q (.panic c) (a.put oi.dst v) w→Q (.panic c) a w) (hl:zpj md ops n i=true):
  ∀(f:Nat) (listed:Array Bool) (a:Act) (w:World),ClosedL md ops listed→(∀j oj,ops[j]?=some oj→j≠i→listed.getD j true=false→(∀e∈oj.after,Region.binds md e=true→e.on≠i)→oi.apart ops oj=true)→
   i∈Region.ready md ops listed→YieldsIf P ops S oi v a→S w→wpE P md ops Q S n f (listed.setIfInBounds i true) (a.put oi.dst v) w→wpE P md ops Q S n (f+1) listed a w:=by
 intro f
 induction f with
 |zero=>
  intro listed a w hcl hfree hr hy hS H
  refine⟨fun h=>by rw[h]at hr;simp at hr,fun j hj=>?_⟩
  by_cases hji:j=i
  ·subst hji
   exact hy.wpOp hi hS ⟨fun _ h=>h,H⟩
  ·have h1:=ready_mono hj hji
   rw[H.1]at h1
   simp at h1
 |succ f ih=>
  intro listed a w hcl hfree hr hy hS H
  refine⟨fun h=>by rw[h]at hr;simp at hr,fun j hj=>?_⟩
  by_cases hji:j=i
  ·subst hji
   exact hy.wpOp hi hS ⟨fun _ h=>h,H⟩
  ·have h1:=H.2 j (ready_mono hj hji)
   obtain⟨hun,oj,hoj,hall⟩:=mem_ready.1 hj
   have hno:∀e∈oj.after,Region.binds md e=true→e.on≠i:=fun e he hb heq=>by
    have g1:=hall e he hb
    have g0:=(mem_ready.1 hr).1
    rw[heq]at g1
    rcases Nat.lt_or_ge i listed.size with h'|h'
    ·simp[h']at g0 g1;rw[g0]at g1;simp at g1
    ·simp[Array.getElem?_eq_none h']at g1
   have hjn:=zjB hl hcl (mem_ready.1 hr).1 hj hji
   have hsel:=Region.noSelect_spec hs
   have h2:=wpOp_putIf hoj (hfree j oj hoj hji hun hno) (fun cs b=>hsel i oi cs b hi) (fun cs b=>hsel j oj cs b hoj) hQ hy h1
   refine wpOp_mono (fun a' w' h3=>⟨h3.2.1,ih (listed.setIfInBounds j true) a' w' (hcl.set hj) (fun k ok hk hki hku hkn=>?_) (ready_mono hr (Ne.symm hji)) h3.1 (h3.2.1 hjn hS) ?_⟩) h2
   ·refine hfree k ok hk hki ?_ hkn
    by_cases hjk:j=k
    ·subst hjk;exact hun
    ·rwa [getD_set_ne true hjk]at hku
   ·rw[Array.setIfInBounds_comm _ _ hji]
    exact h3.2.2
theorem zar {l:List Oper} (i:Nat) {oi:Oper} {r:List Oper} {v:Value} {f:Nat} {listed:Array Bool} {a:Act} {w:World} (hi:l.drop i=oi::r) (hs:(Region.noSelect l.toArray&&Region.free md l.toArray listed i&&(Region.ready md l.toArray listed).contains i&&zpj md l.toArray n i&&zfP md l.toArray listed)=true)
  (hQ:∀c a w,Q (.panic c) (a.put oi.dst v) w→Q (.panic c) a w) (hS:S w) (hw:Region.wanted oi (yielded l.toArray a.tmps)=true) (hy:∀w,S w→(execOp a.eval oi).run P w= .ok (.value v) w)
  (h:wpE P md l.toArray Q S n f (listed.setIfInBounds i true) (a.put oi.dst v) w):wpE P md l.toArray Q S n (f+1) listed a w:=by
 simp only[Bool.and_eq_true]at hs
 exact zjC (zaF hi) hs.1.1.1.1 hQ hs.1.2 f listed a w (zdy hs.2) (Region.free_spec (zaF hi) hs.1.1.1.2) (by simpa using hs.1.1.2) (.inl ⟨hw,hy⟩) hS h
end
end Go.Proofs.YtmfioehnhjjgpaaGreatDoor

namespace Go.Proofs.YtmfioehnhjjgpaaGreatDoor
open Go.RowKit Go.Shelf

structure FgC where
 B:Nat
 b:Nat
 mS:Nat
 mA:Nat
 vars:Int
 sl:Value
 sc:NoN
 ar:NoN
 r1:NoR sc
 r2:NoR ar
def FgC.At (C:FgC) (s:FgS) (v:Value) (w:World):Prop:=MkS C.B C.b C.mS C.mA C.vars C.sl C.sc C.ar s v w
theorem FgC.At.fr0 {C:FgC} {s:FgS} {v:Value} {w w':World} (h:C.At s v w) (hf:Fr NoT w w'):C.At s v w':=MkS.fr0 h hf
def FgC.put (C:FgC) (s:FgS) (from_ to_ at_ kind n cmp:Int) (args:Exs):FgS:=s.put C.sc C.ar from_ to_ at_ kind n cmp args
def MkP (C:FgC) (s:FgS) (u:Value) (W:World) (e:Ending) (w':World):Prop:=∃u',e= .returned (.tuple #[])∧C.At s u' w'∧Made C.b u u' W w'
def FgK (B lo hi x:Nat):Prop:=x < B∨(lo≤x∧x < hi)
def Off (K:Nat→Prop) (b:Nat) (v:Value):Prop:=∀x,K x→¬MOwn b v x
def Room (N:Nat) (s:FgS):Prop:=0≤s.nodes∧s.nodes+N≤1000000000000∧s.edges.length+N≤1000000000000
def Grow (N:Nat) (s s':FgS):Prop:=s.nodes≤s'.nodes∧s'.nodes≤s.nodes+N∧s'.edges.length≤s.edges.length+N
section
variable {N M:Nat} {s s1 s2:FgS}
theorem Grow.trans (h:Grow N s s1) (k:Grow M s1 s2):Grow (N+M) s s2:=by
 unfold Grow at*
 obtain⟨h1,h2,h3⟩:=h
 obtain⟨k1,k2,k3⟩:=k
 refine⟨?_,?_,?_⟩
 ·omega
 ·push_cast;omega
 ·omega
theorem Grow.mono (h:Grow N s s1) (hn:N≤M):Grow M s s1:=by
 unfold Grow at*
 obtain⟨h1,h2,h3⟩:=h
 refine⟨h1,?_,?_⟩<;>omega
theorem Room.less (h:Room M s) (hn:N≤M):Room N s:=by
 unfold Room at*
 obtain⟨h1,h2,h3⟩:=h
 refine⟨h1,?_,?_⟩<;>omega
theorem Room.after (h:Room (N+M) s) (g:Grow N s s1):Room M s1:=by
 unfold Room Grow at*
 obtain⟨h1,h2,h3⟩:=h
 obtain⟨g1,g2,g3⟩:=g
 push_cast at h2
 refine⟨?_,?_,?_⟩<;>omega
theorem Room.in_ (h:Room N s):in64 s.nodes:=by
 unfold Room at h
 unfold in64
 obtain⟨h1,h2,h3⟩:=h
 constructor<;>omega
theorem zcZ (C:FgC) (s:FgS) (a b c d e f:Int) (xs:Exs):Grow 1 s (C.put s a b c d e f xs):=by
 unfold Grow FgC.put FgS.put
 refine⟨?_,?_,?_⟩<;>simp
 omega
theorem zam (s:FgS):Grow 1 s s.node:=by
 unfold Grow FgS.node
 refine⟨?_,?_,?_⟩<;>simp
 omega
end
def WayP (C:FgC) (K:Nat→Prop) (val:Value) (c:Way) (N:Nat) (w:World):Prop:=
 ∃g caps,val= .func (.func g) #[] caps∧Enters Tryz.prog g∧(∀f y n s,Grow N s (c f y n s))∧
  ∀(W:World) (s:FgS) (u:Value),SameS K w W→w.heap.size≤W.heap.size→C.At s u W→Off K C.b u→Room N s→∀f y n,in64 f→in64 y→in64 n→
   Calls Tryz.prog g (#[.int .i64 f,.int .i64 y,.int .i64 n]++caps) W (MkP C (c f y n s) u W)
section
variable {C:FgC} {K L:Nat→Prop} {val:Value} {c:Way} {N M:Nat} {w w':World} {s s':FgS} {u u':Value}
theorem WayP.more (h:WayP C K val c N w) (hk:∀x,K x→L x) (hn:N≤M):WayP C L val c M w:=by
 obtain⟨g,caps,h1,h2,h3,h4⟩:=h
 exact⟨g,caps,h1,h2,fun f y n s=>(h3 f y n s).mono hn,fun W s u a1 a0 a2 a3 a4=>h4 W s u (a1.mono hk) a0 a2 (fun x hx=>a3 x (hk x hx)) (a4.less hn)⟩
theorem WayP.later (h:WayP C K val c N w) (hs:SameS K w w') (hl:w.heap.size≤w'.heap.size):WayP C K val c N w':=by
 obtain⟨g,caps,h1,h2,h3,h4⟩:=h
 exact⟨g,caps,h1,h2,h3,fun W s u a1 a0=>h4 W s u (hs.trans a1) (leq9 hl a0)⟩
theorem zfQ (hm:Made C.b u u' w w') (ho:Off K C.b u) (hk:∀x,K x→x < w.heap.size):SameS K w w'∧Off K C.b u':=by
 refine⟨hm.fr.same fun x hx=>⟨hk x hx,ho x hx⟩,fun x hx=>?_⟩
 rintro(e|e)
 ·exact ho x hx (.inl e)
 ·rcases hm.row x e with e2|e2
  ·exact ho x hx (.inr e2)
  ·have:=hk x hx;omega
theorem zix (h:C.At s u w) (from_ to_ at_ kind n cmp:Int) (hok:in64 from_∧in64 to_∧in8 kind∧in64 n∧in8 cmp∧in64 at_) (xs:Exs) (S:Nat→Prop) (Z:Prop) (A:Option Addr) (c:Nat) (hS:∀x,S x→x < C.B) (hz:szQ xs) (hx:SlR (fun b o=>ExR w S Z xs b o) xs.len 64 A c) (hr:Room 1 s):
  Calls Tryz.prog 50 #[.pointer (some ⟨C.b,0,none⟩),.int .i64 from_,.int .i64 to_,.int .i64 at_,.agg #[.int .u8 kind,.int .i64 n,.int .u8 cmp,.slice none 0 0],.slice A xs.len c] w (MkP C (C.put s from_ to_ at_ kind n cmp xs) u w):=
 znm h C.r1 C.r2 from_ to_ at_ kind n cmp hok _ rfl xs S Z A c hS hz hx (by obtain⟨_,_,h3⟩:=hr;omega)
theorem zlk (h:C.At s u w) (from_ to_ at_ kind n cmp:Int) (hok:in64 from_∧in64 to_∧in8 kind∧in64 n∧in8 cmp∧in64 at_) (hr:Room 1 s):
  Calls Tryz.prog 50 #[.pointer (some ⟨C.b,0,none⟩),.int .i64 from_,.int .i64 to_,.int .i64 at_,.agg #[.int .u8 kind,.int .i64 n,.int .u8 cmp,.slice none 0 0],.slice none 0 0] w (MkP C (C.put s from_ to_ at_ kind n cmp .nil) u w):=
 zix h from_ to_ at_ kind n cmp hok .nil (fun _=>False) False none 0 (fun _ h=>h.elim) trivial ⟨lrq _,by decide,fun h=>absurd h (Nat.lt_irrefl _)⟩ hr
theorem zhU (h:C.At s u w) (hr:Room 1 s):Calls Tryz.prog 51 #[.pointer (some ⟨C.b,0,none⟩)] w fun e w'=>e= .returned (.int .i64 s.nodes)∧C.At s.node u w'∧Made C.b u u w w':=
 znl h hr.1 (by obtain⟨h1,h2,_⟩:=hr;omega)
end
theorem zbd (k:Int) (h0:0≤k) (h1:k≤255):in8 k:=⟨h0,by omega⟩
theorem zb1 (k:Int) (h0:0≤k) (h1:k≤255):in64 k:=⟨by omega,by omega⟩
structure Boxes (C:FgC) (K:Nat→Prop) (p q:Nat) (at_:Int) (w:World):Prop where
 kp:K p
 kq:K q
 ptr:w.cell? ⟨p,0,none⟩=some (.pointer (some ⟨C.b,0,none⟩))
 atc:w.cell? ⟨q,3,none⟩=some (.int .i64 at_)
 in_:in64 at_
section
variable {C:FgC} {K:Nat→Prop} {p q:Nat} {at_:Int} {w:World}
theorem zjD {b:Nat} {W:World} {p q:Nat} {at_ f y n:Int} {R:Ending→World→Prop} (c0:W.cell? ⟨p,0,none⟩=some (.pointer (some ⟨b,0,none⟩))) (c3:W.cell? ⟨q,3,none⟩=some (.int .i64 at_))
  (hc:Calls Tryz.prog 50 #[.pointer (some ⟨b,0,none⟩),.int .i64 f,.int .i64 y,.int .i64 at_,.agg #[.int .u8 1,.int .i64 0,.int .u8 0,.slice none 0 0],.slice none 0 0] W R) (hR:∀e w',R e w'→e= .returned (.tuple #[])):
  Calls Tryz.prog 125 #[.int .i64 f,.int .i64 y,.int .i64 n,.pointer (some ⟨p,0,none⟩),.pointer (some ⟨q,0,none⟩)] W R:=by
 have HC:=hdq hc
 have HR:=hdq hR
 clear hc hR
 go_enter Tryz.func125,Tryz.ntmps125
 go_wp2_with fail
 refine HC.out.mono ?_
 intro e w2 h2
 obtain rfl:=HR.out _ _ h2
 have H2:=hdq h2
 clear h2
 go_wp2_with fail
 go_end0
 exact H2.out
theorem way_1 (hb:Boxes C K p q at_ w) (hent:Enters Tryz.prog 125):WayP C K (.func (.func 125) #[] #[.pointer (some ⟨p,0,none⟩),.pointer (some ⟨q,0,none⟩)]) (fun f y n s=>C.put s f y at_ 1 0 0 .nil) 1 w:=
 ⟨_,_,rfl,hent,fun f y n s=>zcZ C s _ _ _ _ _ _ _,fun W s u hs hl h ho hr f y n hf hy hn=>
  zjD (((hs ⟨p,0,none⟩ hb.kp).1).trans hb.ptr) (((hs ⟨q,3,none⟩ hb.kq).1).trans hb.atc) (zlk h f y at_ 1 0 0 ⟨hf,hy,zbd 1 (by decide) (by decide),zb1 0 (by decide) (by decide),zbd 0 (by decide) (by decide),hb.in_⟩ hr) fun e w' h=>h.choose_spec.1⟩
theorem zjE {b:Nat} {W:World} {p q:Nat} {at_ f y n:Int} {R:Ending→World→Prop} (c0:W.cell? ⟨p,0,none⟩=some (.pointer (some ⟨b,0,none⟩))) (c3:W.cell? ⟨q,3,none⟩=some (.int .i64 at_))
  (hc:Calls Tryz.prog 50 #[.pointer (some ⟨b,0,none⟩),.int .i64 f,.int .i64 n,.int .i64 at_,.agg #[.int .u8 1,.int .i64 0,.int .u8 0,.slice none 0 0],.slice none 0 0] W R) (hR:∀e w',R e w'→e= .returned (.tuple #[])):
  Calls Tryz.prog 126 #[.int .i64 f,.int .i64 y,.int .i64 n,.pointer (some ⟨p,0,none⟩),.pointer (some ⟨q,0,none⟩)] W R:=by
 have HC:=hdq hc
 have HR:=hdq hR
 clear hc hR
 go_enter Tryz.func126,Tryz.ntmps126
 go_wp2_with fail
 refine HC.out.mono ?_
 intro e w2 h2
 obtain rfl:=HR.out _ _ h2
 have H2:=hdq h2
 clear h2
 go_wp2_with fail
 go_end0
 exact H2.out
theorem way_2 (hb:Boxes C K p q at_ w) (hent:Enters Tryz.prog 126):WayP C K (.func (.func 126) #[] #[.pointer (some ⟨p,0,none⟩),.pointer (some ⟨q,0,none⟩)]) (fun f y n s=>C.put s f n at_ 1 0 0 .nil) 1 w:=
 ⟨_,_,rfl,hent,fun f y n s=>zcZ C s _ _ _ _ _ _ _,fun W s u hs hl h ho hr f y n hf hy hn=>
  zjE (((hs ⟨p,0,none⟩ hb.kp).1).trans hb.ptr) (((hs ⟨q,3,none⟩ hb.kq).1).trans hb.atc) (zlk h f n at_ 1 0 0 ⟨hf,hn,zbd 1 (by decide) (by decide),zb1 0 (by decide) (by decide),zbd 0 (by decide) (by decide),hb.in_⟩ hr) fun e w' h=>h.choose_spec.1⟩
theorem way_3 {x:Nat} {v0:Value} {c0:Way} {N:Nat} (hx:K x) (cx:w.cell? ⟨x,0,none⟩=some v0) (hv:WayP C K v0 c0 N w) (hent:Enters Tryz.prog 127):WayP C K (.func (.func 127) #[] #[.pointer (some ⟨x,0,none⟩)]) (fun f y n s=>c0 f n y s) N w:=by
 obtain⟨g,caps,rfl,hg,hgr,hcall⟩:=hv
 refine⟨_,_,rfl,hent,fun f y n s=>hgr f n y s,fun W s u hs hl h ho hr f y n hf hy hn=>?_⟩
 have c1:=((hs ⟨x,0,none⟩ hx).1).trans cx
 have HC:=hdq (hcall W s u hs hl h ho hr f n y hf hn hy)
 clear hs h ho hr hf hy hn hcall hgr hent cx
 show Calls Tryz.prog 127 #[.int .i64 f,.int .i64 y,.int .i64 n,.pointer (some ⟨x,0,none⟩)] W _
 unfold Enters at hg
 go_enter Tryz.func127,Tryz.ntmps127
 go_wp2_with fail
 refine HC.out.mono ?_
 rintro _ w2 ⟨u',rfl,h2⟩
 have H2:=hdq h2
 clear h2
 go_wp2_with fail
 go_end0
 exact⟨_,rfl,H2.out⟩
theorem zjF {b g0 g1 x z:Nat} {caps0 caps1:Array Value} {k nd:Int} {W:World} {f y n:Int} {N1 N2:World→Prop} {R:Ending→World→Prop} (hg0:Enters Tryz.prog g0) (hg1:Enters Tryz.prog g1)
  (c0:W.cell? ⟨p,0,none⟩=some (.pointer (some ⟨b,0,none⟩))) (hn:Calls Tryz.prog 51 #[.pointer (some ⟨b,0,none⟩)] W fun e w'=>e= .returned (.int .i64 nd)∧N1 w')
  (h1:∀w',N1 w'→w'.cell? ⟨q,0,none⟩=some (.int .u8 k)∧w'.cell? ⟨x,0,none⟩=some (.func (.func g0) #[] caps0)∧Calls Tryz.prog g0 (#[.int .i64 f,.int .i64 (if k=10 then nd else y),.int .i64 (if k=10 then n else nd)]++caps0) w' fun e w'=>e= .returned (.tuple #[])∧N2 w')
  (h2:∀w',N2 w'→w'.cell? ⟨z,0,none⟩=some (.func (.func g1) #[] caps1)∧Calls Tryz.prog g1 (#[.int .i64 nd,.int .i64 y,.int .i64 n]++caps1) w' R) (hR:∀e w',R e w'→e= .returned (.tuple #[])):
  Calls Tryz.prog 128 #[.int .i64 f,.int .i64 y,.int .i64 n,.pointer (some ⟨p,0,none⟩),.pointer (some ⟨q,0,none⟩),.pointer (some ⟨x,0,none⟩),.pointer (some ⟨z,0,none⟩)] W R:=by
 unfold Enters at hg0 hg1
 have HN:=hdq hn
 have H1:=hdq h1
 have H2:=hdq h2
 have HR:=hdq hR
 clear hn h1 h2 hR
 by_cases hk:k=10
 case' pos=>
  simp only[if_pos hk]at H1
  have k1:(k==10)=true:=by simpa using hk
 case' neg=>
  simp only[if_neg hk]at H1
  have k1:(k==10)=false:=by simpa using hk
 all_goals
  clear hk
  go_enter Tryz.func128,Tryz.ntmps128
  go_wp2_with fail
  refine HN.out.mono ?_
  rintro _ w2 ⟨rfl,n1⟩
  obtain⟨d1,d2,hc⟩:=H1.out _ n1
  have HC:=hdq hc
  clear hc n1
  go_wp2_with fail
  refine HC.out.mono ?_
  rintro _ w3 ⟨rfl,n2⟩
  obtain⟨d3,hc⟩:=H2.out _ n2
  have HC2:=hdq hc
  clear hc n2 d1 d2
  go_wp2_with fail
  refine HC2.out.mono ?_
  intro e w4 h4
  obtain rfl:=HR.out _ _ h4
  have H4:=hdq h4
  clear h4
  go_wp2_with fail
  go_end0
  exact H4.out
theorem way_4 {x z:Nat} {v0 v1:Value} {c0 c1:Way} {N M:Nat} {k:Int} (hb:Boxes C K p q at_ w) (hq:w.cell? ⟨q,0,none⟩=some (.int .u8 k)) (hKl:∀x,K x→x < w.heap.size) (hx:K x) (cx:w.cell? ⟨x,0,none⟩=some v0) (hv:WayP C K v0 c0 N w) (hz:K z) (cz:w.cell? ⟨z,0,none⟩=some v1) (hv1:WayP C K v1 c1 M w) (hent:Enters Tryz.prog 128):
  WayP C K (.func (.func 128) #[] #[.pointer (some ⟨p,0,none⟩),.pointer (some ⟨q,0,none⟩),.pointer (some ⟨x,0,none⟩),.pointer (some ⟨z,0,none⟩)])
   (fun f y n s=>c1 s.nodes y n (c0 f (if k=10 then s.nodes else y) (if k=10 then n else s.nodes) s.node)) (1+N+M) w:=by
 obtain⟨g0,caps0,rfl,hg0,hgr0,hcall0⟩:=hv
 obtain⟨g1,caps1,rfl,hg1,hgr1,hcall1⟩:=hv1
 refine⟨_,_,rfl,hent,fun f y n s=>((zam s).trans (hgr0 _ _ _ _)).trans (hgr1 _ _ _ _),fun W s u hs hl h ho hr f y n hf hy hn=>?_⟩
 have hKW:∀x,K x→x < W.heap.size:=fun x hx=>ltq (hKl x hx) hl
 have hr1:Room (N+M) s.node:=Room.after (N:=1) (by rw[←Nat.add_assoc];exact hr) (zam s)
 have hi:=hr.in_
 have hy':in64 (if k=10 then s.nodes else y):=by split<;>assumption
 have hn':in64 (if k=10 then n else s.nodes):=by split<;>assumption
 refine zjF (k:=k) (caps0:=caps0) (caps1:=caps1) (N1:=fun w'=>C.At s.node u w'∧Made C.b u u W w') (N2:=fun w'=>∃u',C.At (c0 f (if k=10 then s.nodes else y) (if k=10 then n else s.nodes) s.node) u' w'∧Made C.b u u' W w') hg0 hg1 (((hs ⟨p,0,none⟩ hb.kp).1).trans hb.ptr) (zhU h (hr.less (by omega))) (fun w' hw'=>?_) (fun w' hw'=>?_) fun e w' h=>h.choose_spec.1
 ·obtain⟨hat,hm⟩:=hw'
  obtain⟨s1,o1⟩:=zfQ hm ho hKW
  have hs1:=hs.trans s1
  refine⟨((hs1 ⟨q,0,none⟩ hb.kq).1).trans hq,((hs1 ⟨x,0,none⟩ hx).1).trans cx,(hcall0 w' _ u hs1 (leq9 hl hm.fr.size) hat o1 (hr1.less (by omega)) f _ _ hf hy' hn').mono ?_⟩
  rintro e w2 ⟨u',rfl,hat2,hm2⟩
  exact⟨rfl,u',hat2,hm.trans hm2⟩
 ·obtain⟨u1,hat,hm⟩:=hw'
  obtain⟨s1,o1⟩:=zfQ hm ho hKW
  have hs1:=hs.trans s1
  refine⟨((hs1 ⟨z,0,none⟩ hz).1).trans cz,(hcall1 w' _ u1 hs1 (leq9 hl hm.fr.size) hat o1 (hr1.after (hgr0 _ _ _ _)) _ y n hi hy hn).mono ?_⟩
  rintro e w2 ⟨u',rfl,hat2,hm2⟩
  exact⟨u',rfl,hat2,hm.trans hm2⟩
end
theorem zqw (k:Int) (h1:3≤k) (h2:k≤8) (w:World):(Instr.index 193 (.agg #[.int .u8 0,.int .u8 0,.int .u8 0,.int .u8 6,.int .u8 5,.int .u8 4,.int .u8 3,.int .u8 8,.int .u8 7]) (.int .u8 k)).run Tryz.prog w= .ok (.int .u8 (oppK k)) w:=by
 rcases(show k=3∨k=4∨k=5∨k=6∨k=7∨k=8 from by omega)with rfl|rfl|rfl|rfl|rfl|rfl<;>kernel_rfl
theorem znp (k:Int) (h1:3≤k) (h2:k≤8) (w:World):Calls Tryz.prog 77 #[.int .u8 k] w fun e w'=>e= .returned (.int .u8 (oppK k))∧w=w':=by
 have hix:=zqw k h1 h2
 obtain⟨ko,hko⟩:=nmq (oppK k)
 rw[←hko]at hix ⊢
 clear h1 h2 hko
 go_enter Tryz.func77,Tryz.ntmps77
 go_wp2_with fail
 go_ret
 exact⟨rfl,rfl⟩
section
variable {C:FgC} {K:Nat→Prop} {p q:Nat} {at_:Int} {w:World}
def Way5 (b p q:Nat) (k at_:Int) (sl:Value) (W:World):Prop:=W.cell? ⟨p,0,none⟩=some (.pointer (some ⟨b,0,none⟩))∧W.cell? ⟨q,0,none⟩=some (.int .u8 k)∧W.cell? ⟨q,1,none⟩=some sl∧W.cell? ⟨q,3,none⟩=some (.int .i64 at_)
theorem zjG {b p q:Nat} {k at_ f y n:Int} {W:World} {sl:Value} {N1:World→Prop} {R:Ending→World→Prop} (h1:3≤k) (h2:k≤8) (hw:Way5 b p q k at_ sl W)
  (hc:Calls Tryz.prog 50 #[.pointer (some ⟨b,0,none⟩),.int .i64 f,.int .i64 y,.int .i64 at_,.agg #[.int .u8 6,.int .i64 0,.int .u8 k,.slice none 0 0],sl] W fun e w'=>e= .returned (.tuple #[])∧N1 w')
  (hk:∀w',N1 w'→Way5 b p q k at_ sl w'∧∀w2,Fr NoT w' w2→Way5 b p q k at_ sl w2∧Calls Tryz.prog 50 #[.pointer (some ⟨b,0,none⟩),.int .i64 f,.int .i64 n,.int .i64 at_,.agg #[.int .u8 6,.int .i64 0,.int .u8 (oppK k),.slice none 0 0],sl] w2 R) (hR:∀e w',R e w'→e= .returned (.tuple #[])):
  Calls Tryz.prog 129 #[.int .i64 f,.int .i64 y,.int .i64 n,.pointer (some ⟨p,0,none⟩),.pointer (some ⟨q,0,none⟩)] W R:=by
 have HO:=hdq (znp k h1 h2)
 obtain⟨c0,q0,q1,q3⟩:=hw
 obtain⟨ko,hko⟩:=nmq (oppK k)
 rw[←hko]at HO hk
 have HC:=hdq hc
 have HK:=hdq hk
 have HR:=hdq hR
 clear hc hk hR h1 h2 hko
 go_enter Tryz.func129,Tryz.ntmps129
 go_wp2_with fail
 refine HC.out.mono ?_
 rintro _ w2 ⟨rfl,n1⟩
 obtain⟨hw2,hc2⟩:=HK.out _ n1
 have HC2:=hdq hc2
 clear hc2 n1 HK HC c0 q0 q1 q3
 go_wp2_with fail
 refine zac (Way5 b p q k at_ sl) (fun i=>decide (i < 11)) (by kernel_rfl) (HC2.out _ ((Fr.refl NoT w2).drew)).1 (fun hHeld=>?_)
 refine zaa 1 ?_
 try simp only[putsL]
 refine zaa 2 ?_
 try simp only[putsL]
 refine zaa 3 ?_
 try simp only[putsL]
 refine zaa 5 ?_
 try simp only[putsL]
 refine zaa 9 ?_
 try simp only[putsL]
 refine zao 0 (v:=?_) rfl (by kernel_rfl) (fun _ _ _ h=>h) hHeld (by rfl) ?_ ?_;rotate_left
 ·intro wz hSz;(try dsimp only[Way5]at hSz);go_simp;try with_reducible rfl
 try simp only[putsL]
 refine zao 4 (v:=?_) rfl (by kernel_rfl) (fun _ _ _ h=>h) hHeld (by rfl) ?_ ?_;rotate_left
 ·intro wz hSz;(try dsimp only[Way5]at hSz);go_simp;try with_reducible rfl
 try simp only[putsL]
 refine zao 6 (v:=?_) rfl (by kernel_rfl) (fun _ _ _ h=>h) hHeld (by rfl) ?_ ?_;rotate_left
 ·intro wz hSz;(try dsimp only[Way5]at hSz);go_simp;try with_reducible rfl
 try simp only[putsL]
 refine zao 10 (v:=?_) rfl (by kernel_rfl) (fun _ _ _ h=>h) hHeld (by rfl) ?_ ?_;rotate_left
 ·intro wz hSz;(try dsimp only[Way5]at hSz);go_simp;try with_reducible rfl
 try simp only[putsL]
 refine zab 7 rfl (by kernel_rfl) (fun KK hK=>?_)
 go_simp
 go_at_call 77
 refine(HO.out _).mono ?_
 rintro _ w3 ⟨rfl,rfl⟩
 try dsimp only
 refine hK _ _ (fun _ h=>h) ?_
 clear hK KK
 try simp only[putsL]
 refine zaa 8 ?_
 try simp only[putsL]
 refine zab 11 rfl (by kernel_rfl) (fun KK hK=>?_)
 go_simp
 go_at_call 50
 refine((HC2.out _ ((Fr.refl NoT w2).drew)).2).mono ?_
 intro e w4 h4
 obtain rfl:=HR.out _ _ h4
 have H4:=hdq h4
 clear h4
 try dsimp only
 refine hK _ _ (fun h=>absurd h (by decide)) ?_
 clear hK KK
 try simp only[putsL]
 refine zae (by kernel_rfl) ?_
 go_wp2_with fail
 go_end0
 exact H4.out
theorem zqx (k:Int) (h1:3≤k) (h2:k≤8):in8 (oppK k):=by
 rcases(show k=3∨k=4∨k=5∨k=6∨k=7∨k=8 from by omega)with rfl|rfl|rfl|rfl|rfl|rfl<;>exact zbd _ (by decide) (by decide)
theorem way_5 {k:Int} {args:Exs} {S:Nat→Prop} {Z:Prop} {A:Option Addr} {c:Nat} (hb:Boxes C K p q at_ w) (hq:w.cell? ⟨q,0,none⟩=some (.int .u8 k)) (ha:w.cell? ⟨q,1,none⟩=some (.slice A args.len c)) (h1:3≤k) (h2:k≤8) (hKl:∀x,K x→x < w.heap.size) (hS:∀x,S x→K x∧x < C.B) (hz:szQ args) (hx:SlR (fun b o=>ExR w S Z args b o) args.len 64 A c) (hent:Enters Tryz.prog 129):
  WayP C K (.func (.func 129) #[] #[.pointer (some ⟨p,0,none⟩),.pointer (some ⟨q,0,none⟩)]) (fun f y n s=>C.put (C.put s f y at_ 6 0 k args) f n at_ 6 0 (oppK k) args) 2 w:=by
 refine⟨_,_,rfl,hent,fun f y n s=>(zcZ C s _ _ _ _ _ _ _).trans (zcZ C _ _ _ _ _ _ _ _),fun W s u hs hl h ho hr f y n hf hy hn=>?_⟩
 have hKW:∀x,K x→x < W.heap.size:=fun x hx=>ltq (hKl x hx) hl
 have hk8:in8 k:=zbd k (by omega) (by omega)
 have hx1:∀W',SameS K w W'→SlR (fun b o=>ExR W' S Z args b o) args.len 64 A c:=fun W' h=>hx.imp fun _ _ hx=>ExR.keep (h.mono fun b hb=>(hS b hb).1) hx
 have hw1:∀W',SameS K w W'→Way5 C.b p q k at_ (.slice A args.len c) W':=fun W' h=>⟨((h ⟨p,0,none⟩ hb.kp).1).trans hb.ptr,((h ⟨q,0,none⟩ hb.kq).1).trans hq,((h ⟨q,1,none⟩ hb.kq).1).trans ha,((h ⟨q,3,none⟩ hb.kq).1).trans hb.atc⟩
 refine zjG (N1:=fun w'=>∃u',C.At (C.put s f y at_ 6 0 k args) u' w'∧Made C.b u u' W w') h1 h2 (hw1 _ hs) ((zix h f y at_ 6 0 k ⟨hf,hy,zbd 6 (by decide) (by decide),zb1 0 (by decide) (by decide),hk8,hb.in_⟩ args S Z A c (fun x hx=>(hS x hx).2) hz (hx1 _ hs) (hr.less (by omega))).mono ?_) (fun w' hw'=>?_) fun e w' h=>h.choose_spec.1
 ·rintro e w2 ⟨u',rfl,hat2,hm2⟩
  exact⟨rfl,u',hat2,hm2⟩
 ·obtain⟨u1,hat,hm⟩:=hw'
  obtain⟨s1,o1⟩:=zfQ hm ho hKW
  have hs1:=hs.trans s1
  refine⟨hw1 _ hs1,fun w2 hf2=>?_⟩
  have hs2:SameS K w w2:=hs1.trans (hf2.same fun x hx=>⟨ltq (hKW x hx) hm.fr.size,id⟩)
  refine⟨hw1 _ hs2,(zix (hat.fr0 hf2) f n at_ 6 0 (oppK k) ⟨hf,hn,zbd 6 (by decide) (by decide),zb1 0 (by decide) (by decide),zqx k h1 h2,hb.in_⟩ args S Z A c (fun x hx=>(hS x hx).2) hz (hx1 _ hs2) (Room.after (N:=1) hr (zcZ C s _ _ _ _ _ _ _))).mono ?_⟩
  rintro e w3 ⟨u',rfl,hat3,hm3⟩
  exact⟨u',rfl,hat3,hm.trans ((Made.of hf2).trans hm3)⟩
end
end Go.Proofs.YtmfioehnhjjgpaaGreatDoor

namespace Go.Proofs.YtmfioehnhjjgpaaGreatDoor
open Go.RowKit Go.Shelf

def szN:Cds→Nat
 | .nil =>0
 | .cons _ _ of_ _ r=>2+szN of_+szN r
def wfD (k:Int) (args:Exs) (of_:Cds):Prop:=szQ args∧1≤k∧k≤11∧(k=9→1≤of_.len)∧(k=10∨k=11→2≤of_.len)
def wfC:Cds→Prop
 | .nil =>True
 | .cons k args of_ _ r=>wfD k args of_∧wfC of_∧wfC r
def CondP (C:FgC) (c:Way) (N:Nat) (W:World) (e:Ending) (w':World):Prop:=∃val,e= .returned val∧Fr NoT W w'∧WayP C (FgK C.B W.heap.size w'.heap.size) val c N w'
def zcD (C:FgC) (k:Int) (args:Exs) (of_:Cds) (at_:Int):Prop:=
 ∀(W:World) (S:Nat→Prop) (Z:Prop) (A A2:Option Addr) (c c2:Nat),C.B≤W.heap.size→(∀x,S x→x < C.B)→in64 at_→SlR (fun b o=>ExR W S Z args b o) args.len 64 A c→SlR (fun b o=>CdR W S Z of_ b o) of_.len 64 A2 c2→
  Calls Tryz.prog 88 #[.pointer (some ⟨C.b,0,none⟩),.agg #[.int .u8 k,.slice A args.len c,.slice A2 of_.len c2,.int .i64 at_]] W (CondP C (wayC C.sc C.ar k args (zal C.sc C.ar of_) at_) (2+szN of_) W)
theorem zll (w:World) (c0 c1:Array Value) (t0 t1:TypeId):Bk ((w.alloc (.cells c0 t0)).alloc (.cells c1 t1)) w.heap.size t0 c0∧Bk ((w.alloc (.cells c0 t0)).alloc (.cells c1 t1)) (w.heap.size+1) t1 c1:=
 ⟨(Bk.new _ _ _).alloc _,Bk.new_at _ _ _ (by simp)⟩
structure Two (C:FgC) (k:Int) (A A2:Option Addr) (l c l2 c2:Nat) (at_:Int) (W w:World):Prop where
 fr:Fr NoT W w
 bp:Bk w W.heap.size 60 #[.pointer (some ⟨C.b,0,none⟩)]
 bq:Bk w (W.heap.size+1) 137 #[.int .u8 k,.slice A l c,.slice A2 l2 c2,.int .i64 at_]
section
variable {C:FgC} {k:Int} {A A2:Option Addr} {l c l2 c2:Nat} {at_:Int} {W w w':World}
theorem Two.next (h:Two C k A A2 l c l2 c2 at_ W w) (hf:Fr NoT w w'):Two C k A A2 l c l2 c2 at_ W w':=⟨h.fr.trans hf,h.bp.fr0 hf,h.bq.fr0 hf⟩
theorem Two.boxes (h:Two C k A A2 l c l2 c2 at_ W w) (hin:in64 at_):Boxes C (FgK C.B W.heap.size w.heap.size) W.heap.size (W.heap.size+1) at_ w:=
 ⟨.inr ⟨lrq _,h.bp.lt⟩,.inr ⟨Nat.le_succ _,h.bq.lt⟩,h.bp.cell 0,h.bq.cell 3,hin⟩
theorem zof (h:Two C k A A2 l c l2 c2 at_ W w) (hB:C.B≤W.heap.size):∀x,FgK C.B W.heap.size w.heap.size x→x < w.heap.size:=by
 have h1:=h.bp.lt
 rintro x (hx|hx)
 ·omega
 ·exact hx.2
theorem zcf {c c':Way} {N M:Nat} {val:Value} {K:Nat→Prop} (h:WayP C K val c N w) (e:c=c') (hn:N≤M):WayP C K val c' M w:=e▸h.more (fun _ h=>h) hn
end
def Cnd7 (p q b o:Nat) (P A2:Option Addr) (l2 c2:Nat) (v0 v1 v2 v3:Value) (W:World):Prop:=W.cell? ⟨p,0,none⟩=some (.pointer P)∧W.cell? ⟨q,2,none⟩=some (.slice A2 l2 c2)∧W.cell? ⟨b,o,none⟩=some v0∧W.cell? ⟨b,o+1,none⟩=some v1∧W.cell? ⟨b,o+2,none⟩=some v2∧W.cell? ⟨b,o+3,none⟩=some v3
theorem Cnd7.fr {p q b o l2 c2:Nat} {P A2:Option Addr} {v0 v1 v2 v3:Value} {W w':World} (h:Cnd7 p q b o P A2 l2 c2 v0 v1 v2 v3 W) (hf:Fr NoT W w') (hp:p < W.heap.size) (hq:q < W.heap.size) (hb:b < W.heap.size):Cnd7 p q b o P A2 l2 c2 v0 v1 v2 v3 w':=
 ⟨(hf.cell hp id).trans h.1,(hf.cell hq id).trans h.2.1,(hf.cell hb id).trans h.2.2.1,(hf.cell hb id).trans h.2.2.2.1,(hf.cell hb id).trans h.2.2.2.2.1,(hf.cell hb id).trans h.2.2.2.2.2⟩
theorem zg5 (C:FgC) (k:Int) (args:Exs) (of_:Cds) (at_:Int) (hz:szQ args) (h1:1≤k) (h2:k≤8):zcD C k args of_ at_:=by
 intro W S Z A A2 c c2 hB hS hin hx hx2
 obtain⟨l,hl⟩:=nmq args.len
 obtain⟨l2,hl2⟩:=nmq of_.len
 have HX:=hdq (aiq hB (aiq hS (aiq hin hx)))
 have HLL:=hdq hl
 obtain⟨b,hb⟩:=nmq C.b
 have hT:∀w',w'=(W.alloc (.cells #[.pointer (some ⟨b,0,none⟩)] 60)).alloc (.cells #[.int .u8 k,.slice A l c,.slice A2 l2 c2,.int .i64 at_] 137)→Two C k A A2 l c l2 c2 at_ W w':=fun w' e=>by
  rw[hb]at e
  have kk:=zll W #[.pointer (some ⟨C.b,0,none⟩)] #[.int .u8 k,.slice A l c,.slice A2 l2 c2,.int .i64 at_] 60 137
  rw[←e]at kk
  exact⟨by rw[e];exact((Fr.refl _ _).alloc _).alloc _,kk.1,kk.2⟩
 have HT:=hdq hT
 have HB:=hdq hb
 rw[←hl,←hl2,←hb]
 clear hT hB hS hin hx hx2 hl hl2 hb
 rcases(show k=1∨k=2∨(3≤k∧k≤8)from by omega)with rfl|rfl|⟨h3,_⟩
 ·go_enter Tryz.func88,Tryz.ntmps88
  go_wp2_with fail
  go_ret
  have hT:=HT.out _ rfl
  exact⟨_,rfl,hT.fr,zcf (way_1 (hT.boxes HX.out.2.2.1) (enters_of Tryz.func125 (by kernel_rfl) rfl)) (by funext f y n s;rfl) (by omega)⟩
 ·go_enter Tryz.func88,Tryz.ntmps88
  go_wp2_with fail
  go_ret
  have hT:=HT.out _ rfl
  exact⟨_,rfl,hT.fr,zcf (way_2 (hT.boxes HX.out.2.2.1) (enters_of Tryz.func126 (by kernel_rfl) rfl)) (by funext f y n s;rfl) (by omega)⟩
 ·have k1:(k==1)=false:=by simp;omega
  have k2:(k==2)=false:=by simp;omega
  have k9:(k==9)=false:=by simp;omega
  have k10:(k==10)=false:=by simp;omega
  have k11:(k==11)=false:=by simp;omega
  have HK:=hdq (aiq h3 h2)
  clear h1 h2 h3
  go_enter Tryz.func88,Tryz.ntmps88
  go_wp2_with fail
  go_ret
  have hT:=HT.out _ rfl
  obtain⟨h3,h2⟩:=HK.out
  obtain⟨hB,hS,hin,hx⟩:=HX.out
  have hax:=(hT.bq.cell 1).trans (show _=some (.slice A args.len c)from by simp[HLL.out])
  exact⟨_,rfl,hT.fr,zcf (way_5 (S:=S) (Z:=Z) (hT.boxes hin) (hT.bq.cell 0) hax h3 h2 (zof hT hB) (fun x hx=>⟨.inl (hS x hx),hS x hx⟩) hz (hx.imp fun _ _ hx=>ExR.keep (hT.fr.same fun b hb=>⟨ltq (hS b hb) hB,id⟩) hx) (enters_of Tryz.func129 (by kernel_rfl) rfl)) (by
   funext f y n s
   simp only[wayC,FgC.put]
   rw[if_neg (by omega),if_neg (by omega),if_neg (by omega),if_neg (by omega),if_neg (by omega)]) (by omega)⟩
def WayA (C:FgC) (w2:World) (g1 g2:Option Nat) (c:Way) (N:Nat) (v:Value) (w:World):Prop:=
 ∃lo hi,w2.heap.size≤lo∧lo≤hi∧hi≤w.heap.size∧(∀g,g1=some g→g < lo∨hi≤g)∧(∀g,g2=some g→g < lo∨hi≤g)∧WayP C (FgK C.B lo hi) v c N w
theorem zfR {C:FgC} {lo hi:Nat} {w w':World} (hf:Fr NoT w w') (hB:C.B≤w.heap.size) (hi_:hi≤w.heap.size):SameS (FgK C.B lo hi) w w':=
 hf.same fun x hx=>⟨by rcases hx with h|h<;>omega,id⟩
theorem WayA.next {C:FgC} {w2 w w':World} {g1 g2:Option Nat} {c:Way} {N:Nat} {v:Value} (h:WayA C w2 g1 g2 c N v w) (hf:Fr NoT w w') (hB:C.B≤w.heap.size):WayA C w2 g1 g2 c N v w':=by
 obtain⟨lo,hi,h1,h2,h3,h4,h5,h6⟩:=h
 exact⟨lo,hi,h1,h2,leq9 h3 hf.size,h4,h5,h6.later (zfR hf hB h3) hf.size⟩
structure CI (C:FgC) (w2:World) (c0 c1:Way) (N0 N1:Nat) (o1 o2:Option Value) (g1 g2:Option Nat) (w:World):Prop where
 fr:Fr NoT w2 w
 v1:∀v,o1=some v→WayA C w2 g1 g2 c0 N0 v w
 v2:∀v,o2=some v→WayA C w2 g1 g2 c1 N1 v w
 b1:∀g,g1=some g→w2.heap.size≤g∧Bk w g 172 #[.nilFunc]
 b2:∀g,g2=some g→w2.heap.size≤g∧Bk w g 172 #[.nilFunc]
 ne:∀g h,g1=some g→g2=some h→g≠h
 ord:∀v,o2=some v→o1≠none
section
variable {C:FgC} {w2 w w':World} {c0 c1:Way} {N0 N1:Nat} {o1 o2:Option Value} {g1 g2:Option Nat} {v:Value}
theorem CI.zero (w2:World):CI C w2 c0 c1 N0 N1 none none none none w2:=⟨Fr.refl _ _,fun _ h=>(by cases h),fun _ h=>(by cases h),fun _ h=>(by cases h),fun _ h=>(by cases h),fun _ _ h=>(by cases h),fun _ h=>(by cases h)⟩
theorem CI.base (h:CI C w2 c0 c1 N0 N1 o1 o2 g1 g2 w) (hB:C.B≤w2.heap.size):C.B≤w.heap.size:=leq9 hB h.fr.size
theorem ziy (h:CI C w2 c0 c1 N0 N1 o1 o2 g1 g2 w) {c:Way} {N:Nat} (hc:WayP C (FgK C.B w.heap.size w'.heap.size) v c N w') (hf:Fr NoT w w'):WayA C w2 g1 g2 c N v w':=
 ⟨w.heap.size,w'.heap.size,h.fr.size,hf.size,lrq _,fun g e=> .inl (h.b1 g e).2.lt,fun g e=> .inl (h.b2 g e).2.lt,hc⟩
theorem CI.call1 (h:CI C w2 c0 c1 N0 N1 none none g1 g2 w) (hB:C.B≤w2.heap.size) (hf:Fr NoT w w') (hc:WayP C (FgK C.B w.heap.size w'.heap.size) v c0 N0 w'):CI C w2 c0 c1 N0 N1 (some v) none g1 g2 w':=
 ⟨h.fr.trans hf,fun u e=>by cases e;exact ziy h hc hf,fun _ h=>(by cases h),fun g e=>⟨(h.b1 g e).1,(h.b1 g e).2.fr0 hf⟩,fun g e=>⟨(h.b2 g e).1,(h.b2 g e).2.fr0 hf⟩,h.ne,fun _ h=>(by cases h)⟩
theorem CI.call2 {u:Value} (h:CI C w2 c0 c1 N0 N1 (some u) none g1 g2 w) (hB:C.B≤w2.heap.size) (hf:Fr NoT w w') (hc:WayP C (FgK C.B w.heap.size w'.heap.size) v c1 N1 w'):CI C w2 c0 c1 N0 N1 (some u) (some v) g1 g2 w':=
 ⟨h.fr.trans hf,fun u e=>(h.v1 u e).next hf (h.base hB),fun u e=>by cases e;exact ziy h hc hf,fun g e=>⟨(h.b1 g e).1,(h.b1 g e).2.fr0 hf⟩,fun g e=>⟨(h.b2 g e).1,(h.b2 g e).2.fr0 hf⟩,h.ne,fun _ _ h=>(by cases h)⟩
theorem zlm (h:WayA C w2 none g2 c0 N0 v w) (hB:C.B≤w.heap.size) (o:Obj):WayA C w2 (some w.heap.size) g2 c0 N0 v (w.alloc o):=by
 obtain⟨lo,hi,h1,h2,h3,h4,h5,h6⟩:=h.next (w':=w.alloc o) ((Fr.refl _ _).alloc o) hB
 obtain⟨lo',hi',k1,k2,k3,k4,k5,k6⟩:=h
 exact⟨lo',hi',k1,k2,leq9 k3 (by simp),fun g e=>by cases e;exact .inr k3,k5,k6.later (zfR ((Fr.refl _ _).alloc o) hB k3) (by simp)⟩
theorem ziz (h:WayA C w2 g1 none c0 N0 v w) (hB:C.B≤w.heap.size) (o:Obj):WayA C w2 g1 (some w.heap.size) c0 N0 v (w.alloc o):=by
 obtain⟨lo',hi',k1,k2,k3,k4,k5,k6⟩:=h
 exact⟨lo',hi',k1,k2,leq9 k3 (by simp),k4,fun g e=>by cases e;exact .inr k3,k6.later (zfR ((Fr.refl _ _).alloc o) hB k3) (by simp)⟩
theorem CI.al1 (h:CI C w2 c0 c1 N0 N1 o1 o2 none g2 w) (hB:C.B≤w2.heap.size):CI C w2 c0 c1 N0 N1 o1 o2 (some w.heap.size) g2 (w.alloc (.cells #[.nilFunc] 172)):=
 ⟨h.fr.alloc _,fun u e=>zlm (h.v1 u e) (h.base hB) _,fun u e=>zlm (h.v2 u e) (h.base hB) _,fun g e=>by cases e;exact⟨h.fr.size,Bk.new _ _ _⟩,fun g e=>⟨(h.b2 g e).1,(h.b2 g e).2.alloc _⟩,fun g q e e2=>by cases e;exact Nat.ne_of_gt (h.b2 q e2).2.lt,h.ord⟩
theorem CI.al2 (h:CI C w2 c0 c1 N0 N1 o1 o2 g1 none w) (hB:C.B≤w2.heap.size):CI C w2 c0 c1 N0 N1 o1 o2 g1 (some w.heap.size) (w.alloc (.cells #[.nilFunc] 172)):=
 ⟨h.fr.alloc _,fun u e=>ziz (h.v1 u e) (h.base hB) _,fun u e=>ziz (h.v2 u e) (h.base hB) _,fun g e=>⟨(h.b1 g e).1,(h.b1 g e).2.alloc _⟩,fun g e=>by cases e;exact⟨h.fr.size,Bk.new _ _ _⟩,fun g q e e2=>by cases e2;exact Nat.ne_of_lt (h.b1 g e).2.lt,h.ord⟩
structure Held (C:FgC) (w2:World) (c:Way) (N g:Nat) (v:Value) (w':World):Prop where
 lo:w2.heap.size≤g
 hi:g < w'.heap.size
 cell:w'.cell? ⟨g,0,none⟩=some v
 way:WayP C (FgK C.B w2.heap.size w'.heap.size) v c N w'
theorem zc0 {g:Nat} {u:Value} (h:WayA C w2 g1 g2 c0 N0 v w) (hg:g1=some g∨g2=some g) (hl:w2.heap.size≤g) (hB:C.B≤w2.heap.size):WayA C w2 g1 g2 c0 N0 v (w.setCell ⟨g,0,none⟩ u):=by
 obtain⟨lo,hi,h1,h2,h3,h4,h5,h6⟩:=h
 have hgo:g < lo∨hi≤g:=by rcases hg with e|e;exact h4 g e;exact h5 g e
 have hf:Fr (fun b=>b=g) w (w.setCell ⟨g,0,none⟩ u):=Fr.own (Fr.refl _ _) 0 u
 have hB2:C.B≤lo:=leq9 hB h1
 exact⟨lo,hi,h1,h2,leq9 h3 hf.size,h4,h5,h6.later (hf.same fun x hx=>⟨by rcases hx with h|h<;>omega,fun e=>by
  have e:x=g:=e
  rcases hx with h|h<;>omega⟩) hf.size⟩
theorem zfS (h:WayA C w2 g1 g2 c0 N0 v w):WayP C (FgK C.B w2.heap.size w.heap.size) v c0 N0 w:=by
 obtain⟨lo,hi,h1,h2,h3,h4,h5,h6⟩:=h
 exact h6.more (fun x hx=>by rcases hx with h|h;exact .inl h;exact .inr ⟨by omega,by omega⟩) (lrq _)
theorem CI.fin1 {g:Nat} (h:CI C w2 c0 c1 N0 N1 (some v) none (some g) none w) (hB:C.B≤w2.heap.size):Fr NoT w2 (w.setCell ⟨g,0,none⟩ v)∧Held C w2 c0 N0 g v (w.setCell ⟨g,0,none⟩ v):=by
 obtain⟨hg,hb⟩:=h.b1 g rfl
 have hb2:=hb.set_ 0 v
 exact⟨h.fr.high hg 0 v,hg,hb2.lt,hb2.cell 0,zfS (zc0 (h.v1 v rfl) (.inl rfl) hg hB)⟩
theorem CI.fin2 {g q:Nat} {u:Value} (h:CI C w2 c0 c1 N0 N1 (some v) (some u) (some g) (some q) w) (hB:C.B≤w2.heap.size):Fr NoT w2 ((w.setCell ⟨g,0,none⟩ v).setCell ⟨q,0,none⟩ u)∧Held C w2 c0 N0 g v ((w.setCell ⟨g,0,none⟩ v).setCell ⟨q,0,none⟩ u)∧Held C w2 c1 N1 q u ((w.setCell ⟨g,0,none⟩ v).setCell ⟨q,0,none⟩ u):=by
 obtain⟨hg,hb⟩:=h.b1 g rfl
 obtain⟨hq,kb⟩:=h.b2 q rfl
 have hne:=h.ne g q rfl rfl
 have hb2:=(hb.set_ 0 v).far (p:=⟨q,0,none⟩) hne u
 have kb2:=(kb.far (p:=⟨g,0,none⟩) (Ne.symm hne) v).set_ 0 u
 exact⟨(h.fr.high hg 0 v).high hq 0 u,⟨hg,hb2.lt,hb2.cell 0,zfS (zc0 (zc0 (h.v1 v rfl) (.inl rfl) hg hB) (.inr rfl) hq hB)⟩,⟨hq,kb2.lt,kb2.cell 0,zfS (zc0 (zc0 (h.v2 u rfl) (.inl rfl) hg hB) (.inr rfl) hq hB)⟩⟩
end
theorem Two.of {C:FgC} {k:Int} {A A2:Option Addr} {l c l2 c2:Nat} {at_:Int} {W w':World} (e:w'=(W.alloc (.cells #[.pointer (some ⟨C.b,0,none⟩)] 60)).alloc (.cells #[.int .u8 k,.slice A l c,.slice A2 l2 c2,.int .i64 at_] 137)):Two C k A A2 l c l2 c2 at_ W w':=by
 have kk:=zll W #[.pointer (some ⟨C.b,0,none⟩)] #[.int .u8 k,.slice A l c,.slice A2 l2 c2,.int .i64 at_] 60 137
 rw[←e]at kk
 exact⟨by rw[e];exact((Fr.refl _ _).alloc _).alloc _,kk.1,kk.2⟩
theorem znq (C:FgC) (args:Exs) (of_:Cds) (at_:Int) (k0:Int) (a0:Exs) (o0:Cds) (t0:Int) (r0:Cds) (ho:of_= .cons k0 a0 o0 t0 r0) (h0:zcD C k0 a0 o0 t0):zcD C 9 args of_ at_:=by
 intro W S Z A A2 c c2 hB hS hin hx hx2
 obtain⟨b2,o2,rfl,hat⟩:=hx2.2.2 (by rw[ho];simp[Cds.len])
 rw[ho]at hat
 obtain⟨⟨hbS,_,r1,r2,e0,e3⟩,⟨A3,c3,e1,s1⟩,⟨A4,c4,e2,s2⟩,_⟩:=hat
 obtain⟨l,hl⟩:=nmq args.len
 obtain⟨l2,hl2⟩:=nmq of_.len
 have hl20:0 < l2:=by rw[hl2,ho];simp[Cds.len]
 have hl2m:l2≤9223372036854775807:=by rw[hl2];exact leq9 hx2.1 hx2.2.1.1
 obtain⟨l3,hl3⟩:=nmq a0.len
 obtain⟨l4,hl4⟩:=nmq o0.len
 obtain⟨w2,hw2⟩:=nmq ((W.alloc (.cells #[.pointer (some ⟨C.b,0,none⟩)] 60)).alloc (.cells #[.int .u8 9,.slice A l c,.slice (some ⟨b2,o2,none⟩) l2 c2,.int .i64 at_] 137))
 have hT:=Two.of hw2
 have hW2:C.B≤w2.heap.size:=leq9 hB hT.fr.size
 have hbW:b2 < W.heap.size:=ltq (hS _ hbS) hB
 have hb2:b2 < w2.heap.size:=ltq hbW hT.fr.size
 have hsm:SameS S W w2.drew:=(hT.fr.drew).same fun b hb=>⟨ltq (hS b hb) hB,id⟩
 have hcall:∀w',Fr NoT w2.drew w'→_:=fun w' hf=>h0 w' S Z A3 A4 c3 c4 (leq9 hW2 hf.size) hS r2 (s1.imp fun _ _ hx=>ExR.keep (hsm.trans (hf.same fun b hb=>⟨ltq (ltq (hS b hb) hB) hT.fr.size,id⟩)) hx) (s2.imp fun _ _ hx=>CdR.keep (hsm.trans (hf.same fun b hb=>⟨ltq (ltq (hS b hb) hB) hT.fr.size,id⟩)) hx)
 have hs2:Cnd7 W.heap.size (W.heap.size+1) b2 o2 (some ⟨C.b,0,none⟩) (some ⟨b2,o2,none⟩) l2 c2 (.int .u8 k0) (.slice A3 l3 c3) (.slice A4 l4 c4) (.int .i64 t0) w2:=
  ⟨hT.bp.cell 0,hT.bq.cell 2,(hT.fr.cell hbW id).trans e0,(hT.fr.cell hbW id).trans (by rw[hl3];exact e1),(hT.fr.cell hbW id).trans (by rw[hl4];exact e2),(hT.fr.cell hbW id).trans e3⟩
 have HS2:=hdq hs2
 obtain⟨b,hb⟩:=nmq C.b
 rw[←hl3,←hl4,←hb]at hcall
 have HC:=hdq hcall
 have HT:=hdq hT
 have HB:=hdq hb
 have HH:=hdq (aiq hb2 (aiq hB (aiq hbW (show C.B≤w2.drew.heap.size from hW2))))
 rw[←hb]at hw2
 have HW:=hdq hw2
 have HO:=hdq ho
 rw[←hl,←hl2,←hb]
 clear hcall hT hb hs2 hw2 hB hS hin hx hx2 hl hl2 hl3 hl4 hbS r1 r2 e0 e1 e2 e3 s1 s2 hsm hW2 hbW hb2 ho h0
 go_enter Tryz.func88,Tryz.ntmps88
 go_wp2_with fail
 rw[←HW.out]
 have hHeld0:=HS2.out
 rw[←HB.out]at hHeld0
 refine zac (Cnd7 W.heap.size (W.heap.size+1) b2 o2 (some ⟨b,0,none⟩) (some ⟨b2,o2,none⟩) l2 c2 (.int .u8 k0) (.slice A3 l3 c3) (.slice A4 l4 c4) (.int .i64 t0)) (fun i=>decide (i < 7)) (by kernel_rfl) (by exact hHeld0) (fun hHeld=>?_)
 clear hHeld0
 refine zaa 1 ?_
 try simp only[putsL]
 refine zao 0 (v:=?_) rfl (by kernel_rfl) (fun _ _ _ h=>h) hHeld (by rfl) ?_ ?_;rotate_left
 ·intro wz hSz;(try dsimp only[Cnd7]at hSz);go_simp;try with_reducible rfl
 try simp only[putsL]
 refine zao 2 (v:=?_) rfl (by kernel_rfl) (fun _ _ _ h=>h) hHeld (by rfl) ?_ ?_;rotate_left
 ·intro wz hSz;(try dsimp only[Cnd7]at hSz);go_simp;try with_reducible rfl
 try simp only[putsL]
 refine zaa 3 ?_
 try simp only[putsL]
 refine zao 4 (v:=?_) rfl (by kernel_rfl) (fun _ _ _ h=>h) hHeld (by rfl) ?_ ?_;rotate_left
 ·intro wz hSz;(try dsimp only[Cnd7]at hSz);go_simp;try with_reducible rfl
 try simp only[putsL]
 refine zli 5 6 23 5 (by decide) (fun v g w=>CI C w2.drew (wayC C.sc C.ar k0 a0 (zal C.sc C.ar o0) t0) (fun _ _ _ s=>s) (2+szN o0) 0 v none g none w) (fun v g w' hci=>?_) (by kernel_rfl) ⟨by kernel_rfl,by kernel_rfl,by kernel_rfl⟩ (fun g w' hci=>?_) (fun v w' hci=>?_) (fun v g w' hci=>?_) (CI.zero _)
 ·have hs:=HS2.out.fr (((Fr.refl NoT w2).drew).trans hci.fr) HT.out.bp.lt HT.out.bq.lt HH.out.1
  rw[←HB.out]at hs
  exact hs
 ·cases g
  all_goals
   simp only[putO,ptrO,Option.map_none,Option.map_some]
   refine wpOp_step (zaF rfl) (fun KK hK=>?_)
   go_simp
   go_at_call 88
   refine(HC.out w' hci.fr).mono ?_
   rintro _ w5 ⟨v0,rfl,hf5,hv5⟩
   try dsimp only
   refine hK _ _ ?_
   exact⟨v0,by kernel_rfl,hci.call1 HH.out.2.2.2 hf5 hv5⟩
 ·cases v
  all_goals
   simp only[putO,ptrO,Option.map_none,Option.map_some]
   refine wpOp_step (zaF rfl) (fun KK hK=>?_)
   go_simp
   refine hK _ _ ?_
   exact⟨_,by kernel_rfl,hci.al1 HH.out.2.2.2⟩
 ·simp only[putO,ptrO,Option.map_none,Option.map_some]
  obtain⟨_,_,_,_,_,_,_,gg,cps,hvv,_⟩:=hci.v1 v rfl
  subst hvv
  obtain⟨hf7,hh⟩:=hci.fin1 HH.out.2.2.2
  have HF7:=hdq hf7
  have HHL:=hdq hh
  have hb0:=(hci.b1 g rfl).2.cell 0
  have hbf:=(hci.b1 g rfl).2.frozen 0
  have hbl:=(hci.b1 g rfl).2.lt
  simp only[getsL]at hb0
  clear hci hf7 hh HC hHeld
  refine zab 7 rfl (by kernel_rfl) (fun KK hK=>?_)
  go_simp
  refine hK _ _ (fun h=>absurd h (by decide)) ?_
  clear hK KK
  try simp only[putsL]
  refine zae (by kernel_rfl) ?_
  go_wp2_with fail
  go_ret
  have hT:=HT.out.next (((Fr.refl NoT w2).drew).trans HF7.out)
  have h2:=HHL.out
  have hlo:W.heap.size≤w2.drew.heap.size:=HT.out.fr.size
  refine⟨_,rfl,hT.fr,zcf (way_3 (.inr ⟨leq9 hlo h2.lo,h2.hi⟩) h2.cell (h2.way.more (fun x hx=>?_) (lrq _)) (enters_of Tryz.func127 (by kernel_rfl) rfl)) ?_ ?_⟩
  ·rcases hx with h|h
   ·exact .inl h
   ·exact .inr ⟨leq9 hlo h.1,h.2⟩
  ·rw[HO.out]
   funext f y n s
   rfl
  ·rw[HO.out]
   simp only[szN]
   omega
end Go.Proofs.YtmfioehnhjjgpaaGreatDoor

namespace Go.Proofs.YtmfioehnhjjgpaaGreatDoor
open Go.RowKit Go.Shelf

def Cnd11 (p q b o:Nat) (P A2:Option Addr) (l2 c2:Nat) (v0 v1 v2 v3 u0 u1 u2 u3:Value) (W:World):Prop:=Cnd7 p q b o P A2 l2 c2 v0 v1 v2 v3 W∧W.cell? ⟨b,o+4,none⟩=some u0∧W.cell? ⟨b,o+4+1,none⟩=some u1∧W.cell? ⟨b,o+4+2,none⟩=some u2∧W.cell? ⟨b,o+4+3,none⟩=some u3
theorem Cnd11.fr {p q b o l2 c2:Nat} {P A2:Option Addr} {v0 v1 v2 v3 u0 u1 u2 u3:Value} {W w':World} (h:Cnd11 p q b o P A2 l2 c2 v0 v1 v2 v3 u0 u1 u2 u3 W) (hf:Fr NoT W w') (hp:p < W.heap.size) (hq:q < W.heap.size) (hb:b < W.heap.size):Cnd11 p q b o P A2 l2 c2 v0 v1 v2 v3 u0 u1 u2 u3 w':=
 ⟨h.1.fr hf hp hq hb,(hf.cell hb id).trans h.2.1,(hf.cell hb id).trans h.2.2.1,(hf.cell hb id).trans h.2.2.2.1,(hf.cell hb id).trans h.2.2.2.2⟩
theorem znr (C:FgC) (k:Int) (hk:k=10∨k=11) (args:Exs) (of_:Cds) (at_:Int) (k0:Int) (a0:Exs) (o0:Cds) (t0:Int) (k1:Int) (a1:Exs) (o1:Cds) (t1:Int) (r1:Cds) (ho:of_= .cons k0 a0 o0 t0 (.cons k1 a1 o1 t1 r1)) (h0:zcD C k0 a0 o0 t0) (h1:zcD C k1 a1 o1 t1):zcD C k args of_ at_:=by
 intro W S Z A A2 c c2 hB hS hin hx hx2
 obtain⟨b2,o2,rfl,hat⟩:=hx2.2.2 (by rw[ho];simp[Cds.len])
 rw[ho]at hat
 obtain⟨⟨hbS,_,r1_,r2,e0,e3⟩,⟨A3,c3,e1,s1⟩,⟨A4,c4,e2,s2⟩,hat2⟩:=hat
 obtain⟨⟨_,_,r1',r2',e0',e3'⟩,⟨A5,c5,e1',s1'⟩,⟨A6,c6,e2',s2'⟩,_⟩:=hat2
 obtain⟨l,hl⟩:=nmq args.len
 obtain⟨l2,hl2⟩:=nmq of_.len
 have hl20:1 < l2:=by rw[hl2,ho];simp[Cds.len]
 have hl21:0 < l2:=by omega
 have hl22:(1:Int) < (l2:Int):=by omega
 have hl2m:l2≤9223372036854775807:=by rw[hl2];exact leq9 hx2.1 hx2.2.1.1
 obtain⟨l3,hl3⟩:=nmq a0.len
 obtain⟨l4,hl4⟩:=nmq o0.len
 obtain⟨l5,hl5⟩:=nmq a1.len
 obtain⟨l6,hl6⟩:=nmq o1.len
 obtain⟨w2,hw2⟩:=nmq ((W.alloc (.cells #[.pointer (some ⟨C.b,0,none⟩)] 60)).alloc (.cells #[.int .u8 k,.slice A l c,.slice (some ⟨b2,o2,none⟩) l2 c2,.int .i64 at_] 137))
 have hT:=Two.of hw2
 have hW2:C.B≤w2.heap.size:=leq9 hB hT.fr.size
 have hbW:b2 < W.heap.size:=ltq (hS _ hbS) hB
 have hb2:b2 < w2.heap.size:=ltq hbW hT.fr.size
 have hsm:∀w',Fr NoT w2.drew w'→SameS S W w':=fun w' hf=>((hT.fr.drew).same fun b hb=>⟨ltq (hS b hb) hB,id⟩).trans (hf.same fun b hb=>⟨ltq (ltq (hS b hb) hB) hT.fr.size,id⟩)
 have hcall:∀w',Fr NoT w2.drew w'→_:=fun w' hf=>h0 w' S Z A3 A4 c3 c4 (leq9 hW2 hf.size) hS r2 (s1.imp fun _ _ hx=>ExR.keep (hsm w' hf) hx) (s2.imp fun _ _ hx=>CdR.keep (hsm w' hf) hx)
 have hcall1:∀w',Fr NoT w2.drew w'→_:=fun w' hf=>h1 w' S Z A5 A6 c5 c6 (leq9 hW2 hf.size) hS r2' (s1'.imp fun _ _ hx=>ExR.keep (hsm w' hf) hx) (s2'.imp fun _ _ hx=>CdR.keep (hsm w' hf) hx)
 have hs2:Cnd11 W.heap.size (W.heap.size+1) b2 o2 (some ⟨C.b,0,none⟩) (some ⟨b2,o2,none⟩) l2 c2 (.int .u8 k0) (.slice A3 l3 c3) (.slice A4 l4 c4) (.int .i64 t0) (.int .u8 k1) (.slice A5 l5 c5) (.slice A6 l6 c6) (.int .i64 t1) w2:=
  ⟨⟨hT.bp.cell 0,hT.bq.cell 2,(hT.fr.cell hbW id).trans e0,(hT.fr.cell hbW id).trans (by rw[hl3];exact e1),(hT.fr.cell hbW id).trans (by rw[hl4];exact e2),(hT.fr.cell hbW id).trans e3⟩,(hT.fr.cell hbW id).trans e0',(hT.fr.cell hbW id).trans (by rw[hl5];exact e1'),(hT.fr.cell hbW id).trans (by rw[hl6];exact e2'),(hT.fr.cell hbW id).trans e3'⟩
 have HS2:=hdq hs2
 obtain⟨b,hb⟩:=nmq C.b
 rw[←hl3,←hl4,←hb]at hcall
 rw[←hl5,←hl6,←hb]at hcall1
 have HC:=hdq hcall
 have HC1:=hdq hcall1
 have HT:=hdq hT
 have HB:=hdq hb
 have HH:=hdq (aiq hb2 (aiq hB (aiq hbW (aiq (show C.B≤w2.drew.heap.size from hW2) hin))))
 rw[←hb]at hw2
 have HW:=hdq hw2
 have HO:=hdq ho
 rw[←hl,←hl2,←hb]
 have HK:=hdq hk
 have q1:(k==1)=false:=by simp;omega
 have q2:(k==2)=false:=by simp;omega
 have q9:(k==9)=false:=by simp;omega
 have qs:(k==10)=true∨(k==10)=false∧(k==11)=true:=by rcases hk with rfl|rfl<;>simp
 clear hcall hcall1 hT hb hs2 hw2 hB hS hin hx hx2 hl hl2 hl3 hl4 hl5 hl6 hbS r1_ r2 r1' r2' e0 e1 e2 e3 e0' e1' e2' e3' s1 s2 s1' s2' hsm hW2 hbW hb2 ho h0 h1 hk
 rcases qs with q10|⟨q10,q11⟩
 all_goals
  go_enter Tryz.func88,Tryz.ntmps88
  go_wp2_with fail
  rw[←HW.out]
  have hHeld0:=HS2.out
  rw[←HB.out]at hHeld0
  refine zac (Cnd11 W.heap.size (W.heap.size+1) b2 o2 (some ⟨b,0,none⟩) (some ⟨b2,o2,none⟩) l2 c2 (.int .u8 k0) (.slice A3 l3 c3) (.slice A4 l4 c4) (.int .i64 t0) (.int .u8 k1) (.slice A5 l5 c5) (.slice A6 l6 c6) (.int .i64 t1)) (fun i=>decide (i < 15)) (by kernel_rfl) (by exact hHeld0) (fun hHeld=>?_)
  clear hHeld0
  refine zaa 1 ?_
  try simp only[putsL]
  refine zao 0 (v:=?_) rfl (by kernel_rfl) (fun _ _ _ h=>h) hHeld (by rfl) ?_ ?_;rotate_left
  ·intro wz hSz;(try dsimp only[Cnd11,Cnd7]at hSz);go_simp;try with_reducible rfl
  try simp only[putsL]
  refine zao 2 (v:=?_) rfl (by kernel_rfl) (fun _ _ _ h=>h) hHeld (by rfl) ?_ ?_;rotate_left
  ·intro wz hSz;(try dsimp only[Cnd11,Cnd7]at hSz);go_simp;try with_reducible rfl
  try simp only[putsL]
  refine zaa 3 ?_
  try simp only[putsL]
  refine zao 4 (v:=?_) rfl (by kernel_rfl) (fun _ _ _ h=>h) hHeld (by rfl) ?_ ?_;rotate_left
  ·intro wz hSz;(try dsimp only[Cnd11,Cnd7]at hSz);go_simp;try with_reducible rfl
  try simp only[putsL]
  refine zaa 7 ?_
  try simp only[putsL]
  refine zao 6 (v:=?_) rfl (by kernel_rfl) (fun _ _ _ h=>h) hHeld (by rfl) ?_ ?_;rotate_left
  ·intro wz hSz;(try dsimp only[Cnd11,Cnd7]at hSz);go_simp;try with_reducible rfl
  try simp only[putsL]
  refine zao 8 (v:=?_) rfl (by kernel_rfl) (fun _ _ _ h=>h) hHeld (by rfl) ?_ ?_;rotate_left
  ·intro wz hSz;(try dsimp only[Cnd11,Cnd7]at hSz);go_simp;try with_reducible rfl
  try simp only[putsL]
  refine zaa 9 ?_
  try simp only[putsL]
  refine zao 10 (v:=?_) rfl (by kernel_rfl) (fun _ _ _ h=>h) hHeld (by rfl) ?_ ?_;rotate_left
  ·intro wz hSz;(try dsimp only[Cnd11,Cnd7]at hSz);go_simp;try with_reducible rfl
  try simp only[putsL]
  refine zlj 5 11 12 13 33 39 6 7 (by decide) (fun u v g h w=>CI C w2.drew (wayC C.sc C.ar k0 a0 (zal C.sc C.ar o0) t0) (wayC C.sc C.ar k1 a1 (zal C.sc C.ar o1) t1) (2+szN o0) (2+szN o1) u v g h w) (fun u v g h w' hci=>?_) (by kernel_rfl) (fun b c d e hbc=>?_) (fun g h w' hci=>?_) (fun u g h w' hci=>?_) (fun u v h w' hci=>?_) (fun u v g w' hci=>?_) (fun v g h w' hci=>hci.ord v rfl rfl) (fun u v g h w' hci=>?_) (CI.zero _)
  ·have hs:=HS2.out.fr (((Fr.refl NoT w2).drew).trans hci.fr) HT.out.bp.lt HT.out.bq.lt HH.out.1
   rw[←HB.out]at hs
   exact hs
  ·cases b<;>cases c<;>cases d<;>cases e<;>first|(exact absurd (hbc rfl) (by decide))|(exact .inr rfl)|exact .inl (by kernel_rfl)
  ·cases g<;>cases h
   all_goals
    simp only[putO,ptrO,Option.map_none,Option.map_some]
    refine wpOp_step (zaF rfl) (fun KK hK=>?_)
    go_simp
    go_at_call 88
    refine(HC.out w' hci.fr).mono ?_
    rintro _ w5 ⟨v0,rfl,hf5,hv5⟩
    try dsimp only
    refine hK _ _ ?_
    exact⟨v0,by kernel_rfl,hci.call1 HH.out.2.2.2.1 hf5 hv5⟩
  ·cases g<;>cases h
   all_goals
    simp only[putO,ptrO,Option.map_none,Option.map_some]
    refine wpOp_step (zaF rfl) (fun KK hK=>?_)
    go_simp
    go_at_call 88
    refine(HC1.out w' hci.fr).mono ?_
    rintro _ w5 ⟨v0,rfl,hf5,hv5⟩
    try dsimp only
    refine hK _ _ ?_
    exact⟨v0,by kernel_rfl,hci.call2 HH.out.2.2.2.1 hf5 hv5⟩
  ·cases u<;>cases v<;>cases h<;>try exact(hci.ord _ rfl rfl).elim
   all_goals
    simp only[putO,ptrO,Option.map_none,Option.map_some]
    refine wpOp_step (zaF rfl) (fun KK hK=>?_)
    go_simp
    refine hK _ _ ?_
    exact⟨_,by kernel_rfl,hci.al1 HH.out.2.2.2.1⟩
  ·cases u<;>cases v<;>cases g<;>try exact(hci.ord _ rfl rfl).elim
   all_goals
    simp only[putO,ptrO,Option.map_none,Option.map_some]
    refine wpOp_step (zaF rfl) (fun KK hK=>?_)
    go_simp
    refine hK _ _ ?_
    exact⟨_,by kernel_rfl,hci.al2 HH.out.2.2.2.1⟩
  ·simp only[putO,ptrO,Option.map_none,Option.map_some]
   obtain⟨_,_,_,_,_,_,_,gg,cps,hvv,_⟩:=hci.v1 u rfl
   subst hvv
   obtain⟨_,_,_,_,_,_,_,gg2,cps2,hvv,_⟩:=hci.v2 v rfl
   subst hvv
   have HF:=hdq (hci.fin2 HH.out.2.2.2.1)
   have hs14:=HS2.out.fr ((((Fr.refl NoT w2).drew).trans hci.fr).high (hci.b1 g rfl).1 0 (.func (.func gg) #[] cps)) HT.out.bp.lt HT.out.bq.lt HH.out.1
   rw[←HB.out]at hs14
   have HS14:=hdq hs14
   clear hs14
   have hb0:=(hci.b1 g rfl).2.cell 0
   have hbf:=(hci.b1 g rfl).2.frozen 0
   have hbl:=(hci.b1 g rfl).2.lt
   have hd0:=(hci.b2 h rfl).2.cell 0
   have hdf:=(hci.b2 h rfl).2.frozen 0
   have hdl:=(hci.b2 h rfl).2.lt
   have hne:=hci.ne g h rfl rfl
   have hne':=Ne.symm hne
   simp only[getsL]at hb0 hd0
   clear hci hHeld
   refine zab 14 rfl (by kernel_rfl) (fun KK hK=>?_)
   go_simp
   refine hK _ _ (fun _ _=>HS14.out) ?_
   clear hK KK
   try simp only[putsL]
   refine zab 15 rfl (by kernel_rfl) (fun KK hK=>?_)
   go_simp
   refine hK _ _ (fun h=>absurd h (by decide)) ?_
   clear hK KK
   try simp only[putsL]
   refine zae (by kernel_rfl) ?_
   go_wp2_with fail
   go_ret
   obtain⟨hf7,h1,h2⟩:=HF.out
   have hT:=HT.out.next (((Fr.refl NoT w2).drew).trans hf7)
   have hlo:W.heap.size≤w2.drew.heap.size:=HT.out.fr.size
   have hsub:∀hi x,FgK C.B w2.drew.heap.size hi x→FgK C.B W.heap.size hi x:=fun hi x hx=>hx.elim Or.inl fun h=>Or.inr ⟨leq9 hlo h.1,h.2⟩
   refine⟨_,rfl,hT.fr,zcf (way_4 (k:=k) (hT.boxes HH.out.2.2.2.2) (hT.bq.cell 0) (zof hT HH.out.2.1) (.inr ⟨leq9 hlo h1.lo,h1.hi⟩) h1.cell (h1.way.more (hsub _) (lrq _)) (.inr ⟨leq9 hlo h2.lo,h2.hi⟩) h2.cell (h2.way.more (hsub _) (lrq _)) (enters_of Tryz.func128 (by kernel_rfl) rfl)) ?_ ?_⟩
   ·rw[HO.out]
    funext f y n s
    rcases HK.out with rfl|rfl<;>rfl
   ·rw[HO.out]
    simp only[szN]
    omega
theorem zln (C:FgC) (k:Int) (args:Exs) (of_:Cds) (at_:Int) (hw:wfD k args of_) (h:∀i k0 a0 o0 t0 r0,Cds.drop i of_= .cons k0 a0 o0 t0 r0→zcD C k0 a0 o0 t0):zcD C k args of_ at_:=by
 obtain⟨hz,h1,h2,h9,h10⟩:=hw
 by_cases h8:k≤8
 ·exact zg5 C k args of_ at_ hz h1 h8
 ·rcases(show k=9∨k=10∨k=11 from by omega)with e|e
  ·cases of_ with
   |nil=>exact absurd (h9 e) (by simp[Cds.len])
   |cons k0 a0 o0 t0 r0=>rw[e];exact znq C args _ at_ k0 a0 o0 t0 r0 rfl (h 0 _ _ _ _ _ rfl)
  ·cases of_ with
   |nil=>exact absurd (h10 e) (by simp[Cds.len])
   |cons k0 a0 o0 t0 r0=>
    cases r0 with
    |nil=>exact absurd (h10 e) (by simp[Cds.len])
    |cons k1 a1 o1 t1 r1=>exact znr C k e args _ at_ k0 a0 o0 t0 k1 a1 o1 t1 r1 rfl (h 0 _ _ _ _ _ rfl) (h 1 _ _ _ _ _ rfl)
theorem zep (C:FgC):∀xs:Cds,wfC xs→∀i k0 a0 o0 t0 r0,Cds.drop i xs= .cons k0 a0 o0 t0 r0→zcD C k0 a0 o0 t0
 | .nil,_,i,_,_,_,_,_,h=>by cases i<;>simp[Cds.drop]at h
 | .cons k args of_ at_ r,hw,0,k0,a0,o0,t0,r0,h=>by
  simp only[Cds.drop,Cds.cons.injEq]at h
  obtain⟨rfl,rfl,rfl,rfl,_⟩:=h
  exact zln C _ _ _ _ hw.1 (zep C _ hw.2.1)
 | .cons k args of_ at_ r,hw,i+1,k0,a0,o0,t0,r0,h=>by
  simp only[Cds.drop]at h
  exact zep C r hw.2.2 i k0 a0 o0 t0 r0 h
theorem zlo (C:FgC) (k:Int) (args:Exs) (of_:Cds) (at_:Int) (r:Cds) (h:wfC (.cons k args of_ at_ r)):zcD C k args of_ at_:=zep C _ h 0 _ _ _ _ _ rfl

def szM (cond:Cds) (b e:Nat):Nat:=8+szN cond+b+e
def szT:Sts→Nat
 | .nil =>0
 | .cons _ _ _ cond body els _ r=>1+szM cond (szT body) (szT els)+szT r
theorem Grow.refl (N:Nat) (s:FgS):Grow N s s:=by
 unfold Grow
 refine⟨Int.le_refl _,?_,?_⟩<;>omega
theorem zbe (sc ar:NoN) (s:FgS) (a b c d e f:Int) (xs:Exs):Grow 1 s (s.put sc ar a b c d e f xs):=by
 unfold Grow FgS.put
 refine⟨?_,?_,?_⟩<;>simp
 omega
def szW:Cds→Nat→Nat
 | .nil,_=>0
 | .cons _ _ of_ _ _,0=>2+szN of_
 | .cons _ _ _ _ r,i+1=>szW r i
theorem ziA:∀(xs:Cds) (i:Nat),szW xs i≤szN xs
 | .nil,_=>lrq _
 | .cons _ _ of_ _ r,0=>by simp only[szW,szN];omega
 | .cons _ _ of_ _ r,i+1=>by have:=ziA r i;simp only[szW,szN];omega
theorem zpk:∀xs:Cds,szW xs 0+szW xs 1≤szN xs
 | .nil =>lrq _
 | .cons _ _ of_ _ r=>by have:=ziA r 0;simp only[szW,szN];omega
theorem zbt (sc ar:NoN):∀(xs:Cds) (i:Nat) (f y n:Int) (s:FgS),Grow (szW xs i) s (nthW (zal sc ar xs) i f y n s)
 | .nil,i,f,y,n,s=>by
  simp only[zal,nthW,List.getD_nil]
  exact Grow.refl _ _
 | .cons k args of_ at_ r,i+1,f,y,n,s=>by
  have:=zbt sc ar r i f y n s
  simp only[zal,nthW,List.getD_cons_succ]at this ⊢
  exact this
 | .cons k args of_ at_ r,0,f,y,n,s=>by
  have h:=zbt sc ar of_
  have h2:=zpk of_
  have h3:=ziA of_ 0
  simp only[zal,nthW,List.getD_cons_zero,szW]
  unfold wayC
  split
  ·exact(zbe sc ar s _ _ _ _ _ _ _).mono (by omega)
  split
  ·exact(zbe sc ar s _ _ _ _ _ _ _).mono (by omega)
  split
  ·exact(h 0 f n y s).mono (by omega)
  split
  ·exact(((zam s).trans (h 0 _ _ _ _)).trans (h 1 _ _ _ _)).mono (by omega)
  split
  ·exact(((zam s).trans (h 0 _ _ _ _)).trans (h 1 _ _ _ _)).mono (by omega)
  ·exact((zbe sc ar s _ _ _ _ _ _ _).trans (zbe sc ar _ _ _ _ _ _ _ _)).mono (by omega)
theorem zlp (sc ar:NoN) (xs:Cds) (f y n:Int) (s:FgS):Grow (szN xs) s (nthW (zal sc ar xs) 0 f y n s):=(zbt sc ar xs 0 f y n s).mono (ziA xs 0)
theorem zfT (sc ar:NoN) (k:Int) (nm:ByteArray) (args:Exs) (cond:Cds) (b e:List Mk) (nb ne:Nat) (a f t:Int) (s:FgS) (hb:∀f t a s,Grow (1+nb) s (blkF sc ar b f t a s)) (he:∀f t a s,Grow (1+ne) s (blkF sc ar e f t a s)):
  Grow (szM cond nb ne) s (stmF sc ar k nm args (zal sc ar cond) b e a f t s):=by
 have h1:=fun a b c d e f g s=>zbe sc ar s a b c d e f g
 have h2:=zlp sc ar cond
 unfold stmF szM
 split
 ·exact(h1 _ _ _ _ _ _ _ _).mono (by omega)
 split
 ·exact(h1 _ _ _ _ _ _ _ _).mono (by omega)
 split
 ·exact(h1 _ _ _ _ _ _ _ _).mono (by omega)
 split
 ·exact(h1 _ _ _ _ _ _ _ _).mono (by omega)
 split
 ·exact(((zam s).trans (h2 _ _ _ _)).trans (h1 _ _ _ _ _ _ _ _)).mono (by omega)
 split
 ·exact(((zam s).trans (h2 _ _ _ _)).trans (h1 _ _ _ _ _ _ _ _)).mono (by omega)
 split
 ·exact(((((zam s).trans (zam _)).trans (h2 _ _ _ _)).trans (hb _ _ _ _)).trans (he _ _ _ _)).mono (by omega)
 split
 ·exact(((((((zam s).trans (zam _)).trans (zam _)).trans (h1 _ _ _ _ _ _ _ _)).trans (h1 _ _ _ _ _ _ _ _)).trans (h2 _ _ _ _)).trans (hb _ _ _ _)).mono (by omega)
 ·exact Grow.refl _ _
theorem zbk (sc ar:NoN):∀(xs:Sts) (f t a:Int) (s:FgS),Grow (1+szT xs) s (blkF sc ar (mksS sc ar xs) f t a s)
 | .nil,f,t,a,s=>by
  simp only[mksS,blkF]
  exact(zbe sc ar s _ _ _ _ _ _ _).mono (by omega)
 | .cons k nm args cond body els at_ .nil,f,t,a,s=>by
  simp only[mksS,blkF]
  exact(zfT sc ar k nm args cond _ _ (szT body) (szT els) at_ f t s (zbk sc ar body) (zbk sc ar els)).mono (by simp only[szT];omega)
 | .cons k nm args cond body els at_ (.cons k' nm' args' cond' body' els' at' r),f,t,a,s=>by
  have h:=zbk sc ar (.cons k' nm' args' cond' body' els' at' r)
  simp only[mksS,blkF]at h ⊢
  exact(((zam s).trans (zfT sc ar k nm args cond _ _ (szT body) (szT els) at_ f s.nodes s.node (zbk sc ar body) (zbk sc ar els))).trans (h _ _ _ _)).mono (by simp only[szT];omega)
def Cur (C:FgC) (u:Value) (W:World) (s:FgS) (w:World):Prop:=∃u',C.At s u' w∧Made C.b u u' W w
section
variable {C:FgC} {u:Value} {s s0:FgS} {W w w':World} {N:Nat}
theorem Cur.start (h:C.At s u w):Cur C u w s w:=⟨u,h,Made.refl _ _ _⟩
theorem Cur.fr0 (h:Cur C u W s w) (hf:Fr NoT w w'):Cur C u W s w':=by
 obtain⟨u',h1,h2⟩:=h
 exact⟨u',h1.fr0 hf,h2.trans (Made.of hf)⟩
theorem Cur.bk {g:Nat} {t:TypeId} {cs:Array Value} (h:Cur C u W s w) (hk:Bk W g t cs) (hn:¬MOwn C.b u g):Bk w g t cs:=by
 obtain⟨u',h1,h2⟩:=h
 exact(h2.bk hk hn).1
theorem Cur.same (h:Cur C u W s w) (h0:C.At s0 u W) {S:Nat→Prop} (hS:∀x,S x→x < C.B):SameS S W w:=by
 obtain⟨u',h1,h2⟩:=h
 exact h2.same h0 hS
theorem Cur.base (h:Cur C u W s w):C.B≤w.heap.size:=by
 obtain⟨u',h1,h2⟩:=h
 exact MkS.base h1
def CurP (C:FgC) (u:Value) (W:World) (s:FgS) (e:Ending) (w':World):Prop:=e= .returned (.tuple #[])∧Cur C u W s w'
theorem Cur.of {s':FgS} {e:Ending} {u':Value} (h2:Made C.b u u' W w) (h:MkP C s' u' w e w'):CurP C u W s' e w':=by
 obtain⟨u2,e1,h3,h4⟩:=h
 exact⟨e1,u2,h3,h2.trans h4⟩
theorem Cur.node (h:Cur C u W s w) (hr:Room 1 s):Calls Tryz.prog 51 #[.pointer (some ⟨C.b,0,none⟩)] w fun e w'=>e= .returned (.int .i64 s.nodes)∧Cur C u W s.node w':=by
 obtain⟨u',h1,h2⟩:=h
 exact(zhU h1 hr).mono fun e w' h=>⟨h.1,u',h.2.1,h2.trans h.2.2⟩
theorem Cur.put (h:Cur C u W s w) (from_ to_ at_ kind n cmp:Int) (hok:in64 from_∧in64 to_∧in8 kind∧in64 n∧in8 cmp∧in64 at_) (xs:Exs) (S:Nat→Prop) (Z:Prop) (A:Option Addr) (c:Nat) (hS:∀x,S x→x < C.B) (hz:szQ xs) (hx:SlR (fun b o=>ExR w S Z xs b o) xs.len 64 A c) (hr:Room 1 s):
  Calls Tryz.prog 50 #[.pointer (some ⟨C.b,0,none⟩),.int .i64 from_,.int .i64 to_,.int .i64 at_,.agg #[.int .u8 kind,.int .i64 n,.int .u8 cmp,.slice none 0 0],.slice A xs.len c] w (CurP C u W (s.put C.sc C.ar from_ to_ at_ kind n cmp xs)):=by
 obtain⟨u',h1,h2⟩:=h
 exact(zix h1 from_ to_ at_ kind n cmp hok xs S Z A c hS hz hx hr).mono fun e w' h=>Cur.of h2 h
theorem Cur.put0 (h:Cur C u W s w) (from_ to_ at_ kind n cmp:Int) (hok:in64 from_∧in64 to_∧in8 kind∧in64 n∧in8 cmp∧in64 at_) (hr:Room 1 s):
  Calls Tryz.prog 50 #[.pointer (some ⟨C.b,0,none⟩),.int .i64 from_,.int .i64 to_,.int .i64 at_,.agg #[.int .u8 kind,.int .i64 n,.int .u8 cmp,.slice none 0 0],.slice none 0 0] w (CurP C u W (s.put C.sc C.ar from_ to_ at_ kind n cmp .nil)):=by
 obtain⟨u',h1,h2⟩:=h
 exact(zlk h1 from_ to_ at_ kind n cmp hok hr).mono fun e w' h=>Cur.of h2 h
def WayN (C:FgC) (u:Value) (W:World) (s:FgS) (N:Nat) (val:Value) (c:Way) (w:World):Prop:=
 ∃g caps,val= .func (.func g) #[] caps∧Enters Tryz.prog g∧(Room N s→∀f y n,in64 f→in64 y→in64 n→Calls Tryz.prog g (#[.int .i64 f,.int .i64 y,.int .i64 n]++caps) w (CurP C u W (c f y n s)))
theorem Cur.cond (h:Cur C u W s w) (h0:C.At s0 u W) (k:Int) (args:Exs) (of_:Cds) (at_:Int) (hc:zcD C k args of_ at_) (S:Nat→Prop) (Z:Prop) (A A2:Option Addr) (c c2:Nat) (hS:∀x,S x→x < C.B) (hin:in64 at_) (hx:SlR (fun b o=>ExR W S Z args b o) args.len 64 A c) (hx2:SlR (fun b o=>CdR W S Z of_ b o) of_.len 64 A2 c2):
  Calls Tryz.prog 88 #[.pointer (some ⟨C.b,0,none⟩),.agg #[.int .u8 k,.slice A args.len c,.slice A2 of_.len c2,.int .i64 at_]] w fun e w'=>∃val,e= .returned val∧Cur C u W s w'∧WayN C u W s (2+szN of_) val (wayC C.sc C.ar k args (zal C.sc C.ar of_) at_) w':=by
 have hs:=h.same h0 hS
 refine(hc w S Z A A2 c c2 h.base hS hin (hx.imp fun _ _ hx=>ExR.keep hs hx) (hx2.imp fun _ _ hx=>CdR.keep hs hx)).mono ?_
 rintro e w' ⟨val,rfl,hf,g,caps,hv,hg,_,hcall⟩
 obtain⟨u',k1,k2⟩:=h
 refine⟨val,rfl,⟨u',k1.fr0 hf,k2.trans (Made.of hf)⟩,g,caps,hv,hg,fun hr f y n hf' hy hn=>(hcall w' s u' (SameS.refl _ _) (lrq _) (k1.fr0 hf) (fun x hx=>?_) hr f y n hf' hy hn).mono fun e w3 h=>Cur.of (k2.trans (Made.of hf)) h⟩
 rcases hx with hx|hx
 ·exact MkS.low_ k1 hx
 ·exact MkS.new k1 hx.1
end
end Go.Proofs.YtmfioehnhjjgpaaGreatDoor
