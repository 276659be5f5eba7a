/-
  flow's maker: its state in memory; a node more, an edge more.
-/
import Derived.Test.YtphlnpaikpjakaaGreatDoorJnFg1
import Derived.Test.YtphlnpaikpjakaaGreatDoorJnInC
set_option linter.unusedVariables false
set_option linter.unusedSimpArgs false
set_option maxHeartbeats 1600000
set_option maxRecDepth 100000
namespace Go.Proofs.YtphlnpaikpjakaaGreatDoor
open Go.RowKit Go.Shelf

def oneE (w:World) (S:Nat→Prop) (e:Ed) (ys:List Value):Prop:=∃A c,ys= [.int .i64 e.from_,.int .i64 e.to_,.int .u8 e.kind,.int .i64 e.n,.int .u8 e.cmp,.slice A e.args.len c,.int .i64 e.at_]∧e.ok∧SlR (fun b o=>ExR w S False e.args b o) e.args.len 64 A c
theorem oneE_keep:OneK oneE:=fun w w' S S' x ys hf hs h=>by
 obtain⟨A,c,e,h1,h2⟩:=h
 exact⟨A,c,e,h1,h2.imp fun _ _ hx=>ExR.more hs (ExR.keep hf hx)⟩
def MOwn (b:Nat) (v:Value) (i:Nat):Prop:=i=b∨v.ownBlock=some i
structure Made (b:Nat) (v v':Value) (w w':World):Prop where
 fr:Fr (MOwn b v) w w'
 row:∀g,v'.ownBlock=some g→v.ownBlock=some g∨w.heap.size≤g
theorem Made.refl (b:Nat) (v:Value) (w:World):Made b v v w w:=⟨Fr.refl _ _,fun _ h=> .inl h⟩
theorem Made.trans {b:Nat} {v v1 v2:Value} {w w1 w2:World} (h:Made b v v1 w w1) (k:Made b v1 v2 w1 w2):Made b v v2 w w2:=by
 refine⟨⟨k.fr.os.trans h.fr.os,k.fr.tape.trans h.fr.tape,k.fr.output.trans h.fr.output,leq9 h.fr.size k.fr.size,fun i hi hn=>?_⟩,fun g hg=>?_⟩
 ·refine(k.fr.block i (ltq hi h.fr.size) ?_).trans (h.fr.block i hi hn)
  rintro(e|e)
  ·exact hn (.inl e)
  ·rcases h.row i e with e2|e2
   ·exact hn (.inr e2)
   ·omega
 ·rcases k.row g hg with e|e
  ·exact h.row g e
  ·exact .inr (leq9 h.fr.size e)
theorem Made.of {b:Nat} {v:Value} {w w':World} (h:Fr NoT w w'):Made b v v w w':=⟨h.any,fun _ h=> .inl h⟩
theorem Made.bk {b:Nat} {v v':Value} {w w':World} (h:Made b v v' w w') {g:Nat} {t:TypeId} {cs:Array Value} (hk:Bk w g t cs) (hn:¬MOwn b v g):Bk w' g t cs∧¬MOwn b v' g:=by
 refine⟨hk.fr h.fr hn,?_⟩
 rintro(e|e)
 ·exact hn (.inl e)
 ·rcases h.row g e with e2|e2
  ·exact hn (.inr e2)
  ·have:=hk.lt;omega
structure MkS (B b mS mA:Nat) (vars:Int) (sl:Value) (sc ar:NoN) (s:FgS) (v:Value) (w:World):Prop where
 low:B≤b
 bk:Bk w b 85 #[.int .i64 vars,sl,.int .i64 s.nodes,.int .i64 0,.int .i64 1,v,.map (some mS),.map (some mA)]
 maps:(∃n,NoM w mS n sc)∧∃n,NoM w mA n ar
 ne:mS≠b∧mA≠b∧v.ownBlock≠some b∧v.ownBlock≠some mS∧v.ownBlock≠some mA
 row:∃cs,w.ownsRow (b+1) 39 7 v s.edges.length cs∧RowR oneE w (NewR (b+1) v w) s.edges cs
section
variable {B b mS mA:Nat} {vars:Int} {sl:Value} {sc ar:NoN} {s:FgS} {v:Value} {w:World}
theorem MkS.mkN (h:MkS B b mS mA vars sl sc ar s v w):MkN w b sc ar:=by
 obtain⟨⟨n,h1⟩,m,h2⟩:=h.maps
 exact⟨_,_,_,_,_,_,_,_,n,m,h.bk,h1,h2⟩
theorem MkS.base (h:MkS B b mS mA vars sl sc ar s v w):B≤w.heap.size:=leq9 h.low (Nat.le_of_lt h.bk.lt)
theorem rowE_fr {B:Nat} {w':World} {cs:List Value} {l:List Ed} (hr:RowR oneE w (NewR B v w) l cs) (hf:Fr NoT w w'):RowR oneE w' (NewR B v w') l cs:=
 RowR.imp oneE_keep (hf.same fun b hb=>⟨hb.2.1,id⟩) (fun b hb=>⟨hb.1,ltq hb.2.1 hf.size,hb.2.2⟩) hr
theorem ownsRow_frF {B:Nat} {w':World} {n size:Nat} {t:TypeId} {cs:List Value} (h:w.ownsRow B t size v n cs) (hf:Fr NoT w w'):w'.ownsRow B t size v n cs:=by
 refine⟨h.1,h.2.imp id ?_⟩
 rintro⟨g,cap,cur,e1,e2,e3,e4⟩
 exact⟨g,cap,cur,e1,e2,(hf.block g (Bk.lt (t:=t) (cs:=cur) e3) id).trans e3,e4⟩
theorem MkS.fr0 {w':World} (h:MkS B b mS mA vars sl sc ar s v w) (hf:Fr NoT w w'):MkS B b mS mA vars sl sc ar s v w':=by
 obtain⟨cs,h1,h2⟩:=h.row
 obtain⟨⟨n,m1⟩,m,m2⟩:=h.maps
 exact⟨h.low,h.bk.fr0 hf,⟨⟨n,m1.fr hf id⟩,m,m2.fr hf id⟩,h.ne,cs,ownsRow_frF h1 hf,rowE_fr h2 hf⟩
theorem MkS.new (h:MkS B b mS mA vars sl sc ar s v w) {g:Nat} (hg:w.heap.size≤g):¬MOwn b v g:=by
 rintro(e|e)
 ·have:=h.bk.lt;omega
 ·obtain⟨cs,h1,_⟩:=h.row
  have:=(h1.lt g e).2
  omega
theorem MkS.low_ (h:MkS B b mS mA vars sl sc ar s v w) {g:Nat} (hg:g < B):¬MOwn b v g:=by
 rintro(e|e)
 ·have:=h.low;omega
 ·obtain⟨cs,h1,_⟩:=h.row
  have:=(h1.lt g e).1
  have:=h.low
  omega
theorem Made.same {v':Value} {w':World} (h:Made b v v' w w') (hw:MkS B b mS mA vars sl sc ar s v w) {S:Nat→Prop} (hS:∀x,S x→x < B):SameS S w w':=
 h.fr.same fun x hx=>⟨ltq (hS x hx) hw.base,hw.low_ (hS x hx)⟩
theorem ownsRow_set {L n size i:Nat} {t:TypeId} {cs:List Value} (h:w.ownsRow L t size v n cs) (hb:b < L) (u:Value):(w.setCell ⟨b,i,none⟩ u).ownsRow L t size v n cs:=by
 refine⟨h.1,h.2.imp id ?_⟩
 rintro⟨g,cap,cur,e1,e2,e3,e4⟩
 exact⟨g,cap,cur,e1,e2,(Below.heap_setCell w ⟨b,i,none⟩ u g (by show g≠b;omega)).trans e3,e4⟩
theorem MkS.set (h:MkS B b mS mA vars sl sc ar s v w) (n:Int):MkS B b mS mA vars sl sc ar ⟨n,s.edges⟩ v (w.setCell ⟨b,2,none⟩ (.int .i64 n))∧Made b v v w (w.setCell ⟨b,2,none⟩ (.int .i64 n)):=by
 obtain⟨cs,h1,h2⟩:=h.row
 obtain⟨⟨k,m1⟩,m,m2⟩:=h.maps
 have hf:Fr (fun i=>i=b) w (w.setCell ⟨b,2,none⟩ (.int .i64 n)):=Fr.own (Fr.refl _ _) _ _
 refine⟨⟨h.low,?_,⟨⟨k,m1.fr hf h.ne.1⟩,m,m2.fr hf h.ne.2.1⟩,h.ne,cs,ownsRow_set h1 (Nat.lt_succ_self b) _,RowR.imp oneE_keep (hf.same fun x hx=>⟨hx.2.1,fun e=>by have e:x=b:=e;have:=hx.1;omega⟩) (fun x hx=>⟨hx.1,ltq hx.2.1 hf.size,hx.2.2⟩) h2⟩,⟨hf.mono fun _ _ e=> .inl e,fun _ h=> .inl h⟩⟩
 have:=h.bk.set_ 2 (.int .i64 n)
 simpa using this
theorem MkS.push {w7 w9:World} {v':Value} {cs zs:List Value} {e:Ed} (h:MkS B b mS mA vars sl sc ar s v w) (hrow:w.ownsRow (b+1) 39 7 v s.edges.length cs) (hrows:RowR oneE w (NewR (b+1) v w) s.edges cs) (hf:Fr NoT w w7)
  (hy:oneE w7 (fun x=>w.heap.size≤x∧x < w7.heap.size) e zs) (hown:w9.ownsRow (b+1) 39 7 v' (s.edges.length+1) (cs++zs)) (hg:w7.grownBy w9 v.ownBlock) (hsp:v'.ownBlock=v.ownBlock∨v'.ownBlock=some w7.heap.size):
  MkS B b mS mA vars sl sc ar ⟨s.nodes,s.edges++ [e]⟩ v' (w9.setCell ⟨b,5,none⟩ v')∧Made b v v' w (w9.setCell ⟨b,5,none⟩ v'):=by
 have hlt:=h.bk.lt
 obtain⟨hr9,hf9⟩:=RowR.step oneE_keep hrow (by omega) hrows hf hy hg hsp
 obtain⟨⟨k,m1⟩,m,m2⟩:=h.maps
 have hneb:some b≠v.ownBlock:=fun e=>h.ne.2.2.1 e.symm
 have hk9:Bk w9 b 85 #[.int .i64 vars,sl,.int .i64 s.nodes,.int .i64 0,.int .i64 1,v,.map (some mS),.map (some mA)]:=(hg.block b (ltq hlt hf.size) hneb).trans (h.bk.fr0 hf)
 have hb9:Fr (fun i=>i=b) w9 (w9.setCell ⟨b,5,none⟩ v'):=Fr.own (Fr.refl _ _) _ _
 have hlS:mS < w7.heap.size:=(m1.fr hf id).lt
 have hlA:mA < w7.heap.size:=(m2.fr hf id).lt
 have hv':∀q,q < w7.heap.size→v.ownBlock≠some q→v'.ownBlock≠some q:=fun q hq hn e=>by
  rcases hsp with e2|e2
  ·exact hn (e2▸e)
  ·rw[e2]at e
   have:=Option.some.inj e
   omega
 have hgf:Fr (fun i=>v.ownBlock=some i) w7 w9:=Fr.grown hg fun g e _=>e
 refine⟨⟨h.low,?_,⟨⟨k,(MpV.kept (m1.fr hf id) hg (fun e=>h.ne.2.2.2.1 e.symm)).fr hb9 h.ne.1⟩,m,(MpV.kept (m2.fr hf id) hg (fun e=>h.ne.2.2.2.2 e.symm)).fr hb9 h.ne.2.1⟩,⟨h.ne.1,h.ne.2.1,hv' b (ltq hlt hf.size) h.ne.2.2.1,hv' mS hlS h.ne.2.2.2.1,hv' mA hlA h.ne.2.2.2.2⟩,cs++zs,?_,?_⟩,⟨?_,fun q hq=>?_⟩⟩
 ·have:=hk9.set_ 5 v'
  simpa using this
 ·rw[List.length_append]
  exact ownsRow_set hown (Nat.lt_succ_self b) _
 ·exact RowR.imp oneE_keep (hb9.same fun x hx=>⟨hx.2.1,fun e=>by have e:x=b:=e;have:=hx.1;omega⟩) (fun x hx=>⟨hx.1,ltq hx.2.1 hb9.size,hx.2.2⟩) hr9
 ·exact((hf.any:Fr (MOwn b v) w w7).trans (hgf.mono fun _ _ e=> .inr e)).trans (hb9.mono fun _ _ e=> .inl e)
 ·rcases hsp with e|e
  ·exact .inl (e▸hq)
  ·rw[e]at hq
   have:=Option.some.inj hq
   have:=hf.size
   exact .inr (by omega)
theorem node_any (h:MkS B b mS mA vars sl sc ar s v w) (h0:0≤s.nodes) (h1:s.nodes≤4611686018427387904):Calls Tryz.prog 62 #[.pointer (some ⟨b,0,none⟩)] w fun e w'=>e= .returned (.int .i64 s.nodes)∧MkS B b mS mA vars sl sc ar s.node v w'∧Made b v v w w':=by
 have c2:=h.bk.cell 2
 have f2:=h.bk.frozen 2
 have hl:=h.bk.lt
 simp only[getsL]at c2
 have HS:=hdq (h.set (s.nodes+1))
 obtain⟨n,hn⟩:=nmq s.nodes
 unfold FgS.node
 rw[←hn]at c2 h0 h1 HS ⊢
 clear h hn
 go_enter Tryz.func62,Tryz.ntmps62
 go_wp2_with fail
 go_ret
 exact⟨by simp,HS.out.1,HS.out.2⟩
end
end Go.Proofs.YtphlnpaikpjakaaGreatDoor

namespace Go.Proofs.YtphlnpaikpjakaaGreatDoor
open Go.RowKit Go.Shelf

theorem infoEd:(Tryz.prog.info? 39).map (fun i=>(i.zero,i.size,i.bytes))=some (some (.agg #[.int .i64 0,.int .i64 0,.int .u8 0,.int .i64 0,.int .u8 0,.slice none 0 0,.int .i64 0]),7,72):=by kernel_rfl
def PutS (b g:Nat) (v:Value) (kind n cmp:Int) (sl:Value) (W':World):Prop:=b < W'.heap.size∧g < W'.heap.size∧W'.cell? ⟨b,5,none⟩=some v∧W'.cell? ⟨g,0,none⟩=some (.int .u8 kind)∧W'.cell? ⟨g,1,none⟩=some (.int .i64 n)∧W'.cell? ⟨g,2,none⟩=some (.int .u8 cmp)∧W'.cell? ⟨g,3,none⟩=some sl
theorem fput_any {B b mS mA:Nat} {vars:Int} {sl:Value} {sc ar:NoN} {s:FgS} {v:Value} {w:World} (h:MkS B b mS mA vars sl sc ar s v w) (r1:NoR sc) (r2:NoR ar) (from_ to_ at_ kind n cmp:Int) (hok:in64 from_∧in64 to_∧in8 kind∧in64 n∧in8 cmp∧in64 at_) (dsl:Value) (hd:dsl= .slice none 0 0) (xs:Exs) (S:Nat→Prop) (Z:Prop) (A:Option Addr) (c:Nat) (hS:∀x,S x→x < B) (hz:szQ xs) (hx:SlR (fun b o=>ExR w S Z xs b o) xs.len 64 A c) (hlen:(s.edges.length+1)*72≤140737488355328):
  Calls Tryz.prog 61 #[.pointer (some ⟨b,0,none⟩),.int .i64 from_,.int .i64 to_,.int .i64 at_,.agg #[.int .u8 kind,.int .i64 n,.int .u8 cmp,dsl],.slice A xs.len c] w
   fun e w'=>∃v',e= .returned (.tuple #[])∧MkS B b mS mA vars sl sc ar (s.put sc ar from_ to_ at_ kind n cmp xs) v' w'∧Made b v v' w w':=by
 subst hd
 obtain⟨W,hW⟩:=nmq (w.alloc (.cells #[.int .u8 kind,.int .i64 n,.int .u8 cmp,.slice none 0 0] 37))
 have hf:Fr NoT w W:=by rw[hW];exact(Fr.refl _ _).alloc _
 have hk:Bk W w.heap.size 37 #[.int .u8 kind,.int .i64 n,.int .u8 cmp,.slice none 0 0]:=by rw[hW];exact Bk.new w _ _
 have hc:=numbered_any sc ar r1 r2 xs hz W S Z A c b (h.fr0 hf).mkN (fun x hx=>ltq (ltq (hS x hx) h.base) hf.size) hz (hx.imp fun _ _ hx=>ExR.keep (hf.same fun x hx=>⟨ltq (hS x hx) h.base,id⟩) hx)
 obtain⟨l,hl⟩:=nmq xs.len
 rw[←hl]at hc ⊢
 obtain⟨i0,hi,hz0,hz1,hz2⟩:=info_parts infoEd
 have HI:=hdq (aiq hi (aiq hz0 (aiq hz1 hz2)))
 obtain⟨cs,hrow,hrows⟩:=h.row
 have HC:=hdq hc
 have HH:=hdq h
 have HROW:=hdq (aiq hrow hrows)
 have HF:=hdq hf
 have HK:=hdq hk
 have HWE:=hdq hW
 have HOK:=hdq hok
 have HLEN:=hdq hlen
 have HX:=hdq (show(numX sc ar xs).len =l from by rw[hl,numX_len])
 clear h r1 r2 hok hS hz hx hlen hW hf hk hc hl hi hz0 hz1 hz2 hrow hrows
 go_enter Tryz.func61,Tryz.ntmps61
 go_wp2_with fail
 rw[←HWE.out]
 refine HC.out.mono ?_
 rintro _ w2 ⟨A',c',rfl,hs2,hf2⟩
 rw[HX.out]
 have hk2:=HK.out.fr0 hf2
 have z3:=hk2.frozen 3
 have zl:=hk2.lt
 have c3:=hk2.cell 3
 simp only[getsL]at c3
 obtain⟨w3,hw3⟩:=nmq (w2.setCell ⟨w.heap.size,3,none⟩ (.slice A' l c'))
 have hf23:Fr (fun i=>i=w.heap.size) w2 w3:=by rw[hw3];exact Fr.own (Fr.refl _ _) _ _
 have hf3:Fr NoT w w3:=by rw[hw3];exact Fr.high (HF.out.trans hf2) (lrq _) _ _
 have hk3:Bk w3 w.heap.size 37 #[.int .u8 kind,.int .i64 n,.int .u8 cmp,.slice A' l c']:=by
  have:=hk2.set_ 3 (.slice A' l c')
  rw[hw3];simpa using this
 have h3:=HH.out.fr0 hf3
 have HS:Hid (∀W',Fr NoT w3 W'→PutS b w.heap.size v kind n cmp (.slice A' l c') W'):=
  hdq (fun W' hf=>⟨ltq h3.bk.lt hf.size,ltq hk3.lt hf.size,(h3.fr0 hf).bk.cell 5,(hk3.fr0 hf).cell 0,(hk3.fr0 hf).cell 1,(hk3.fr0 hf).cell 2,(hk3.fr0 hf).cell 3⟩)
 have HS2:=hdq (hs2.imp fun _ _ h=>ExR.more (T:=fun x=>w.heap.size≤x∧x < w3.heap.size) (fun b hb=>⟨by have h1:=hb.1;have:=HF.out.size;omega,by have h2:=hb.2;have:=hf23.size;omega⟩) (ExR.keep (hf23.same fun b hb=>⟨hb.2,fun e=>by have e:b=w.heap.size:=e;have h1:=hb.1;have:=HK.out.lt;omega⟩) h))
 have HF3:=hdq hf3
 have HW3:=hdq hw3
 have HH3:=hdq h3
 have HBL:=hdq (show b < w.heap.size from HH.out.bk.lt)
 clear hs2 hf2 hk2 hw3 hf23 hf3 hk3 h3 HC
 go_wp2_with fail
 rw[←HW3.out]
 refine wp_region_E (PutS b w.heap.size v kind n cmp (.slice A' l c')) (fun i=>decide (i < 13)) (by kernel_rfl) (HS.out _ ((Fr.refl NoT w3).drew)) (fun hHeld=>?_)
 refine wpE_pu 0 ?_
 try simp only[putsL]
 refine wpE_pu 1 ?_
 try simp only[putsL]
 refine wpE_pu 2 ?_
 try simp only[putsL]
 refine wpE_pu 3 ?_
 try simp only[putsL]
 refine wpE_pu 4 ?_
 try simp only[putsL]
 refine wpE_take 5 (v:=?_) rfl (by kernel_rfl) (fun _ _ _ h=>h) hHeld (by rfl) ?_ ?_;rotate_left
 ·intro wz hSz;(try dsimp only[PutS]at hSz);go_simp;try with_reducible rfl
 try simp only[putsL]
 refine wpE_pu 6 ?_
 try simp only[putsL]
 refine wpE_pu 7 ?_
 try simp only[putsL]
 refine wpE_take 8 (v:=?_) rfl (by kernel_rfl) (fun _ _ _ h=>h) hHeld (by rfl) ?_ ?_;rotate_left
 ·intro wz hSz;(try dsimp only[PutS]at hSz);go_simp;try with_reducible rfl
 try simp only[putsL]
 refine wpE_pu 9 ?_
 try simp only[putsL]
 refine wpE_pu 10 ?_
 try simp only[putsL]
 refine wpE_next 11 rfl (by kernel_rfl) (fun KK hK=>?_)
 go_simp
 obtain⟨w8,hw8⟩:=nmq ((w3.alloc (.cells #[.int .i64 from_,.int .i64 to_,.int .u8 kind,.int .i64 n,.int .u8 cmp,.slice A' l c',.int .i64 at_] 39)).drew )
 rw[←hw8]
 have hf8:Fr NoT w3 w8:=by rw[hw8];exact((Fr.refl _ _).alloc _).drew
 have hk8:Bk w8 w3.heap.size 39 ([.int .i64 from_,.int .i64 to_,.int .u8 kind,.int .i64 n,.int .u8 cmp,.slice A' l c',.int .i64 at_]:List Value).toArray :=by rw[hw8];exact(Bk.new _ _ _).fr0 ((Fr.refl _ _).drew)
 have hs8:=HS.out w8 hf8
 have HF8:=hdq hf8
 have HK8:=hdq hk8
 have HROW8:=hdq (ownsRow_frF HROW.out.1 (HF3.out.trans hf8))
 have hb8:b+1≤w8.heap.size:=by have:=HBL.out;have:=(HF3.out.trans hf8).size;omega
 clear hw8 hf8 hk8 hHeld
 try dsimp only
 refine hK _ _ (fun _ _=>hs8) ?_
 clear hK KK
 try simp only[putsL]
 refine wpE_next 12 rfl (by kernel_rfl) (fun KK hK=>?_)
 refine step_append_lies _ (by rfl) _ _ _ (by rfl) (b+1) 39 i0 (.agg #[.int .i64 0,.int .i64 0,.int .u8 0,.int .i64 0,.int .u8 0,.slice none 0 0,.int .i64 0]) 7 72 Tryz.underlying30 HI.out.1 HI.out.2.1 HI.out.2.2.1 HI.out.2.2.2 rfl (by decide) v s.edges.length cs (by rfl) HROW8.out
  ⟨w3.heap.size,0,none⟩ 1 1 _ (by rfl) (by rfl) HK8.out.newsL (by simp[Value.oneCell']) (by omega) ?c63 HLEN.out hb8 _ rfl ?_
 case c63=>have:=HLEN.out;unfold maxLen;omega
 intro gg cap w9 hown hgrow hsp hlt9
 have hvn:(Value.slice (some ⟨gg,0,none⟩) (s.edges.length+1) cap).ownBlock =v.ownBlock∨(Value.slice (some ⟨gg,0,none⟩) (s.edges.length+1) cap).ownBlock =some w8.heap.size:=by
  rcases hsp with e|e
  ·exact .inl e.symm
  ·exact .inr (by rw[e];rfl)
 have hpush:=HH.out.push (e:=⟨from_,to_,kind,n,cmp,numX sc ar xs,at_⟩) HROW.out.1 HROW.out.2 (HF3.out.trans HF8.out) ⟨A',c',by rw[HX.out],HOK.out,by
  rw[HX.out]
  have hh:=HS2.out
  rw[HX.out]at hh
  exact hh.imp fun _ _ h=>ExR.more (fun x hx=>⟨hx.1,ltq hx.2 HF8.out.size⟩) (ExR.keep (HF8.out.same fun x hx=>⟨hx.2,id⟩) h)⟩ hown hgrow hvn
 have hne:some b≠v.ownBlock:=fun e=>HH.out.ne.2.2.1 e.symm
 have hng:some w.heap.size≠v.ownBlock:=fun e=>by
  have:=(HROW.out.1.lt _ e.symm).2
  omega
 have h8:=HH.out.fr0 (HF3.out.trans HF8.out)
 have f9:=(hgrow.frozen_far ⟨b,5,none⟩ h8.bk.lt hne).trans (h8.bk.frozen 5)
 have q9:=(hgrow.cell_far ⟨b,5,none⟩ h8.bk.lt hne).trans hs8.2.2.1
 have l9:b < w9.heap.size:=ltq h8.bk.lt hgrow.size
 have hs9:PutS b w.heap.size v kind n cmp (.slice A' l c') w9:=⟨l9,ltq hs8.2.1 hgrow.size,q9,(hgrow.cell_far ⟨w.heap.size,0,none⟩ hs8.2.1 hng).trans hs8.2.2.2.1,(hgrow.cell_far ⟨w.heap.size,1,none⟩ hs8.2.1 hng).trans hs8.2.2.2.2.1,(hgrow.cell_far ⟨w.heap.size,2,none⟩ hs8.2.1 hng).trans hs8.2.2.2.2.2.1,(hgrow.cell_far ⟨w.heap.size,3,none⟩ hs8.2.1 hng).trans hs8.2.2.2.2.2.2⟩
 have HPU:=hdq hpush
 clear hvn hown hgrow hsp h8 hpush hne hng hs8 hb8
 try dsimp only
 refine hK _ _ (fun _ _=>hs9) ?_
 clear hK KK
 try simp only[putsL]
 refine wpE_next 13 rfl (by kernel_rfl) (fun KK hK=>?_)
 go_simp
 refine hK _ _ (fun h=>absurd h (by decide)) ?_
 clear hK KK
 try simp only[putsL]
 refine wpE_next 14 rfl (by kernel_rfl) (fun KK hK=>?_)
 go_simp
 refine hK _ _ (fun h=>absurd h (by decide)) ?_
 clear hK KK
 try simp only[putsL]
 refine wpE_next 15 rfl (by kernel_rfl) (fun KK hK=>?_)
 go_simp
 refine hK _ _ (fun h=>absurd h (by decide)) ?_
 clear hK KK
 try simp only[putsL]
 refine wpE_next 16 rfl (by kernel_rfl) (fun KK hK=>?_)
 go_simp
 refine hK _ _ (fun h=>absurd h (by decide)) ?_
 clear hK KK
 try simp only[putsL]
 refine wpE_done (by kernel_rfl) ?_
 go_wp2_with fail
 go_end0
 exact⟨_,rfl,HPU.out.1,HPU.out.2⟩

open Go.RowKit

section
variable {P:Program} {Q:Exit→Act→World→Prop} {md:Region.Mode} {S:World→Prop} {n:Nat→Bool} {ops:Array Oper}
theorem m4 {b c d e:Bool} {m:Nat} (h:(if b then 0 else 1)+(if c then 0 else 1)+(if d then 0 else 1)+(if e then 0 else 1)=m+1):(b&&c&&d&&e)=false:=by
 cases b<;>cases c<;>cases d<;>cases e<;>simp at h ⊢
def waitsN (md:Region.Mode) (ops:Array Oper):Nat→Nat→Nat→Bool
 |0,j,i=>Region.waitsFor md ops j i
 |f+1,j,i=>Region.waitsFor md ops j i || (List.range ops.size).any fun k=>Region.waitsFor md ops j k&&waitsN md ops f k i
theorem waitsN_spec {listed:Array Bool} (hc:ClosedL md ops listed):∀(f j i:Nat) (oj:Oper),ops[j]?=some oj→(∀e∈oj.after,Region.binds md e=true→listed.getD e.on false=true)→waitsN md ops f j i=true→listed.getD i false=true:=by
 have h0:∀(j i:Nat) (oj:Oper),ops[j]?=some oj→(∀e∈oj.after,Region.binds md e=true→listed.getD e.on false=true)→Region.waitsFor md ops j i=true→listed.getD i false=true:=fun j i oj hoj hall h=>by
  obtain⟨oj',hoj',e,he,hb,hon⟩:=Region.waitsFor_spec h
  rw[hoj]at hoj'
  cases hoj'
  exact hon▸hall e he hb
 intro f
 induction f with
 |zero=>exact h0
 |succ f ih=>
  intro j i oj hoj hall h
  simp only[waitsN,Bool.or_eq_true,List.any_eq_true,Bool.and_eq_true]at h
  rcases h with h|⟨k,_,hjk,hki⟩
  ·exact h0 j i oj hoj hall h
  ·have hk:=h0 j k oj hoj hall hjk
   cases hok:ops[k]? with
   |none=>
    exfalso
    cases f with
    |zero=>simp[waitsN,Region.waitsFor,hok]at hki
    |succ f=>
     have:∀x,Region.waitsFor md ops k x=false:=fun x=>by simp[Region.waitsFor,hok]
     simp[waitsN,this]at hki
   |some ok=>exact ih k i ok hok (fun e he hb=>hc k ok hok hk e he hb) hki
def lastN (md:Region.Mode) (ops:Array Oper) (n:Nat→Bool) (i:Nat):Bool:=(List.range ops.size).all fun j=>n j || j==i || waitsN md ops 5 j i
theorem lastN_spec {i j:Nat} {listed:Array Bool} (h:lastN md ops n i=true) (hc:ClosedL md ops listed) (hi:listed.getD i true=false) (hj:j∈Region.ready md ops listed) (hne:j≠i):n j=true:=by
 obtain⟨_,oj,hoj,hall⟩:=mem_ready.1 hj
 have hi':listed.getD i false≠true:=fun e=>by
  rcases Nat.lt_or_ge i listed.size with h'|h'
  ·simp[h']at hi e;rw[hi]at e;simp at e
  ·simp[Array.getElem?_eq_none h']at hi
 have h1:=List.all_eq_true.1 h j (List.mem_range.2 (Array.getElem?_eq_some_iff.1 hoj).1)
 simp only[Bool.or_eq_true,beq_iff_eq]at h1
 rcases h1 with(h1|h1)|h1
 ·exact h1
 ·exact absurd h1 hne
 ·exact absurd (waitsN_spec hc 5 j i oj hoj hall h1) hi'
theorem wpE_firstN {i:Nat} {oi:Oper} {v:Value} (hi:ops[i]?=some oi) (hs:Region.noSelect ops=true) (hQ:∀c a w,Q (.panic c) (a.put oi.dst v) w→Q (.panic c) a w) (hl:lastN md ops n i=true):
  ∀(f:Nat) (listed:Array Bool) (a:Act) (w:World),ClosedL md ops listed→(∀j oj,ops[j]?=some oj→j≠i→listed.getD j true=false→(∀e∈oj.after,Region.binds md e=true→e.on≠i)→oi.apart ops oj=true)→
   i∈Region.ready md ops listed→YieldsIf P ops S oi v a→S w→wpE P md ops Q S n f (listed.setIfInBounds i true) (a.put oi.dst v) w→wpE P md ops Q S n (f+1) listed a w:=by
 intro f
 induction f with
 |zero=>
  intro listed a w hcl hfree hr hy hS H
  refine⟨fun h=>by rw[h]at hr;simp at hr,fun j hj=>?_⟩
  by_cases hji:j=i
  ·subst hji
   exact hy.wpOp hi hS ⟨fun _ h=>h,H⟩
  ·have h1:=ready_mono hj hji
   rw[H.1]at h1
   simp at h1
 |succ f ih=>
  intro listed a w hcl hfree hr hy hS H
  refine⟨fun h=>by rw[h]at hr;simp at hr,fun j hj=>?_⟩
  by_cases hji:j=i
  ·subst hji
   exact hy.wpOp hi hS ⟨fun _ h=>h,H⟩
  ·have h1:=H.2 j (ready_mono hj hji)
   obtain⟨hun,oj,hoj,hall⟩:=mem_ready.1 hj
   have hno:∀e∈oj.after,Region.binds md e=true→e.on≠i:=fun e he hb heq=>by
    have g1:=hall e he hb
    have g0:=(mem_ready.1 hr).1
    rw[heq]at g1
    rcases Nat.lt_or_ge i listed.size with h'|h'
    ·simp[h']at g0 g1;rw[g0]at g1;simp at g1
    ·simp[Array.getElem?_eq_none h']at g1
   have hjn:=lastN_spec hl hcl (mem_ready.1 hr).1 hj hji
   have hsel:=Region.noSelect_spec hs
   have h2:=wpOp_putIf hoj (hfree j oj hoj hji hun hno) (fun cs b=>hsel i oi cs b hi) (fun cs b=>hsel j oj cs b hoj) hQ hy h1
   refine wpOp_mono (fun a' w' h3=>⟨h3.2.1,ih (listed.setIfInBounds j true) a' w' (hcl.set hj) (fun k ok hk hki hku hkn=>?_) (ready_mono hr (Ne.symm hji)) h3.1 (h3.2.1 hjn hS) ?_⟩) h2
   ·refine hfree k ok hk hki ?_ hkn
    by_cases hjk:j=k
    ·subst hjk;exact hun
    ·rwa [getD_set_ne true hjk]at hku
   ·rw[Array.setIfInBounds_comm _ _ hji]
    exact h3.2.2
theorem wpE_takeN {l:List Oper} (i:Nat) {oi:Oper} {r:List Oper} {v:Value} {f:Nat} {listed:Array Bool} {a:Act} {w:World} (hi:l.drop i=oi::r) (hs:(Region.noSelect l.toArray&&Region.free md l.toArray listed i&&(Region.ready md l.toArray listed).contains i&&lastN md l.toArray n i&&closedB md l.toArray listed)=true)
  (hQ:∀c a w,Q (.panic c) (a.put oi.dst v) w→Q (.panic c) a w) (hS:S w) (hw:Region.wanted oi (yielded l.toArray a.tmps)=true) (hy:∀w,S w→(execOp a.eval oi).run P w= .ok (.value v) w)
  (h:wpE P md l.toArray Q S n f (listed.setIfInBounds i true) (a.put oi.dst v) w):wpE P md l.toArray Q S n (f+1) listed a w:=by
 simp only[Bool.and_eq_true]at hs
 exact wpE_firstN (at_dropE hi) hs.1.1.1.1 hQ hs.1.2 f listed a w (closedB_spec hs.2) (Region.free_spec (at_dropE hi) hs.1.1.1.2) (by simpa using hs.1.1.2) (.inl ⟨hw,hy⟩) hS h
end
end Go.Proofs.YtphlnpaikpjakaaGreatDoor
