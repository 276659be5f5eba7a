/-
  flow's maker: its state in memory; a node more, an edge more.
-/
import Derived.Test.YtobegfbdedgmpaaGreatDoorJnFg1
import Derived.Test.YtobegfbdedgmpaaGreatDoorJnInC
import Derived.Deep.AppendLies
set_option linter.unusedVariables false
set_option linter.unusedSimpArgs false
set_option maxHeartbeats 1600000
set_option maxRecDepth 100000
namespace Go.Proofs.YtobegfbdedgmpaaGreatDoor
open Go.RowKit Go.Shelf

def oneE (w:World) (S:Nat→Prop) (e:Ed) (ys:List Value):Prop:=∃A c,ys= [.int .i64 e.from_,.int .i64 e.to_,.int .u8 e.kind,.int .i64 e.n,.int .u8 e.cmp,.slice A e.args.len c,.int .i64 e.at_]∧e.ok∧SlR (fun b o=>ExR w S False e.args b o) e.args.len 64 A c
theorem zbU:OneK oneE:=fun w w' S S' x ys hf hs h=>by
 obtain⟨A,c,e,h1,h2⟩:=h
 exact⟨A,c,e,h1,h2.imp fun _ _ hx=>ExR.more hs (ExR.keep hf hx)⟩
def MOwn (b:Nat) (v:Value) (i:Nat):Prop:=i=b∨v.ownBlock=some i
structure Made (b:Nat) (v v':Value) (w w':World):Prop where
 fr:Fr (MOwn b v) w w'
 row:∀g,v'.ownBlock=some g→v.ownBlock=some g∨w.heap.size≤g
theorem Made.refl (b:Nat) (v:Value) (w:World):Made b v v w w:=⟨Fr.refl _ _,fun _ h=> .inl h⟩
theorem Made.trans {b:Nat} {v v1 v2:Value} {w w1 w2:World} (h:Made b v v1 w w1) (k:Made b v1 v2 w1 w2):Made b v v2 w w2:=by
 refine⟨⟨k.fr.os.trans h.fr.os,k.fr.tape.trans h.fr.tape,k.fr.output.trans h.fr.output,Nat.le_trans h.fr.size k.fr.size,fun i hi hn=>?_⟩,fun g hg=>?_⟩
 ·refine(k.fr.block i (Nat.lt_of_lt_of_le hi h.fr.size) ?_).trans (h.fr.block i hi hn)
  rintro(e|e)
  ·exact hn (.inl e)
  ·rcases h.row i e with e2|e2
   ·exact hn (.inr e2)
   ·omega
 ·rcases k.row g hg with e|e
  ·exact h.row g e
  ·exact .inr (Nat.le_trans h.fr.size e)
theorem Made.of {b:Nat} {v:Value} {w w':World} (h:Fr NoT w w'):Made b v v w w':=⟨h.any,fun _ h=> .inl h⟩
theorem Made.bk {b:Nat} {v v':Value} {w w':World} (h:Made b v v' w w') {g:Nat} {t:TypeId} {cs:Array Value} (hk:Bk w g t cs) (hn:¬MOwn b v g):Bk w' g t cs∧¬MOwn b v' g:=by
 refine⟨hk.fr h.fr hn,?_⟩
 rintro(e|e)
 ·exact hn (.inl e)
 ·rcases h.row g e with e2|e2
  ·exact hn (.inr e2)
  ·have:=hk.lt;omega
structure MkS (B b mS mA:Nat) (vars:Int) (sl:Value) (sc ar:NoN) (s:FgS) (v:Value) (w:World):Prop where
 low:B≤b
 bk:Bk w b 133 #[.int .i64 vars,sl,.int .i64 s.nodes,.int .i64 0,.int .i64 1,v,.map (some mS),.map (some mA)]
 maps:(∃n,NoM w mS n sc)∧∃n,NoM w mA n ar
 ne:mS≠b∧mA≠b∧v.ownBlock≠some b∧v.ownBlock≠some mS∧v.ownBlock≠some mA
 row:∃cs,w.ownsRow (b+1) 47 7 v s.edges.length cs∧RowR oneE w (NewR (b+1) v w) s.edges cs
section
variable {B b mS mA:Nat} {vars:Int} {sl:Value} {sc ar:NoN} {s:FgS} {v:Value} {w:World}
theorem MkS.mkN (h:MkS B b mS mA vars sl sc ar s v w):MkN w b sc ar:=by
 obtain⟨⟨n,h1⟩,m,h2⟩:=h.maps
 exact⟨_,_,_,_,_,_,_,_,n,m,h.bk,h1,h2⟩
theorem MkS.base (h:MkS B b mS mA vars sl sc ar s v w):B≤w.heap.size:=Nat.le_trans h.low (Nat.le_of_lt h.bk.lt)
theorem zne {B:Nat} {w':World} {cs:List Value} {l:List Ed} (hr:RowR oneE w (NewR B v w) l cs) (hf:Fr NoT w w'):RowR oneE w' (NewR B v w') l cs:=
 RowR.imp zbU (hf.same fun b hb=>⟨hb.2.1,id⟩) (fun b hb=>⟨hb.1,Nat.lt_of_lt_of_le hb.2.1 hf.size,hb.2.2⟩) hr
theorem zbk {B:Nat} {w':World} {n size:Nat} {t:TypeId} {cs:List Value} (h:w.ownsRow B t size v n cs) (hf:Fr NoT w w'):w'.ownsRow B t size v n cs:=by
 refine⟨h.1,h.2.imp id ?_⟩
 rintro⟨g,cap,cur,e1,e2,e3,e4⟩
 exact⟨g,cap,cur,e1,e2,(hf.block g (Bk.lt (t:=t) (cs:=cur) e3) id).trans e3,e4⟩
theorem MkS.fr0 {w':World} (h:MkS B b mS mA vars sl sc ar s v w) (hf:Fr NoT w w'):MkS B b mS mA vars sl sc ar s v w':=by
 obtain⟨cs,h1,h2⟩:=h.row
 obtain⟨⟨n,m1⟩,m,m2⟩:=h.maps
 exact⟨h.low,h.bk.fr0 hf,⟨⟨n,m1.fr hf id⟩,m,m2.fr hf id⟩,h.ne,cs,zbk h1 hf,zne h2 hf⟩
theorem MkS.new (h:MkS B b mS mA vars sl sc ar s v w) {g:Nat} (hg:w.heap.size≤g):¬MOwn b v g:=by
 rintro(e|e)
 ·have:=h.bk.lt;omega
 ·obtain⟨cs,h1,_⟩:=h.row
  have:=(h1.lt g e).2
  omega
theorem MkS.low_ (h:MkS B b mS mA vars sl sc ar s v w) {g:Nat} (hg:g < B):¬MOwn b v g:=by
 rintro(e|e)
 ·have:=h.low;omega
 ·obtain⟨cs,h1,_⟩:=h.row
  have:=(h1.lt g e).1
  have:=h.low
  omega
theorem Made.same {v':Value} {w':World} (h:Made b v v' w w') (hw:MkS B b mS mA vars sl sc ar s v w) {S:Nat→Prop} (hS:∀x,S x→x < B):SameS S w w':=
 h.fr.same fun x hx=>⟨Nat.lt_of_lt_of_le (hS x hx) hw.base,hw.low_ (hS x hx)⟩
theorem zck {L n size i:Nat} {t:TypeId} {cs:List Value} (h:w.ownsRow L t size v n cs) (hb:b < L) (u:Value):(w.setCell ⟨b,i,none⟩ u).ownsRow L t size v n cs:=by
 refine⟨h.1,h.2.imp id ?_⟩
 rintro⟨g,cap,cur,e1,e2,e3,e4⟩
 exact⟨g,cap,cur,e1,e2,(Below.heap_setCell w ⟨b,i,none⟩ u g (by show g≠b;omega)).trans e3,e4⟩
theorem MkS.set (h:MkS B b mS mA vars sl sc ar s v w) (n:Int):MkS B b mS mA vars sl sc ar ⟨n,s.edges⟩ v (w.setCell ⟨b,2,none⟩ (.int .i64 n))∧Made b v v w (w.setCell ⟨b,2,none⟩ (.int .i64 n)):=by
 obtain⟨cs,h1,h2⟩:=h.row
 obtain⟨⟨k,m1⟩,m,m2⟩:=h.maps
 have hf:Fr (fun i=>i=b) w (w.setCell ⟨b,2,none⟩ (.int .i64 n)):=Fr.own (Fr.refl _ _) _ _
 refine⟨⟨h.low,?_,⟨⟨k,m1.fr hf h.ne.1⟩,m,m2.fr hf h.ne.2.1⟩,h.ne,cs,zck h1 (Nat.lt_succ_self b) _,RowR.imp zbU (hf.same fun x hx=>⟨hx.2.1,fun e=>by have e:x=b:=e;have:=hx.1;omega⟩) (fun x hx=>⟨hx.1,Nat.lt_of_lt_of_le hx.2.1 hf.size,hx.2.2⟩) h2⟩,⟨hf.mono fun _ _ e=> .inl e,fun _ h=> .inl h⟩⟩
 have:=h.bk.set_ 2 (.int .i64 n)
 simpa using this
theorem MkS.push {w7 w9:World} {v':Value} {cs zs:List Value} {e:Ed} (h:MkS B b mS mA vars sl sc ar s v w) (hrow:w.ownsRow (b+1) 47 7 v s.edges.length cs) (hrows:RowR oneE w (NewR (b+1) v w) s.edges cs) (hf:Fr NoT w w7)
  (hy:oneE w7 (fun x=>w.heap.size≤x∧x < w7.heap.size) e zs) (hown:w9.ownsRow (b+1) 47 7 v' (s.edges.length+1) (cs++zs)) (hg:w7.grownBy w9 v.ownBlock) (hsp:v'.ownBlock=v.ownBlock∨v'.ownBlock=some w7.heap.size):
  MkS B b mS mA vars sl sc ar ⟨s.nodes,s.edges++ [e]⟩ v' (w9.setCell ⟨b,5,none⟩ v')∧Made b v v' w (w9.setCell ⟨b,5,none⟩ v'):=by
 have hlt:=h.bk.lt
 obtain⟨hr9,hf9⟩:=RowR.step zbU hrow (by omega) hrows hf hy hg hsp
 obtain⟨⟨k,m1⟩,m,m2⟩:=h.maps
 have hneb:some b≠v.ownBlock:=fun e=>h.ne.2.2.1 e.symm
 have hk9:Bk w9 b 133 #[.int .i64 vars,sl,.int .i64 s.nodes,.int .i64 0,.int .i64 1,v,.map (some mS),.map (some mA)]:=(hg.block b (Nat.lt_of_lt_of_le hlt hf.size) hneb).trans (h.bk.fr0 hf)
 have hb9:Fr (fun i=>i=b) w9 (w9.setCell ⟨b,5,none⟩ v'):=Fr.own (Fr.refl _ _) _ _
 have hlS:mS < w7.heap.size:=(m1.fr hf id).lt
 have hlA:mA < w7.heap.size:=(m2.fr hf id).lt
 have hv':∀q,q < w7.heap.size→v.ownBlock≠some q→v'.ownBlock≠some q:=fun q hq hn e=>by
  rcases hsp with e2|e2
  ·exact hn (e2▸e)
  ·rw[e2]at e
   have:=Option.some.inj e
   omega
 have hgf:Fr (fun i=>v.ownBlock=some i) w7 w9:=Fr.grown hg fun g e _=>e
 refine⟨⟨h.low,?_,⟨⟨k,(MpV.kept (m1.fr hf id) hg (fun e=>h.ne.2.2.2.1 e.symm)).fr hb9 h.ne.1⟩,m,(MpV.kept (m2.fr hf id) hg (fun e=>h.ne.2.2.2.2 e.symm)).fr hb9 h.ne.2.1⟩,⟨h.ne.1,h.ne.2.1,hv' b (Nat.lt_of_lt_of_le hlt hf.size) h.ne.2.2.1,hv' mS hlS h.ne.2.2.2.1,hv' mA hlA h.ne.2.2.2.2⟩,cs++zs,?_,?_⟩,⟨?_,fun q hq=>?_⟩⟩
 ·have:=hk9.set_ 5 v'
  simpa using this
 ·rw[List.length_append]
  exact zck hown (Nat.lt_succ_self b) _
 ·exact RowR.imp zbU (hb9.same fun x hx=>⟨hx.2.1,fun e=>by have e:x=b:=e;have:=hx.1;omega⟩) (fun x hx=>⟨hx.1,Nat.lt_of_lt_of_le hx.2.1 hb9.size,hx.2.2⟩) hr9
 ·exact((hf.any:Fr (MOwn b v) w w7).trans (hgf.mono fun _ _ e=> .inr e)).trans (hb9.mono fun _ _ e=> .inl e)
 ·rcases hsp with e|e
  ·exact .inl (e▸hq)
  ·rw[e]at hq
   have:=Option.some.inj hq
   have:=hf.size
   exact .inr (by omega)
theorem zlx (h:MkS B b mS mA vars sl sc ar s v w) (h0:0≤s.nodes) (h1:s.nodes≤4611686018427387904):Calls Tryz.prog 124 #[.pointer (some ⟨b,0,none⟩)] w fun e w'=>e= .returned (.int .i64 s.nodes)∧MkS B b mS mA vars sl sc ar s.node v w'∧Made b v v w w':=by
 have c2:=h.bk.cell 2
 have f2:=h.bk.frozen 2
 have hl:=h.bk.lt
 simp only[List.getElem?_toArray,List.getElem?_cons_succ,List.getElem?_cons_zero]at c2
 have HS:=hdq (h.set (s.nodes+1))
 obtain⟨n,hn⟩:=nmq s.nodes
 unfold FgS.node
 rw[←hn]at c2 h0 h1 HS ⊢
 clear h hn
 go_enter Tryz.func124,Tryz.ntmps124
 go_wp2_with fail
 go_ret
 exact⟨by simp,HS.out.1,HS.out.2⟩
end
end Go.Proofs.YtobegfbdedgmpaaGreatDoor

namespace Go.Proofs.YtobegfbdedgmpaaGreatDoor
open Go.RowKit Go.Shelf

theorem zoz:(Tryz.prog.info? 47).map (fun i=>(i.zero,i.size,i.bytes))=some (some (.agg #[.int .i64 0,.int .i64 0,.int .u8 0,.int .i64 0,.int .u8 0,.slice none 0 0,.int .i64 0]),7,72):=by kernel_rfl
def PutS (b g:Nat) (v:Value) (kind n cmp:Int) (sl:Value) (W':World):Prop:=b < W'.heap.size∧g < W'.heap.size∧W'.cell? ⟨b,5,none⟩=some v∧W'.cell? ⟨g,0,none⟩=some (.int .u8 kind)∧W'.cell? ⟨g,1,none⟩=some (.int .i64 n)∧W'.cell? ⟨g,2,none⟩=some (.int .u8 cmp)∧W'.cell? ⟨g,3,none⟩=some sl
theorem zly {B b mS mA:Nat} {vars:Int} {sl:Value} {sc ar:NoN} {s:FgS} {v:Value} {w:World} (h:MkS B b mS mA vars sl sc ar s v w) (r1:NoR sc) (r2:NoR ar) (from_ to_ at_ kind n cmp:Int) (hok:in64 from_∧in64 to_∧in8 kind∧in64 n∧in8 cmp∧in64 at_) (dsl:Value) (hd:dsl= .slice none 0 0) (xs:Exs) (S:Nat→Prop) (Z:Prop) (A:Option Addr) (c:Nat) (hS:∀x,S x→x < B) (hz:szQ xs) (hx:SlR (fun b o=>ExR w S Z xs b o) xs.len 64 A c) (hlen:(s.edges.length+1)*72≤140737488355328):
  Calls Tryz.prog 123 #[.pointer (some ⟨b,0,none⟩),.int .i64 from_,.int .i64 to_,.int .i64 at_,.agg #[.int .u8 kind,.int .i64 n,.int .u8 cmp,dsl],.slice A xs.len c] w
   fun e w'=>∃v',e= .returned (.tuple #[])∧MkS B b mS mA vars sl sc ar (s.put sc ar from_ to_ at_ kind n cmp xs) v' w'∧Made b v v' w w':=by
 subst hd
 obtain⟨W,hW⟩:=nmq (w.alloc (.cells #[.int .u8 kind,.int .i64 n,.int .u8 cmp,.slice none 0 0] 45))
 have hf:Fr NoT w W:=by rw[hW];exact(Fr.refl _ _).alloc _
 have hk:Bk W w.heap.size 45 #[.int .u8 kind,.int .i64 n,.int .u8 cmp,.slice none 0 0]:=by rw[hW];exact Bk.new w _ _
 have hc:=zfM sc ar r1 r2 xs hz W S Z A c b (h.fr0 hf).mkN (fun x hx=>Nat.lt_of_lt_of_le (Nat.lt_of_lt_of_le (hS x hx) h.base) hf.size) hz (hx.imp fun _ _ hx=>ExR.keep (hf.same fun x hx=>⟨Nat.lt_of_lt_of_le (hS x hx) h.base,id⟩) hx)
 obtain⟨l,hl⟩:=nmq xs.len
 rw[←hl]at hc ⊢
 obtain⟨i0,hi,hz0,hz1,hz2⟩:=info_parts zoz
 have HI:=hdq (And.intro hi (And.intro hz0 (And.intro hz1 hz2)))
 obtain⟨cs,hrow,hrows⟩:=h.row
 have HC:=hdq hc
 have HH:=hdq h
 have HROW:=hdq (And.intro hrow hrows)
 have HF:=hdq hf
 have HK:=hdq hk
 have HWE:=hdq hW
 have HOK:=hdq hok
 have HLEN:=hdq hlen
 have HX:=hdq (show(numX sc ar xs).len =l from by rw[hl,zeM])
 clear h r1 r2 hok hS hz hx hlen hW hf hk hc hl hi hz0 hz1 hz2 hrow hrows
 go_enter Tryz.func123,Tryz.ntmps123
 go_wp2_with fail
 rw[←HWE.out]
 refine HC.out.mono ?_
 rintro _ w2 ⟨A',c',rfl,hs2,hf2⟩
 rw[HX.out]
 have hk2:=HK.out.fr0 hf2
 have z3:=hk2.frozen 3
 have zl:=hk2.lt
 have c3:=hk2.cell 3
 simp only[List.getElem?_toArray,List.getElem?_cons_succ,List.getElem?_cons_zero]at c3
 obtain⟨w3,hw3⟩:=nmq (w2.setCell ⟨w.heap.size,3,none⟩ (.slice A' l c'))
 have hf23:Fr (fun i=>i=w.heap.size) w2 w3:=by rw[hw3];exact Fr.own (Fr.refl _ _) _ _
 have hf3:Fr NoT w w3:=by rw[hw3];exact Fr.high (HF.out.trans hf2) (Nat.le_refl _) _ _
 have hk3:Bk w3 w.heap.size 45 #[.int .u8 kind,.int .i64 n,.int .u8 cmp,.slice A' l c']:=by
  have:=hk2.set_ 3 (.slice A' l c')
  rw[hw3];simpa using this
 have h3:=HH.out.fr0 hf3
 have HS:Hid (∀W',Fr NoT w3 W'→PutS b w.heap.size v kind n cmp (.slice A' l c') W'):=
  hdq (fun W' hf=>⟨Nat.lt_of_lt_of_le h3.bk.lt hf.size,Nat.lt_of_lt_of_le hk3.lt hf.size,(h3.fr0 hf).bk.cell 5,(hk3.fr0 hf).cell 0,(hk3.fr0 hf).cell 1,(hk3.fr0 hf).cell 2,(hk3.fr0 hf).cell 3⟩)
 have HS2:=hdq (hs2.imp fun _ _ h=>ExR.more (T:=fun x=>w.heap.size≤x∧x < w3.heap.size) (fun b hb=>⟨by have h1:=hb.1;have:=HF.out.size;omega,by have h2:=hb.2;have:=hf23.size;omega⟩) (ExR.keep (hf23.same fun b hb=>⟨hb.2,fun e=>by have e:b=w.heap.size:=e;have h1:=hb.1;have:=HK.out.lt;omega⟩) h))
 have HF3:=hdq hf3
 have HW3:=hdq hw3
 have HH3:=hdq h3
 have HBL:=hdq (show b < w.heap.size from HH.out.bk.lt)
 clear hs2 hf2 hk2 hw3 hf23 hf3 hk3 h3 HC
 go_wp2_with fail
 rw[←HW3.out]
 refine zap (PutS b w.heap.size v kind n cmp (.slice A' l c')) (fun i=>decide (i < 13)) (by kernel_rfl) (HS.out _ ((Fr.refl NoT w3).drew)) (fun hHeld=>?_)
 refine zab 0 (v:=?_) rfl (by kernel_rfl) (fun _ _ _ h=>h) (by rfl) ?_ ?_;rotate_left
 ·intro wz;go_simp;try with_reducible rfl
 try simp only[Act.put,List.setIfInBounds_toArray,List.set_cons_zero,List.set_cons_succ]
 refine zab 1 (v:=?_) rfl (by kernel_rfl) (fun _ _ _ h=>h) (by rfl) ?_ ?_;rotate_left
 ·intro wz;go_simp;try with_reducible rfl
 try simp only[Act.put,List.setIfInBounds_toArray,List.set_cons_zero,List.set_cons_succ]
 refine zab 2 (v:=?_) rfl (by kernel_rfl) (fun _ _ _ h=>h) (by rfl) ?_ ?_;rotate_left
 ·intro wz;go_simp;try with_reducible rfl
 try simp only[Act.put,List.setIfInBounds_toArray,List.set_cons_zero,List.set_cons_succ]
 refine zab 3 (v:=?_) rfl (by kernel_rfl) (fun _ _ _ h=>h) (by rfl) ?_ ?_;rotate_left
 ·intro wz;go_simp;try with_reducible rfl
 try simp only[Act.put,List.setIfInBounds_toArray,List.set_cons_zero,List.set_cons_succ]
 refine zab 4 (v:=?_) rfl (by kernel_rfl) (fun _ _ _ h=>h) (by rfl) ?_ ?_;rotate_left
 ·intro wz;go_simp;try with_reducible rfl
 try simp only[Act.put,List.setIfInBounds_toArray,List.set_cons_zero,List.set_cons_succ]
 refine zak 5 (v:=?_) rfl (by kernel_rfl) (fun _ _ _ h=>h) hHeld (by rfl) ?_ ?_;rotate_left
 ·intro wz hSz;(try dsimp only[PutS]at hSz);go_simp;try with_reducible rfl
 try simp only[Act.put,List.setIfInBounds_toArray,List.set_cons_zero,List.set_cons_succ]
 refine zab 6 (v:=?_) rfl (by kernel_rfl) (fun _ _ _ h=>h) (by rfl) ?_ ?_;rotate_left
 ·intro wz;go_simp;try with_reducible rfl
 try simp only[Act.put,List.setIfInBounds_toArray,List.set_cons_zero,List.set_cons_succ]
 refine zab 7 (v:=?_) rfl (by kernel_rfl) (fun _ _ _ h=>h) (by rfl) ?_ ?_;rotate_left
 ·intro wz;go_simp;try with_reducible rfl
 try simp only[Act.put,List.setIfInBounds_toArray,List.set_cons_zero,List.set_cons_succ]
 refine zak 8 (v:=?_) rfl (by kernel_rfl) (fun _ _ _ h=>h) hHeld (by rfl) ?_ ?_;rotate_left
 ·intro wz hSz;(try dsimp only[PutS]at hSz);go_simp;try with_reducible rfl
 try simp only[Act.put,List.setIfInBounds_toArray,List.set_cons_zero,List.set_cons_succ]
 refine zab 9 (v:=?_) rfl (by kernel_rfl) (fun _ _ _ h=>h) (by rfl) ?_ ?_;rotate_left
 ·intro wz;go_simp;try with_reducible rfl
 try simp only[Act.put,List.setIfInBounds_toArray,List.set_cons_zero,List.set_cons_succ]
 refine zab 10 (v:=?_) rfl (by kernel_rfl) (fun _ _ _ h=>h) (by rfl) ?_ ?_;rotate_left
 ·intro wz;go_simp;try with_reducible rfl
 try simp only[Act.put,List.setIfInBounds_toArray,List.set_cons_zero,List.set_cons_succ]
 refine zac 11 rfl (by kernel_rfl) (fun KK hK=>?_)
 go_simp
 obtain⟨w8,hw8⟩:=nmq ((w3.alloc (.cells #[.int .i64 from_,.int .i64 to_,.int .u8 kind,.int .i64 n,.int .u8 cmp,.slice A' l c',.int .i64 at_] 47)).drew )
 rw[←hw8]
 have hf8:Fr NoT w3 w8:=by rw[hw8];exact((Fr.refl _ _).alloc _).drew
 have hk8:Bk w8 w3.heap.size 47 ([.int .i64 from_,.int .i64 to_,.int .u8 kind,.int .i64 n,.int .u8 cmp,.slice A' l c',.int .i64 at_]:List Value).toArray :=by rw[hw8];exact(Bk.new _ _ _).fr0 ((Fr.refl _ _).drew)
 have hs8:=HS.out w8 hf8
 have HF8:=hdq hf8
 have HK8:=hdq hk8
 have HROW8:=hdq (zbk HROW.out.1 (HF3.out.trans hf8))
 have hb8:b+1≤w8.heap.size:=by have:=HBL.out;have:=(HF3.out.trans hf8).size;omega
 clear hw8 hf8 hk8 hHeld
 try dsimp only
 refine hK _ _ (fun _ _=>hs8) ?_
 clear hK KK
 try simp only[Act.put,List.setIfInBounds_toArray,List.set_cons_zero,List.set_cons_succ]
 refine zac 12 rfl (by kernel_rfl) (fun KK hK=>?_)
 refine step_append_lies _ (by rfl) _ _ _ (by rfl) (b+1) 47 i0 (.agg #[.int .i64 0,.int .i64 0,.int .u8 0,.int .i64 0,.int .u8 0,.slice none 0 0,.int .i64 0]) 7 72 Tryz.underlying38 HI.out.1 HI.out.2.1 HI.out.2.2.1 HI.out.2.2.2 rfl (by decide) v s.edges.length cs (by rfl) HROW8.out
  ⟨w3.heap.size,0,none⟩ 1 1 _ (by rfl) (by rfl) HK8.out.newsL (by simp[Value.oneCell']) (by omega) ?c63 HLEN.out hb8 _ rfl ?_
 case c63=>have:=HLEN.out;unfold maxLen;omega
 intro gg cap w9 hown hgrow hsp hlt9
 have hvn:(Value.slice (some ⟨gg,0,none⟩) (s.edges.length+1) cap).ownBlock =v.ownBlock∨(Value.slice (some ⟨gg,0,none⟩) (s.edges.length+1) cap).ownBlock =some w8.heap.size:=by
  rcases hsp with e|e
  ·exact .inl e.symm
  ·exact .inr (by rw[e];rfl)
 have hpush:=HH.out.push (e:=⟨from_,to_,kind,n,cmp,numX sc ar xs,at_⟩) HROW.out.1 HROW.out.2 (HF3.out.trans HF8.out) ⟨A',c',by rw[HX.out],HOK.out,by
  rw[HX.out]
  have hh:=HS2.out
  rw[HX.out]at hh
  exact hh.imp fun _ _ h=>ExR.more (fun x hx=>⟨hx.1,Nat.lt_of_lt_of_le hx.2 HF8.out.size⟩) (ExR.keep (HF8.out.same fun x hx=>⟨hx.2,id⟩) h)⟩ hown hgrow hvn
 have hne:some b≠v.ownBlock:=fun e=>HH.out.ne.2.2.1 e.symm
 have hng:some w.heap.size≠v.ownBlock:=fun e=>by
  have:=(HROW.out.1.lt _ e.symm).2
  omega
 have h8:=HH.out.fr0 (HF3.out.trans HF8.out)
 have f9:=(hgrow.frozen_far ⟨b,5,none⟩ h8.bk.lt hne).trans (h8.bk.frozen 5)
 have q9:=(hgrow.cell_far ⟨b,5,none⟩ h8.bk.lt hne).trans hs8.2.2.1
 have l9:b < w9.heap.size:=Nat.lt_of_lt_of_le h8.bk.lt hgrow.size
 have hs9:PutS b w.heap.size v kind n cmp (.slice A' l c') w9:=⟨l9,Nat.lt_of_lt_of_le hs8.2.1 hgrow.size,q9,(hgrow.cell_far ⟨w.heap.size,0,none⟩ hs8.2.1 hng).trans hs8.2.2.2.1,(hgrow.cell_far ⟨w.heap.size,1,none⟩ hs8.2.1 hng).trans hs8.2.2.2.2.1,(hgrow.cell_far ⟨w.heap.size,2,none⟩ hs8.2.1 hng).trans hs8.2.2.2.2.2.1,(hgrow.cell_far ⟨w.heap.size,3,none⟩ hs8.2.1 hng).trans hs8.2.2.2.2.2.2⟩
 have HPU:=hdq hpush
 clear hvn hown hgrow hsp h8 hpush hne hng hs8 hb8
 try dsimp only
 refine hK _ _ (fun _ _=>hs9) ?_
 clear hK KK
 try simp only[Act.put,List.setIfInBounds_toArray,List.set_cons_zero,List.set_cons_succ]
 refine zac 13 rfl (by kernel_rfl) (fun KK hK=>?_)
 go_simp
 refine hK _ _ (fun h=>absurd h (by decide)) ?_
 clear hK KK
 try simp only[Act.put,List.setIfInBounds_toArray,List.set_cons_zero,List.set_cons_succ]
 refine zac 14 rfl (by kernel_rfl) (fun KK hK=>?_)
 go_simp
 refine hK _ _ (fun h=>absurd h (by decide)) ?_
 clear hK KK
 try simp only[Act.put,List.setIfInBounds_toArray,List.set_cons_zero,List.set_cons_succ]
 refine zac 15 rfl (by kernel_rfl) (fun KK hK=>?_)
 go_simp
 refine hK _ _ (fun h=>absurd h (by decide)) ?_
 clear hK KK
 try simp only[Act.put,List.setIfInBounds_toArray,List.set_cons_zero,List.set_cons_succ]
 refine zac 16 rfl (by kernel_rfl) (fun KK hK=>?_)
 go_simp
 refine hK _ _ (fun h=>absurd h (by decide)) ?_
 clear hK KK
 try simp only[Act.put,List.setIfInBounds_toArray,List.set_cons_zero,List.set_cons_succ]
 refine zaQ (by kernel_rfl) ?_
 go_wp2_with fail
 go_end0
 exact⟨_,rfl,HPU.out.1,HPU.out.2⟩

open Go.RowKit

section
variable {P:Program} {Q:Exit→Act→World→Prop} {md:Region.Mode} {S:World→Prop} {n:Nat→Bool} {ops:Array Oper}
theorem m4 {b c d e:Bool} {m:Nat} (h:(if b then 0 else 1)+(if c then 0 else 1)+(if d then 0 else 1)+(if e then 0 else 1)=m+1):(b&&c&&d&&e)=false:=by
 cases b<;>cases c<;>cases d<;>cases e<;>simp at h ⊢
def zei (md:Region.Mode) (ops:Array Oper):Nat→Nat→Nat→Bool
 |0,j,i=>Region.waitsFor md ops j i
 |f+1,j,i=>Region.waitsFor md ops j i || (List.range ops.size).any fun k=>Region.waitsFor md ops j k&&zei md ops f k i
theorem zgA {listed:Array Bool} (hc:ClosedL md ops listed):∀(f j i:Nat) (oj:Oper),ops[j]?=some oj→(∀e∈oj.after,Region.binds md e=true→listed.getD e.on false=true)→zei md ops f j i=true→listed.getD i false=true:=by
 have h0:∀(j i:Nat) (oj:Oper),ops[j]?=some oj→(∀e∈oj.after,Region.binds md e=true→listed.getD e.on false=true)→Region.waitsFor md ops j i=true→listed.getD i false=true:=fun j i oj hoj hall h=>by
  obtain⟨oj',hoj',e,he,hb,hon⟩:=Region.waitsFor_spec h
  rw[hoj]at hoj'
  cases hoj'
  exact hon▸hall e he hb
 intro f
 induction f with
 |zero=>exact h0
 |succ f ih=>
  intro j i oj hoj hall h
  simp only[zei,Bool.or_eq_true,List.any_eq_true,Bool.and_eq_true]at h
  rcases h with h|⟨k,_,hjk,hki⟩
  ·exact h0 j i oj hoj hall h
  ·have hk:=h0 j k oj hoj hall hjk
   cases hok:ops[k]? with
   |none=>
    exfalso
    cases f with
    |zero=>simp[zei,Region.waitsFor,hok]at hki
    |succ f=>
     have:∀x,Region.waitsFor md ops k x=false:=fun x=>by simp[Region.waitsFor,hok]
     simp[zei,this]at hki
   |some ok=>exact ih k i ok hok (fun e he hb=>hc k ok hok hk e he hb) hki
def znf (md:Region.Mode) (ops:Array Oper) (n:Nat→Bool) (i:Nat):Bool:=(List.range ops.size).all fun j=>n j || j==i || zei md ops 5 j i
theorem zid {i j:Nat} {listed:Array Bool} (h:znf md ops n i=true) (hc:ClosedL md ops listed) (hi:listed.getD i true=false) (hj:j∈Region.ready md ops listed) (hne:j≠i):n j=true:=by
 obtain⟨_,oj,hoj,hall⟩:=mem_ready.1 hj
 have hi':listed.getD i false≠true:=fun e=>by
  rcases Nat.lt_or_ge i listed.size with h'|h'
  ·simp[h']at hi e;rw[hi]at e;simp at e
  ·simp[Array.getElem?_eq_none h']at hi
 have h1:=List.all_eq_true.1 h j (List.mem_range.2 (Array.getElem?_eq_some_iff.1 hoj).1)
 simp only[Bool.or_eq_true,beq_iff_eq]at h1
 rcases h1 with(h1|h1)|h1
 ·exact h1
 ·exact absurd h1 hne
 ·exact absurd (zgA hc 5 j i oj hoj hall h1) hi'
theorem zie {i:Nat} {oi:Oper} {v:Value} (hi:ops[i]?=some oi) (hs:Region.noSelect ops=true) (hQ:∀c a w,Q (.panic c) (a.put oi.dst v) w→Q (.panic c) a w) (hl:znf md ops n i=true):
  ∀(f:Nat) (listed:Array Bool) (a:Act) (w:World),ClosedL md ops listed→(∀j oj,ops[j]?=some oj→j≠i→listed.getD j true=false→(∀e∈oj.after,Region.binds md e=true→e.on≠i)→oi.apart ops oj=true)→
   i∈Region.ready md ops listed→YieldsIf P ops S oi v a→S w→wpE P md ops Q S n f (listed.setIfInBounds i true) (a.put oi.dst v) w→wpE P md ops Q S n (f+1) listed a w:=by
 intro f
 induction f with
 |zero=>
  intro listed a w hcl hfree hr hy hS H
  refine⟨fun h=>by rw[h]at hr;simp at hr,fun j hj=>?_⟩
  by_cases hji:j=i
  ·subst hji
   exact hy.wpOp hi hS ⟨fun _ h=>h,H⟩
  ·have h1:=ready_mono hj hji
   rw[H.1]at h1
   simp at h1
 |succ f ih=>
  intro listed a w hcl hfree hr hy hS H
  refine⟨fun h=>by rw[h]at hr;simp at hr,fun j hj=>?_⟩
  by_cases hji:j=i
  ·subst hji
   exact hy.wpOp hi hS ⟨fun _ h=>h,H⟩
  ·have h1:=H.2 j (ready_mono hj hji)
   obtain⟨hun,oj,hoj,hall⟩:=mem_ready.1 hj
   have hno:∀e∈oj.after,Region.binds md e=true→e.on≠i:=fun e he hb heq=>by
    have g1:=hall e he hb
    have g0:=(mem_ready.1 hr).1
    rw[heq]at g1
    rcases Nat.lt_or_ge i listed.size with h'|h'
    ·simp[h']at g0 g1;rw[g0]at g1;simp at g1
    ·simp[Array.getElem?_eq_none h']at g1
   have hjn:=zid hl hcl (mem_ready.1 hr).1 hj hji
   have hsel:=Region.noSelect_spec hs
   have h2:=wpOp_putIf hoj (hfree j oj hoj hji hun hno) (fun cs b=>hsel i oi cs b hi) (fun cs b=>hsel j oj cs b hoj) hQ hy h1
   refine wpOp_mono (fun a' w' h3=>⟨h3.2.1,ih (listed.setIfInBounds j true) a' w' (hcl.set hj) (fun k ok hk hki hku hkn=>?_) (ready_mono hr (Ne.symm hji)) h3.1 (h3.2.1 hjn hS) ?_⟩) h2
   ·refine hfree k ok hk hki ?_ hkn
    by_cases hjk:j=k
    ·subst hjk;exact hun
    ·rwa [getD_set_ne true hjk]at hku
   ·rw[Array.setIfInBounds_comm _ _ hji]
    exact h3.2.2
theorem zbV {l:List Oper} (i:Nat) {oi:Oper} {r:List Oper} {v:Value} {f:Nat} {listed:Array Bool} {a:Act} {w:World} (hi:l.drop i=oi::r) (hs:(Region.noSelect l.toArray&&Region.free md l.toArray listed i&&(Region.ready md l.toArray listed).contains i&&znf md l.toArray n i&&zgx md l.toArray listed)=true)
  (hQ:∀c a w,Q (.panic c) (a.put oi.dst v) w→Q (.panic c) a w) (hS:S w) (hw:Region.wanted oi (yielded l.toArray a.tmps)=true) (hy:∀w,S w→(execOp a.eval oi).run P w= .ok (.value v) w)
  (h:wpE P md l.toArray Q S n f (listed.setIfInBounds i true) (a.put oi.dst v) w):wpE P md l.toArray Q S n (f+1) listed a w:=by
 simp only[Bool.and_eq_true]at hs
 exact zie (zbc hi) hs.1.1.1.1 hQ hs.1.2 f listed a w (zc1 hs.2) (Region.free_spec (zbc hi) hs.1.1.1.2) (by simpa using hs.1.1.2) (.inl ⟨hw,hy⟩) hS h
end
end Go.Proofs.YtobegfbdedgmpaaGreatDoor

namespace Go.Proofs.YtobegfbdedgmpaaGreatDoor
open Go.RowKit Go.Shelf

structure FgC where
 B:Nat
 b:Nat
 mS:Nat
 mA:Nat
 vars:Int
 sl:Value
 sc:NoN
 ar:NoN
 r1:NoR sc
 r2:NoR ar
def FgC.At (C:FgC) (s:FgS) (v:Value) (w:World):Prop:=MkS C.B C.b C.mS C.mA C.vars C.sl C.sc C.ar s v w
theorem FgC.At.fr0 {C:FgC} {s:FgS} {v:Value} {w w':World} (h:C.At s v w) (hf:Fr NoT w w'):C.At s v w':=MkS.fr0 h hf
def FgC.put (C:FgC) (s:FgS) (from_ to_ at_ kind n cmp:Int) (args:Exs):FgS:=s.put C.sc C.ar from_ to_ at_ kind n cmp args
def MkP (C:FgC) (s:FgS) (u:Value) (W:World) (e:Ending) (w':World):Prop:=∃u',e= .returned (.tuple #[])∧C.At s u' w'∧Made C.b u u' W w'
def FgK (B lo hi x:Nat):Prop:=x < B∨(lo≤x∧x < hi)
def Off (K:Nat→Prop) (b:Nat) (v:Value):Prop:=∀x,K x→¬MOwn b v x
def Room (N:Nat) (s:FgS):Prop:=0≤s.nodes∧s.nodes+N≤1000000000000∧s.edges.length+N≤1000000000000
def Grow (N:Nat) (s s':FgS):Prop:=s.nodes≤s'.nodes∧s'.nodes≤s.nodes+N∧s'.edges.length≤s.edges.length+N
section
variable {N M:Nat} {s s1 s2:FgS}
theorem Grow.trans (h:Grow N s s1) (k:Grow M s1 s2):Grow (N+M) s s2:=by
 unfold Grow at*
 obtain⟨h1,h2,h3⟩:=h
 obtain⟨k1,k2,k3⟩:=k
 refine⟨?_,?_,?_⟩
 ·omega
 ·push_cast;omega
 ·omega
theorem Grow.mono (h:Grow N s s1) (hn:N≤M):Grow M s s1:=by
 unfold Grow at*
 obtain⟨h1,h2,h3⟩:=h
 refine⟨h1,?_,?_⟩<;>omega
theorem Room.less (h:Room M s) (hn:N≤M):Room N s:=by
 unfold Room at*
 obtain⟨h1,h2,h3⟩:=h
 refine⟨h1,?_,?_⟩<;>omega
theorem Room.after (h:Room (N+M) s) (g:Grow N s s1):Room M s1:=by
 unfold Room Grow at*
 obtain⟨h1,h2,h3⟩:=h
 obtain⟨g1,g2,g3⟩:=g
 push_cast at h2
 refine⟨?_,?_,?_⟩<;>omega
theorem Room.in_ (h:Room N s):in64 s.nodes:=by
 unfold Room at h
 unfold in64
 obtain⟨h1,h2,h3⟩:=h
 constructor<;>omega
theorem zcE (C:FgC) (s:FgS) (a b c d e f:Int) (xs:Exs):Grow 1 s (C.put s a b c d e f xs):=by
 unfold Grow FgC.put FgS.put
 refine⟨?_,?_,?_⟩<;>simp
 omega
theorem zaw (s:FgS):Grow 1 s s.node:=by
 unfold Grow FgS.node
 refine⟨?_,?_,?_⟩<;>simp
 omega
end
def WayP (C:FgC) (K:Nat→Prop) (val:Value) (c:Way) (N:Nat) (w:World):Prop:=
 ∃g caps,val= .func (.func g) #[] caps∧Enters Tryz.prog g∧(∀f y n s,Grow N s (c f y n s))∧
  ∀(W:World) (s:FgS) (u:Value),SameS K w W→w.heap.size≤W.heap.size→C.At s u W→Off K C.b u→Room N s→∀f y n,in64 f→in64 y→in64 n→
   Calls Tryz.prog g (#[.int .i64 f,.int .i64 y,.int .i64 n]++caps) W (MkP C (c f y n s) u W)
section
variable {C:FgC} {K L:Nat→Prop} {val:Value} {c:Way} {N M:Nat} {w w':World} {s s':FgS} {u u':Value}
theorem WayP.more (h:WayP C K val c N w) (hk:∀x,K x→L x) (hn:N≤M):WayP C L val c M w:=by
 obtain⟨g,caps,h1,h2,h3,h4⟩:=h
 exact⟨g,caps,h1,h2,fun f y n s=>(h3 f y n s).mono hn,fun W s u a1 a0 a2 a3 a4=>h4 W s u (a1.mono hk) a0 a2 (fun x hx=>a3 x (hk x hx)) (a4.less hn)⟩
theorem zlz (hm:Made C.b u u' w w') (ho:Off K C.b u) (hk:∀x,K x→x < w.heap.size):SameS K w w'∧Off K C.b u':=by
 refine⟨hm.fr.same fun x hx=>⟨hk x hx,ho x hx⟩,fun x hx=>?_⟩
 rintro(e|e)
 ·exact ho x hx (.inl e)
 ·rcases hm.row x e with e2|e2
  ·exact ho x hx (.inr e2)
  ·have:=hk x hx;omega
theorem zhc (h:C.At s u w) (from_ to_ at_ kind n cmp:Int) (hok:in64 from_∧in64 to_∧in8 kind∧in64 n∧in8 cmp∧in64 at_) (xs:Exs) (S:Nat→Prop) (Z:Prop) (A:Option Addr) (c:Nat) (hS:∀x,S x→x < C.B) (hz:szQ xs) (hx:SlR (fun b o=>ExR w S Z xs b o) xs.len 64 A c) (hr:Room 1 s):
  Calls Tryz.prog 123 #[.pointer (some ⟨C.b,0,none⟩),.int .i64 from_,.int .i64 to_,.int .i64 at_,.agg #[.int .u8 kind,.int .i64 n,.int .u8 cmp,.slice none 0 0],.slice A xs.len c] w (MkP C (C.put s from_ to_ at_ kind n cmp xs) u w):=
 zly h C.r1 C.r2 from_ to_ at_ kind n cmp hok _ rfl xs S Z A c hS hz hx (by obtain⟨_,_,h3⟩:=hr;omega)
theorem zjW (h:C.At s u w) (from_ to_ at_ kind n cmp:Int) (hok:in64 from_∧in64 to_∧in8 kind∧in64 n∧in8 cmp∧in64 at_) (hr:Room 1 s):
  Calls Tryz.prog 123 #[.pointer (some ⟨C.b,0,none⟩),.int .i64 from_,.int .i64 to_,.int .i64 at_,.agg #[.int .u8 kind,.int .i64 n,.int .u8 cmp,.slice none 0 0],.slice none 0 0] w (MkP C (C.put s from_ to_ at_ kind n cmp .nil) u w):=
 zhc h from_ to_ at_ kind n cmp hok .nil (fun _=>False) False none 0 (fun _ h=>h.elim) trivial ⟨Nat.le_refl _,by decide,fun h=>absurd h (Nat.lt_irrefl _)⟩ hr
theorem zjX (h:C.At s u w) (hr:Room 1 s):Calls Tryz.prog 124 #[.pointer (some ⟨C.b,0,none⟩)] w fun e w'=>e= .returned (.int .i64 s.nodes)∧C.At s.node u w'∧Made C.b u u w w':=
 zlx h hr.1 (by obtain⟨h1,h2,_⟩:=hr;omega)
end
theorem zcd (k:Int) (h0:0≤k) (h1:k≤255):in8 k:=⟨h0,by omega⟩
theorem zdE (k:Int) (h0:0≤k) (h1:k≤255):in64 k:=⟨by omega,by omega⟩
structure Boxes (C:FgC) (K:Nat→Prop) (p q:Nat) (at_:Int) (w:World):Prop where
 kp:K p
 kq:K q
 ptr:w.cell? ⟨p,0,none⟩=some (.pointer (some ⟨C.b,0,none⟩))
 atc:w.cell? ⟨q,3,none⟩=some (.int .i64 at_)
 in_:in64 at_
section
variable {C:FgC} {K:Nat→Prop} {p q:Nat} {at_:Int} {w:World}
theorem zif {b:Nat} {W:World} {p q:Nat} {at_ f y n:Int} {R:Ending→World→Prop} (c0:W.cell? ⟨p,0,none⟩=some (.pointer (some ⟨b,0,none⟩))) (c3:W.cell? ⟨q,3,none⟩=some (.int .i64 at_))
  (hc:Calls Tryz.prog 123 #[.pointer (some ⟨b,0,none⟩),.int .i64 f,.int .i64 y,.int .i64 at_,.agg #[.int .u8 1,.int .i64 0,.int .u8 0,.slice none 0 0],.slice none 0 0] W R) (hR:∀e w',R e w'→e= .returned (.tuple #[])):
  Calls Tryz.prog 242 #[.int .i64 f,.int .i64 y,.int .i64 n,.pointer (some ⟨p,0,none⟩),.pointer (some ⟨q,0,none⟩)] W R:=by
 have HC:=hdq hc
 have HR:=hdq hR
 clear hc hR
 go_enter Tryz.func242,Tryz.ntmps242
 go_wp2_with fail
 refine HC.out.mono ?_
 intro e w2 h2
 obtain rfl:=HR.out _ _ h2
 have H2:=hdq h2
 clear h2
 go_wp2_with fail
 go_end0
 exact H2.out
theorem way_1 (hb:Boxes C K p q at_ w) (hent:Enters Tryz.prog 242):WayP C K (.func (.func 242) #[] #[.pointer (some ⟨p,0,none⟩),.pointer (some ⟨q,0,none⟩)]) (fun f y n s=>C.put s f y at_ 1 0 0 .nil) 1 w:=
 ⟨_,_,rfl,hent,fun f y n s=>zcE C s _ _ _ _ _ _ _,fun W s u hs hl h ho hr f y n hf hy hn=>
  zif (((hs ⟨p,0,none⟩ hb.kp).1).trans hb.ptr) (((hs ⟨q,3,none⟩ hb.kq).1).trans hb.atc) (zjW h f y at_ 1 0 0 ⟨hf,hy,zcd 1 (by decide) (by decide),zdE 0 (by decide) (by decide),zcd 0 (by decide) (by decide),hb.in_⟩ hr) fun e w' h=>h.choose_spec.1⟩
theorem zig {b:Nat} {W:World} {p q:Nat} {at_ f y n:Int} {R:Ending→World→Prop} (c0:W.cell? ⟨p,0,none⟩=some (.pointer (some ⟨b,0,none⟩))) (c3:W.cell? ⟨q,3,none⟩=some (.int .i64 at_))
  (hc:Calls Tryz.prog 123 #[.pointer (some ⟨b,0,none⟩),.int .i64 f,.int .i64 n,.int .i64 at_,.agg #[.int .u8 1,.int .i64 0,.int .u8 0,.slice none 0 0],.slice none 0 0] W R) (hR:∀e w',R e w'→e= .returned (.tuple #[])):
  Calls Tryz.prog 243 #[.int .i64 f,.int .i64 y,.int .i64 n,.pointer (some ⟨p,0,none⟩),.pointer (some ⟨q,0,none⟩)] W R:=by
 have HC:=hdq hc
 have HR:=hdq hR
 clear hc hR
 go_enter Tryz.func243,Tryz.ntmps243
 go_wp2_with fail
 refine HC.out.mono ?_
 intro e w2 h2
 obtain rfl:=HR.out _ _ h2
 have H2:=hdq h2
 clear h2
 go_wp2_with fail
 go_end0
 exact H2.out
theorem way_2 (hb:Boxes C K p q at_ w) (hent:Enters Tryz.prog 243):WayP C K (.func (.func 243) #[] #[.pointer (some ⟨p,0,none⟩),.pointer (some ⟨q,0,none⟩)]) (fun f y n s=>C.put s f n at_ 1 0 0 .nil) 1 w:=
 ⟨_,_,rfl,hent,fun f y n s=>zcE C s _ _ _ _ _ _ _,fun W s u hs hl h ho hr f y n hf hy hn=>
  zig (((hs ⟨p,0,none⟩ hb.kp).1).trans hb.ptr) (((hs ⟨q,3,none⟩ hb.kq).1).trans hb.atc) (zjW h f n at_ 1 0 0 ⟨hf,hn,zcd 1 (by decide) (by decide),zdE 0 (by decide) (by decide),zcd 0 (by decide) (by decide),hb.in_⟩ hr) fun e w' h=>h.choose_spec.1⟩
end
theorem zoA (k:Int) (h1:3≤k) (h2:k≤8) (w:World):(Instr.index 287 (.agg #[.int .u8 0,.int .u8 0,.int .u8 0,.int .u8 6,.int .u8 5,.int .u8 4,.int .u8 3,.int .u8 8,.int .u8 7]) (.int .u8 k)).run Tryz.prog w= .ok (.int .u8 (oppK k)) w:=by
 rcases(show k=3∨k=4∨k=5∨k=6∨k=7∨k=8 from by omega)with rfl|rfl|rfl|rfl|rfl|rfl<;>kernel_rfl
theorem zlA (k:Int) (h1:3≤k) (h2:k≤8) (w:World):Calls Tryz.prog 143 #[.int .u8 k] w fun e w'=>e= .returned (.int .u8 (oppK k))∧w=w':=by
 have hix:=zoA k h1 h2
 obtain⟨ko,hko⟩:=nmq (oppK k)
 rw[←hko]at hix ⊢
 clear h1 h2 hko
 go_enter Tryz.func143,Tryz.ntmps143
 go_wp2_with fail
 go_ret
 exact⟨rfl,rfl⟩
section
variable {C:FgC} {K:Nat→Prop} {p q:Nat} {at_:Int} {w:World}
def Way5 (b p q:Nat) (k at_:Int) (sl:Value) (W:World):Prop:=W.cell? ⟨p,0,none⟩=some (.pointer (some ⟨b,0,none⟩))∧W.cell? ⟨q,0,none⟩=some (.int .u8 k)∧W.cell? ⟨q,1,none⟩=some sl∧W.cell? ⟨q,3,none⟩=some (.int .i64 at_)
theorem zih {b p q:Nat} {k at_ f y n:Int} {W:World} {sl:Value} {N1:World→Prop} {R:Ending→World→Prop} (h1:3≤k) (h2:k≤8) (hw:Way5 b p q k at_ sl W)
  (hc:Calls Tryz.prog 123 #[.pointer (some ⟨b,0,none⟩),.int .i64 f,.int .i64 y,.int .i64 at_,.agg #[.int .u8 6,.int .i64 0,.int .u8 k,.slice none 0 0],sl] W fun e w'=>e= .returned (.tuple #[])∧N1 w')
  (hk:∀w',N1 w'→Way5 b p q k at_ sl w'∧∀w2,Fr NoT w' w2→Way5 b p q k at_ sl w2∧Calls Tryz.prog 123 #[.pointer (some ⟨b,0,none⟩),.int .i64 f,.int .i64 n,.int .i64 at_,.agg #[.int .u8 6,.int .i64 0,.int .u8 (oppK k),.slice none 0 0],sl] w2 R) (hR:∀e w',R e w'→e= .returned (.tuple #[])):
  Calls Tryz.prog 246 #[.int .i64 f,.int .i64 y,.int .i64 n,.pointer (some ⟨p,0,none⟩),.pointer (some ⟨q,0,none⟩)] W R:=by
 have HO:=hdq (zlA k h1 h2)
 obtain⟨c0,q0,q1,q3⟩:=hw
 obtain⟨ko,hko⟩:=nmq (oppK k)
 rw[←hko]at HO hk
 have HC:=hdq hc
 have HK:=hdq hk
 have HR:=hdq hR
 clear hc hk hR h1 h2 hko
 go_enter Tryz.func246,Tryz.ntmps246
 go_wp2_with fail
 refine HC.out.mono ?_
 rintro _ w2 ⟨rfl,n1⟩
 obtain⟨hw2,hc2⟩:=HK.out _ n1
 have HC2:=hdq hc2
 clear hc2 n1 HK HC c0 q0 q1 q3
 go_wp2_with fail
 refine zap (Way5 b p q k at_ sl) (fun i=>decide (i < 11)) (by kernel_rfl) (HC2.out _ ((Fr.refl NoT w2).drew)).1 (fun hHeld=>?_)
 refine zab 1 (v:=?_) rfl (by kernel_rfl) (fun _ _ _ h=>h) (by rfl) ?_ ?_;rotate_left
 ·intro wz;go_simp;try with_reducible rfl
 try simp only[Act.put,List.setIfInBounds_toArray,List.set_cons_zero,List.set_cons_succ]
 refine zab 2 (v:=?_) rfl (by kernel_rfl) (fun _ _ _ h=>h) (by rfl) ?_ ?_;rotate_left
 ·intro wz;go_simp;try with_reducible rfl
 try simp only[Act.put,List.setIfInBounds_toArray,List.set_cons_zero,List.set_cons_succ]
 refine zab 3 (v:=?_) rfl (by kernel_rfl) (fun _ _ _ h=>h) (by rfl) ?_ ?_;rotate_left
 ·intro wz;go_simp;try with_reducible rfl
 try simp only[Act.put,List.setIfInBounds_toArray,List.set_cons_zero,List.set_cons_succ]
 refine zab 5 (v:=?_) rfl (by kernel_rfl) (fun _ _ _ h=>h) (by rfl) ?_ ?_;rotate_left
 ·intro wz;go_simp;try with_reducible rfl
 try simp only[Act.put,List.setIfInBounds_toArray,List.set_cons_zero,List.set_cons_succ]
 refine zab 9 (v:=?_) rfl (by kernel_rfl) (fun _ _ _ h=>h) (by rfl) ?_ ?_;rotate_left
 ·intro wz;go_simp;try with_reducible rfl
 try simp only[Act.put,List.setIfInBounds_toArray,List.set_cons_zero,List.set_cons_succ]
 refine zak 0 (v:=?_) rfl (by kernel_rfl) (fun _ _ _ h=>h) hHeld (by rfl) ?_ ?_;rotate_left
 ·intro wz hSz;(try dsimp only[Way5]at hSz);go_simp;try with_reducible rfl
 try simp only[Act.put,List.setIfInBounds_toArray,List.set_cons_zero,List.set_cons_succ]
 refine zak 4 (v:=?_) rfl (by kernel_rfl) (fun _ _ _ h=>h) hHeld (by rfl) ?_ ?_;rotate_left
 ·intro wz hSz;(try dsimp only[Way5]at hSz);go_simp;try with_reducible rfl
 try simp only[Act.put,List.setIfInBounds_toArray,List.set_cons_zero,List.set_cons_succ]
 refine zak 6 (v:=?_) rfl (by kernel_rfl) (fun _ _ _ h=>h) hHeld (by rfl) ?_ ?_;rotate_left
 ·intro wz hSz;(try dsimp only[Way5]at hSz);go_simp;try with_reducible rfl
 try simp only[Act.put,List.setIfInBounds_toArray,List.set_cons_zero,List.set_cons_succ]
 refine zak 10 (v:=?_) rfl (by kernel_rfl) (fun _ _ _ h=>h) hHeld (by rfl) ?_ ?_;rotate_left
 ·intro wz hSz;(try dsimp only[Way5]at hSz);go_simp;try with_reducible rfl
 try simp only[Act.put,List.setIfInBounds_toArray,List.set_cons_zero,List.set_cons_succ]
 refine zac 7 rfl (by kernel_rfl) (fun KK hK=>?_)
 go_simp
 go_at_call 143
 refine(HO.out _).mono ?_
 rintro _ w3 ⟨rfl,rfl⟩
 try dsimp only
 refine hK _ _ (fun _ h=>h) ?_
 clear hK KK
 try simp only[Act.put,List.setIfInBounds_toArray,List.set_cons_zero,List.set_cons_succ]
 refine zab 8 (v:=?_) rfl (by kernel_rfl) (fun _ _ _ h=>h) (by rfl) ?_ ?_;rotate_left
 ·intro wz;go_simp;try with_reducible rfl
 try simp only[Act.put,List.setIfInBounds_toArray,List.set_cons_zero,List.set_cons_succ]
 refine zac 11 rfl (by kernel_rfl) (fun KK hK=>?_)
 go_simp
 go_at_call 123
 refine((HC2.out _ ((Fr.refl NoT w2).drew)).2).mono ?_
 intro e w4 h4
 obtain rfl:=HR.out _ _ h4
 have H4:=hdq h4
 clear h4
 try dsimp only
 refine hK _ _ (fun h=>absurd h (by decide)) ?_
 clear hK KK
 try simp only[Act.put,List.setIfInBounds_toArray,List.set_cons_zero,List.set_cons_succ]
 refine zaQ (by kernel_rfl) ?_
 go_wp2_with fail
 go_end0
 exact H4.out
theorem zoB (k:Int) (h1:3≤k) (h2:k≤8):in8 (oppK k):=by
 rcases(show k=3∨k=4∨k=5∨k=6∨k=7∨k=8 from by omega)with rfl|rfl|rfl|rfl|rfl|rfl<;>exact zcd _ (by decide) (by decide)
theorem way_5 {k:Int} {args:Exs} {S:Nat→Prop} {Z:Prop} {A:Option Addr} {c:Nat} (hb:Boxes C K p q at_ w) (hq:w.cell? ⟨q,0,none⟩=some (.int .u8 k)) (ha:w.cell? ⟨q,1,none⟩=some (.slice A args.len c)) (h1:3≤k) (h2:k≤8) (hKl:∀x,K x→x < w.heap.size) (hS:∀x,S x→K x∧x < C.B) (hz:szQ args) (hx:SlR (fun b o=>ExR w S Z args b o) args.len 64 A c) (hent:Enters Tryz.prog 246):
  WayP C K (.func (.func 246) #[] #[.pointer (some ⟨p,0,none⟩),.pointer (some ⟨q,0,none⟩)]) (fun f y n s=>C.put (C.put s f y at_ 6 0 k args) f n at_ 6 0 (oppK k) args) 2 w:=by
 refine⟨_,_,rfl,hent,fun f y n s=>(zcE C s _ _ _ _ _ _ _).trans (zcE C _ _ _ _ _ _ _ _),fun W s u hs hl h ho hr f y n hf hy hn=>?_⟩
 have hKW:∀x,K x→x < W.heap.size:=fun x hx=>Nat.lt_of_lt_of_le (hKl x hx) hl
 have hk8:in8 k:=zcd k (by omega) (by omega)
 have hx1:∀W',SameS K w W'→SlR (fun b o=>ExR W' S Z args b o) args.len 64 A c:=fun W' h=>hx.imp fun _ _ hx=>ExR.keep (h.mono fun b hb=>(hS b hb).1) hx
 have hw1:∀W',SameS K w W'→Way5 C.b p q k at_ (.slice A args.len c) W':=fun W' h=>⟨((h ⟨p,0,none⟩ hb.kp).1).trans hb.ptr,((h ⟨q,0,none⟩ hb.kq).1).trans hq,((h ⟨q,1,none⟩ hb.kq).1).trans ha,((h ⟨q,3,none⟩ hb.kq).1).trans hb.atc⟩
 refine zih (N1:=fun w'=>∃u',C.At (C.put s f y at_ 6 0 k args) u' w'∧Made C.b u u' W w') h1 h2 (hw1 _ hs) ((zhc h f y at_ 6 0 k ⟨hf,hy,zcd 6 (by decide) (by decide),zdE 0 (by decide) (by decide),hk8,hb.in_⟩ args S Z A c (fun x hx=>(hS x hx).2) hz (hx1 _ hs) (hr.less (by omega))).mono ?_) (fun w' hw'=>?_) fun e w' h=>h.choose_spec.1
 ·rintro e w2 ⟨u',rfl,hat2,hm2⟩
  exact⟨rfl,u',hat2,hm2⟩
 ·obtain⟨u1,hat,hm⟩:=hw'
  obtain⟨s1,o1⟩:=zlz hm ho hKW
  have hs1:=hs.trans s1
  refine⟨hw1 _ hs1,fun w2 hf2=>?_⟩
  have hs2:SameS K w w2:=hs1.trans (hf2.same fun x hx=>⟨Nat.lt_of_lt_of_le (hKW x hx) hm.fr.size,id⟩)
  refine⟨hw1 _ hs2,(zhc (hat.fr0 hf2) f n at_ 6 0 (oppK k) ⟨hf,hn,zcd 6 (by decide) (by decide),zdE 0 (by decide) (by decide),zoB k h1 h2,hb.in_⟩ args S Z A c (fun x hx=>(hS x hx).2) hz (hx1 _ hs2) (Room.after (N:=1) hr (zcE C s _ _ _ _ _ _ _))).mono ?_⟩
  rintro e w3 ⟨u',rfl,hat3,hm3⟩
  exact⟨u',rfl,hat3,hm.trans ((Made.of hf2).trans hm3)⟩
end
end Go.Proofs.YtobegfbdedgmpaaGreatDoor

namespace Go.Proofs.YtobegfbdedgmpaaGreatDoor
open Go.RowKit Go.Shelf

def szN:Cds→Nat
 | .nil =>0
 | .cons _ _ of_ _ r=>2+szN of_+szN r
def CondP (C:FgC) (c:Way) (N:Nat) (W:World) (e:Ending) (w':World):Prop:=∃val,e= .returned val∧Fr NoT W w'∧WayP C (FgK C.B W.heap.size w'.heap.size) val c N w'
def zng (C:FgC) (k:Int) (args:Exs) (of_:Cds) (at_:Int):Prop:=
 ∀(W:World) (S:Nat→Prop) (Z:Prop) (A A2:Option Addr) (c c2:Nat),C.B≤W.heap.size→(∀x,S x→x < C.B)→in64 at_→SlR (fun b o=>ExR W S Z args b o) args.len 64 A c→SlR (fun b o=>CdR W S Z of_ b o) of_.len 64 A2 c2→
  Calls Tryz.prog 201 #[.pointer (some ⟨C.b,0,none⟩),.agg #[.int .u8 k,.slice A args.len c,.slice A2 of_.len c2,.int .i64 at_]] W (CondP C (wayC C.sc C.ar k args (zbT C.sc C.ar of_) at_) (2+szN of_) W)
theorem znh (w:World) (c0 c1:Array Value) (t0 t1:TypeId):Bk ((w.alloc (.cells c0 t0)).alloc (.cells c1 t1)) w.heap.size t0 c0∧Bk ((w.alloc (.cells c0 t0)).alloc (.cells c1 t1)) (w.heap.size+1) t1 c1:=
 ⟨(Bk.new _ _ _).alloc _,Bk.new_at _ _ _ (by simp)⟩
structure Two (C:FgC) (k:Int) (A A2:Option Addr) (l c l2 c2:Nat) (at_:Int) (W w:World):Prop where
 fr:Fr NoT W w
 bp:Bk w W.heap.size 130 #[.pointer (some ⟨C.b,0,none⟩)]
 bq:Bk w (W.heap.size+1) 199 #[.int .u8 k,.slice A l c,.slice A2 l2 c2,.int .i64 at_]
section
variable {C:FgC} {k:Int} {A A2:Option Addr} {l c l2 c2:Nat} {at_:Int} {W w w':World}
theorem Two.boxes (h:Two C k A A2 l c l2 c2 at_ W w) (hin:in64 at_):Boxes C (FgK C.B W.heap.size w.heap.size) W.heap.size (W.heap.size+1) at_ w:=
 ⟨.inr ⟨Nat.le_refl _,h.bp.lt⟩,.inr ⟨Nat.le_succ _,h.bq.lt⟩,h.bp.cell 0,h.bq.cell 3,hin⟩
theorem zoC (h:Two C k A A2 l c l2 c2 at_ W w) (hB:C.B≤W.heap.size):∀x,FgK C.B W.heap.size w.heap.size x→x < w.heap.size:=by
 have h1:=h.bp.lt
 rintro x (hx|hx)
 ·omega
 ·exact hx.2
theorem zdF {c c':Way} {N M:Nat} {val:Value} {K:Nat→Prop} (h:WayP C K val c N w) (e:c=c') (hn:N≤M):WayP C K val c' M w:=e▸h.more (fun _ h=>h) hn
end
theorem zjY (C:FgC) (k:Int) (args:Exs) (of_:Cds) (at_:Int) (hz:szQ args) (h1:1≤k) (h2:k≤8):zng C k args of_ at_:=by
 intro W S Z A A2 c c2 hB hS hin hx hx2
 obtain⟨l,hl⟩:=nmq args.len
 obtain⟨l2,hl2⟩:=nmq of_.len
 have HX:=hdq (And.intro hB (And.intro hS (And.intro hin hx)))
 have HLL:=hdq hl
 obtain⟨b,hb⟩:=nmq C.b
 have hT:∀w',w'=(W.alloc (.cells #[.pointer (some ⟨b,0,none⟩)] 130)).alloc (.cells #[.int .u8 k,.slice A l c,.slice A2 l2 c2,.int .i64 at_] 199)→Two C k A A2 l c l2 c2 at_ W w':=fun w' e=>by
  rw[hb]at e
  have kk:=znh W #[.pointer (some ⟨C.b,0,none⟩)] #[.int .u8 k,.slice A l c,.slice A2 l2 c2,.int .i64 at_] 130 199
  rw[←e]at kk
  exact⟨by rw[e];exact((Fr.refl _ _).alloc _).alloc _,kk.1,kk.2⟩
 have HT:=hdq hT
 have HB:=hdq hb
 rw[←hl,←hl2,←hb]
 clear hT hB hS hin hx hx2 hl hl2 hb
 rcases(show k=1∨k=2∨(3≤k∧k≤8)from by omega)with rfl|rfl|⟨h3,_⟩
 ·go_enter Tryz.func201,Tryz.ntmps201
  go_wp2_with fail
  go_ret
  have hT:=HT.out _ rfl
  exact⟨_,rfl,hT.fr,zdF (way_1 (hT.boxes HX.out.2.2.1) (enters_of Tryz.func242 (by kernel_rfl) rfl)) (by funext f y n s;rfl) (by omega)⟩
 ·go_enter Tryz.func201,Tryz.ntmps201
  go_wp2_with fail
  go_ret
  have hT:=HT.out _ rfl
  exact⟨_,rfl,hT.fr,zdF (way_2 (hT.boxes HX.out.2.2.1) (enters_of Tryz.func243 (by kernel_rfl) rfl)) (by funext f y n s;rfl) (by omega)⟩
 ·have k1:(k==1)=false:=by simp;omega
  have k2:(k==2)=false:=by simp;omega
  have k9:(k==9)=false:=by simp;omega
  have k10:(k==10)=false:=by simp;omega
  have k11:(k==11)=false:=by simp;omega
  have HK:=hdq (And.intro h3 h2)
  clear h1 h2 h3
  go_enter Tryz.func201,Tryz.ntmps201
  go_wp2_with fail
  go_ret
  have hT:=HT.out _ rfl
  obtain⟨h3,h2⟩:=HK.out
  obtain⟨hB,hS,hin,hx⟩:=HX.out
  have hax:=(hT.bq.cell 1).trans (show _=some (.slice A args.len c)from by simp[HLL.out])
  exact⟨_,rfl,hT.fr,zdF (way_5 (S:=S) (Z:=Z) (hT.boxes hin) (hT.bq.cell 0) hax h3 h2 (zoC hT hB) (fun x hx=>⟨.inl (hS x hx),hS x hx⟩) hz (hx.imp fun _ _ hx=>ExR.keep (hT.fr.same fun b hb=>⟨Nat.lt_of_lt_of_le (hS b hb) hB,id⟩) hx) (enters_of Tryz.func246 (by kernel_rfl) rfl)) (by
   funext f y n s
   simp only[wayC,FgC.put]
   rw[if_neg (by omega),if_neg (by omega),if_neg (by omega),if_neg (by omega),if_neg (by omega)]) (by omega)⟩
section
variable {C:FgC} {w2 w w':World} {c0 c1:Way} {N0 N1:Nat} {o1 o2:Option Value} {g1 g2:Option Nat} {v:Value}
end
end Go.Proofs.YtobegfbdedgmpaaGreatDoor

namespace Go.Proofs.YtobegfbdedgmpaaGreatDoor
open Go.RowKit Go.Shelf

def szM (cond:Cds) (b e:Nat):Nat:=8+szN cond+b+e
def szT:Sts→Nat
 | .nil =>0
 | .cons _ _ _ cond body els _ r=>1+szM cond (szT body) (szT els)+szT r
theorem Grow.refl (N:Nat) (s:FgS):Grow N s s:=by
 unfold Grow
 refine⟨Int.le_refl _,?_,?_⟩<;>omega
theorem za8 (sc ar:NoN) (s:FgS) (a b c d e f:Int) (xs:Exs):Grow 1 s (s.put sc ar a b c d e f xs):=by
 unfold Grow FgS.put
 refine⟨?_,?_,?_⟩<;>simp
 omega
def szW:Cds→Nat→Nat
 | .nil,_=>0
 | .cons _ _ of_ _ _,0=>2+szN of_
 | .cons _ _ _ _ r,i+1=>szW r i
theorem zhd:∀(xs:Cds) (i:Nat),szW xs i≤szN xs
 | .nil,_=>Nat.le_refl _
 | .cons _ _ of_ _ r,0=>by simp only[szW,szN];omega
 | .cons _ _ of_ _ r,i+1=>by have:=zhd r i;simp only[szW,szN];omega
theorem zni:∀xs:Cds,szW xs 0+szW xs 1≤szN xs
 | .nil =>Nat.le_refl _
 | .cons _ _ of_ _ r=>by have:=zhd r 0;simp only[szW,szN];omega
theorem zcF (sc ar:NoN):∀(xs:Cds) (i:Nat) (f y n:Int) (s:FgS),Grow (szW xs i) s (nthW (zbT sc ar xs) i f y n s)
 | .nil,i,f,y,n,s=>by
  simp only[zbT,nthW,List.getD_nil]
  exact Grow.refl _ _
 | .cons k args of_ at_ r,i+1,f,y,n,s=>by
  have:=zcF sc ar r i f y n s
  simp only[zbT,nthW,List.getD_cons_succ]at this ⊢
  exact this
 | .cons k args of_ at_ r,0,f,y,n,s=>by
  have h:=zcF sc ar of_
  have h2:=zni of_
  have h3:=zhd of_ 0
  simp only[zbT,nthW,List.getD_cons_zero,szW]
  unfold wayC
  split
  ·exact(za8 sc ar s _ _ _ _ _ _ _).mono (by omega)
  split
  ·exact(za8 sc ar s _ _ _ _ _ _ _).mono (by omega)
  split
  ·exact(h 0 f n y s).mono (by omega)
  split
  ·exact(((zaw s).trans (h 0 _ _ _ _)).trans (h 1 _ _ _ _)).mono (by omega)
  split
  ·exact(((zaw s).trans (h 0 _ _ _ _)).trans (h 1 _ _ _ _)).mono (by omega)
  ·exact((za8 sc ar s _ _ _ _ _ _ _).trans (za8 sc ar _ _ _ _ _ _ _ _)).mono (by omega)
theorem zjZ (sc ar:NoN) (xs:Cds) (f y n:Int) (s:FgS):Grow (szN xs) s (nthW (zbT sc ar xs) 0 f y n s):=(zcF sc ar xs 0 f y n s).mono (zhd xs 0)
theorem zeN (sc ar:NoN) (k:Int) (nm:ByteArray) (args:Exs) (cond:Cds) (b e:List Mk) (nb ne:Nat) (a f t:Int) (s:FgS) (hb:∀f t a s,Grow (1+nb) s (blkF sc ar b f t a s)) (he:∀f t a s,Grow (1+ne) s (blkF sc ar e f t a s)):
  Grow (szM cond nb ne) s (stmF sc ar k nm args (zbT sc ar cond) b e a f t s):=by
 have h1:=fun a b c d e f g s=>za8 sc ar s a b c d e f g
 have h2:=zjZ sc ar cond
 unfold stmF szM
 split
 ·exact(h1 _ _ _ _ _ _ _ _).mono (by omega)
 split
 ·exact(h1 _ _ _ _ _ _ _ _).mono (by omega)
 split
 ·exact(h1 _ _ _ _ _ _ _ _).mono (by omega)
 split
 ·exact(h1 _ _ _ _ _ _ _ _).mono (by omega)
 split
 ·exact(((zaw s).trans (h2 _ _ _ _)).trans (h1 _ _ _ _ _ _ _ _)).mono (by omega)
 split
 ·exact(((zaw s).trans (h2 _ _ _ _)).trans (h1 _ _ _ _ _ _ _ _)).mono (by omega)
 split
 ·exact(((((zaw s).trans (zaw _)).trans (h2 _ _ _ _)).trans (hb _ _ _ _)).trans (he _ _ _ _)).mono (by omega)
 split
 ·exact(((((((zaw s).trans (zaw _)).trans (zaw _)).trans (h1 _ _ _ _ _ _ _ _)).trans (h1 _ _ _ _ _ _ _ _)).trans (h2 _ _ _ _)).trans (hb _ _ _ _)).mono (by omega)
 ·exact Grow.refl _ _
theorem zbv (sc ar:NoN):∀(xs:Sts) (f t a:Int) (s:FgS),Grow (1+szT xs) s (blkF sc ar (mksS sc ar xs) f t a s)
 | .nil,f,t,a,s=>by
  simp only[mksS,blkF]
  exact(za8 sc ar s _ _ _ _ _ _ _).mono (by omega)
 | .cons k nm args cond body els at_ .nil,f,t,a,s=>by
  simp only[mksS,blkF]
  exact(zeN sc ar k nm args cond _ _ (szT body) (szT els) at_ f t s (zbv sc ar body) (zbv sc ar els)).mono (by simp only[szT];omega)
 | .cons k nm args cond body els at_ (.cons k' nm' args' cond' body' els' at' r),f,t,a,s=>by
  have h:=zbv sc ar (.cons k' nm' args' cond' body' els' at' r)
  simp only[mksS,blkF]at h ⊢
  exact(((zaw s).trans (zeN sc ar k nm args cond _ _ (szT body) (szT els) at_ f s.nodes s.node (zbv sc ar body) (zbv sc ar els))).trans (h _ _ _ _)).mono (by simp only[szT];omega)
def Cur (C:FgC) (u:Value) (W:World) (s:FgS) (w:World):Prop:=∃u',C.At s u' w∧Made C.b u u' W w
section
variable {C:FgC} {u:Value} {s s0:FgS} {W w w':World} {N:Nat}
theorem Cur.start (h:C.At s u w):Cur C u w s w:=⟨u,h,Made.refl _ _ _⟩
theorem Cur.fr0 (h:Cur C u W s w) (hf:Fr NoT w w'):Cur C u W s w':=by
 obtain⟨u',h1,h2⟩:=h
 exact⟨u',h1.fr0 hf,h2.trans (Made.of hf)⟩
theorem Cur.bk {g:Nat} {t:TypeId} {cs:Array Value} (h:Cur C u W s w) (hk:Bk W g t cs) (hn:¬MOwn C.b u g):Bk w g t cs:=by
 obtain⟨u',h1,h2⟩:=h
 exact(h2.bk hk hn).1
theorem Cur.same (h:Cur C u W s w) (h0:C.At s0 u W) {S:Nat→Prop} (hS:∀x,S x→x < C.B):SameS S W w:=by
 obtain⟨u',h1,h2⟩:=h
 exact h2.same h0 hS
theorem Cur.base (h:Cur C u W s w):C.B≤w.heap.size:=by
 obtain⟨u',h1,h2⟩:=h
 exact MkS.base h1
def CurP (C:FgC) (u:Value) (W:World) (s:FgS) (e:Ending) (w':World):Prop:=e= .returned (.tuple #[])∧Cur C u W s w'
theorem Cur.of {s':FgS} {e:Ending} {u':Value} (h2:Made C.b u u' W w) (h:MkP C s' u' w e w'):CurP C u W s' e w':=by
 obtain⟨u2,e1,h3,h4⟩:=h
 exact⟨e1,u2,h3,h2.trans h4⟩
theorem Cur.node (h:Cur C u W s w) (hr:Room 1 s):Calls Tryz.prog 124 #[.pointer (some ⟨C.b,0,none⟩)] w fun e w'=>e= .returned (.int .i64 s.nodes)∧Cur C u W s.node w':=by
 obtain⟨u',h1,h2⟩:=h
 exact(zjX h1 hr).mono fun e w' h=>⟨h.1,u',h.2.1,h2.trans h.2.2⟩
theorem Cur.put (h:Cur C u W s w) (from_ to_ at_ kind n cmp:Int) (hok:in64 from_∧in64 to_∧in8 kind∧in64 n∧in8 cmp∧in64 at_) (xs:Exs) (S:Nat→Prop) (Z:Prop) (A:Option Addr) (c:Nat) (hS:∀x,S x→x < C.B) (hz:szQ xs) (hx:SlR (fun b o=>ExR w S Z xs b o) xs.len 64 A c) (hr:Room 1 s):
  Calls Tryz.prog 123 #[.pointer (some ⟨C.b,0,none⟩),.int .i64 from_,.int .i64 to_,.int .i64 at_,.agg #[.int .u8 kind,.int .i64 n,.int .u8 cmp,.slice none 0 0],.slice A xs.len c] w (CurP C u W (s.put C.sc C.ar from_ to_ at_ kind n cmp xs)):=by
 obtain⟨u',h1,h2⟩:=h
 exact(zhc h1 from_ to_ at_ kind n cmp hok xs S Z A c hS hz hx hr).mono fun e w' h=>Cur.of h2 h
theorem Cur.put0 (h:Cur C u W s w) (from_ to_ at_ kind n cmp:Int) (hok:in64 from_∧in64 to_∧in8 kind∧in64 n∧in8 cmp∧in64 at_) (hr:Room 1 s):
  Calls Tryz.prog 123 #[.pointer (some ⟨C.b,0,none⟩),.int .i64 from_,.int .i64 to_,.int .i64 at_,.agg #[.int .u8 kind,.int .i64 n,.int .u8 cmp,.slice none 0 0],.slice none 0 0] w (CurP C u W (s.put C.sc C.ar from_ to_ at_ kind n cmp .nil)):=by
 obtain⟨u',h1,h2⟩:=h
 exact(zjW h1 from_ to_ at_ kind n cmp hok hr).mono fun e w' h=>Cur.of h2 h
def WayN (C:FgC) (u:Value) (W:World) (s:FgS) (N:Nat) (val:Value) (c:Way) (w:World):Prop:=
 ∃g caps,val= .func (.func g) #[] caps∧Enters Tryz.prog g∧(Room N s→∀f y n,in64 f→in64 y→in64 n→Calls Tryz.prog g (#[.int .i64 f,.int .i64 y,.int .i64 n]++caps) w (CurP C u W (c f y n s)))
theorem Cur.cond (h:Cur C u W s w) (h0:C.At s0 u W) (k:Int) (args:Exs) (of_:Cds) (at_:Int) (hc:zng C k args of_ at_) (S:Nat→Prop) (Z:Prop) (A A2:Option Addr) (c c2:Nat) (hS:∀x,S x→x < C.B) (hin:in64 at_) (hx:SlR (fun b o=>ExR W S Z args b o) args.len 64 A c) (hx2:SlR (fun b o=>CdR W S Z of_ b o) of_.len 64 A2 c2):
  Calls Tryz.prog 201 #[.pointer (some ⟨C.b,0,none⟩),.agg #[.int .u8 k,.slice A args.len c,.slice A2 of_.len c2,.int .i64 at_]] w fun e w'=>∃val,e= .returned val∧Cur C u W s w'∧WayN C u W s (2+szN of_) val (wayC C.sc C.ar k args (zbT C.sc C.ar of_) at_) w':=by
 have hs:=h.same h0 hS
 refine(hc w S Z A A2 c c2 h.base hS hin (hx.imp fun _ _ hx=>ExR.keep hs hx) (hx2.imp fun _ _ hx=>CdR.keep hs hx)).mono ?_
 rintro e w' ⟨val,rfl,hf,g,caps,hv,hg,_,hcall⟩
 obtain⟨u',k1,k2⟩:=h
 refine⟨val,rfl,⟨u',k1.fr0 hf,k2.trans (Made.of hf)⟩,g,caps,hv,hg,fun hr f y n hf' hy hn=>(hcall w' s u' (SameS.refl _ _) (Nat.le_refl _) (k1.fr0 hf) (fun x hx=>?_) hr f y n hf' hy hn).mono fun e w3 h=>Cur.of (k2.trans (Made.of hf)) h⟩
 rcases hx with hx|hx
 ·exact MkS.low_ k1 hx
 ·exact MkS.new k1 hx.1
end
end Go.Proofs.YtobegfbdedgmpaaGreatDoor
