/-
  print's writer in memory: a strings.Builder within a struct, and whether the last byte was a word's; its tokens, plainly.
-/
import Derived.Test.YtmopichdofgndaaGreatDoorJnPnG
import Derived.Lib.Builder
import Derived.Lib.AppendStr
import Derived.Lib.AppendIntMem
import Derived.Lib.UnsafeStr
import Derived.Lib.Bytealg
import Derived.Laws.Externs
set_option linter.unusedVariables false
set_option linter.unusedSimpArgs false
set_option maxHeartbeats 3200000
set_option maxRecDepth 100000
namespace Go.Proofs.YtmopichdofgndaaGreatDoor
open Go.RowKit Go.Shelf

structure WrAt (B b:Nat) (v:Value) (l:List UInt8) (wd:Bool) (w:World):Prop where
 low:B≤b
 at_:∃p,(p= .pointer none∨p= .pointer (some ⟨b,0,none⟩))∧Bk w b 94 #[p,v,.bool wd]
 own:w.ownsRow B 5 1 v l.length (Lib.byteCells l)
theorem WrAt.lt {B b:Nat} {v:Value} {l:List UInt8} {wd:Bool} {w:World} (h:WrAt B b v l wd w):b < w.heap.size:=by
 obtain⟨p,_,hk⟩:=h.at_
 exact hk.lt
theorem WrAt.ne {B b:Nat} {v:Value} {l:List UInt8} {wd:Bool} {w:World} (h:WrAt B b v l wd w):v.ownBlock≠some b:=by
 obtain⟨p,_,hk⟩:=h.at_
 exact Lib.ownBlock_ne h.own hk (by decide)
def Own (b:Nat) (v:Value) (i:Nat):Prop:=i=b∨v.ownBlock=some i
structure Went (b:Nat) (v v':Value) (w w':World):Prop where
 fr:Fr (Own b v) w w'
 row:∀g,v'.ownBlock=some g→v.ownBlock=some g∨w.heap.size≤g
theorem Went.refl (b:Nat) (v:Value) (w:World):Went b v v w w:=⟨Fr.refl _ _,fun _ h=> .inl h⟩
theorem Went.trans {b:Nat} {v v1 v2:Value} {w w1 w2:World} (h:Went b v v1 w w1) (k:Went b v1 v2 w1 w2):Went b v v2 w w2:=by
 refine⟨⟨k.fr.os.trans h.fr.os,k.fr.tape.trans h.fr.tape,k.fr.output.trans h.fr.output,leq9 h.fr.size k.fr.size,fun i hi hn=>?_⟩,fun g hg=>?_⟩
 ·refine(k.fr.block i (ltq hi h.fr.size) ?_).trans (h.fr.block i hi hn)
  rintro(e|e)
  ·exact hn (.inl e)
  ·rcases h.row i e with e2|e2
   ·exact hn (.inr e2)
   ·omega
 ·rcases k.row g hg with e|e
  ·exact h.row g e
  ·exact .inr (leq9 h.fr.size e)
theorem Went.of {b:Nat} {v:Value} {w w':World} (h:Fr NoT w w'):Went b v v w w':=⟨h.any,fun _ h=> .inl h⟩
theorem WrAt.fr {B b:Nat} {v:Value} {l:List UInt8} {wd:Bool} {w w':World} (h:WrAt B b v l wd w) (hf:Fr NoT w w'):WrAt B b v l wd w':=by
 obtain⟨p,hp,hk⟩:=h.at_
 refine⟨h.low,⟨p,hp,hk.fr0 hf⟩,?_⟩
 refine⟨h.own.1,h.own.2.imp id ?_⟩
 rintro⟨g,cap,cur,e1,e2,e3,e4⟩
 refine⟨g,cap,cur,e1,e2,?_,e4⟩
 have hg:g < w.heap.size:=Bk.lt (t:=5) (cs:=cur) e3
 exact(hf.block g hg id).trans e3
theorem Went.bk {b:Nat} {v v':Value} {w w':World} (h:Went b v v' w w') {g:Nat} {t:TypeId} {cs:Array Value} (hk:Bk w g t cs) (hn:¬Own b v g):Bk w' g t cs∧¬Own b v' g:=by
 refine⟨hk.fr h.fr hn,?_⟩
 rintro(e|e)
 ·exact hn (.inl e)
 ·rcases h.row g e with e2|e2
  ·exact hn (.inr e2)
  ·have:=hk.lt;omega
theorem Went.same {B b:Nat} {v v':Value} {l:List UInt8} {wd:Bool} {w w':World} (h:Went b v v' w w') (hw:WrAt B b v l wd w) {S:Nat→Prop} (hS:∀x,S x→x < B):SameS S w w':=
 h.fr.same fun x hx=>⟨Nat.lt_trans (ltq (hS x hx) hw.low) hw.lt,by
  rintro(e|e)
  ·have:=hS x hx;have:=hw.low;omega
  ·have hx':=hS x hx
   rcases hw.own.2 with⟨e1,_⟩|⟨g,cap,cur,e1,e2,_⟩
   ·rw[e1]at e;simp[Value.ownBlock]at e
   ·rw[e1]at e
    simp only[Value.ownBlock,Option.some.injEq]at e
    omega⟩
theorem WrAt.new {B b:Nat} {v:Value} {l:List UInt8} {wd:Bool} {w:World} (h:WrAt B b v l wd w) {g:Nat} (hg:w.heap.size≤g):¬Own b v g:=by
 rintro(e|e)
 ·have:=h.lt;omega
 ·rcases h.own.2 with⟨e1,_⟩|⟨q,cap,cur,e1,e2,e3,_⟩
  ·rw[e1]at e;simp[Value.ownBlock]at e
  ·rw[e1]at e
   simp only[Value.ownBlock,Option.some.injEq]at e
   have:=Bk.lt (t:=5) (cs:=cur) e3
   omega
theorem WrAt.lay {B b:Nat} {p v v':Value} {l:List UInt8} {wd:Bool} {w:World} (hB:B≤b) (hp:p= .pointer none∨p= .pointer (some ⟨b,0,none⟩)) (hk:Bk w b 94 #[p,v,.bool wd]) (hown:w.ownsRow B 5 1 v' l.length (Lib.byteCells l)):WrAt B b v' l wd (w.setCell ⟨b,1,none⟩ v'):=by
 have hne:=Lib.ownBlock_ne hown hk (by decide)
 refine⟨hB,⟨p,hp,?_⟩,?_⟩
 ·have:=hk.set_ 1 v'
  simpa using this
 ·exact hown.kept (row:=some b) ⟨rfl,rfl,rfl,by simp[World.setCell],fun k _ hk=>Below.heap_setCell _ _ _ _ (fun e=>hk (by simp[e]))⟩ (Or.inr hne)
theorem WrAt.mark {B b:Nat} {v:Value} {l:List UInt8} {wd wd':Bool} {w:World} (h:WrAt B b v l wd w):WrAt B b v l wd' (w.setCell ⟨b,2,none⟩ (.bool wd')):=by
 obtain⟨p,hp,hk⟩:=h.at_
 refine⟨h.low,⟨p,hp,?_⟩,?_⟩
 ·have:=hk.set_ 2 (.bool wd')
  simpa using this
 ·exact h.own.kept (row:=some b) ⟨rfl,rfl,rfl,by simp[World.setCell],fun k _ hk=>Below.heap_setCell _ _ _ _ (fun e=>hk (by simp[e]))⟩ (Or.inr h.ne)
theorem WrAt.used {B b:Nat} {v:Value} {l:List UInt8} {wd:Bool} {w:World} (h:WrAt B b v l wd w):WrAt B b v l wd (w.setCell ⟨b,0,none⟩ (.pointer (some ⟨b,0,none⟩))):=by
 obtain⟨p,hp,hk⟩:=h.at_
 refine⟨h.low,⟨_,.inr rfl,?_⟩,?_⟩
 ·have:=hk.set_ 0 (.pointer (some ⟨b,0,none⟩))
  simpa using this
 ·exact h.own.kept (row:=some b) ⟨rfl,rfl,rfl,by simp[World.setCell],fun k _ hk=>Below.heap_setCell _ _ _ _ (fun e=>hk (by simp[e]))⟩ (Or.inr h.ne)
theorem Went.cell {b:Nat} {v:Value} {w:World} (i:Nat) (u:Value):Went b v v w (w.setCell ⟨b,i,none⟩ u):=
 ⟨(Fr.refl _ _).setCell (p:=⟨b,i,none⟩) (.inl (.inl rfl)) u,fun _ h=> .inl h⟩
theorem bCheck_any {B b:Nat} {v:Value} {l:List UInt8} {wd:Bool} {w:World} (h:WrAt B b v l wd w):
  Calls Tryz.prog 162 #[.pointer (some ⟨b,0,none⟩)] w fun e w'=>e= .returned (.tuple #[])∧WrAt B b v l wd w'∧Went b v v w w':=by
 have hz:(Tryz.prog.info? 92).map (·.size)=some 2:=by kernel_rfl
 have hlies:liesAt Tryz.prog Tryz.prog.depth 94 (3 / Tryz.prog.cellsOf 94) 0 92 1=true:=by kernel_rfl
 obtain⟨j,hj,hjs⟩:=Option.map_eq_some_iff.1 hz
 obtain⟨p,hp,hk⟩:=h.at_
 have h0:=hk.cell 0
 simp only[List.getElem?_toArray,List.getElem?_cons_zero]at h0
 have hfz:=hk.frozen 0
 have hsh:w.shape? b=some (94,3):=by
  unfold Bk at hk
  simp[World.shape?,hk]
 have HU:=hdq h.used
 have HH:=hdq h
 clear h hk
 rcases hp with rfl|rfl
 ·go_enter Tryz.func162,Tryz.ntmps162
  go_wp2_with fail
  rw[Lib.run_to_unsafe w ⟨b,0,none⟩ Tryz.underlying89 Tryz.underlying251 hj (by rw[hjs];decide) hsh (Nat.zero_lt_succ 2)]
  simp only[Result.andThen]
  rw[Oper.upon_value]
  go_wp2_with fail
  rw[run_callFunc_extern Tryz.func195 (by kernel_rfl) (by kernel_rfl) (by kernel_rfl) (e:=Extern.AbiNoEscape.same) (by kernel_rfl)]
  rw[Lib.run_noEscape]
  simp only[Result.andThen]
  rw[Oper.upon_value]
  go_wp2_with fail
  rw[Lib.run_from_unsafe w ⟨b,0,none⟩ Tryz.underlying251 Tryz.underlying89 hj hsh hlies]
  simp only[Result.andThen]
  rw[Oper.upon_value]
  go_wp2_with fail
  go_end0
  exact⟨rfl,HU.out,Went.cell _ _⟩
 ·go_enter Tryz.func162,Tryz.ntmps162
  go_wp2_with fail
  rw[Lib.run_neq_ptr_same w _ Tryz.underlying89 hj]
  go_wp2_with fail
  go_end0
  exact⟨rfl,HH.out,Went.refl _ _ _⟩

def PutW (B b:Nat) (v:Value) (s:List UInt8×Bool) (r:Value) (w:World) (e:Ending) (w':World):Prop:=∃v',e= .returned r∧WrAt B b v' s.1 s.2 w'∧Went b v v' w w'
section
variable {P:Program} (w:World)
theorem wpList_append_text {ops:Array Oper} {rest:List Oper} {o:Oper} {a:Act} {Q:Exit→Act→World→Prop} (hgd:o.guard=none) (sl x:Operand) (t u:TypeId)
  (ho:o.op= .call {callee:= .builtin .append,args:= #[sl,x],argTypes:= #[t,u]})
  (base:Nat) (e:TypeId) (i:TypeInfo) (ht:P.underlying t=some (.slice e)) (hu:P.underlying u=some .string) (hi:P.info? e=some i) (hz:i.zero=some (.int .u8 0))
  (hsize:i.size=1) (hby:i.bytes=1)
  (v:Value) (n:Nat) (xs:List Value) (hs:a.eval sl=v) (hown:w.ownsRow base e 1 v n xs) (s:ByteArray) (hx:a.eval x= .string s)
  (h63:n+s.size≤maxLen) (hbytes:n+s.size≤140737488355328) (hbase:base≤w.heap.size)
  (h:∀v' w',w'.ownsRow base e 1 v' (n+s.size) (xs++Lib.strCells s)→w.grownBy w' v.ownBlock→(∀g,v'.ownBlock=some g→v.ownBlock=some g∨w.heap.size≤g)→wpList P ops Q rest (a.put o.dst v') w'):wpList P ops Q (o::rest) a w:=by
 refine wpList_plain hgd fun K hK=>?_
 obtain⟨v',w',hr,h2,h3,h4⟩:=Lib.run_append_own_string (P:=P) w base t u o.type e i ht hu hi hz hsize hby v n xs hown s h63 hbytes hbase
 have hxl:xs.length=n:=by simpa using hown.1
 have hspot:∀g,v'.ownBlock=some g→v.ownBlock=some g∨w.heap.size≤g:=by
  rcases hown.2 with⟨rfl,rfl⟩|⟨g,cap,cur,rfl,hbg,hg,hnc,hcm,hcs,htake⟩
  ·by_cases hm:s.size=0
   ·rw[h4.2 ⟨rfl,hm⟩]
    intro g hg
    simp[Value.ownBlock]at hg
   ·have h6:=run_append_nil_string (P:=P) w t u o.type e i (.int .u8 0) ht hu hi hz s (by omega) (by omega) (by rw[hby];omega)
    rw[hr]at h6
    injection h6 with h7
    intro g hg
    rw[h7]at hg
    simp only[Value.ownBlock,Option.some.injEq]at hg
    exact .inr (by omega)
  ·by_cases hroom:n+s.size≤cap
   ·have hcs':cur.size=cap:=by simpa using hcs
    have h6:=Lib.run_append_room_string (P:=P) w t u o.type e i ht hu hi hsize g n cap cur hg s hroom (by omega)
    rw[hr]at h6
    injection h6 with h7
    intro g' hg'
    rw[h7]at hg'
    exact .inl hg'
   ·have holds:∀j u,xs[j]?=some u→w.cell? ((⟨g,0,none⟩:Addr).add j)=some u:=hown.cells (g:=g) rfl
    have h6:=Lib.run_append_grow_string (P:=P) w t u o.type e i (.int .u8 0) ht hu hi hz ⟨g,0,none⟩ n cap xs (by rw[hsize];simpa using hxl) holds s (by omega) (by simp only[maxLen]at h63;omega) (by rw[hby];exact growslice_fits (by omega) (by omega))
    rw[hr]at h6
    injection h6 with h7
    intro g' hg'
    rw[h7]at hg'
    simp only[Value.ownBlock,Option.some.injEq]at hg'
    exact .inr (by omega)
 unfold Oper.wp execOp
 simp only[ho,resolve,invoke,builtin,Sem.run_bind,Sem.run_pure,Result.andThen_ok,List.map_toArray,List.map_cons,List.map_nil,hs,hx,hr]
 exact hK _ _ (h v' w' h2 h3 hspot)
end
theorem wr_grow {B b:Nat} {v v':Value} {l m:List UInt8} {wd:Bool} {w w1:World} (h:WrAt B b v l wd w) (hown:w1.ownsRow B 5 1 v' (l.length+m.length) (Lib.byteCells l++Lib.byteCells m)) (hg:w.grownBy w1 v.ownBlock) (hs:∀g,v'.ownBlock=some g→v.ownBlock=some g∨w.heap.size≤g):
  (∃p,(p= .pointer none∨p= .pointer (some ⟨b,0,none⟩))∧Bk w1 b 94 #[p,v,.bool wd])∧WrAt B b v' (l++m) wd (w1.setCell ⟨b,1,none⟩ v')∧Went b v v' w (w1.setCell ⟨b,1,none⟩ v'):=by
 obtain⟨p,hp,hk⟩:=h.at_
 have hlt:=hk.lt
 have hne:=h.ne
 have hk1:Bk w1 b 94 #[p,v,.bool wd]:=(hg.block b hlt (fun e=>hne e.symm)).trans hk
 have hc:Lib.byteCells l++Lib.byteCells m=Lib.byteCells (l++m):=by simp[Lib.byteCells]
 rw[hc]at hown
 have hlen:l.length+m.length=(l++m).length :=by simp
 have hw:=WrAt.lay (wd:=wd) h.low hp hk1 (hlen▸hown)
 have hf1:Fr (Own b v) w w1:=Fr.grown hg fun g hgg _=> .inr hgg
 exact⟨⟨p,hp,hk1⟩,hw,⟨hf1.setCell (p:=⟨b,1,none⟩) (.inl (.inl rfl)) _,hs⟩⟩
theorem bString_any {B b:Nat} {v:Value} {l:List UInt8} {wd:Bool} {w:World} (h:WrAt B b v l wd w) (s:ByteArray) (hlen:l.length+s.size≤140737488355328):
  Calls Tryz.prog 101 #[.pointer (some ⟨b,0,none⟩),.string s] w (PutW B b v (l++s.data.toList,wd) (.tuple #[.int .i64 s.size,.nilIface]) w):=by
 obtain⟨i0,hi,hz0,hz1,hz2⟩:=info_parts (P:=Tryz.prog) (e:=5) (z:= .int .u8 0) (size:=1) (bytes:=1) (by kernel_rfl)
 have HC:=hdq (bCheck_any h)
 have hB:=leq9 h.low (Nat.le_of_lt h.lt)
 have HI:=hdq (aiq hi (aiq hz0 (aiq hz1 hz2)))
 clear h hi hz0 hz1 hz2
 go_enter Tryz.func101,Tryz.ntmps101
 go_wp2_with fail
 refine HC.out.mono ?_
 rintro _ w1 ⟨rfl,hw,hwent⟩
 obtain⟨p,hp,hk⟩:=hw.at_
 have c1:w1.cell? ⟨b,1,none⟩=some v:=hk.cell 1
 have hb1:=hwent.fr.size
 have hown:=hw.own
 have HW:=hdq hw
 have HG:=hdq hwent
 have HK:=hdq hk
 have HP:=hdq hp
 clear hw hwent hp hk HC
 go_wp2_with (at_builtin;refine wpList_append_text _ rfl _ _ 90 9 rfl B 5 i0 Tryz.underlying90 Tryz.underlying9 HI.out.1 HI.out.2.1 HI.out.2.2.1 HI.out.2.2.2 _ _ _ rfl hown s rfl (by unfold maxLen;omega) (by omega) (by omega) ?_)
 intro v' w2 hown' hgrow hs
 have hsz:s.size=s.data.toList.length:=by rw[Array.length_toList];rfl
 rw[hsz]at hown'
 obtain⟨⟨p2,_,hk2⟩,hw2,hwent2⟩:=wr_grow HW.out hown' hgrow hs
 have d1:w2.cell? ⟨b,1,none⟩=some v:=hk2.cell 1
 have f1:=hk2.frozen 1
 have l2:=hk2.lt
 have HW2:=hdq hw2
 have HG2:=hdq (HG.out.trans hwent2)
 obtain⟨ao,n',cap,rfl⟩:∃ao n' cap,v'= .slice ao n' cap:=by
  rcases hown'.2 with⟨hv,_⟩|⟨g,cap,cur,hv,_⟩
  ·exact⟨_,_,_,hv⟩
  ·exact⟨_,_,_,hv⟩
 clear hown' hgrow hs hk2 hw2 hwent2 hown c1 hsz
 go_wp2_with fail
 go_ret2
 exact⟨_,rfl,HW2.out,HG2.out⟩
theorem bByte_any {B b:Nat} {v:Value} {l:List UInt8} {wd:Bool} {w:World} (h:WrAt B b v l wd w) (c:UInt8) (hlen:l.length+1≤140737488355328):
  Calls Tryz.prog 100 #[.pointer (some ⟨b,0,none⟩),.int .u8 c.toNat] w (PutW B b v (l++ [c],wd) .nilIface w):=by
 obtain⟨i0,hi,hz0,hz1,hz2⟩:=info_parts (P:=Tryz.prog) (e:=5) (z:= .int .u8 0) (size:=1) (bytes:=1) (by kernel_rfl)
 have HC:=hdq (bCheck_any h)
 have hB:=leq9 h.low (Nat.le_of_lt h.lt)
 have HI:=hdq (aiq hi (aiq hz0 (aiq hz1 hz2)))
 clear h hi hz0 hz1 hz2
 go_enter Tryz.func100,Tryz.ntmps100
 go_wp2_with fail
 refine HC.out.mono ?_
 rintro _ w1 ⟨rfl,hw,hwent⟩
 have hf:Fr NoT w1 (w1.alloc (.cells #[.int .u8 c.toNat] 5)):=(Fr.refl _ _).alloc _
 have hlt1:=hw.lt
 have hw:=hw.fr hf
 have hwent:=hwent.trans (Went.of hf)
 obtain⟨p,hp,hk⟩:=hw.at_
 have c1:w1.cell? ⟨b,1,none⟩=some v:=((hf.cell (p:=⟨b,1,none⟩) hlt1 id).symm.trans (hk.cell 1))
 have hb1:=hwent.fr.size
 have hkn:Bk (w1.alloc (.cells #[.int .u8 c.toNat] 5)) w1.heap.size 5 #[.int .u8 c.toNat]:=Bk.new _ _ _
 have hown:=hw.own
 have HW:=hdq hw
 have HG:=hdq hwent
 have HKN:=hdq (show ∀j u,([.int .u8 c.toNat]:List Value)[j]?=some u→(w1.alloc (.cells #[.int .u8 c.toNat] 5)).cell? ((⟨w1.heap.size,0,none⟩:Addr).add j)=some u from World.news_of_block hkn)
 have HON:=hdq (show ∀u∈([.int .u8 c.toNat]:List Value),u.oneCell'=true from by intro u hu;simp at hu;subst hu;rfl)
 have hb2:B≤(w1.alloc (.cells #[.int .u8 c.toNat] 5)).heap.size :=leq9 hB hb1
 clear hw hwent hp hk HC hkn hf
 go_wp2_with (at_builtin;go_loud (refine wpList_append_lies _ rfl _ _ 90 rfl B 5 i0 (.int .u8 0) 1 1 Tryz.underlying90 HI.out.1 HI.out.2.1 HI.out.2.2.1 HI.out.2.2.2 rfl (by decide) _ _ _ rfl hown ⟨w1.heap.size,0,none⟩ 1 1 [.int .u8 c.toNat] rfl rfl HKN.out HON.out (by decide) (by unfold maxLen;omega) (by omega) hb2 _ rfl ?_))
 intro g cap w2 hown' hgrow hat hlt2
 obtain⟨⟨p2,_,hk2⟩,hw2,hwent2⟩:=wr_grow (m:= [c]) HW.out hown' hgrow (fun g' hg'=>by
  simp only[Value.ownBlock,Option.some.injEq]at hg'
  subst hg'
  exact hat.imp id fun e=>Nat.le_of_eq (Eq.trans (by simp) e.symm))
 have d1:w2.cell? ⟨b,1,none⟩=some v:=hk2.cell 1
 have f1:=hk2.frozen 1
 have l2:=hk2.lt
 have HW2:=hdq hw2
 have HG2:=hdq (HG.out.trans hwent2)
 clear hown' hgrow hat hk2 hw2 hwent2 hown c1
 go_wp2_with fail
 go_ret
 exact⟨_,rfl,HW2.out,HG2.out⟩
theorem wd_index (c:UInt8):decide ((0:Int)≤Lib.indexByte [97,98,99,100,101,102,103,104,105,106,107,108,109,110,111,112,113,114,115,116,117,118,119,120,121,122,65,66,67,68,69,70,71,72,73,74,75,76,77,78,79,80,81,82,83,84,85,86,87,88,89,90,95,48,49,50,51,52,53,54,55,56,57] c)=isWd c:=by
 have h:∀n:Fin 256,decide ((0:Int)≤Lib.indexByte [97,98,99,100,101,102,103,104,105,106,107,108,109,110,111,112,113,114,115,116,117,118,119,120,121,122,65,66,67,68,69,70,71,72,73,74,75,76,77,78,79,80,81,82,83,84,85,86,87,88,89,90,95,48,49,50,51,52,53,54,55,56,57] (UInt8.ofNat n.val))=isWd (UInt8.ofNat n.val):=by decide+kernel
 have:=h ⟨c.toNat,c.toNat_lt⟩
 simpa using this
theorem wd_at (c:UInt8) (w:World):Calls Tryz.prog 99 #[.int .u8 c.toNat] w fun e w'=>e= .returned (.bool (isWd c))∧w=w':=by
 have H1:∀(s:ByteArray) (w:World),Calls Tryz.prog 194 #[.string s,.int .u8 c.toNat] w fun e w'=>e= .returned (.int .i64 (Lib.indexByte s.data.toList c))∧w=w':=fun s w=>by
  go_enter Tryz.func194,Tryz.ntmps194
  go_wp2_with fail
  rw[run_callFunc_extern Tryz.func220 (by kernel_rfl) (by kernel_rfl) (by kernel_rfl) (e:=Extern.BytealgIndexByte.indexByte) (by kernel_rfl),Lib.run_indexByteString]
  simp only[Result.andThen]
  rw[Oper.upon_value]
  go_wp2_with fail
  go_ret
  exact⟨by simp,rfl⟩
 have H2:∀(s:ByteArray) (w:World),Calls Tryz.prog 161 #[.string s,.int .u8 c.toNat] w fun e w'=>e= .returned (.int .i64 (Lib.indexByte s.data.toList c))∧w=w':=fun s w=>by
  go_enter Tryz.func161,Tryz.ntmps161
  go_wp2_with fail
  refine(H1 s w).mono ?_
  rintro _ _ ⟨rfl,rfl⟩
  go_wp2_with fail
  go_ret
  exact⟨rfl,rfl⟩
 have HI:=hdq (wd_index c)
 clear H1
 go_enter Tryz.func99,Tryz.ntmps99
 go_wp2_with fail
 refine(H2 _ w).mono ?_
 rintro _ _ ⟨rfl,rfl⟩
 go_wp2_with fail
 go_ret
 exact⟨by rw[←HI.out];rfl,rfl⟩
end Go.Proofs.YtmopichdofgndaaGreatDoor

namespace Go.Proofs.YtmopichdofgndaaGreatDoor
open Go.RowKit Go.Shelf

theorem putsT_next {s:List UInt8×Bool} {ts:Tx} {k:Nat} {t:List UInt8} (h:ts[k]?=some t):putsT s (ts.take (k+1))=putT (putsT s (ts.take k)) t:=by
 rw[List.take_add_one,h,putsT_app]
 rfl
theorem sumT_take {ts:Tx} {k:Nat} {t:List UInt8} (h:ts[k]?=some t):sumT (ts.take k)+(t.length+1)≤sumT ts:=by
 have e:ts.take (k+1)++ts.drop (k+1)=ts:=List.take_append_drop _ _
 have e2:sumT ts=sumT (ts.take (k+1))+sumT (ts.drop (k+1)):=by rw[←sumT_app,e]
 rw[List.take_add_one,h,sumT_app]at e2
 simp only[Option.toList,sumT]at e2
 omega
theorem str_first {t:List UInt8} (h:t≠ []) (W:World):(Instr.index 9 (.string ⟨t.toArray⟩) (.int .i64 0)).run Tryz.prog W= .ok (.int .u8 (t.headD 0).toNat) W:=by
 cases t with
 |nil=>exact absurd rfl h
 |cons c r=>
  rw[run_index_string W 9 _ .i64 0 Tryz.underlying9,dif_pos ⟨by decide,by
   show(0:Int) < (((c::r).toArray.size :Nat):Int)
   simp⟩]
  rfl
theorem str_last {t:List UInt8} (h:t≠ []) (W:World):(Instr.index 9 (.string ⟨t.toArray⟩) (.int .i64 (((⟨t.toArray⟩:ByteArray).size :Int) - 1))).run Tryz.prog W= .ok (.int .u8 (t.getLastD 0).toNat) W:=by
 have hl:0 < t.length:=List.length_pos_iff.2 h
 have hs:(⟨t.toArray⟩:ByteArray).size =t.length:=by show t.toArray.size=_;simp
 rw[run_index_string W 9 _ .i64 _ Tryz.underlying9,dif_pos ⟨by rw[hs];omega,by rw[hs];omega⟩]
 congr 3
 have e:t.getLastD 0=t[t.length - 1]'(by omega):=by
  rw[List.getLastD_eq_getLast?,List.getLast?_eq_getElem?,List.getElem?_eq_getElem (by omega)]
  rfl
 rw[e]
 have e2:((((⟨t.toArray⟩:ByteArray).size :Int) - 1).toNat)=t.length - 1:=by rw[hs];omega
 have e3:∀(i:Nat) (hi:i < (⟨t.toArray⟩:ByteArray).size) (hj:i < t.length),(⟨t.toArray⟩:ByteArray)[i]'hi=t[i]'hj:=fun i hi hj=>rfl
 rw[e3 _ _ (by rw[e2];omega)]
 simp only[e2]
theorem put_any {B b:Nat} {v:Value} {l:List UInt8} {wd:Bool} {w:World} (h:WrAt B b v l wd w) (ts:Tx) (hne:∀t∈ts,t≠ []) (g cap:Nat)
  (hrow:∀(i:Nat) (t:List UInt8),ts[i]?=some t→w.cell? ⟨g,i,none⟩=some (.string ⟨t.toArray⟩)) (hg:g < w.heap.size) (hgn:¬Own b v g) (hlen:l.length+sumT ts≤140737488355328) (hcap:ts.length≤9223372036854775807):
  Calls Tryz.prog 35 #[.pointer (some ⟨b,0,none⟩),.slice (some ⟨g,0,none⟩) ts.length cap] w (PutW B b v (putsT (l,wd) ts) (.tuple #[]) w):=by
 obtain⟨m,hm⟩:=nmq ts.length
 rw[←hm]at hcap ⊢
 have HM:=hdq hm
 have HN:=hdq hne
 have HR:=hdq hrow
 have HG:=hdq hg
 have HGN:=hdq hgn
 have HL:=hdq hlen
 have HW:=hdq h
 clear hm hne hrow hg hgn hlen h
 go_enter Tryz.func35,Tryz.ntmps35
 go_wp2_with fail
 go_loopw [8] (fun i wr=>∃(k:Nat) (v':Value),k≤m∧i= .int .i64 k∧Hid (WrAt B b v' (putsT (l,wd) (ts.take k)).1 (putsT (l,wd) (ts.take k)).2 wr)∧Hid (Went b v v' w wr)) (fun i _=>m - (intOf i).toNat)
 case atStart=>exact⟨0,v,Nat.zero_le _,rfl,HW.out,Went.refl _ _ _⟩
 case round=>
  obtain⟨k,v',hk,rfl,hw,hwent⟩:=hrel
  by_cases hlt:k < m
  ·obtain⟨t,ht⟩:∃t,ts[k]?=some t:=⟨_,List.getElem?_eq_getElem (by rw[←HM.out];exact hlt)⟩
   have htn:=HN.out t (List.mem_of_getElem? ht)
   have i0:=str_first htn
   have iz:=str_last htn
   have c0:=(hwent.out.fr.cell (p:=⟨g,k,none⟩) HG.out HGN.out).trans (HR.out k t ht)
   have hbg:=ltq HG.out hwent.out.fr.size
   have hsum:=sumT_take ht
   have hple:=putsT_len (ts.take k) (l,wd)
   have hnx:=putsT_next (s:=(l,wd)) ht
   obtain⟨s,hs⟩:∃s:ByteArray,s=⟨t.toArray⟩:=⟨_,rfl⟩
   have hst:s.data.toList=t:=by rw[hs]
   have hsz:s.size=t.length:=by rw[hs];show t.toArray.size=_;simp
   rw[←hs]at i0 iz c0
   obtain⟨y0,hy0⟩:=nmq (t.headD 0)
   obtain⟨yz,hyz⟩:=nmq (t.getLastD 0)
   rw[←hy0]at i0
   rw[←hyz]at iz
   obtain⟨q0,hq0⟩:=nmq (isWd y0)
   obtain⟨qz,hqz⟩:=nmq (isWd yz)
   have H0:=hdq (fun W=>wd_at y0 W)
   have HZ:=hdq (fun W=>wd_at yz W)
   rw[←hq0]at H0
   rw[←hqz]at HZ
   have hpos:=List.length_pos_iff.2 htn
   obtain⟨⟨lk,wk⟩,hlk⟩:=nmq (putsT (l,wd) (ts.take k))
   have HNX:=hdq (show putsT (l,wd) (ts.take (k+1))=(lk++(if wk&&q0 then 32::t else t),qz)from by
    rw[hnx,←hlk,hq0,hqz,hy0,hyz]
    rfl)
   rw[←hlk]at hw hple
   simp only at hw hple
   have hl0:=HL.out
   have hb1:lk.length+1≤140737488355328:=by omega
   have hb2:lk.length+s.size≤140737488355328:=by omega
   have hb3:(lk++ [32]).length +s.size≤140737488355328:=by simp;omega
   have hs1:1≤s.size:=by omega
   have hs2:s.size≤140737488355328:=by omega
   have hs3:(1:Int)≤(s.size:Int):=by omega
   have hs4:(s.size:Int)≤140737488355328:=by omega
   have HB2:=hdq hb2
   have HB3:=hdq hb3
   have HB1:=hdq hb1
   have HST:=hdq hst
   obtain⟨p,hp,hkb⟩:=hw.out.at_
   have c2:=hkb.cell 2
   simp only[getsL]at c2
   have hbl:=hkb.lt
   have HWk:=hdq hw.out
   have HGk:=hdq hwent.out
   have hlt':(k:Int) < (m:Int):=by omega
   have hge:(0:Int)≤(k:Int):=by omega
   clear hw hwent ht htn hsum hple hnx hst hsz hy0 hyz hq0 hqz hpos hlk hl0 hb1 hb2 hb3 hp hkb hs
   cases wk with
   |false=>
    go_wp2_with fail
    refine(bString_any HWk.out s HB2.out).mono ?_
    rintro _ wy ⟨vy,rfl,hwy,hgy⟩
    have HQ:=hdq (show putsT (l,wd) (ts.take (k+1))=(lk++s.data.toList,qz)from by rw[HNX.out,HST.out];simp)
    have HWy:=hdq hwy
    have HGy:=hdq (HGk.out.trans hgy)
    obtain⟨p,hp,hkb⟩:=hwy.at_
    have d2:=hkb.cell 2
    have f2:=hkb.frozen 2
    have hbl2:=hkb.lt
    simp only[getsL]at d2
    clear hwy hgy hp hkb HWk HGk HNX c0 c2
    go_wp2_with fail
    refine(HZ.out _).mono ?_
    rintro _ _ ⟨rfl,rfl⟩
    go_wp2_with fail
    go_roundw
    case rel=>exact⟨k+1,vy,by omega,by go_num,by rw[HQ.out];exact HWy.out.mark,HGy.out.trans (Went.cell _ _)⟩
    case measure=>simp[intOf];omega
   |true=>
    go_wp2_with fail
    refine(H0.out _).mono ?_
    rintro _ _ ⟨rfl,rfl⟩
    cases q0 with
    |false=>
     go_wp2_with fail
     refine(bString_any HWk.out s HB2.out).mono ?_
     rintro _ wy ⟨vy,rfl,hwy,hgy⟩
     have HQ:=hdq (show putsT (l,wd) (ts.take (k+1))=(lk++s.data.toList,qz)from by rw[HNX.out,HST.out];simp)
     have HWy:=hdq hwy
     have HGy:=hdq (HGk.out.trans hgy)
     obtain⟨p,hp,hkb⟩:=hwy.at_
     have d2:=hkb.cell 2
     have f2:=hkb.frozen 2
     have hbl2:=hkb.lt
     simp only[getsL]at d2
     clear hwy hgy hp hkb HWk HGk HNX c0 c2
     go_wp2_with fail
     refine(HZ.out _).mono ?_
     rintro _ _ ⟨rfl,rfl⟩
     go_wp2_with fail
     go_roundw
     case rel=>exact⟨k+1,vy,by omega,by go_num,by rw[HQ.out];exact HWy.out.mark,HGy.out.trans (Went.cell _ _)⟩
     case measure=>simp[intOf];omega
    |true=>
     go_wp2_with fail
     refine(show Calls Tryz.prog 100 #[.pointer (some ⟨b,0,none⟩),.int .u8 32] _ _ from bByte_any HWk.out 32 HB1.out).mono ?_
     rintro _ wx ⟨vx,rfl,hwx,hgx⟩
     have HWx:=hdq hwx
     have HGx:=hdq (HGk.out.trans hgx)
     clear hwx hgx HWk HGk c0 c2
     go_wp2_with fail
     refine(bString_any HWx.out s HB3.out).mono ?_
     rintro _ wy ⟨vy,rfl,hwy,hgy⟩
     have HQ:=hdq (show putsT (l,wd) (ts.take (k+1))=(lk++ [32]++s.data.toList,qz)from by rw[HNX.out,HST.out];simp)
     have HWy:=hdq hwy
     have HGy:=hdq (HGx.out.trans hgy)
     obtain⟨p,hp,hkb⟩:=hwy.at_
     have d2:=hkb.cell 2
     have f2:=hkb.frozen 2
     have hbl2:=hkb.lt
     simp only[getsL]at d2
     clear hwy hgy hp hkb HWx HGx HNX
     go_wp2_with fail
     refine(HZ.out _).mono ?_
     rintro _ _ ⟨rfl,rfl⟩
     go_wp2_with fail
     go_roundw
     case rel=>exact⟨k+1,vy,by omega,by go_num,by rw[HQ.out];exact HWy.out.mark,HGy.out.trans (Went.cell _ _)⟩
     case measure=>simp[intOf];omega
  ·have e:ts.take k=ts:=List.take_of_length_le (by rw[←HM.out];omega)
   rw[e]at hw
   have HWk:=hdq hw.out
   have HGk:=hdq hwent.out
   clear hw hwent
   go_wp2_with fail
   go_end0
   exact⟨_,rfl,HWk.out,HGk.out⟩

theorem put_new {B b:Nat} {v:Value} {l:List UInt8} {wd:Bool} {w:World} (h:WrAt B b v l wd w) (ts:Tx) (hne:∀t∈ts,t≠ []) (cs:Array Value) (T:TypeId) (hcs:∀(i:Nat) (t:List UInt8),ts[i]?=some t→cs[i]?=some (.string ⟨t.toArray⟩))
  (hlen:l.length+sumT ts≤140737488355328) (hcap:ts.length≤9223372036854775807):
  Calls Tryz.prog 35 #[.pointer (some ⟨b,0,none⟩),.slice (some ⟨w.heap.size,0,none⟩) ts.length ts.length] (w.alloc (.cells cs T)) (PutW B b v (putsT (l,wd) ts) (.tuple #[]) w):=by
 have hf:Fr NoT w (w.alloc (.cells cs T)):=(Fr.refl _ _).alloc _
 have hk:=Bk.new w T cs
 refine(put_any (h.fr hf) ts hne w.heap.size ts.length (fun i t ht=>by rw[hk.cell i];exact hcs i t ht) hk.lt (h.new (lrq _)) hlen hcap).mono ?_
 rintro e w' ⟨v',he,h1,h2⟩
 exact⟨v',he,h1,(Went.of hf).trans h2⟩
theorem str_list {s:ByteArray} {t:List UInt8} (h:s.data.toList=t):(⟨t.toArray⟩:ByteArray)=s:=by
 subst h
 cases s
 rfl
section
variable {B b:Nat} {v:Value} {l:List UInt8} {wd:Bool} {w:World}
theorem put1 (h:WrAt B b v l wd w) (s:ByteArray) (t:List UInt8) (hs:s.data.toList=t) (ht:t≠ []) (hlen:l.length+sumT [t]≤140737488355328):
  Calls Tryz.prog 35 #[.pointer (some ⟨b,0,none⟩),.slice (some ⟨w.heap.size,0,none⟩) 1 1] (w.alloc (.cells #[.string s] 9)) (PutW B b v (putsT (l,wd) [t]) (.tuple #[]) w):=
 put_new h [t] (by simpa using ht) _ _ (fun i u hu=>by
  cases i with
  |zero=>simp only[List.getElem?_cons_zero,Option.some.injEq]at hu;subst hu;rw[str_list hs];rfl
  |succ i=>simp at hu) hlen (by simp)
theorem put2 (h:WrAt B b v l wd w) (s s':ByteArray) (t t':List UInt8) (hs:s.data.toList=t) (hs':s'.data.toList=t') (ht:t≠ []) (ht':t'≠ []) (hlen:l.length+sumT [t,t']≤140737488355328):
  Calls Tryz.prog 35 #[.pointer (some ⟨b,0,none⟩),.slice (some ⟨w.heap.size,0,none⟩) 2 2] (w.alloc (.cells #[.string s,.string s'] 9)) (PutW B b v (putsT (l,wd) [t,t']) (.tuple #[]) w):=
 put_new h [t,t'] (by simp[ht,ht']) _ _ (fun i u hu=>by
  rcases i with _|_|i
  ·simp only[List.getElem?_cons_zero,Option.some.injEq]at hu;subst hu;rw[str_list hs];rfl
  ·simp only[List.getElem?_cons_succ,List.getElem?_cons_zero,Option.some.injEq]at hu;subst hu;rw[str_list hs'];rfl
  ·simp at hu) hlen (by simp)
theorem put3 (h:WrAt B b v l wd w) (s s' s2:ByteArray) (t t' t2:List UInt8) (hs:s.data.toList=t) (hs':s'.data.toList=t') (hs2:s2.data.toList=t2) (ht:t≠ []) (ht':t'≠ []) (ht2:t2≠ []) (hlen:l.length+sumT [t,t',t2]≤140737488355328):
  Calls Tryz.prog 35 #[.pointer (some ⟨b,0,none⟩),.slice (some ⟨w.heap.size,0,none⟩) 3 3] (w.alloc (.cells #[.string s,.string s',.string s2] 9)) (PutW B b v (putsT (l,wd) [t,t',t2]) (.tuple #[]) w):=
 put_new h [t,t',t2] (by simp[ht,ht',ht2]) _ _ (fun i u hu=>by
  rcases i with _|_|_|i
  ·simp only[List.getElem?_cons_zero,Option.some.injEq]at hu;subst hu;rw[str_list hs];rfl
  ·simp only[List.getElem?_cons_succ,List.getElem?_cons_zero,Option.some.injEq]at hu;subst hu;rw[str_list hs'];rfl
  ·simp only[List.getElem?_cons_succ,List.getElem?_cons_zero,Option.some.injEq]at hu;subst hu;rw[str_list hs2];rfl
  ·simp at hu) hlen (by simp)
theorem put4 (h:WrAt B b v l wd w) (s s' s2 s3:ByteArray) (t t' t2 t3:List UInt8) (hs:s.data.toList=t) (hs':s'.data.toList=t') (hs2:s2.data.toList=t2) (hs3:s3.data.toList=t3) (ht:t≠ []) (ht':t'≠ []) (ht2:t2≠ []) (ht3:t3≠ []) (hlen:l.length+sumT [t,t',t2,t3]≤140737488355328):
  Calls Tryz.prog 35 #[.pointer (some ⟨b,0,none⟩),.slice (some ⟨w.heap.size,0,none⟩) 4 4] (w.alloc (.cells #[.string s,.string s',.string s2,.string s3] 9)) (PutW B b v (putsT (l,wd) [t,t',t2,t3]) (.tuple #[]) w):=
 put_new h [t,t',t2,t3] (by simp[ht,ht',ht2,ht3]) _ _ (fun i u hu=>by
  rcases i with _|_|_|_|i
  ·simp only[List.getElem?_cons_zero,Option.some.injEq]at hu;subst hu;rw[str_list hs];rfl
  ·simp only[List.getElem?_cons_succ,List.getElem?_cons_zero,Option.some.injEq]at hu;subst hu;rw[str_list hs'];rfl
  ·simp only[List.getElem?_cons_succ,List.getElem?_cons_zero,Option.some.injEq]at hu;subst hu;rw[str_list hs2];rfl
  ·simp only[List.getElem?_cons_succ,List.getElem?_cons_zero,Option.some.injEq]at hu;subst hu;rw[str_list hs3];rfl
  ·simp at hu) hlen (by simp)
end
def Puts (g:Nat) (args:Array Value) (B b:Nat) (v:Value) (w:World) (ts:Tx):Prop:=∀(v1:Value) (l1:List UInt8) (wd1:Bool) (w1:World),WrAt B b v1 l1 wd1 w1→Went b v v1 w w1→l1.length+sumT ts≤140737488355328→
 Calls Tryz.prog g args w1 (PutW B b v1 (putsT (l1,wd1) ts) (.tuple #[]) w1)
theorem WrAt.puts {B b:Nat} {v:Value} {s:List UInt8×Bool} {a c:Tx} {w:World} (h:WrAt B b v (putsT (putsT s a) c).1 (putsT (putsT s a) c).2 w):WrAt B b v (putsT s (a++c)).1 (putsT s (a++c)).2 w:=by
 rw[putsT_app];exact h
theorem putsT_room {s:List UInt8×Bool} {a c:Tx} {n:Nat} (h:s.1.length+sumT (a++c)≤n):(putsT s a).1.length +sumT c≤n:=by
 have:=putsT_len a s
 rw[sumT_app]at h
 omega
theorem around_any {B b:Nat} {v:Value} {l:List UInt8} {wd:Bool} {w:World} (h:WrAt B b v l wd w) (g:Nat) (cap:Array Value) (ts:Tx) (hP:Puts g cap B b v w ts) (hent:Enters Tryz.prog g) (is:Bool) (o e:ByteArray) (tO te:List UInt8) (ho:o.data.toList=tO) (he:e.data.toList=te) (hno:tO≠ []) (hne:te≠ [])
  (hlen:l.length+sumT (if is then tO::(ts++ [te])else ts)≤140737488355328):
  Calls Tryz.prog 201 #[.pointer (some ⟨b,0,none⟩),.bool is,.string o,.string e,.func (.func g) #[] cap] w (PutW B b v (putsT (l,wd) (if is then tO::(ts++ [te])else ts)) (.tuple #[]) w):=by
 unfold Enters at hent
 cases is with
 |false=>
  have HP:=hdq (hP v l wd w h (Went.refl _ _ _) (by simpa using hlen))
  have HW:=hdq h
  clear h hP hlen
  go_enter Tryz.func201,Tryz.ntmps201
  go_wp2_with fail
  refine HP.out.mono ?_
  rintro _ w1 ⟨v1,rfl,h1,g1⟩
  have H1:=hdq h1
  have G1:=hdq g1
  clear h1 g1
  go_wp2_with fail
  go_end0
  exact⟨v1,rfl,by simpa using H1.out,G1.out⟩
 |true=>
  simp only[if_true]at hlen ⊢
  have hr1:l.length+sumT [tO]≤140737488355328:=by
   rw[show tO::(ts++ [te])= [tO]++(ts++ [te])from rfl,sumT_app]at hlen
   omega
  have hr2:(putsT (l,wd) [tO]).1.length +sumT (ts++ [te])≤140737488355328:=putsT_room (s:=(l,wd)) (a:= [tO]) (by simpa using hlen)
  have hr3:(putsT (putsT (l,wd) [tO]) ts).1.length +sumT [te]≤140737488355328:=putsT_room hr2
  have hr2':(putsT (l,wd) [tO]).1.length +sumT ts≤140737488355328:=by rw[sumT_app]at hr2;omega
  have H1:=hdq (put1 h o tO ho hno hr1)
  have HP:=hdq hP
  have HE:=hdq (fun(w0:World) (v0:Value) (l0:List UInt8) (wd0:Bool) (h0:WrAt B b v0 l0 wd0 w0) hl=>put1 h0 e te he hne hl)
  have HR:=hdq (aiq hr2' hr3)
  clear h hP hlen hr1 hr2 hr3 hr2'
  go_enter Tryz.func201,Tryz.ntmps201
  go_wp2_with fail
  refine H1.out.mono ?_
  rintro _ w1 ⟨v1,rfl,h1,g1⟩
  have HC:=hdq (HP.out v1 _ _ w1 h1 g1 HR.out.1)
  have G1:=hdq g1
  clear h1 g1 H1
  go_wp2_with fail
  refine HC.out.mono ?_
  rintro _ w2 ⟨v2,rfl,h2,g2⟩
  have HC2:=hdq (HE.out _ _ _ _ h2 HR.out.2)
  have G2:=hdq (G1.out.trans g2)
  clear h2 g2 HC
  go_wp2_with fail
  refine HC2.out.mono ?_
  rintro _ w3 ⟨v3,rfl,h3,g3⟩
  have H3:=hdq h3
  have G3:=hdq (G2.out.trans g3)
  clear h3 g3
  go_wp2_with fail
  go_end0
  refine⟨v3,rfl,?_,G3.out⟩
  have:=H3.out
  rw[←putsT_app,←putsT_app]at this
  simpa using this
theorem level_any (k:Int) (w:World):Calls Tryz.prog 200 #[.int .u8 k] w fun e w'=>e= .returned (.int .i64 (lvlE k))∧w=w':=by
 obtain⟨n,hn⟩:∃n:Nat,n=lvlE k:=⟨_,rfl⟩
 rw[←hn]
 have HN:=hdq hn
 clear hn
 by_cases h1:10≤k
 ·have HF:=hdq (show n=1 from by rw[HN.out];simp[lvlE,h1])
  go_enter Tryz.func200,Tryz.ntmps200
  go_wp2
  go_ret
  exact⟨by rw[HF.out];rfl,rfl⟩
 ·by_cases h2:7≤k
  ·have HF:=hdq (show n=3 from by rw[HN.out];simp[lvlE,h1,h2])
   go_enter Tryz.func200,Tryz.ntmps200
   go_wp2
   go_ret
   exact⟨by rw[HF.out];rfl,rfl⟩
  ·by_cases h3:5≤k
   ·have HF:=hdq (show n=2 from by rw[HN.out];simp[lvlE,h1,h2,h3])
    go_enter Tryz.func200,Tryz.ntmps200
    go_wp2
    go_ret
    exact⟨by rw[HF.out];rfl,rfl⟩
   ·have HF:=hdq (show n=4 from by rw[HN.out];simp[lvlE,h1,h2,h3])
    go_enter Tryz.func200,Tryz.ntmps200
    go_wp2
    go_ret
    exact⟨by rw[HF.out];rfl,rfl⟩
theorem height_any (k:Int) (w:World):Calls Tryz.prog 226 #[.int .u8 k] w fun e w'=>e= .returned (.int .i64 (hgtC k))∧w=w':=by
 by_cases h1:k=11
 ·subst h1
  go_enter Tryz.func226,Tryz.ntmps226
  go_wp2
  go_ret
  exact⟨rfl,rfl⟩
 ·by_cases h2:k=10
  ·subst h2
   go_enter Tryz.func226,Tryz.ntmps226
   go_wp2
   go_ret
   exact⟨rfl,rfl⟩
  ·have e1:(k==11)=false:=by simpa using h1
   have e2:(k==10)=false:=by simpa using h2
   have HF:=hdq (show hgtC k=3 from by simp[hgtC,h1,h2])
   clear h1 h2
   go_enter Tryz.func226,Tryz.ntmps226
   go_wp2
   go_ret
   exact⟨by rw[HF.out];rfl,rfl⟩
end Go.Proofs.YtmopichdofgndaaGreatDoor

namespace Go.Proofs.YtmopichdofgndaaGreatDoor
open Go.RowKit Go.Shelf

theorem bText_any {B b:Nat} {v:Value} {l:List UInt8} {wd:Bool} {w:World} (h:WrAt B b v l wd w) (h0:l≠ []):
  Calls Tryz.prog 41 #[.pointer (some ⟨b,0,none⟩)] w fun e w'=>e= .returned (.string ⟨l.toArray⟩)∧Below B w w':=by
 obtain⟨hlow,⟨p,hp,hbk⟩,hown⟩:=h
 have hl0:l.length≠0:=by simpa using h0
 obtain⟨g,cap,cur,rfl,hbg,hg,hnc,hcm,hcs,htake⟩:∃g cap cur,v= .slice (some ⟨g,0,none⟩) l.length cap∧B≤g∧w.heap[g]?=some (.cells cur 5 (0,0))∧l.length≤cap∧cap≤maxLen∧cur.size=cap*1∧cur.toList.take (l.length*1)=Lib.byteCells l:=by
  rcases hown.2 with⟨_,hz⟩|⟨g,cap,cur,hv,r⟩
  ·exact absurd hz hl0
  ·exact⟨g,cap,cur,hv,r⟩
 have mixed:(Tryz.prog).follows .mixedOrders =true:=by kernel_rfl
 have c1:w.drew.cell? ⟨b,1,none⟩=some (.slice (some ⟨g,0,none⟩) l.length cap):=hbk.cell 1
 have hSD:(Builtin.unsafeSliceData_ #[90] 184 #[.slice (some ⟨g,0,none⟩) l.length cap]).run Tryz.prog w.drew= .ok (.pointer (some ⟨g,0,none⟩)) w.drew:=
  Lib.run_unsafeSliceData_row _ _ _ _ _ _ (by omega)
 have hUS:(Builtin.unsafeString_ #[184,3] 9 #[.pointer (some ⟨g,0,none⟩),.int .i64 l.length]).run Tryz.prog w.drew= .ok (.string ⟨l.toArray⟩) (w.drew.freeze ⟨g,0,none⟩ l.length):=by
  refine Lib.run_unsafeString_row w.drew 184 3 9 5 Tryz.underlying184 (by kernel_rfl) g cur.size (by have hg':w.drew.heap[g]?=some (.cells cur 5 (0,0)):=hg;simp[World.shape?,hg']) l h0 (by omega) (by unfold maxLen at hcm;omega) ?_
  intro j x hx
  have:=hown.cells (g:=g) rfl j (.int .u8 x.toNat) (by simp[Lib.byteCells,hx])
  exact this
 have HG:=hdq hbg
 clear hown hbk hp hlow hg hnc hcm hcs htake hbg h0
 go_enter Tryz.func41,Tryz.ntmps41
 go_wp2_with fail
 go_region_o
 all_goals(go_wp2;go_ret;exact⟨rfl,Lib.below_freeze (Below.drew (Below.refl B w)) (p:=⟨g,0,none⟩) HG.out _⟩)
end Go.Proofs.YtmopichdofgndaaGreatDoor
