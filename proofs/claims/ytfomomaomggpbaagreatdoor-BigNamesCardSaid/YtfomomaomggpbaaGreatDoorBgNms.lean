/-
  big.Run: maps of names, arrays under way. No walk.
-/
import Derived.Test.YtfomomaomggpbaaGreatDoorJgBgMkO
import Derived.Laws.MakeOwn
set_option linter.unusedVariables false
set_option linter.unusedSimpArgs false
namespace Go.Proofs.YtfomomaomggpbaaGreatDoor
open Go.RowKit Go.Shelf

theorem posI_snoc:∀(l:List (List UInt8)) (x t:List UInt8),posI (l++ [x]) t=(posI l t).or (if x=t then some l.length else none)
 | [],x,t=>by simp only[List.nil_append,posI];split<;>rfl
 |y::r,x,t=>by
  simp only[List.cons_append,posI,posI_snoc r x t]
  by_cases h:y=t
  ·simp[h]
  ·simp only[if_neg h]
   cases posI r t with
   |some n=>rfl
   |none=>
    simp only[Option.none_or,Option.map_none]
    split<;>simp
theorem posI_no:∀ {l:List (List UInt8)} {t:List UInt8},t∉l→posI l t=none
 | [],_,_=>rfl
 |x::r,t,h=>by
  have h0:¬x=t:=fun e=>h (by rw[e];exact List.mem_cons_self)
  have h1:t∉r:=fun e=>h (List.mem_cons_of_mem _ e)
  simp only[posI,if_neg h0,posI_no h1]
  rfl
theorem posI_is:∀ {l:List (List UInt8)} {t:List UInt8},t∈l→∃i,posI l t=some i
 | [],_,h=>by simp at h
 |x::r,t,h=>by
  unfold posI
  by_cases e:x=t
  ·exact⟨0,by rw[if_pos e]⟩
  ·have hr:t∈r:=(List.mem_cons.1 h).resolve_left fun e'=>e e'.symm
   obtain⟨i,hi⟩:=posI_is hr
   exact⟨i+1,by rw[if_neg e,hi];rfl⟩
def fA (row:List Value) (names:List (List UInt8)):List UInt8→Option Value:=fun nm=>(posI names nm).bind fun i=>row[i]?
theorem fA_snoc {row:List Value} {names:List (List UInt8)} (hl:row.length=names.length) {x:List UInt8} (hx:x∉names) (v:Value):(fun y=>if y=x then some v else fA row names y)=fA (row++ [v]) (names++ [x]):=by
 funext y
 unfold fA
 rw[posI_snoc]
 by_cases e:y=x
 ·subst e
  rw[if_pos rfl,posI_no hx,if_pos rfl]
  simp[←hl]
 ·rw[if_neg e,if_neg (fun e'=>e e'.symm),Option.or_none]
  cases h:posI names y with
  |none=>rfl
  |some i=>
   have:=posI_lt h
   simp only[Option.bind_some]
   rw[List.getElem?_append_left (by omega)]
def ptrL (V n:Nat):List Value:=(List.range n).map fun i=> .pointer (some ⟨V,i,none⟩)
theorem ptrL_succ (V n:Nat):ptrL V (n+1)=ptrL V n++ [.pointer (some ⟨V,n,none⟩)]:=by simp[ptrL,List.range_succ]
theorem ptrL_len (V n:Nat):(ptrL V n).length =n:=by simp[ptrL]
theorem ptrL_at {V n i:Nat} (h:i < n):(ptrL V n)[i]?=some (.pointer (some ⟨V,i,none⟩)):=by simp[ptrL,h]
theorem infoSlB:(Tryz.prog.info? 28).map (fun i=>(i.zero,i.size,i.bytes))=some (some (.slice none 0 0),1,24):=by kernel_rfl
theorem infoIntB:(Tryz.prog.info? 3).map (fun i=>(i.zero,i.size,i.bytes))=some (some (.int .i64 0),1,8):=by kernel_rfl
def zers (n:Nat):List Int:=List.replicate n 0
theorem zers_len (n:Nat):(zers n).length =n:=by simp[zers]
theorem bgRun_mkB (n:Nat) (hn:n≤100000) (w:World):(Instr.makeSlice 28 (.int .i64 n) (.int .i64 n)).run Tryz.prog w= .ok (.slice (some ⟨w.heap.size,0,none⟩) n n) (w.alloc (.cells (intL (zers n)).toArray 3)):=by
 obtain⟨i0,hi,hz0,hz1,hz2⟩:=info_parts infoIntB
 have h:=run_makeSlice (P:=Tryz.prog) w 28 3 i0 (.int .i64 0) Tryz.underlying28 hi hz0 .i64 .i64 (n:Int) n (by omega) (Int.le_refl _) (by rw[hz1];simp;omega) (by rw[hz2];omega) (by omega)
 simp only[Int.toNat_natCast,hz1,Nat.mul_one]at h
 have e:madeCells (Value.int .i64 0).cells n=(intL (zers n)).toArray :=by
  apply Array.ext
  ·simp[size_madeCells,intL,zers]
  ·intro j h1 h2
   have e1:j % 1=0:=Nat.mod_one j
   simp[madeCells,intL,zers,Value.cells,e1]
 rw[e]at h
 exact h
def begB (g:List Int):List (List Int):=g.map fun n=>zers n.toNat
def run0V (sc lf vs v:Value):Array Value:= #[sc,.int .u8 0,.int .u8 0,.int .i64 0,.int .i64 0,.int .i64 0,lf,vs,v]
structure BgA (w1:World) (R MA:Nat) (sc lf vs:Value) (names:List (List UInt8)) (zs:List Int) (v:Value) (wr:World) (bs:List Nat) (k:Nat):Prop where
 fr:Fr (fun b=>b=R∨b=MA) w1 wr
 bk:Bk wr R 68 (run0V sc lf vs v)
 row:wr.ownsRow w1.heap.size 28 1 v k (rowL bs (begB (zs.take k)))
 map:MpV wr MA k (fA (rowL bs (begB (zs.take k))) (names.take k))
 len:bs.length=k
 each:∀(i b:Nat) (l:List Int),bs[i]?=some b→(begB zs)[i]?=some l→w1.heap.size≤b∧Bk wr b 3 (intL l).toArray
 nd:bs.Nodup
 rb:∀b∈bs,v.ownBlock≠some b
 lt:∀b∈bs,b < wr.heap.size
theorem BgA.step {w1:World} {R MA:Nat} {sc lf vs:Value} {names:List (List UInt8)} {zs:List Int} {v:Value} {wr:World} {bs:List Nat} {k:Nat} (h:BgA w1 R MA sc lf vs names zs v wr bs k) (hR:R < w1.heap.size) (hM:MA < w1.heap.size) (hRM:R≠MA) {n:Int} (hn:zs[k]?=some n) {x:List UInt8} (hx:names[k]?=some x) (hxn:x∉names.take k) {w4 w6 w7 w8:World} (hf4:Fr NoT wr w4)
  (hg6:(w4.alloc (.cells (intL (zers n.toNat)).toArray 3)).grownBy w6 (some MA)) (hm6:MpV w6 MA (k+1) (fun y=>if y=x then some (slL w4.heap.size n.toNat)else fA (rowL bs (begB (zs.take k))) (names.take k) y)) (hf7:Fr NoT w6 w7) {g cap:Nat}
  (hown:w8.ownsRow w1.heap.size 28 1 (.slice (some ⟨g,0,none⟩) (k+1) cap) (k+1) (rowL bs (begB (zs.take k))++ [slL w4.heap.size n.toNat])) (hg:w7.grownBy w8 v.ownBlock) (hsp:v.ownBlock=some g∨g=w7.heap.size):
  BgA w1 R MA sc lf vs names zs (.slice (some ⟨g,0,none⟩) (k+1) cap) (w8.setCell ⟨R,8,none⟩ (.slice (some ⟨g,0,none⟩) (k+1) cap)) (bs++ [w4.heap.size]) (k+1):=by
 have hlt:=h.row.lt
 have hw1:w1.heap.size≤wr.heap.size:=h.fr.size
 have h4:=hf4.size
 have h6:=hg6.size
 simp only[World.size_alloc]at h6
 have h7:=hf7.size
 have h8:=hg.size
 have htk:zs.take (k+1)=zs.take k++ [n]:=by rw[List.take_add_one,hn];rfl
 have htn:names.take (k+1)=names.take k++ [x]:=by rw[List.take_add_one,hx];rfl
 have hkz:k < zs.length:=(List.getElem?_eq_some_iff.1 hn).1
 have hkn:k < names.length:=(List.getElem?_eq_some_iff.1 hx).1
 have hrl:bs.length=(begB (zs.take k)).length :=by unfold begB;rw[h.len,List.length_map,List.length_take];omega
 have hrow:rowL (bs++ [w4.heap.size]) (begB (zs.take k++ [n]))=rowL bs (begB (zs.take k))++ [slL w4.heap.size n.toNat]:=by
  unfold begB at hrl ⊢
  rw[List.map_append,List.map_cons,List.map_nil,rowL_snoc _ _ hrl,zers_len]
 -- blocks of wr that stay
 have hst:∀i,i < wr.heap.size→i≠R→i≠MA→v.ownBlock≠some i→(w8.setCell ⟨R,8,none⟩ (.slice (some ⟨g,0,none⟩) (k+1) cap)).heap[i]?=wr.heap[i]?:=fun i hi h1 h2 h3=>
  (Below.heap_setCell w8 _ _ i fun e=>h1 (by have e:i=R:=e;exact e)).trans ((hg.block i (by omega) fun e=>h3 e.symm).trans ((hf7.block i (by omega) id).trans ((hg6.block i (by simp;omega) fun e=>h2 (Option.some.inj e)).trans ((Below.heap_alloc w4 _ i (by omega)).trans (hf4.block i hi id)))))
 have hvR:v.ownBlock≠some R:=fun e=>by have:=(hlt _ e).1;omega
 have hvM:v.ownBlock≠some MA:=fun e=>by have:=(hlt _ e).1;omega
 have hgb:∀b,b < w7.heap.size→v.ownBlock≠some b→g≠b:=fun b hb hn' e=>by
  rcases hsp with e2|e2
  ·rw[e]at e2;exact hn' e2
  ·omega
 refine⟨⟨?_,?_,?_,?_,fun i hi hn'=>?_⟩,?_,?_,?_,by simp[h.len],fun i b l hi hl=>?_,?_,fun b hb=>?_,fun b hb=>?_⟩
 ·exact hg.os.trans (hf7.os.trans (hg6.os.trans (hf4.os.trans h.fr.os)))
 ·exact hg.tape.trans (hf7.tape.trans (hg6.tape.trans (hf4.tape.trans h.fr.tape)))
 ·exact hg.output.trans (hf7.output.trans (hg6.output.trans (hf4.output.trans h.fr.output)))
 ·simp;omega
 ·refine(hst i (by omega) (fun e=>hn' (.inl e)) (fun e=>hn' (.inr e)) fun e=>?_).trans (h.fr.block i hi hn')
  have:=(hlt _ e).1
  omega
 ·have hb8:Bk w8 R 68 (run0V sc lf vs v):=(hg.block R (by omega) fun e=>hvR e.symm).trans ((hf7.block R (by omega) id).trans ((hg6.block R (by simp;omega) fun e=>hRM (Option.some.inj e)).trans ((Below.heap_alloc w4 _ R (by omega)).trans ((hf4.block R (by omega) id).trans h.bk))))
  have:=hb8.set_ 8 (.slice (some ⟨g,0,none⟩) (k+1) cap)
  simpa[run0V]using this
 ·rw[htk,hrow]
  refine⟨hown.1,hown.2.imp id ?_⟩
  rintro⟨g',cap',cur,e1,e2,e3,e4⟩
  exact⟨g',cap',cur,e1,e2,(Below.heap_setCell w8 _ _ g' fun e=>by have e:g'=R:=e;omega).trans e3,e4⟩
 ·rw[htk,hrow,htn,←fA_snoc (by rw[rowL_len hrl,←hrl,h.len,List.length_take];omega) hxn]
  refine((hm6.fr hf7 id).fr (Fr.grown (T:=fun b=>v.ownBlock=some b) hg fun g e _=>e) hvM).fr (T:=fun b=>b=R) (Fr.own (Fr.refl _ _) _ _) fun e=>hRM (by have e:MA=R:=e;exact e.symm)
 ·rcases Nat.lt_or_ge i bs.length with hi2|hi2
  ·rw[List.getElem?_append_left hi2]at hi
   have hm:=List.mem_of_getElem? hi
   obtain⟨g1,g2⟩:=h.each i b l hi hl
   exact⟨g1,(hst b (h.lt b hm) (by omega) (by omega) (h.rb b hm)).trans g2⟩
  ·rw[List.getElem?_append_right hi2]at hi
   have e0:i - bs.length=0:=by
    have:=(List.getElem?_eq_some_iff.1 hi).1
    simp at this;omega
   rw[e0]at hi
   simp only[List.getElem?_cons_zero,Option.some.injEq]at hi
   have ei:i=k:=by rw[←h.len];omega
   subst ei hi
   unfold begB at hl
   rw[List.getElem?_map,hn]at hl
   simp only[Option.map_some,Option.some.injEq]at hl
   subst hl
   refine⟨by omega,?_⟩
   have hb5:=Bk.new w4 3 (intL (zers n.toNat)).toArray
   exact(Below.heap_setCell w8 _ _ _ fun e=>by have e:w4.heap.size=R:=e;omega).trans ((hg.block _ (by omega) fun e=>by have:=(hlt _ e.symm).2;omega).trans ((hf7.block _ (by omega) id).trans ((hg6.block _ (by simp) fun e=>by have:=Option.some.inj e;omega).trans hb5)))
 ·rw[List.nodup_append]
  refine⟨h.nd,by simp,fun a ha b hb=>?_⟩
  simp only[List.mem_singleton]at hb
  rw[hb]
  have:=h.lt a ha
  omega
 ·show some g≠some b
  intro e
  have e:=Option.some.inj e
  rcases List.mem_append.1 hb with hb|hb
  ·exact hgb b (by have:=h.lt b hb;omega) (h.rb b hb) e
  ·simp only[List.mem_singleton]at hb
   subst hb
   exact hgb _ (by omega) (fun e2=>by have:=(hlt _ e2).2;omega) e
 ·rcases List.mem_append.1 hb with hb|hb
  ·have:=h.lt b hb;simp;omega
  ·simp only[List.mem_singleton]at hb
   subst hb
   simp;omega
end Go.Proofs.YtfomomaomggpbaaGreatDoor
