/- big.Run: maps of names, arrays under way. -/
import Derived.Test.YtfomomaomggpbaaGreatDoorJgBgMkO
set_option linter.all false
namespace Go.Proofs.YtfomomaomggpbaaGreatDoor
open Go.RowKit Go.Shelf
theorem zgC:∀(l:List (List UInt8))(x t:List UInt8),posI (l++ [x]) t=(posI l t).or (if x=t then some l.length else none)
 | [],x,t=>by simp only[List.nil_append,posI];split<;>rfl
 |y::r,x,t=>by
  simp only[List.cons_append,posI,zgC r x t];by_cases h:y=t
  ·simp[h]
  ·simp only[if_neg h];cases posI r t with
   |some n=>rfl
   |none=>
    simp only[Option.none_or,Option.map_none];split<;>simp
theorem zkM:∀ {l:List (List UInt8)} {t:List UInt8},t∉l->posI l t=none
 | [],_,_=>rfl
 |x::r,t,h=>by
  have h0:¬x=t:=λe=>h (by rw[e];exact List.mem_cons_self);have h1:t∉r:=λe=>h (List.mem_cons_of_mem _ e);simp only[posI,if_neg h0,zkM h1];rfl
theorem zfI:∀ {l:List (List UInt8)} {t:List UInt8},t∈l->∃i,posI l t=some i
 | [],_,h=>by simp at h
 |x::r,t,h=>by
  unfold posI;by_cases e:x=t
  ·exact⟨0,by rw[if_pos e]⟩
  ·have hr:t∈r:=(List.mem_cons.1 h).resolve_left λe'=>e e'.symm;obtain⟨i,hi⟩:=zfI hr;exact⟨i+1,by rw[if_neg e,hi];rfl⟩
def fA (row:List Value)(names:List (List UInt8)):List UInt8->Option Value:=λnm=>(posI names nm).bind λi=>row[i]?
theorem zkN {row:List Value}{names:List (List UInt8)}(hl:row.length=names.length){x:List UInt8}(hx:x∉names)(v:Value):(λy=>if y=x then some v else fA row names y)=fA (row++ [v]) (names++ [x]):=by
 funext y
 unfold fA;rw[zgC];by_cases e:y=x
 ·subst e;rw[if_pos rfl,zkM hx,if_pos rfl];simp[<-hl]
 ·rw[if_neg e,if_neg (λe'=>e e'.symm),Option.or_none];cases h:posI names y with
  |none=>rfl
  |some i=>
   have:=zcA h;simp only[Option.bind_some];rw[List.getElem?_append_left (by omega)]
def ptrL (V n:Nat):List Value:=(List.range n).map λi=> .pointer (some ⟨V,i,none⟩)
theorem zkO (V n:Nat):ptrL V (n+1)=ptrL V n++ [.pointer (some ⟨V,n,none⟩)]:=by simp[ptrL,List.range_succ]
theorem zmv (V n:Nat):(ptrL V n).length =n:=by simp[ptrL]
theorem zn5 {V n i:Nat}(h:i < n):(ptrL V n)[i]?=some (.pointer (some ⟨V,i,none⟩)):=by simp[ptrL,h]
theorem zn6:(Tryz.prog.info? 28).map (λi=>(i.zero,i.size,i.bytes))=some (some (.slice none 0 0),1,24):=by kernel_rfl
theorem zmw:(Tryz.prog.info? 3).map (λi=>(i.zero,i.size,i.bytes))=some (some (.int .i64 0),1,8):=by kernel_rfl
def zers (n:Nat):List Int:=List.replicate n 0
theorem zbQ (n:Nat):(zers n).length =n:=by simp[zers]
theorem zgD (n:Nat)(hn:n<=100000)(w:World):(Instr.makeSlice 28 (.int .i64 n) (.int .i64 n)).run Tryz.prog w= .ok (.slice (some ⟨w.heap.size,0,none⟩) n n) (w.alloc (.cells (intL (zers n)).toArray 3)):=by
 obtain⟨i0,hi,Jb,Hy,FR⟩:=info_parts zmw;have h:=run_makeSlice (P:=Tryz.prog) w 28 3 i0 (.int .i64 0) Tryz.underlying28 hi Jb .i64 .i64 (n:Int) n (by omega) (Int.le_refl _) (by rw[Hy];simp;omega) (by rw[FR];omega) (by omega);simp only[Int.toNat_natCast,Hy,Nat.mul_one]at h;have e:madeCells (Value.int .i64 0).cells n=(intL (zers n)).toArray :=by
  apply Array.ext
  ·simp[size_madeCells,intL,zers]
  ·intro j h1 h2;have e1:j % 1=0:=Nat.mod_one j;simp[madeCells,intL,zers,Value.cells,e1]
 rw[e]at h;exact h
def begB (g:List Int):List (List Int):=g.map λn=>zers n.toNat
def ziP (sc lf vs v:Value):Array Value:= #[sc,.int .u8 0,.int .u8 0,.int .i64 0,.int .i64 0,.int .i64 0,lf,vs,v]
structure BgA (w1:World)(R MA:Nat)(sc lf vs:Value)(names:List (List UInt8))(zs:List Int)(v:Value)(wr:World)(bs:List Nat)(k:Nat):Prop where
 fr:Fr (λb=>b=R\/b=MA) w1 wr
 bk:Bk wr R 68 (ziP sc lf vs v)
 row:wr.ownsRow w1.heap.size 28 1 v k (rowL bs (begB (zs.take k)))
 map:MpV wr MA k (fA (rowL bs (begB (zs.take k))) (names.take k))
 len:bs.length=k
 each:∀(i b:Nat)(l:List Int),bs[i]?=some b->(begB zs)[i]?=some l->w1.heap.size<=b/\Bk wr b 3 (intL l).toArray
 nd:bs.Nodup
 rb:∀b∈bs,v.ownBlock≠some b
 lt:∀b∈bs,b < wr.heap.size
theorem BgA.step {w1:World}{R MA:Nat}{sc lf vs:Value}{names:List (List UInt8)}{zs:List Int}{v:Value}{wr:World}{bs:List Nat}{k:Nat}(h:BgA w1 R MA sc lf vs names zs v wr bs k)(hR:R < w1.heap.size)(hM:MA < w1.heap.size)(ji:R≠MA){n:Int}(hn:zs[k]?=some n){x:List UInt8}(hx:names[k]?=some x)(Xx:x∉names.take k){w4 w6 w7 w8:World}(Hx:Fr NoT wr w4)
  (Mp:(w4.alloc (.cells (intL (zers n.toNat)).toArray 3)).grownBy w6 (some MA)) (MV:MpV w6 MA (k+1) (λy=>if y=x then some (slL w4.heap.size n.toNat)else fA (rowL bs (begB (zs.take k))) (names.take k) y)) (Hp:Fr NoT w6 w7) {g cap:Nat}
  (Hb:w8.ownsRow w1.heap.size 28 1 (.slice (some ⟨g,0,none⟩) (k+1) cap) (k+1) (rowL bs (begB (zs.take k))++ [slL w4.heap.size n.toNat])) (hg:w7.grownBy w8 v.ownBlock) (GG:v.ownBlock=some g\/g=w7.heap.size):
  BgA w1 R MA sc lf vs names zs (.slice (some ⟨g,0,none⟩) (k+1) cap) (w8.setCell ⟨R,8,none⟩ (.slice (some ⟨g,0,none⟩) (k+1) cap)) (bs++ [w4.heap.size]) (k+1):=by
 have Hl:=h.row.lt;have Hc:w1.heap.size<=wr.heap.size:=h.fr.size;have h4:=Hx.size;have h6:=Mp.size;simp only[World.size_alloc]at h6;have h7:=Hp.size;have h8:=hg.size;have Me:zs.take (k+1)=zs.take k++ [n]:=by rw[List.take_add_one,hn];rfl
 have Q9:names.take (k+1)=names.take k++ [x]:=by rw[List.take_add_one,hx];rfl
 have ZD:k < zs.length:=(List.getElem?_eq_some_iff.1 hn).1;have F7:k < names.length:=(List.getElem?_eq_some_iff.1 hx).1;have FO:bs.length=(begB (zs.take k)).length :=by unfold begB;rw[h.len,List.length_map,List.length_take];omega
 have Hz:rowL (bs++ [w4.heap.size]) (begB (zs.take k++ [n]))=rowL bs (begB (zs.take k))++ [slL w4.heap.size n.toNat]:=by
  unfold begB at FO ⊢;rw[List.map_append,List.map_cons,List.map_nil,zf9 _ _ FO,zbQ]
 -- blocks of wr that stay
 have Gu:∀i,i < wr.heap.size->i≠R->i≠MA->v.ownBlock≠some i->(w8.setCell ⟨R,8,none⟩ (.slice (some ⟨g,0,none⟩) (k+1) cap)).heap[i]?=wr.heap[i]?:=λi hi h1 h2 h3=>
  (Below.heap_setCell w8 _ _ i λe=>h1 (by have e:i=R:=e;exact e)).trans ((hg.block i (by omega) λe=>h3 e.symm).trans ((Hp.block i (by omega) id).trans ((Mp.block i (by simp;omega) λe=>h2 (Option.some.inj e)).trans ((Below.heap_alloc w4 _ i (by omega)).trans (Hx.block i hi id)))))
 have qW:v.ownBlock≠some R:=λe=>by have:=(Hl _ e).1;omega
 have qX:v.ownBlock≠some MA:=λe=>by have:=(Hl _ e).1;omega
 have M3:∀b,b < w7.heap.size->v.ownBlock≠some b->g≠b:=λb hb P2 e=>by
  rcases GG with e2|e2
  ·rw[e]at e2;exact P2 e2
  ·omega
 refine⟨⟨?_,?_,?_,?_,λi hi P2=>?_⟩,?_,?_,?_,by simp[h.len],λi b l hi hl=>?_,?_,λb hb=>?_,λb hb=>?_⟩
 ·exact hg.os.trans (Hp.os.trans (Mp.os.trans (Hx.os.trans h.fr.os)))
 ·exact hg.tape.trans (Hp.tape.trans (Mp.tape.trans (Hx.tape.trans h.fr.tape)))
 ·exact hg.output.trans (Hp.output.trans (Mp.output.trans (Hx.output.trans h.fr.output)))
 ·simp;omega
 ·refine(Gu i (by omega) (λe=>P2 (.inl e)) (λe=>P2 (.inr e)) λe=>?_).trans (h.fr.block i hi P2);have:=(Hl _ e).1;omega
 ·have PE:Bk w8 R 68 (ziP sc lf vs v):=(hg.block R (by omega) λe=>qW e.symm).trans ((Hp.block R (by omega) id).trans ((Mp.block R (by simp;omega) λe=>ji (Option.some.inj e)).trans ((Below.heap_alloc w4 _ R (by omega)).trans ((Hx.block R (by omega) id).trans h.bk))));have:=PE.set_ 8 (.slice (some ⟨g,0,none⟩) (k+1) cap);simpa[ziP]using this
 ·rw[Me,Hz];refine⟨Hb.1,Hb.2.imp id ?_⟩;rintro⟨g',yN,cur,e1,e2,e3,e4⟩;exact⟨g',yN,cur,e1,e2,(Below.heap_setCell w8 _ _ g' λe=>by have e:g'=R:=e;omega).trans e3,e4⟩
 ·rw[Me,Hz,Q9,<-zkN (by rw[zfo FO,<-FO,h.len,List.length_take];omega) Xx];refine((MV.fr Hp id).fr (Fr.grown (T:=λb=>v.ownBlock=some b) hg λg e _=>e) qX).fr (T:=λb=>b=R) (Fr.own (Fr.refl _ _) _ _) λe=>ji (by have e:MA=R:=e;exact e.symm)
 ·rcases Nat.lt_or_ge i bs.length with Je|Je
  ·rw[List.getElem?_append_left Je]at hi;have hm:=List.mem_of_getElem? hi;obtain⟨g1,g2⟩:=h.each i b l hi hl;exact⟨g1,(Gu b (h.lt b hm) (by omega) (by omega) (h.rb b hm)).trans g2⟩
  ·rw[List.getElem?_append_right Je]at hi;have e0:i - bs.length=0:=by
    have:=(List.getElem?_eq_some_iff.1 hi).1;simp at this;omega
   rw[e0]at hi;simp only[List.getElem?_cons_zero,Option.some.injEq]at hi;have ei:i=k:=by rw[<-h.len];omega
   subst ei hi;unfold begB at hl;rw[List.getElem?_map,hn]at hl;simp only[Option.map_some,Option.some.injEq]at hl;subst hl;refine⟨by omega,?_⟩;have Jw:=Bk.new w4 3 (intL (zers n.toNat)).toArray;exact(Below.heap_setCell w8 _ _ _ λe=>by have e:w4.heap.size=R:=e;omega).trans ((hg.block _ (by omega) λe=>by have:=(Hl _ e.symm).2;omega).trans ((Hp.block _ (by omega) id).trans ((Mp.block _ (by simp) λe=>by have:=Option.some.inj e;omega).trans Jw)))
 ·rw[List.nodup_append];refine⟨h.nd,by simp,λa ha b hb=>?_⟩;simp only[List.mem_singleton]at hb;rw[hb];have:=h.lt a ha;omega
 ·show some g≠some b
  intro e;have e:=Option.some.inj e;rcases List.mem_append.1 hb with hb|hb
  ·exact M3 b (by have:=h.lt b hb;omega) (h.rb b hb) e
  ·simp only[List.mem_singleton]at hb;subst hb;exact M3 _ (by omega) (λe2=>by have:=(Hl _ e2).2;omega) e
 ·rcases List.mem_append.1 hb with hb|hb
  ·have:=h.lt b hb;simp;omega
  ·simp only[List.mem_singleton]at hb;subst hb;simp;omega
