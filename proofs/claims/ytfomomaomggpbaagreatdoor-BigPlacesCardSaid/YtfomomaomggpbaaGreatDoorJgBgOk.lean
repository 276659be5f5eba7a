/- big. -/
import Derived.Test.YtfomomaomggpbaaGreatDoorJgBgMkO
set_option linter.all false
namespace Go.Proofs.YtfomomaomggpbaaGreatDoor
open Go.RowKit Go.Shelf
theorem zha:∀(l:List (List UInt8))(x t:List UInt8),posI (l++ [x]) t=(posI l t).or (if x=t then some l.length else none)
 | [],x,t=>by simp only[List.nil_append,posI];split<;>rfl
 |y::r,x,t=>by
  simp only[List.cons_append,posI,zha r x t];by_cases h:y=t
  ·simp[h]
  ·simp only[if_neg h];cases posI r t with
   |some n=>rfl
   |none=>
    simp only[Option.none_or,Option.map_none];split<;>simp
theorem zlQ:∀ {l:List (List UInt8)} {t:List UInt8},t∉l->posI l t=none
 | [],_,_=>rfl
 |x::r,t,h=>by
  have h0:¬x=t:=λe=>h (by rw[e];exact List.mem_cons_self);have h1:t∉r:=λe=>h (List.mem_cons_of_mem _ e);simp only[posI,if_neg h0,zlQ h1];rfl
theorem zgd:∀ {l:List (List UInt8)} {t:List UInt8},t∈l->∃i,posI l t=some i
 | [],_,h=>by simp at h
 |x::r,t,h=>by
  unfold posI;by_cases e:x=t
  ·exact⟨0,by rw[if_pos e]⟩
  ·have hr:t∈r:=(List.mem_cons.1 h).resolve_left λe'=>e e'.symm;obtain⟨i,hi⟩:=zgd hr;exact⟨i+1,by rw[if_neg e,hi];rfl⟩
def fA (row:List Value)(names:List (List UInt8)):List UInt8->Option Value:=λnm=>(posI names nm).bind λi=>row[i]?
theorem zlR {row:List Value}{names:List (List UInt8)}(hl:row.length=names.length){x:List UInt8}(hx:x∉names)(v:Value):(λy=>if y=x then some v else fA row names y)=fA (row++ [v]) (names++ [x]):=by
 funext y
 unfold fA;rw[zha];by_cases e:y=x
 ·subst e;rw[if_pos rfl,zlQ hx,if_pos rfl];simp[<-hl]
 ·rw[if_neg e,if_neg (λe'=>e e'.symm),Option.or_none];cases h:posI names y with
  |none=>rfl
  |some i=>
   have:=zcF h;simp only[Option.bind_some];rw[List.getElem?_append_left (by omega)]
def ptrL (V n:Nat):List Value:=(List.range n).map λi=> .pointer (some ⟨V,i,none⟩)
theorem zlS (V n:Nat):ptrL V (n+1)=ptrL V n++ [.pointer (some ⟨V,n,none⟩)]:=by simp[ptrL,List.range_succ]
theorem znB (V n:Nat):(ptrL V n).length =n:=by simp[ptrL]
theorem zpu {V n i:Nat}(h:i < n):(ptrL V n)[i]?=some (.pointer (some ⟨V,i,none⟩)):=by simp[ptrL,h]
theorem zpv:(Tryz.prog.info? 28).map (λi=>(i.zero,i.size,i.bytes))=some (some (.slice none 0 0),1,24):=by kernel_rfl
theorem znC:(Tryz.prog.info? 3).map (λi=>(i.zero,i.size,i.bytes))=some (some (.int .i64 0),1,8):=by kernel_rfl
def zers (n:Nat):List Int:=List.replicate n 0
theorem zbW (n:Nat):(zers n).length =n:=by simp[zers]
theorem zhb (n:Nat)(hn:n<=100000)(w:World):(Instr.makeSlice 28 (.int .i64 n) (.int .i64 n)).run Tryz.prog w= .ok (.slice (some ⟨w.heap.size,0,none⟩) n n) (w.alloc (.cells (intL (zers n)).toArray 3)):=by
 obtain⟨i0,hi,Fg,Hw,G5⟩:=info_parts znC;have h:=run_makeSlice (P:=Tryz.prog) w 28 3 i0 (.int .i64 0) Tryz.underlying28 hi Fg .i64 .i64 (n:Int) n (by omega) (Int.le_refl _) (by rw[Hw];simp;omega) (by rw[G5];omega) (by omega);simp only[Int.toNat_natCast,Hw,Nat.mul_one]at h;have e:madeCells (Value.int .i64 0).cells n=(intL (zers n)).toArray :=by
  apply Array.ext
  ·simp[size_madeCells,intL,zers]
  ·intro j h1 h2;have e1:j % 1=0:=Nat.mod_one j;simp[madeCells,intL,zers,Value.cells,e1]
 rw[e]at h;exact h
def begB (g:List Int):List (List Int):=g.map λn=>zers n.toNat
def zjI (sc lf vs v:Value):Array Value:= #[sc,.int .u8 0,.int .u8 0,.int .i64 0,.int .i64 0,.int .i64 0,lf,vs,v]
structure BgA (w1:World)(R MA:Nat)(sc lf vs:Value)(names:List (List UInt8))(zs:List Int)(v:Value)(wr:World)(bs:List Nat)(k:Nat):Prop where
 fr:Fr (λb=>b=R\/b=MA) w1 wr
 bk:Bk wr R 68 (zjI sc lf vs v)
 row:wr.ownsRow w1.heap.size 28 1 v k (rowL bs (begB (zs.take k)))
 map:MpV wr MA k (fA (rowL bs (begB (zs.take k))) (names.take k))
 len:bs.length=k
 each:∀(i b:Nat)(l:List Int),bs[i]?=some b->(begB zs)[i]?=some l->w1.heap.size<=b/\Bk wr b 3 (intL l).toArray
 nd:bs.Nodup
 rb:∀b∈bs,v.ownBlock≠some b
 lt:∀b∈bs,b < wr.heap.size
theorem BgA.step {w1:World}{R MA:Nat}{sc lf vs:Value}{names:List (List UInt8)}{zs:List Int}{v:Value}{wr:World}{bs:List Nat}{k:Nat}(h:BgA w1 R MA sc lf vs names zs v wr bs k)(hR:R < w1.heap.size)(hM:MA < w1.heap.size)(kH:R≠MA){n:Int}(hn:zs[k]?=some n){x:List UInt8}(hx:names[k]?=some x)(Yw:x∉names.take k){w4 w6 w7 w8:World}(HJ:Fr NoT wr w4)
  (MF:(w4.alloc (.cells (intL (zers n.toNat)).toArray 3)).grownBy w6 (some MA)) (Na:MpV w6 MA (k+1) (λy=>if y=x then some (slL w4.heap.size n.toNat)else fA (rowL bs (begB (zs.take k))) (names.take k) y)) (Hs:Fr NoT w6 w7) {g cap:Nat}
  (Ha:w8.ownsRow w1.heap.size 28 1 (.slice (some ⟨g,0,none⟩) (k+1) cap) (k+1) (rowL bs (begB (zs.take k))++ [slL w4.heap.size n.toNat])) (hg:w7.grownBy w8 v.ownBlock) (GN:v.ownBlock=some g\/g=w7.heap.size):
  BgA w1 R MA sc lf vs names zs (.slice (some ⟨g,0,none⟩) (k+1) cap) (w8.setCell ⟨R,8,none⟩ (.slice (some ⟨g,0,none⟩) (k+1) cap)) (bs++ [w4.heap.size]) (k+1):=by
 have Hk:=h.row.lt;have Hc:w1.heap.size<=wr.heap.size:=h.fr.size;have h4:=HJ.size;have h6:=MF.size;simp only[World.size_alloc]at h6;have h7:=Hs.size;have h8:=hg.size;have Mu:zs.take (k+1)=zs.take k++ [n]:=by rw[List.take_add_one,hn];rfl
 have RJ:names.take (k+1)=names.take k++ [x]:=by rw[List.take_add_one,hx];rfl
 have kI:k < zs.length:=(List.getElem?_eq_some_iff.1 hn).1;have Ji:k < names.length:=(List.getElem?_eq_some_iff.1 hx).1;have F6:bs.length=(begB (zs.take k)).length :=by unfold begB;rw[h.len,List.length_map,List.length_take];omega
 have Hi:rowL (bs++ [w4.heap.size]) (begB (zs.take k++ [n]))=rowL bs (begB (zs.take k))++ [slL w4.heap.size n.toNat]:=by
  unfold begB at F6 ⊢;rw[List.map_append,List.map_cons,List.map_nil,zgT _ _ F6,zbW]
 -- blocks of wr that stay
 have Gu:∀i,i < wr.heap.size->i≠R->i≠MA->v.ownBlock≠some i->(w8.setCell ⟨R,8,none⟩ (.slice (some ⟨g,0,none⟩) (k+1) cap)).heap[i]?=wr.heap[i]?:=λi hi h1 h2 h3=>
  (Below.heap_setCell w8 _ _ i λe=>h1 (by have e:i=R:=e;exact e)).trans ((hg.block i (by omega) λe=>h3 e.symm).trans ((Hs.block i (by omega) id).trans ((MF.block i (by simp;omega) λe=>h2 (Option.some.inj e)).trans ((Below.heap_alloc w4 _ i (by omega)).trans (HJ.block i hi id)))))
 have yH:v.ownBlock≠some R:=λe=>by have:=(Hk _ e).1;omega
 have yI:v.ownBlock≠some MA:=λe=>by have:=(Hk _ e).1;omega
 have Nl:∀b,b < w7.heap.size->v.ownBlock≠some b->g≠b:=λb hb QX e=>by
  rcases GN with e2|e2
  ·rw[e]at e2;exact QX e2
  ·omega
 refine⟨⟨?_,?_,?_,?_,λi hi QX=>?_⟩,?_,?_,?_,by simp[h.len],λi b l hi hl=>?_,?_,λb hb=>?_,λb hb=>?_⟩
 ·exact hg.os.trans (Hs.os.trans (MF.os.trans (HJ.os.trans h.fr.os)))
 ·exact hg.tape.trans (Hs.tape.trans (MF.tape.trans (HJ.tape.trans h.fr.tape)))
 ·exact hg.output.trans (Hs.output.trans (MF.output.trans (HJ.output.trans h.fr.output)))
 ·simp;omega
 ·refine(Gu i (by omega) (λe=>QX (.inl e)) (λe=>QX (.inr e)) λe=>?_).trans (h.fr.block i hi QX);have:=(Hk _ e).1;omega
 ·have N0:Bk w8 R 68 (zjI sc lf vs v):=(hg.block R (by omega) λe=>yH e.symm).trans ((Hs.block R (by omega) id).trans ((MF.block R (by simp;omega) λe=>kH (Option.some.inj e)).trans ((Below.heap_alloc w4 _ R (by omega)).trans ((HJ.block R (by omega) id).trans h.bk))));have:=N0.set_ 8 (.slice (some ⟨g,0,none⟩) (k+1) cap);simpa[zjI]using this
 ·rw[Mu,Hi];refine⟨Ha.1,Ha.2.imp id ?_⟩;rintro⟨g',xO,cur,e1,e2,e3,e4⟩;exact⟨g',xO,cur,e1,e2,(Below.heap_setCell w8 _ _ g' λe=>by have e:g'=R:=e;omega).trans e3,e4⟩
 ·rw[Mu,Hi,RJ,<-zlR (by rw[zfV F6,<-F6,h.len,List.length_take];omega) Yw];refine((Na.fr Hs id).fr (Fr.grown (T:=λb=>v.ownBlock=some b) hg λg e _=>e) yI).fr (T:=λb=>b=R) (aJ aH) λe=>kH (by have e:MA=R:=e;exact e.symm)
 ·rcases Nat.lt_or_ge i bs.length with Jq|Jq
  ·rw[List.getElem?_append_left Jq]at hi;have hm:=List.mem_of_getElem? hi;obtain⟨g1,g2⟩:=h.each i b l hi hl;exact⟨g1,(Gu b (h.lt b hm) (by omega) (by omega) (h.rb b hm)).trans g2⟩
  ·rw[List.getElem?_append_right Jq]at hi;have e0:i - bs.length=0:=by
    have:=(List.getElem?_eq_some_iff.1 hi).1;simp at this;omega
   rw[e0]at hi;simp only[List.getElem?_cons_zero,Option.some.injEq]at hi;have ei:i=k:=by rw[<-h.len];omega
   subst ei hi;unfold begB at hl;rw[List.getElem?_map,hn]at hl;simp only[Option.map_some,Option.some.injEq]at hl;subst hl;refine⟨by omega,?_⟩;have JL:=Bk.new w4 3 (intL (zers n.toNat)).toArray;exact(Below.heap_setCell w8 _ _ _ λe=>by have e:w4.heap.size=R:=e;omega).trans ((hg.block _ (by omega) λe=>by have:=(Hk _ e.symm).2;omega).trans ((Hs.block _ (by omega) id).trans ((MF.block _ (by simp) λe=>by have:=Option.some.inj e;omega).trans JL)))
 ·rw[List.nodup_append];refine⟨h.nd,by simp,λa ha b hb=>?_⟩;simp only[List.mem_singleton]at hb;rw[hb];have:=h.lt a ha;omega
 ·show some g≠some b
  intro e;have e:=Option.some.inj e;rcases List.mem_append.1 hb with hb|hb
  ·exact Nl b (by have:=h.lt b hb;omega) (h.rb b hb) e
  ·simp only[List.mem_singleton]at hb;subst hb;exact Nl _ (by omega) (λe2=>by have:=(Hk _ e2).2;omega) e
 ·rcases List.mem_append.1 hb with hb|hb
  ·have:=h.lt b hb;simp;omega
  ·simp only[List.mem_singleton]at hb;subst hb;simp;omega
structure KnB9 (n:Bn)(kd:List UInt8->Prop)(ps:List (List UInt8))(kn:Kn):Prop where
 sc:∀t,isK kn t 1->(∃k,posI ps t=some k)\/∃i,posI n.vars t=some i
 ar:∀t,isK kn t 2->∃i,posI n.arrs t=some i
 pr:∀t na,kn t=some (3,na)->kd t/\∃p,n.procs t=some p/\(p.params.length:Int)=na
 gl:∀t∈n.vars,kn t≠none
section
variable {n:Bn} {kd:List UInt8->Prop} {ps:List (List UInt8)} {kn:Kn}
theorem KnB9.put (h:KnB9 n kd [] kn){x:Prc}(hx:n.procs x.nm.data.toList=some x):KnB9 n (λy=>kd y\/y=x.nm.data.toList) [] (kn.put x.nm.data.toList (3,x.params.length)):=by
 have hk:∀t (k:Int),k≠3->isK (kn.put x.nm.data.toList (3,x.params.length)) t k->isK kn t k:=λt k hk hi=>by
  obtain⟨v,hv⟩:=hi;unfold Kn.put at hv;by_cases e:t=x.nm.data.toList
  ·rw[if_pos e]at hv;simp only[Option.some.injEq,Prod.mk.injEq]at hv;exact absurd hv.1.symm hk
  ·rw[if_neg e]at hv;exact⟨v,hv⟩
 refine⟨λt hi=>h.sc t (hk t 1 (by decide) hi),λt hi=>h.ar t (hk t 2 (by decide) hi),λt na e=>?_,λt ht=>?_⟩
 ·unfold Kn.put at e;by_cases e2:t=x.nm.data.toList
  ·rw[if_pos e2]at e;simp only[Option.some.injEq,Prod.mk.injEq]at e;exact⟨.inr e2,x,by rw[e2];exact hx,e.2⟩
  ·rw[if_neg e2]at e;obtain⟨h1,h2⟩:=h.pr t na e;exact⟨.inl h1,h2⟩
 ·unfold Kn.put;split
  ·simp
  ·exact h.gl t ht
theorem KnB9.own (h:KnB9 n kd [] kn)(ps:List (List UInt8)):KnB9 n kd ps (putL (1,0) ps kn):=by
 have hk:∀t v,(putL (1,0) ps kn) t=some v->(t∈ps/\v=(1,0))\/kn t=some v:=λt v hv=>by
  unfold putL at hv;by_cases e:t∈ps
  ·rw[if_pos e]at hv;exact .inl ⟨e,(Option.some.inj hv).symm⟩
  ·rw[if_neg e]at hv;exact .inr hv
 refine⟨λt hi=>?_,λt hi=>?_,λt na e=>?_,λt ht=>?_⟩
 ·obtain⟨v,hv⟩:=hi;rcases hk _ _ hv with⟨hm,_⟩|hv
  ·exact .inl (zgd hm)
  ·rcases h.sc t ⟨v,hv⟩with⟨k,hk⟩|hi
   ·simp[posI]at hk
   ·exact .inr hi
 ·obtain⟨v,hv⟩:=hi;rcases hk _ _ hv with⟨_,e⟩|hv
  ·simp at e
  ·exact h.ar t ⟨v,hv⟩
 ·rcases hk _ _ e with⟨_,e⟩|hv
  ·simp at e
  ·exact h.pr t na hv
 ·unfold putL;split
  ·simp
  ·exact h.gl t ht
theorem ziC (hk:KnB9 n kd ps kn):∀xs,okX xs=true->okUX kn xs->szX xs->wfX n ps xs
 | .nil,_,_,_=>trivial
 | .cons k nm m args at_ r,h,⟨u1,u2,u3,u4⟩,⟨z1,z2,z3⟩=>by
  unfold okX at h;simp only[Bool.and_eq_true,decide_eq_true_eq,beq_iff_eq]at h;obtain⟨⟨⟨⟨⟨⟨⟨h1,h2⟩,h3⟩,h4⟩,h5⟩,h6⟩,h7⟩,h8⟩:=h;refine⟨⟨⟨h1,h2⟩,z1,λe=>hk.sc _ (u1 e),λe=>hk.ar _ (u2 e),λe=>?_,λe=>?_,λe=>?_⟩,ziC hk args h7 u3 z2,ziC hk r h8 u4 z3⟩
  ·rcases(show k=1\/k=2 by omega)with rfl|rfl<;>simpa[tabA,zcA]using h6
  ·rcases e with rfl|rfl<;>(simp[tabA,zcA]at h6;omega)
  ·rcases(show k=5\/k=6\/k=7\/k=8\/k=9\/k=10\/k=11 by omega)with rfl|rfl|rfl|rfl|rfl|rfl|rfl<;>(simp[tabA,zcA]at h6;omega)
theorem zge (hk:KnB9 n kd ps kn):∀xs,okC xs=true->okUC kn xs->szC xs->wfCb n ps xs
 | .nil,_,_,_=>trivial
 | .cons k args of_ at_ r,h,⟨u1,u2,u3⟩,⟨z1,z2,z3⟩=>by
  unfold okC at h;simp only[Bool.and_eq_true,decide_eq_true_eq,beq_iff_eq]at h;obtain⟨⟨⟨⟨⟨⟨h1,h2⟩,h3⟩,h4⟩,h5⟩,h6⟩,h7⟩:=h;refine⟨⟨⟨h1,h2⟩,λe=>?_,λe=>?_,λe1 e2=>?_⟩,ziC hk args h5 u1 z1,zge hk of_ h6 u2 z2,zge hk r h7 u3 z3⟩
  ·subst e;simp[tabA,zcB]at h4;omega
  ·rcases e with rfl|rfl<;>(simp[tabA,zcB]at h4;omega)
  ·rcases(show k=3\/k=4\/k=5\/k=6\/k=7\/k=8 by omega)with rfl|rfl|rfl|rfl|rfl|rfl<;>(simp[tabA,zcB]at h3;omega)
theorem zc5 (hk:KnB9 n kd ps kn):∀xs,okS xs=true->okUS kn xs->szS xs->wfSb n kd ps xs
 | .nil,_,_,_=>trivial
 | .cons k nm args cond body els at_ r,h,⟨⟨u1,u2,u3⟩,v1,v2,v3,v4,v5⟩,⟨z0,z1,z2,z3,z4,z5⟩=>by
  unfold okS at h;simp only[Bool.and_eq_true,decide_eq_true_eq,beq_iff_eq,Bool.or_eq_true]at h;obtain⟨⟨⟨⟨⟨⟨⟨⟨⟨⟨⟨h1,h2⟩,h3⟩,h4⟩,h5⟩,h6⟩,h7⟩,h8⟩,h9⟩,Jj⟩,Pu⟩,Pj⟩:=h;refine⟨⟨⟨h1,h2⟩,z0,λe=>hk.sc _ (u1 e),λe=>hk.ar _ (u2 e),λe=>?_,λe=>?_,λe1 e2=>?_,λe=>?_⟩,ziC hk args h8 v1 z1,zge hk cond h9 v2 z2,zc5 hk body Jj v3 z3,zc5 hk els Pu v4 z4,zc5 hk r Pj v5 z5⟩
  ·subst e;simp[tabA,zaK]at h4;omega
  ·subst e;simp[tabA,zaK]at h4;omega
  ·rcases(show k=5\/k=6\/k=7\/k=8 by omega)with rfl|rfl|rfl|rfl<;>(simp[tabA,zaK]at h5;omega)
  ·obtain⟨p1,p,p2,p3⟩:=hk.pr _ _ (u3 e);exact⟨p1,p,p2,by omega⟩
end
theorem zeM {n:Bn}{kd:List UInt8->Prop}{ps:List (List UInt8)}:∀xs,wfSb n kd ps xs->zdu n xs
 | .nil,_=>trivial
 | .cons k nm args cond body els at_ r,⟨h,_,_,h3,h4,h5⟩=>⟨h.1,λe=>by obtain⟨_,p,hp,_⟩:=h.2.2.2.2.2.2.2 e;exact⟨p,hp⟩,zeM body h3,zeM els h4,zeM r h5⟩
def kdL (l:List Prc):List UInt8->Prop:=λy=>∃x∈l,y=x.nm.data.toList
def wfPb (n:Bn)(kd:List UInt8->Prop)(x:Prc):Prop:=wfSb n kd (x.params.map (·.nm.data.toList)) x.body/\(x.params.map (·.nm.data.toList)).Nodup /\∀nm∈x.params.map (·.nm.data.toList),posI n.vars nm=none
theorem KnB9.as {n:Bn}{kd Dq:List UInt8->Prop}{ps:List (List UInt8)}{kn:Kn}(h:KnB9 n kd ps kn)(e:∀y,kd y->Dq y):KnB9 n Dq ps kn:=⟨h.sc,h.ar,λt na ht=>⟨e _ (h.pr t na ht).1,(h.pr t na ht).2⟩,h.gl⟩
theorem ziD {n:Bn}:∀(zs ys:List Prc)(kn:Kn),KnB9 n (kdL ys) [] kn->zlr zs kn->(∀x∈zs,okS x.body=true/\szS x.body/\n.procs x.nm.data.toList=some x)->
  (∀(i:Nat) x,zs[i]?=some x->wfPb n (kdL (ys++zs.take i)) x)/\KnB9 n (kdL (ys++zs)) [] (zjw zs kn)
 | [],ys,kn,hk,_,_=>⟨λi x h=>by simp at h,by simpa[zjw]using hk⟩
 |x::r,ys,kn,hk,⟨⟨h1,h2,h3⟩,h4⟩,hx=>by
  obtain⟨o1,o2,o3⟩:=hx x (by simp);have hf:=freshL_iff.1 h2;have hw:wfPb n (kdL ys) x:=by
   refine⟨zc5 (hk.own _) x.body o1 h3 o2,hf.2,λnm hm=>?_⟩;cases e:posI n.vars nm with
   |none=>rfl
   |some i=>exact absurd (hf.1 nm hm) (hk.gl nm (List.mem_of_getElem? (zf9 e)))
  have GS:KnB9 n (kdL (ys++ [x])) [] (kn.put x.nm.data.toList (3,x.params.length)):=(hk.put o3).as λy hy=>by
   rcases hy with⟨z,hz,e⟩|e
   ·exact⟨z,by simp[hz],e⟩
   ·exact⟨x,by simp,e⟩
  obtain⟨g1,g2⟩:=ziD r (ys++ [x]) _ GS h4 λz hz=>hx z (by simp[hz]);refine⟨λi z hi=>?_,by simpa[zjw]using g2⟩;cases i with
  |zero=>
   simp only[List.getElem?_cons_zero,Option.some.injEq]at hi;subst hi;simpa using hw
  |succ i=>
   have:=g1 i z (by simpa using hi);simpa using this
theorem zlT {ps:List Prc}(h:okPs ps=true){x:Prc}(hx:x∈ps):okS x.body=true:=by
 unfold okPs zcR at h;have:=List.all_eq_true.1 h x hx;simp only[Bool.and_eq_true]at this;exact this.2
theorem zlU {t:Tre}(h:OkT t)(hz:SzT t):(∀(i:Nat) x,t.procs[i]?=some x->wfPb (bnOf t) (kdL (t.procs.take i)) x)/\wfSb (bnOf t) (kdL t.procs) [] t.main:=by
 have ht:=h.tree;unfold okTr at ht;simp only[Bool.and_eq_true]at ht;obtain⟨⟨⟨t1,t2⟩,t3⟩,t4⟩:=ht;have hp:=freshL_iff.1 h.procs;have GI:KnB9 (bnOf t) (kdL []) [] (knT t):=by
  have hk:∀y v,knT t y=some v->v.1=4\/(y∈nmA t.arrays/\v.1=2)\/(y∈nmV t.vars/\v.1=1):=λy v hv=>by
   unfold knT putL at hv;split at hv
   ·left;rw[<-Option.some.inj hv]
   ·split at hv
    ·rename_i hm;exact .inr (.inl ⟨hm,by rw[<-Option.some.inj hv]⟩)
    ·split at hv
     ·rename_i hm;exact .inr (.inr ⟨hm,by rw[<-Option.some.inj hv]⟩)
     ·cases hv
  refine⟨λy hi=>?_,λy hi=>?_,λy na e=>?_,λy hy=>?_⟩
  ·obtain⟨v,hv⟩:=hi;rcases hk _ _ hv with e|⟨_,e⟩|⟨hm,_⟩
   ·simp at e
   ·simp at e
   ·exact .inr (zgd hm)
  ·obtain⟨v,hv⟩:=hi;rcases hk _ _ hv with e|⟨hm,_⟩|⟨_,e⟩
   ·simp at e
   ·exact zgd hm
   ·simp at e
  ·rcases hk _ _ e with e|⟨_,e⟩|⟨_,e⟩<;>simp at e
  ·unfold knT putL;have hm:y∈nmV t.vars:=hy;split
   ·simp
   ·split
    ·simp
    ·first|simp|(rw[if_pos hm];simp)
 obtain⟨g1,g2⟩:=ziD t.procs [] (knT t) GI h.each λx hx=>⟨zlT t4 hx,(hz.procs x hx).2.2,zcD hp.2 hx⟩;exact⟨λi x hi=>by simpa using g1 i x hi,zc5 (by simpa using g2) t.main t2 h.main hz.main⟩
theorem zlV {t:Tre}(h:OkT t)(hz:SzT t):(∀y p,(bnOf t).procs y=some p->zdu (bnOf t) p.body)/\zdu (bnOf t) t.main:=by
 obtain⟨h1,h2⟩:=zlU h hz;refine⟨λy p hp=>?_,zeM _ h2⟩;obtain⟨hm,_⟩:=zfs hp;obtain⟨i,hi⟩:=List.mem_iff_getElem?.1 hm;exact zeM _ (h1 i p hi).1
def BgC.to (C:BgC)(T:Nat):BgC:={C with T:=T}
section
variable {C:BgC} {T T2:Nat}
theorem BgSt.to {oc:List Nat}{s:Bs}{w:World}(h:BgSt (C.to T) oc s w)(hT:∀b∈oc,T2<=b):BgSt (C.to T2) oc s w:=
 ⟨h.run,h.sto,h.len,h.own,h.nd,hT,h.oi,h.lf,h.nv,h.na,h.az⟩
theorem PgAt.to {w:World}(h:PgAt (C.to T) w)(hT:T<=T2):PgAt (C.to T2) w:=by
 obtain⟨N,f,h1,h2⟩:=h.ma;exact⟨h.p,N,f,h1,λnm i hi=>by
  obtain⟨b,hb,h3⟩:=h2 nm i hi;exact⟨b,hb,λs oc W l hs hl=>h3 s oc W l (hs.to λb GO=>aK hT (hs.top b GO)) hl⟩⟩
theorem DoP.up {ps:List (List UInt8)}{val:Value}{D:DoR}{lo hi:Nat}{w w2:World}(h:DoP (C.to T) ps val D lo hi w)(hT:T<=T2)(hh:hi<=T2)(hb:∀i,i < T2->¬C.Mut i->w2.heap[i]?=w.heap[i]?):DoP (C.to T2) ps val D 0 0 w2:=by
 obtain⟨g,caps,h1,h2,h3⟩:=h;refine⟨g,caps,h1,h2,λW oc nb s yJ t hr hd=>?_⟩;have yK:RunAt (C.to T) lo hi w W ps oc nb s:=
  ⟨⟨⟨aK hh hr.lat.size.2,aK hT hr.lat.size.2⟩,λi hi hn=>by
   have Jq:i < T2:=by
    rcases hi with e|e
    ·exact aM (show i < T from e) hT
    ·omega
   exact(hr.lat.block i (.inl Jq) hn).trans (hb i Jq hn)⟩,λb GO=>aK hh (hr.st.top b GO),hr.st.to λb GO=>aK hT (hr.st.top b GO),hr.sc.map,hr.sc.ap,hr.sc.out⟩
 refine(h3 W oc nb s yJ t yK hd).mono λe w' hq=>?_;obtain⟨q1,q2,q3⟩:=hq;exact⟨q1,q2.to λb GO=>hr.st.top b GO,q3⟩
def EntP (C:BgC)(T:Nat)(v:Option Value)(p:Prc)(w:World):Prop:=
 ∃Ap cp vb S Z,v=some (.agg #[.slice Ap p.params.length cp,vb])/\DoP (C.to T) (p.params.map (·.nm.data.toList)) vb (RunT C.n (.all (p.params.map (·.nm.data.toList)) p.body)) 0 0 w/\SlR (VaR w S Z p.params) p.params.length 24 Ap cp/\(∀b,S b->b < C.B)/\(∀x∈p.params,x.nm.size<=9223372036854775807)/\(p.params.map (·.nm.data.toList)).Nodup /\∀nm∈p.params.map (·.nm.data.toList),posI C.n.vars nm=none
def PrF (C:BgC)(T:Nat)(kn:List UInt8->Prop)(f:List UInt8->Option Value)(N:Nat)(w:World):Prop:=MpV w C.MP N f/\∀nm p,kn nm->C.n.procs nm=some p->EntP C T (f nm) p w
theorem PrF.at_ {kn:List UInt8->Prop}{f:List UInt8->Option Value}{N:Nat}{w:World}(h:PrF C T kn f N w):PrAt (C.to T) kn w:=⟨N,f,h.1,h.2⟩
theorem EntP.up {v:Option Value}{p:Prc}{w w2:World}(h:EntP C T v p w)(hT:T<=T2)(hB:C.B<=w.heap.size)(VC:C.B<=C.MP)(hf:Fr (λb=>b=C.MP) w w2)(Yl:T2<=w.heap.size):EntP C T2 v p w2:=by
 obtain⟨Ap,cp,vb,S,Z,g1,g2,g3,g4,g5⟩:=h;refine⟨Ap,cp,vb,S,Z,g1,g2.up hT (Nat.zero_le _) λi hi hn=>hf.block i (aM hi Yl) λe=>hn (.inr (.inr (.inr e))),g3.imp λ_ _ hx=>VaR.keep (hf.same λb hb=>⟨aM (g4 b hb) hB,λe=>?_⟩) hx,g4,g5⟩;have e:b=C.MP:=e;have:=g4 b hb;omega
theorem EntP.later {v:Option Value}{p:Prc}{w w2:World}(h:EntP C T v p w)(hT:T<=w.heap.size)(hB:C.B<=w.heap.size)(hf:Fr NoT w w2):EntP C T v p w2:=by
 obtain⟨Ap,cp,vb,S,Z,g1,g2,g3,g4,g5⟩:=h;exact⟨Ap,cp,vb,S,Z,g1,g2.later (Later.of0 hf (Nat.zero_le _) hT),g3.imp λ_ _ hx=>VaR.keep (hf.same λb hb=>⟨aM (g4 b hb) hB,id⟩) hx,g4,g5⟩
theorem PrF.up {kn:List UInt8->Prop}{f:List UInt8->Option Value}{N:Nat}{w w2:World}(h:PrF C T kn f N w)(hT:T<=w.heap.size)(hB:C.B<=w.heap.size)(VC:C.B<=C.MP)(hf:Fr NoT w w2)(h2:T<=T2)(Jl:T2<=w2.heap.size):PrF C T2 kn f N w2:=
 ⟨h.1.fr hf id,λnm p hk hp=>((h.2 nm p hk hp).later hT hB hf).up h2 (aK hB hf.size) VC aH Jl⟩
theorem PrF.step {kn:List UInt8->Prop}{f:List UInt8->Option Value}{N:Nat}{w w5 w6:World}(h:PrF C T kn f N w)(hT:T<=w.heap.size)(hB:C.B<=w.heap.size)(VC:C.B<=C.MP)(hf:Fr NoT w w5){x:Prc}(hx:∀p,C.n.procs x.nm.data.toList=some p->p=x){vb:Value}{lo:Nat}(hd:DoP (C.to T) (x.params.map (·.nm.data.toList)) vb (RunT C.n (.all (x.params.map (·.nm.data.toList)) x.body)) lo w5.heap.size w5){Ap:Option Addr}{cp:Nat}{S:Nat->Prop}{Z:Prop}(hv:SlR (VaR w5 S Z x.params) x.params.length 24 Ap cp)(hS:∀b,S b->b < C.B)(Hx:∀y∈x.params,y.nm.size<=9223372036854775807)(Li:(x.params.map (·.nm.data.toList)).Nodup)(PB:∀nm∈x.params.map (·.nm.data.toList),posI C.n.vars nm=none)
  (hg:w5.grownBy w6 (some C.MP)) (hm:MpV w6 C.MP (N+1) (λy=>if y=x.nm.data.toList then some (.agg #[.slice Ap x.params.length cp,vb])else f y)) (NU:¬kn x.nm.data.toList):
  PrF C w5.heap.size (λy=>kn y\/y=x.nm.data.toList) (λy=>if y=x.nm.data.toList then some (.agg #[.slice Ap x.params.length cp,vb])else f y) (N+1) w6:=by
 have GA:Fr (λb=>b=C.MP) w5 w6:=Fr.grown hg λg e _=>(Option.some.inj e).symm;have kJ:T<=w5.heap.size:=aK hT hf.size;have kK:C.B<=w5.heap.size:=aK hB hf.size;refine⟨hm,λnm p hk hp=>?_⟩;by_cases e:nm=x.nm.data.toList
 ·subst e;obtain rfl:=hx p hp;simp only[if_true];refine⟨Ap,cp,vb,S,Z,rfl,hd.up kJ (aL _) λi hi hn=>GA.block i hi λe=>hn (.inr (.inr (.inr e))),hv.imp λ_ _ h=>VaR.keep (GA.same λb hb=>⟨aM (hS b hb) kK,λe=>?_⟩) h,hS,Hx,Li,PB⟩;have e:b=C.MP:=e;have:=hS b hb;omega
 ·simp only[if_neg e];have hk:kn nm:=hk.resolve_right e;exact((h.2 nm p hk hp).later hT hB hf).up kJ kK VC GA (aL _)
end
def bgC (t:Tre)(B T R V P MA MP:Nat)(A:Option Addr)(c:Nat)(bs:List Nat):BgC:=⟨bnOf t,B,B,T,R,V,P,MA,MP,A,c,bs,t.arrays.map λa=>a.size.toNat⟩
theorem zhR {t:Tre}{i:Nat}{a:Arr}(h:t.arrays[i]?=some a):(begB (t.arrays.map (·.size)))[i]?=some (zers a.size.toNat):=by simp[begB,h]
theorem zhc {n:Nat}:∀x∈zers n,is64 x:=λx hx=>by
 unfold zers at hx;have:=List.eq_of_mem_replicate hx;subst this;unfold is64
 decide
theorem BgA.bk_V {w1 wr:World}{R MA:Nat}{sc lf vs:Value}{names:List (List UInt8)}{zs:List Int}{v:Value}{bs:List Nat}{k:Nat}(h:BgA w1 R MA sc lf vs names zs v wr bs k){V:Nat}{ty:TypeId}{cs:Array Value}(hV:Bk w1 V ty cs)(hn:V≠R/\V≠MA):Bk wr V ty cs:=
 hV.fr h.fr λe=>e.elim hn.1 hn.2
theorem BgA.sets {t:Tre}{w1 wr:World}{R V P MA MP:Nat}{v:Value}{bs:List Nat}{B st:Nat}{As:Option Addr}{cs:Nat}{script:List Int}(FC:OkT t)
  (h:BgA w1 R MA (.slice As script.length cs) (.int .i64 st) (.slice (some ⟨V,0,none⟩) t.vars.length t.vars.length) (nmA t.arrays) (t.arrays.map (·.size)) v wr bs t.arrays.length)
  (hB:B<=V) (hV:V < w1.heap.size) (hR:R < w1.heap.size) (hM:MP < w1.heap.size) (hP:P < w1.heap.size) (hA:MA < w1.heap.size) (yL:B<=R) (VC:B<=MP) (Gh:R≠V/\P≠R/\P≠V/\P≠MP/\P≠MA/\MA≠R/\MA≠V/\MA≠MP) (Gu:st<=65536) (KS:IsSl wr B script As cs)
  (Xk:Bk w1 V 3 (intL (zers t.vars.length)).toArray) (yM:Bk w1 P 73 #[.pointer (some ⟨R,0,none⟩),.map (some MA),.map (some MP)]):
  ∃A c,v= .slice A t.arrays.length c/\∀T,wr.heap.size<=T->(bgC t B T R V P MA MP A c bs).Ok /\PgAt (bgC t B T R V P MA MP A c bs) wr/\BgSt (bgC t B T R V P MA MP A c bs) [] ⟨zers t.vars.length,begB (t.arrays.map (·.size)),script,st, []⟩ wr:=by
 obtain⟨A,c,rfl⟩:∃A c,v= .slice A t.arrays.length c:=by
  rcases h.row.2 with⟨e,e0⟩|⟨g,cap,cur,e,_⟩
  ·exact⟨none,0,by rw[e,e0]⟩
  ·exact⟨_,_,e⟩
 refine⟨A,c,rfl,λT hT=>?_⟩;have hw:=h.fr.size;have QP:=fewT_iff.1 FC.few;have Ha:∀n b,(Value.slice A n c).ownBlock =some b->w1.heap.size<=b/\b < wr.heap.size:=λn b hb=>h.row.lt b (by cases A<;>exact hb);have VD:∀b∈bs,w1.heap.size<=b:=λb hb=>by
  obtain⟨i,hi⟩:=List.mem_iff_getElem?.1 hb;have hl:i < t.arrays.length:=by rw[<-h.len];exact(List.getElem?_eq_some_iff.1 hi).1
  exact(h.each i b _ hi (zhR (List.getElem?_eq_getElem hl))).1
 have Mv:∀b,b < w1.heap.size->b∉bs:=λb hb hm=>by have:=VD b hm;omega
 have Mu:(t.arrays.map (·.size)).take t.arrays.length=t.arrays.map (·.size):=List.take_of_length_le (by simp);have RJ:(nmA t.arrays).take t.arrays.length=nmA t.arrays:=List.take_of_length_le (by simp[nmA]);have VE:(begB (t.arrays.map (·.size))).length =t.arrays.length:=by simp[begB]
 have gH:(bgC t B T R V P MA MP A c bs).Ok :=
  ⟨aL _,yL,VC,by show R < T;omega,by show V < T;omega,λb hb=>by have:=h.lt b hb;show T > b;omega,by show MP < T;omega,by show P < T;omega,by show MA < T;omega,Gh.1,Mv R hR,λn b hb=>by
   have:=Ha n b hb;refine⟨by show b < T;omega,λe=>?_⟩;have e:b=R:=e;omega,
   λe=>by
    rcases e with e|e|e|e
    ·exact Gh.2.1 e
    ·exact Gh.2.2.1 e
    ·exact Mv P hP e
    ·exact Gh.2.2.2.1 e,
   λe=>by
    rcases e with e|e|e|e
    ·exact Gh.2.2.2.2.2.1 e
    ·exact Gh.2.2.2.2.2.2.1 e
    ·exact Mv MA hA e
    ·exact Gh.2.2.2.2.2.2.2 e⟩
 have hz:∀l∈begB (t.arrays.map (·.size)),l.length<=16/\∀x∈l,is64 x:=λl hl=>by
  simp only[begB,List.mem_map]at hl;obtain⟨n,⟨a,ha,rfl⟩,rfl⟩:=hl;have:=FC.sizes a ha;exact⟨by rw[zbW];omega,zhc⟩
 refine⟨gH,⟨yM.fr h.fr λe=>by omega,_,_,h.map,λnm i hi=>?_⟩,⟨⟨As,cs,KS,by simpa[runV,zjI,bgC,zbW,VE]using h.bk⟩,⟨h.bk_V Xk ⟨Ne.symm Gh.1,Ne.symm Gh.2.2.2.2.2.2.1⟩,hB,?_,?_,λi b l hi hl=>?_,h.nd,Mv V hV,λe=>?_,λb hb e=>?_,⟨zhc,λl hl=>(hz l hl).2⟩,?_⟩,rfl,λi b x hb=>by simp at hb,List.nodup_nil,λb hb=>by simp at hb,λx hx=>by simp at hx,Gu,by simp[zbW,bgC,bnOf,nmV],by simp[VE,bgC,bnOf,nmA],?_⟩⟩
 ·obtain⟨b,hb⟩:∃b,bs[i]?=some b:=⟨_,List.getElem?_eq_getElem (by rw[h.len];have:=zcF hi;simpa[bgC,bnOf]using this)⟩;refine⟨b,hb,λs oc W l hs hl=>?_⟩;have G5:((s.ls.map List.length)[i]?)=some l.length:=by rw[List.getElem?_map,hl];rfl
  rw[hs.az]at G5;have Mr:i < t.arrays.length:=by rw[<-h.len];exact(List.getElem?_eq_some_iff.1 hb).1
  have PV:t.arrays[i].size.toNat =l.length:=by
   have h9:(t.arrays.map λa=>a.size.toNat)[i]?=some l.length:=G5;rw[List.getElem?_map,List.getElem?_eq_getElem Mr]at h9;simpa using h9
  have h8:=zhx hb (zhR (List.getElem?_eq_getElem Mr));rw[zbW,PV]at h8;rw[Mu,RJ];unfold fA;rw[show posI (nmA t.arrays) nm=some i from hi];exact h8
 ·show wr.ownsRow B 28 1 (.slice A (begB (t.arrays.map (·.size))).length c) (begB (t.arrays.map (·.size))).length (rowL bs (begB (t.arrays.map (·.size))))
  rw[VE];have h9:=h.row;rw[Mu]at h9;refine⟨h9.1,h9.2.imp id ?_⟩;rintro⟨g,cap,cur,e1,e2,e3⟩;exact⟨g,cap,cur,e1,by omega,e3⟩
 ·show bs.length=(begB (t.arrays.map (·.size))).length
  rw[VE,h.len]
 ·have:=h.each i b l hi hl;refine⟨?_,this.2⟩;show B<=b
  omega
 ·have e:(Value.slice A (begB (t.arrays.map (·.size))).length c).ownBlock =some V:=e;have:=Ha _ _ e;omega
 ·have e:(Value.slice A (begB (t.arrays.map (·.size))).length c).ownBlock =some b:=e;rw[VE]at e;exact h.rb b hb e
 ·show(zers t.vars.length).length <=1000/\(begB (t.arrays.map (·.size))).length <=1000/\∀l∈begB (t.arrays.map (·.size)),l.length<=1000
  rw[zbW,VE];exact⟨by omega,by omega,λl hl=>by have:=(hz l hl).1;omega⟩
 ·simp[bgC,begB,zbW]
