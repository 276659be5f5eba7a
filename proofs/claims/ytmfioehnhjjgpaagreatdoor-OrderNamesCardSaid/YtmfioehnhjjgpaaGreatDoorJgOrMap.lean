/-
  Maps from numbers to values of one cell that the call itself makes, as functions; a map from numbers to rows of numbers.
-/
import Derived.Test.YtmfioehnhjjgpaaGreatDoorJnCk3
import Derived.Test.YtmfioehnhjjgpaaGreatDoorJgOrP
import Derived.Deep.DeepCutAuto
set_option linter.unusedVariables false
set_option linter.unusedSimpArgs false
namespace Go.Proofs.YtmfioehnhjjgpaaGreatDoor
open Go.RowKit Go.Shelf Go.Maps

def ZM (w:World) (b n:Nat) (z:Value) (V:Int→Value) (K:Int→Prop):Prop:=
 ∃D,w.ownsMap Tryz.prog 3 heldE b n D∧∀x,in64 x→D.atKey (.int .i64 x) (.held z)= .held (V x)∧(Maps.has D (.int .i64 x)=true↔K x)
theorem ZM.made (w:World) (z:Value):ZM (w.alloc (.map #[] 0)) w.heap.size 0 z (fun _=>z) (fun _=>False):=
 ⟨_,World.ownsMap_made _ _ _ _,fun _ _=>⟨rfl,by simp[Maps.has]⟩⟩
theorem ZM.lt {w:World} {b n:Nat} {z:Value} {V:Int→Value} {K:Int→Prop} (h:ZM w b n z V K):b < w.heap.size:=by
 obtain⟨D,hown,_⟩:=h
 exact hown.lt
theorem ZM.congr {w:World} {b n n':Nat} {z:Value} {V V':Int→Value} {K K':Int→Prop} (h:ZM w b n z V K) (hn:n≤n') (hV:∀x,V x=V' x) (hK:∀x,K x↔K' x):ZM w b n' z V' K':=by
 obtain⟨D,hown,hD⟩:=h
 exact⟨D,hown.mono hn,fun x hx=>⟨hV x▸(hD x hx).1,(hD x hx).2.trans (hK x)⟩⟩
theorem ZM.kept {w w':World} {b n:Nat} {z:Value} {V:Int→Value} {K:Int→Prop} (h:ZM w b n z V K) {row:Option Nat} (hg:w.grownBy w' row) (hne:some b≠row):ZM w' b n z V K:=by
 obtain⟨D,hown,hD⟩:=h
 exact⟨D,hown.kept hg hne,hD⟩
theorem ZM.fr {T:Nat→Prop} {w w':World} {b n:Nat} {z:Value} {V:Int→Value} {K:Int→Prop} (h:ZM w b n z V K) (hf:Fr T w w') (hT:¬T b):ZM w' b n z V K:=by
 obtain⟨D,⟨es,clock,hb,F,hs,rfl⟩,hD⟩:=h
 have hlt:=(Array.getElem?_eq_some_iff.1 hb).1
 exact⟨_,⟨es,clock,(hf.block b hlt hT).trans hb,F,hs,rfl⟩,hD⟩
theorem ZM.look {w:World} {b n:Nat} {z:Value} {V:Int→Value} {K:Int→Prop} (h:ZM w b n z V K) {t e:TypeId} (ht:Tryz.prog.underlying t=some (.map 3 e)) (hz:(zeroValue e).run Tryz.prog w= .ok z w) {x:Int} (hx:in64 x):
  (Instr.lookup t (.map (some b)) (.int .i64 x) false).run Tryz.prog w= .ok (V x) w:=by
 obtain⟨D,hown,hD⟩:=h
 obtain⟨v,hrun,hv⟩:=heldE_at hown intKey ht hz (keyI hx)
 rw[(hD x hx).1]at hv
 simp only[DataW.held.injEq]at hv
 rw[hv]
 exact hrun
theorem ZM.put {w:World} {b n:Nat} {z:Value} {V:Int→Value} {K:Int→Prop} (h:ZM w b n z V K) {t e:TypeId} (ht:Tryz.prog.underlying t=some (.map 3 e)) {x:Int} (hx:in64 x) (v:Value) (hn:n < maxLen):
  ∃w',(Instr.mapUpdate t (.map (some b)) (.int .i64 x) v).run Tryz.prog w= .ok () w'∧ZM w' b (n+1) z (fun y=>if y=x then v else V y) (fun y=>y=x∨K y)∧w.grownBy w' (some b):=by
 obtain⟨D,hown,hD⟩:=h
 obtain⟨w',hrun,hown',hg⟩:=hown.update intKey ht hn (keyI hx) (val:=v) (d:= .held v) (ps:= []) rfl
 refine⟨w',hrun,⟨_,hown',fun y hy=>?_⟩,hg⟩
 have kx:WideAt.IsKeyLit (.int .i64 x):=intKey.key (keyI hx)
 by_cases e:y=x
 ·subst e
  exact⟨by show _=DataW.held (if y=y then v else V y);rw[if_pos rfl];exact atKey_put_same hown.isMap kx _ _,by rw[has_put_same hown.isMap kx];simp⟩
 ·have e2:(Lit.int .i64 y)≠ .int .i64 x:=fun h=>e (by simpa using h)
  exact⟨by show _=DataW.held (if y=x then v else V y);rw[if_neg e,atKey_put_other e2];exact(hD y hy).1,by rw[has_put_other e2,(hD y hy).2];simp[e]⟩

def intC (l:List Int):List Value:=l.map (Value.int .i64)
structure OM (w:World) (b base n:Nat) (V:Int→Value) (E:List (Int×Int)):Prop where
 map:ZM w b n nilS V (fun _=>True)∨∃K,ZM w b n nilS V K
 rows:∀x,in64 x→w.ownsRow base 3 1 (V x) (outI E x).length (intC (outI E x))
 apart:∀x y,in64 x→in64 y→x≠y→(V x).ownBlock =none∨(V x).ownBlock ≠(V y).ownBlock
 lt:b < base
theorem OM.zm {w:World} {b base n:Nat} {V:Int→Value} {E:List (Int×Int)} (h:OM w b base n V E):∃K,ZM w b n nilS V K:=h.map.elim (fun h=>⟨_,h⟩) id
theorem OM.made (w:World):OM (w.alloc (.map #[] 0)) w.heap.size (w.heap.size+1) 0 (fun _=>nilS) []:=
 ⟨.inr ⟨_,ZM.made w nilS⟩,fun _ _=>World.ownsRow_nil _ _ _ _,fun _ _ _ _ _=> .inl rfl,Nat.lt_succ_self _⟩
theorem OM.kept {w w':World} {b base n:Nat} {V:Int→Value} {E:List (Int×Int)} (h:OM w b base n V E) (hg:w.grownBy w' none):OM w' b base n V E:=
 ⟨by obtain⟨K,hK⟩:=h.zm;exact .inr ⟨K,hK.kept hg (by simp)⟩,fun x hx=>(h.rows x hx).kept hg (by cases (V x).ownBlock <;>simp),h.apart,h.lt⟩
theorem OM.look {w:World} {b base n:Nat} {V:Int→Value} {E:List (Int×Int)} (h:OM w b base n V E) {x:Int} (hx:in64 x):
  (Instr.lookup 152 (.map (some b)) (.int .i64 x) false).run Tryz.prog w= .ok (V x) w:=by
 obtain⟨K,hK⟩:=h.zm
 exact hK.look Tryz.underlying152 (by kernel_rfl) hx
theorem outI_app (E:List (Int×Int)) (e:Int×Int) (x:Int):outI (E++ [e]) x=if x=e.1 then outI E x++ [e.2]else outI E x:=by
 unfold outI
 rw[List.filter_append]
 by_cases h:x=e.1
 ·rw[if_pos h,h]
  simp
 ·rw[if_neg h]
  simp[Ne.symm h]
theorem OM.step {w w1:World} {b base n:Nat} {V:Int→Value} {E:List (Int×Int)} (h:OM w b base n V E) (e:Int×Int) (hx:in64 e.1) (v':Value) (hn:n < maxLen)
  (hg:w.grownBy w1 (V e.1).ownBlock) (hown:w1.ownsRow base 3 1 v' ((outI E e.1).length +1) (intC (outI E e.1)++ [.int .i64 e.2]))
  (hat:v'.ownBlock=(V e.1).ownBlock ∨∃g,v'.ownBlock=some g∧w.heap.size≤g):
  ∃w2,(Instr.mapUpdate 152 (.map (some b)) (.int .i64 e.1) v').run Tryz.prog w1= .ok () w2∧OM w2 b base (n+1) (fun x=>if x=e.1 then v' else V x) (E++ [e])∧w1.grownBy w2 (some b):=by
 have hvb:(V e.1).ownBlock ≠some b:=fun e'=>by
  have:=((h.rows _ hx).lt b e').1
  have:=h.lt
  omega
 obtain⟨K,hK⟩:=h.zm
 obtain⟨w2,hrun,hK2,hg2⟩:=(hK.kept hg (fun e'=>hvb e'.symm)).put Tryz.underlying152 hx v' hn
 have bne:∀ {u:Value} {m:Nat} {xs:List Value},w1.ownsRow base 3 1 u m xs→u.ownBlock=none∨u.ownBlock≠some b:=fun {u m xs} ho=>by
  cases hu:u.ownBlock with
  |none=>exact .inl rfl
  |some g=>
   refine .inr fun e=>?_
   have:=(ho.lt g hu).1
   have:=h.lt
   cases e
   omega
 refine⟨w2,hrun,⟨.inr ⟨_,hK2⟩,fun x hxx=>?_,fun x y hxx hyy hne=>?_,h.lt⟩,hg2⟩
 ·rw[outI_app]
  by_cases e':x=e.1
  ·subst e'
   rw[if_pos rfl,if_pos rfl,List.length_append]
   unfold intC at hown ⊢
   rw[List.map_append]
   exact hown.kept hg2 (bne hown)
  ·rw[if_neg e',if_neg e']
   have h1:=(h.rows x hxx).kept hg (h.apart x e.1 hxx hx e')
   exact h1.kept hg2 (bne h1)
 ·have far:∀x,in64 x→x≠e.1→(V x).ownBlock =none∨(V x).ownBlock ≠v'.ownBlock:=fun x hxx hne=>by
   rcases hat with e'|⟨g,e',hge⟩
   ·rw[e']
    exact h.apart x _ hxx hx hne
   ·cases hu:(V x).ownBlock with
    |none=>exact .inl rfl
    |some g'=>
     refine .inr fun e''=>?_
     rw[e']at e''
     have:=((h.rows x hxx).lt g' hu).2
     cases e''
     omega
  by_cases e1:x=e.1
  ·subst e1
   have hy:y≠e.1:=fun e=>hne e.symm
   rw[if_pos rfl,if_neg hy]
   rcases far y hyy hy with h1|h1
   ·cases hv:v'.ownBlock with
    |none=>exact .inl rfl
    |some g=>exact .inr (by rw[h1];simp)
   ·exact .inr (fun e=>h1 e.symm)
  ·rw[if_neg e1]
   by_cases e2:y=e.1
   ·rw[if_pos e2]
    exact far x hxx e1
   ·rw[if_neg e2]
    exact h.apart x y hxx hyy hne
theorem OM.sl {w:World} {b base n:Nat} {V:Int→Value} {E:List (Int×Int)} (h:OM w b base n V E) (hE:∀e∈E,in64 e.2) {x:Int} (hx:in64 x):∃A c,V x= .slice A (outI E x).length c∧IsSl w w.heap.size (outI E x) A c:=by
 have hown:=h.rows x hx
 have h64:∀t∈outI E x,in64 t:=fun t ht=>by
  unfold outI at ht
  obtain⟨e,he,rfl⟩:=List.mem_map.1 ht
  exact hE e (List.mem_filter.1 he).1
 have hown':=hown
 obtain⟨hl,h1|⟨g,cap,cur,hv,hb,hg,hn,hc,hs,ht⟩⟩:=hown
 ·refine⟨none,0,by rw[h1.1,h1.2],by omega,by omega,fun hp=>by omega⟩
 ·refine⟨_,cap,hv,hn,by unfold maxLen at hc;omega,fun hp=>⟨g,0,rfl,(Array.getElem?_eq_some_iff.1 hg).1,fun i m hi=>?_⟩⟩
  rw[hv]at hown'
  obtain⟨hil,_⟩:=List.getElem?_eq_some_iff.1 hi
  refine⟨?_,h64 _ (List.mem_of_getElem? hi)⟩
  rw[Nat.zero_add,hown'.cellAt i (by omega),intC,List.getElem?_map,hi]
  rfl

theorem place_no {l:List Int} {n:Int} (h:∀(i:Nat) (x:Int),l[i]?=some x→x≠n):placeI l n= -1:=by
 unfold placeI
 rw[if_neg]
 intro hm
 obtain⟨i,hi⟩:=List.mem_iff_getElem?.1 hm
 exact h i n hi rfl
theorem place_yes {l:List Int} {n:Int} {k:Nat} (h:∀(i:Nat) (x:Int),i < k→l[i]?=some x→x≠n) (hk:l[k]?=some n):placeI l n=k:=by
 unfold placeI
 rw[if_pos (List.mem_of_getElem? hk)]
 obtain⟨hlt,hg⟩:=List.getElem?_eq_some_iff.1 hk
 have e:l=l.take k++n::l.drop (k+1):=by
  rw[←hg,List.getElem_cons_drop,List.take_append_drop]
 have hn:n∉l.take k:=fun hm=>by
  obtain⟨i,hi⟩:=List.mem_iff_getElem?.1 hm
  rw[List.getElem?_take]at hi
  split at hi
  ·exact h i n (by assumption) hi rfl
  ·cases hi
 have h2:l.idxOf n=(l.take k).length +(n::l.drop (k+1)).idxOf n:=by
  conv=>lhs;rw[e]
  rw[List.idxOf_append,if_neg hn]
  omega
 rw[h2,List.idxOf_cons_self,List.length_take]
 have:min k l.length=k:=by omega
 rw[this]
 rfl
set_option maxRecDepth 100000 in
set_option maxHeartbeats 800000 in
theorem place_any (l:List Int) (A:Option Addr) (c:Nat) (n:Int) (B:Nat) (w:World) (hx:IsSl w B l A c):
  Calls Tryz.prog 16 #[.slice A l.length c,.int .i64 n] w fun e w'=>e= .returned (.int .i64 (placeI l n))∧w'=w:=by
 obtain⟨hx1,hx2,hx⟩:=hx
 obtain⟨m,hm⟩:=nmq l.length
 have HX:=hdq hx
 have HM:=hdq hm
 rw[←hm]at hx1 ⊢
 clear hx hm
 go_enter Tryz.func16,Tryz.ntmps16
 go_wp2_with fail
 go_loop [5] (fun i=>∃k:Nat,k≤m∧i= .int .i64 k∧Hid (∀(j:Nat) (x:Int),j < k→l[j]?=some x→x≠n)) (fun i=>m - (intOf i).toNat)
 case atStart=>exact⟨0,Nat.zero_le _,rfl,fun j x h=>by omega⟩
 case round=>
  obtain⟨k,hk,rfl,hno⟩:=hrel
  by_cases hlt:k < m
  ·obtain⟨x,hx⟩:∃x,l[k]?=some x:=⟨_,List.getElem?_eq_getElem (by rw[←HM.out];exact hlt)⟩
   obtain⟨b,o,rfl,hat⟩:=HX.out (by rw[←HM.out];omega)
   obtain⟨c0,h64⟩:=hat.2 k x hx
   have hbl:=hat.1
   have HAT:=hdq hat
   clear hat
   by_cases hq:x=n
   ·have HV:=hdq (place_yes hno.out (hq▸hx))
    clear hx h64
    subst hq
    go_wp2_with fail
    go_ret
    exact⟨by rw[HV.out];rfl,rfl⟩
   ·have HV:=hdq (show ∀(j:Nat) (y:Int),j < k+1→l[j]?=some y→y≠n from fun j y hj hy=>by
     by_cases e:j=k
     ·subst e
      rw[hx]at hy
      cases hy
      exact hq
     ·exact hno.out j y (by omega) hy)
    clear hx h64
    go_wp2_with fail
    go_round
    case rel=>exact⟨k+1,by omega,by go_num,HV⟩
    case measure=>simp[intOf];omega
  ·have hk':k=m:=by omega
   have HV:=hdq (place_no (l:=l) (n:=n) fun i x hi=>hno.out i x (by have:=(List.getElem?_eq_some_iff.1 hi).1;rw[←HM.out]at this;omega) hi)
   clear hk'
   go_wp2_with fail
   go_ret
   exact⟨by rw[HV.out];rfl,rfl⟩
end Go.Proofs.YtmfioehnhjjgpaaGreatDoor
