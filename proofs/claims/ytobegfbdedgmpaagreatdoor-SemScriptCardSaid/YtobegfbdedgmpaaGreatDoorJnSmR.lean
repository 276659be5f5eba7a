/-
  What sem's Run builds: its map and its arrays. No walk.
-/
import Derived.Test.YtobegfbdedgmpaaGreatDoorJnSmN
import Derived.Test.YtobegfbdedgmpaaGreatDoorJgSrB
import Derived.Test.YtobegfbdedgmpaaGreatDoorJgSrR
import Derived.Test.YtobegfbdedgmpaaGreatDoorJnCk3
import Derived.WalkMore
set_option linter.unusedVariables false
set_option linter.unusedSimpArgs false
namespace Go.Proofs.YtobegfbdedgmpaaGreatDoor
open Go.RowKit Go.Shelf Go.Maps

theorem GI.look_fr {w w':World} {T:Nat→Prop} {b base n:Nat} {V:Int→Value} {l:List Ed} {k:Nat} {D:DataW Value} (h:GI w b base n V l k D) (hf:Fr T w w') (hb:¬T b) {x:Int} (hx:in64 x):
  (Instr.lookup 165 (.map (some b)) (.int .i64 x) false).run Tryz.prog w'= .ok (V x) w':=by
 obtain⟨v,hrun,hv⟩:=zeL (zeq h.own hf hb) intKey Tryz.underlying165 (zhr w') (keyI hx)
 rw[h.at_ x hx]at hv
 simp only[DataW.held.injEq]at hv
 rw[hv]
 exact hrun
theorem GI.lower {w:World} {b base base' n:Nat} {V:Int→Value} {l:List Ed} {k:Nat} {D:DataW Value} (hL:base'≤base) (h:GI w b base n V l k D):GI w b base' n V l k D:=by
 refine⟨h.own,h.at_,fun x hx=>⟨(h.rows x hx).1,?_⟩,h.apart⟩
 rcases(h.rows x hx).2 with h2|⟨g,cap,cur,e,h3,r⟩
 ·exact .inl h2
 ·exact .inr ⟨g,cap,cur,e,Nat.le_trans hL h3,r⟩
theorem zkz {g:Gr} (hm:mayG g=true) {s t:Rs} (h:zaP g s= .inl t):in64 t.node:=by
 cases hix:idxE g.edges s.node g.edges.length with
 |nil=>rw[zfW hix]at h;cases h
 |cons i r=>
  obtain⟨e,he,hmem,_,_,hcase⟩:=zdc hm hix
  have hto:∀f∈g.edges,in64 f.to_:=fun f hf=>by
   have h1:=zgM hm hf
   have h2:g.nodes≤4096:=by
    simp only[mayG,Bool.and_eq_true,Bool.not_eq_true',Bool.or_eq_false_iff,odd1,decide_eq_false_iff_not]at hm
    omega
   simp only[zbB,Bool.or_eq_false_iff,Bool.not_eq_false',Bool.and_eq_true,decide_eq_true_eq]at h1
   unfold in64
   omega
  by_cases hc:zbp e.kind=true∧s.left=0
  ·rw[zfX hix he hc.1 hc.2]at h;cases h
  ·rw[zbH hix he hc]at h
   cases hd:doE (s.pay e) e i with
   |inr z=>rw[hd]at h;cases h
   |inl u=>
    rw[hd]at h
    cases h
    show in64 (zad g s e r)
    unfold zad
    split
    ·split
     ·exact hto e hmem
     ·split
      ·exact hto e hmem
      ·split
       ·rename_i hj
        exact hto _ (List.mem_of_getElem? hj)
       ·exact hto e hmem
    ·exact hto e hmem
theorem ziu {g:Gr} (hm:mayG g=true):in64 g.start:=by
 simp only[mayG,Bool.and_eq_true,Bool.not_eq_true',Bool.or_eq_false_iff,odd1,odd2,decide_eq_false_iff_not,Bool.not_eq_false',decide_eq_true_eq]at hm
 unfold in64
 omega
structure BgY (w1:World) (P:Nat) (ty:TypeId) (C:Value→Array Value) (j:Nat) (zs:List Int) (v:Value) (wr:World) (bs:List Nat) (k:Nat):Prop where
 fr:Fr (fun b=>b=P) w1 wr
 bk:Bk wr P ty (C v)
 row:wr.ownsRow w1.heap.size 37 1 v k (rowL bs (begA (zs.take k)))
 len:bs.length=k
 each:∀(i b:Nat) (l:List Int),bs[i]?=some b→(begA zs)[i]?=some l→w1.heap.size≤b∧Bk wr b 3 (intL l).toArray
 nd:bs.Nodup
 rb:∀b∈bs,v.ownBlock≠some b
 lt:∀b∈bs,b < wr.heap.size
theorem BgY.step {w1:World} {P:Nat} {ty:TypeId} {C:Value→Array Value} {j:Nat} {zs:List Int} {v:Value} {wr:World} {bs:List Nat} {k:Nat} (h:BgY w1 P ty C j zs v wr bs k) (hC:∀v v',(C v).setIfInBounds j v'=C v') (hP:P < w1.heap.size) {n:Int} (hn:zs[k]?=some n) {w8 w9:World} (hf8:Fr NoT wr w8)
  (hb8:Bk w8 wr.heap.size 3 (intL (zbX n.toNat)).toArray) (hz8:w8.heap.size=wr.heap.size+1+1) {g cap:Nat}
  (hown:w9.ownsRow w1.heap.size 37 1 (.slice (some ⟨g,0,none⟩) (k+1) cap) (k+1) (rowL bs (begA (zs.take k))++ [slL wr.heap.size n.toNat])) (hg:w8.grownBy w9 v.ownBlock) (hsp:v.ownBlock=some g∨g=w8.heap.size):
  BgY w1 P ty C j zs (.slice (some ⟨g,0,none⟩) (k+1) cap) (w9.setCell ⟨P,j,none⟩ (.slice (some ⟨g,0,none⟩) (k+1) cap)) (bs++ [wr.heap.size]) (k+1):=by
 have hlt:=h.row.lt
 have hgf:Fr (fun b=>v.ownBlock=some b) w8 w9:=Fr.grown hg fun g e _=>e
 have hrf:Fr (fun b=>v.ownBlock=some b) wr w9:=hf8.any.trans hgf
 have hfp:Fr (fun b=>b=P) w9 (w9.setCell ⟨P,j,none⟩ (.slice (some ⟨g,0,none⟩) (k+1) cap)):=Fr.own (Fr.refl _ _) _ _
 have hvP:¬v.ownBlock=some P:=fun e=>by have:=(hlt _ e).1;omega
 have hsz:=hf8.size
 have hgs:=hgf.size
 have hbk:∀b∈bs,b < wr.heap.size:=h.lt
 have htk:zs.take (k+1)=zs.take k++ [n]:=by rw[List.take_add_one,hn];rfl
 have hgne:∀b,b < w8.heap.size→v.ownBlock≠some b→g≠b:=fun b hb hn' e=>by
  rcases hsp with e2|e2
  ·rw[e]at e2;exact hn' e2
  ·omega
 refine⟨?_,?_,?_,by simp[h.len],fun i b l hi hl=>?_,?_,fun b hb=>?_,fun b hb=>?_⟩
 ·have h1:Fr (fun b=>w1.heap.size≤b) wr w9:=hrf.mono fun b _ e=>(hlt _ e).1
  exact(h.fr.backT h1).trans hfp
 ·have:=(h.bk.fr hrf hvP).set_ j (.slice (some ⟨g,0,none⟩) (k+1) cap)
  rw[hC]at this
  exact this
 ·rw[htk]
  have e:rowL (bs++ [wr.heap.size]) (begA (zs.take k++ [n]))=rowL bs (begA (zs.take k))++ [slL wr.heap.size n.toNat]:=by
   unfold begA
   rw[List.map_append,List.map_cons,List.map_nil,zfS _ _ (by
    have:=(List.getElem?_eq_some_iff.1 hn).1
    rw[h.len,List.length_map,List.length_take];omega),zbY]
  rw[e]
  have:=ownsRow_setCell_below hown (a:=⟨P,j,none⟩) hP (.slice (some ⟨g,0,none⟩) (k+1) cap)
  simpa using this
 ·have hbl:b < wr.heap.size∧¬v.ownBlock=some b∧w1.heap.size≤b∧Bk wr b 3 (intL l).toArray ∨b=wr.heap.size∧l=zbX n.toNat:=by
   rcases Nat.lt_or_ge i bs.length with hi2|hi2
   ·rw[List.getElem?_append_left hi2]at hi
    have hm:=List.mem_of_getElem? hi
    have:=h.each i b l hi hl
    exact .inl ⟨hbk b hm,h.rb b hm,this.1,this.2⟩
   ·rw[List.getElem?_append_right hi2]at hi
    have e0:i - bs.length=0:=by
     have:=(List.getElem?_eq_some_iff.1 hi).1
     simp at this;omega
    rw[e0]at hi
    simp only[List.getElem?_cons_zero,Option.some.injEq]at hi
    have ei:i=k:=by rw[←h.len];omega
    subst ei
    unfold begA at hl
    rw[List.getElem?_map,hn]at hl
    simp only[Option.map_some,Option.some.injEq]at hl
    exact .inr ⟨hi.symm,hl.symm⟩
  have hw1:w1.heap.size≤wr.heap.size:=h.fr.size
  rcases hbl with⟨h1,h2,h3,h4⟩|⟨rfl,rfl⟩
  ·exact⟨h3,(h4.fr hrf h2).far (p:=⟨P,j,none⟩) (by show b≠P;omega) _⟩
  ·refine⟨hw1,((hb8.fr hgf fun e=>?_)).far (p:=⟨P,j,none⟩) (by show wr.heap.size≠P;omega) _⟩
   have:=(hlt _ e).2
   omega
 ·rw[List.nodup_append]
  refine⟨h.nd,by simp,fun a ha b hb=>?_⟩
  simp only[List.mem_singleton]at hb
  rw[hb]
  have:=hbk a ha
  omega
 ·have e:(Value.slice (some ⟨g,0,none⟩) (k+1) cap).ownBlock =some g:=rfl
  rw[e]
  rcases List.mem_append.1 hb with hb|hb
  ·exact fun e=>hgne b (by have:=hbk b hb;omega) (h.rb b hb) (by simpa using e)
  ·simp only[List.mem_singleton]at hb
   rw[hb]
   refine fun e=>hgne wr.heap.size (by omega) (fun e'=>?_) (by simpa using e)
   have:=(hlt _ e').2
   omega
 ·rcases List.mem_append.1 hb with hb|hb
  ·have:=hbk b hb
   have:=hfp.size
   omega
  ·simp only[List.mem_singleton]at hb
   have:=hfp.size
   omega
def zkA (g:Gr) (R:Nat) (w:World):Nat:=(intOf ((w.cell? ⟨R,13,none⟩).getD undef)).toNat *(g.edges.length+1)+zcH g.edges (intOf ((w.cell? ⟨R,11,none⟩).getD undef)) g.edges.length
theorem zhs {m:MW} {w:World} {s:Rs} {As:Option Addr} {cs:Nat} {k wr at_ ed:Int} (h:MnR m w s As cs k wr at_ ed):zkA m.c.g m.c.R w=meas m.c.g s:=by
 have q13:=h.blk.cell 13
 have q11:=h.blk.cell 11
 simp only[mnC,rnC,List.getElem?_toArray,List.getElem?_cons_succ,List.getElem?_cons_zero]at q11 q13
 unfold zkA meas
 rw[q13,q11]
 simp[intOf]

def EndN (L:Nat) (w:World) (en:En) (v:Value):Prop:=
 ∃bv cv Aa ca bs,v= .agg #[.int .u8 en.kind,.int .u8 en.wrong,.int .i64 en.at_,.int .i64 en.node,.int .i64 en.edge,.int .i64 en.left,.slice (some ⟨bv,0,none⟩) en.vs.length cv,.slice Aa en.ls.length ca]∧cv=en.vs.length∧Sto w L en.vs en.ls bv Aa ca bs
theorem EndN.is {L:Nat} {w:World} {en:En} {v:Value} (h:EndN L w en v):EndIs w en v:=by
 obtain⟨bv,cv,Aa,ca,bs,rfl,rfl,hs⟩:=h
 exact⟨_,_,_,_,rfl,hs.stSl⟩
def RunN (g:Gr) (script:List Int) (steps:Int) (w:World) (e:Ending) (w':World):Prop:=
 Fr NoT w w'∧if zbd g script.length steps=0 then ∃en v,Ends g (run0 g script steps) en∧EndN w.heap.size w' en v∧e= .returned (.tuple #[v,.int .i64 0])
  else e= .returned (.tuple #[zku,.int .i64 (zbd g script.length steps)])
theorem RunN.runP {g:Gr} {script:List Int} {steps:Int} {w w':World} {e:Ending} (h:RunN g script steps w e w'):RunP g script steps w e w':=by
 refine⟨h.1,?_⟩
 have h2:=h.2
 split
 ·rename_i h0
  rw[if_pos h0]at h2
  obtain⟨en,v,h3,h4,h5⟩:=h2
  exact⟨en,v,h3,h4.is,h5⟩
 ·rename_i h0
  rw[if_neg h0]at h2
  exact h2
set_option maxRecDepth 100000 in
set_option maxHeartbeats 6400000 in
theorem ze0 (g:Gr) (Aa Ae As:Option Addr) (ca ce cs:Nat) (script:List Int) (steps:Int) (w:World) (hg:GrSl w w.heap.size g Aa ca Ae ce) (hsc:IsSl w w.heap.size script As cs):
  Calls Tryz.prog 31 #[grV g.vars Aa g.arrays.length ca g.nodes g.start g.last Ae g.edges.length ce,.slice As script.length cs,.int .i64 steps] w (RunN g script steps w):=by
 have hmay:=fun(W:World) (hf:Fr NoT w W)=>zjP g Aa Ae ca ce w.heap.size W hf.size (hg.keep (Same.of_fr hf (Nat.le_refl _) fun _ h=>h.elim))
 have hla:g.arrays.length≤9223372036854775807:=Nat.le_trans hg.arrays.1 hg.arrays.2.1
 have hle:g.edges.length≤9223372036854775807:=Nat.le_trans hg.edges.1 hg.edges.2.1
 have hls:script.length≤9223372036854775807:=Nat.le_trans hsc.1 hsc.2.1
 unfold grV at hmay ⊢
 obtain⟨na,hna⟩:=nmq g.arrays.length
 obtain⟨ne,hne⟩:=nmq g.edges.length
 obtain⟨ns,hns⟩:=nmq script.length
 rw[←hna,←hne]at hmay
 rw[←hna]at hla
 rw[←hne]at hle
 rw[←hns]at hls
 rw[←hna,←hne,←hns]
 have HNA:=hdq hna
 have HNE:=hdq hne
 have HNS:=hdq hns
 have HG:=hdq hg
 have HSC:=hdq hsc
 have HMAY:=hdq hmay
 clear hna hne hns hg hsc hmay
 obtain⟨W1,hW1⟩:=nmq ((w.alloc (.cells #[.int .i64 g.vars,.slice Aa na ca,.int .i64 g.nodes,.int .i64 g.start,.int .i64 g.last,.slice Ae ne ce] 40)).alloc (.cells #[.int .u8 0,.int .u8 0,.int .i64 0,.int .i64 0,.int .i64 0,.int .i64 0,.slice none 0 0,.slice none 0 0] 59))
 have hf1:Fr NoT w W1:=by rw[hW1];exact((Fr.refl _ _).alloc _).alloc _
 have kk:=zbZ w #[.int .i64 g.vars,.slice Aa na ca,.int .i64 g.nodes,.int .i64 g.start,.int .i64 g.last,.slice Ae ne ce] #[.int .u8 0,.int .u8 0,.int .i64 0,.int .i64 0,.int .i64 0,.int .i64 0,.slice none 0 0,.slice none 0 0] 40 59
 rw[←hW1]at kk
 have hz1:W1.heap.size=w.heap.size+1+1:=by rw[hW1];simp
 have HW1:=hdq hW1
 have HF1:=hdq hf1
 have HK0:=hdq kk.1
 have HK1:=hdq kk.2
 have HZ1:=hdq hz1
 clear hW1 hf1 kk hz1
 go_enter Tryz.func31,Tryz.ntmps31
 go_wp2_with fail
 apply wp_scope_straight
 go_wp2_with fail
 rw[←HW1.out]
 go_at_call 25
 refine(HMAY.out W1 HF1.out).mono ?_
 rintro en1 w1 ⟨hen1,hb1⟩
 have hf2:Fr NoT W1 w1:=Fr.below hb1
 have HF2:=hdq hf2
 have HF02:=hdq (HF1.out.trans hf2)
 have k0:=HK0.out.fr0 hf2
 have k1:=HK1.out.fr0 hf2
 have HK0':=hdq k0
 have HK1':=hdq k1
 have hz2:w.heap.size+1+1≤w1.heap.size:=by have:=HZ1.out;have:=hf2.size;omega
 have g0:=k0.cell 0
 have gf0:=k0.frozen 0
 have g1:=k0.cell 1
 have gf1:=k0.frozen 1
 have g2:=k0.cell 2
 have gf2:=k0.frozen 2
 have g3:=k0.cell 3
 have gf3:=k0.frozen 3
 have g4:=k0.cell 4
 have gf4:=k0.frozen 4
 have g5:=k0.cell 5
 have gf5:=k0.frozen 5
 have gl:=k0.lt
 simp only[List.getElem?_toArray,List.getElem?_cons_succ,List.getElem?_cons_zero]at g0 g1 g2 g3 g4 g5
 have e0:=k1.cell 0
 have ef0:=k1.frozen 0
 have e1:=k1.cell 1
 have ef1:=k1.frozen 1
 have e2:=k1.cell 2
 have ef2:=k1.frozen 2
 have e3:=k1.cell 3
 have ef3:=k1.frozen 3
 have e4:=k1.cell 4
 have ef4:=k1.frozen 4
 have e5:=k1.cell 5
 have ef5:=k1.frozen 5
 have e6:=k1.cell 6
 have ef6:=k1.frozen 6
 have e7:=k1.cell 7
 have ef7:=k1.frozen 7
 have el:=k1.lt
 simp only[List.getElem?_toArray,List.getElem?_cons_succ,List.getElem?_cons_zero]at e0 e1 e2 e3 e4 e5 e6 e7
 clear hb1 hf2 k0 k1
 cases hm:mayG g with
 |false=>
  rw[hm]at hen1
  subst hen1
  have HE:=hdq (show zbd g script.length steps=8 from by unfold zbd;rw[if_neg (by rw[hm];decide)])
  clear hm
  rw[if_neg (by decide)]
  obtain⟨wf,hwf⟩:=nmq (((((((((w1.setCell ⟨w.heap.size+1,0,none⟩ (.int .u8 0)).setCell ⟨w.heap.size+1,1,none⟩ (.int .u8 0)).setCell ⟨w.heap.size+1,2,none⟩ (.int .i64 0)).setCell ⟨w.heap.size+1,3,none⟩ (.int .i64 0)).setCell ⟨w.heap.size+1,4,none⟩ (.int .i64 0)).setCell ⟨w.heap.size+1,5,none⟩ (.int .i64 0)).setCell ⟨w.heap.size+1,6,none⟩ (.slice none 0 0)).setCell ⟨w.heap.size+1,7,none⟩ (.slice none 0 0)))
  have hff:Fr (fun b=>b=w.heap.size+1) w1 wf:=by rw[hwf];exact(Fr.own (Fr.own (Fr.own (Fr.own (Fr.own (Fr.own (Fr.own (Fr.own (Fr.refl _ _) _ _) _ _) _ _) _ _) _ _) _ _) _ _) _ _)
  have kf:Bk wf (w.heap.size+1) 59 #[.int .u8 0,.int .u8 0,.int .i64 0,.int .i64 0,.int .i64 0,.int .i64 0,.slice none 0 0,.slice none 0 0]:=by
   have:=((((((((HK1'.out.set_ 0 (.int .u8 0)).set_ 1 (.int .u8 0)).set_ 2 (.int .i64 0)).set_ 3 (.int .i64 0)).set_ 4 (.int .i64 0)).set_ 5 (.int .i64 0)).set_ 6 (.slice none 0 0)).set_ 7 (.slice none 0 0))
   rw[hwf];simpa using this
  have HKF:=hdq kf
  have HWF:=hdq hwf
  have HFF:=hdq (show Fr NoT w wf from HF02.out.then hff fun i hi e=>by have e:i=w.heap.size+1:=e;omega)
  clear hwf hff kf
  go_wp2_with fail
  rw[←HWF.out]
  refine bodyPost_ret (zau (p:=6) (q:=7) (ty:=59) rfl _ _ (w.heap.size+1) 59 _ (0,0) _ rfl HKF.out Tryz.underlying59 rfl zcX) rfl ⟨HFF.out,?_⟩
  rw[if_neg (by rw[HE.out];decide),HE.out]
  rfl
 |true=>
  rw[hm]at hen1
  subst hen1
  have HM:=hdq hm
  clear hm
  rw[if_pos rfl]
  by_cases hn:4096 < ns
  ·have hn':(4096:Int) < (ns:Int):=by omega
   have HE:=hdq (show zbd g script.length steps=4 from by unfold zbd;rw[if_pos HM.out,←HNS.out,if_pos hn])
   obtain⟨wf,hwf⟩:=nmq (((((((((w1.setCell ⟨w.heap.size+1,0,none⟩ (.int .u8 0)).setCell ⟨w.heap.size+1,1,none⟩ (.int .u8 0)).setCell ⟨w.heap.size+1,2,none⟩ (.int .i64 0)).setCell ⟨w.heap.size+1,3,none⟩ (.int .i64 0)).setCell ⟨w.heap.size+1,4,none⟩ (.int .i64 0)).setCell ⟨w.heap.size+1,5,none⟩ (.int .i64 0)).setCell ⟨w.heap.size+1,6,none⟩ (.slice none 0 0)).setCell ⟨w.heap.size+1,7,none⟩ (.slice none 0 0)))
   have hff:Fr (fun b=>b=w.heap.size+1) w1 wf:=by rw[hwf];exact(Fr.own (Fr.own (Fr.own (Fr.own (Fr.own (Fr.own (Fr.own (Fr.own (Fr.refl _ _) _ _) _ _) _ _) _ _) _ _) _ _) _ _) _ _)
   have kf:Bk wf (w.heap.size+1) 59 #[.int .u8 0,.int .u8 0,.int .i64 0,.int .i64 0,.int .i64 0,.int .i64 0,.slice none 0 0,.slice none 0 0]:=by
    have:=((((((((HK1'.out.set_ 0 (.int .u8 0)).set_ 1 (.int .u8 0)).set_ 2 (.int .i64 0)).set_ 3 (.int .i64 0)).set_ 4 (.int .i64 0)).set_ 5 (.int .i64 0)).set_ 6 (.slice none 0 0)).set_ 7 (.slice none 0 0))
    rw[hwf];simpa using this
   have HKF:=hdq kf
   have HWF:=hdq hwf
   have HFF:=hdq (show Fr NoT w wf from HF02.out.then hff fun i hi e=>by have e:i=w.heap.size+1:=e;omega)
   clear hwf hff kf
   go_wp2_with fail
   rw[←HWF.out]
   refine bodyPost_ret (zau (p:=6) (q:=7) (ty:=59) rfl _ _ (w.heap.size+1) 59 _ (0,0) _ rfl HKF.out Tryz.underlying59 rfl zcX) rfl ⟨HFF.out,?_⟩
   rw[if_neg (by rw[HE.out];decide),HE.out]
   rfl
  have hn':¬(4096:Int) < (ns:Int):=by omega
  by_cases hs0:steps < 0
  ·have HE:=hdq (show zbd g script.length steps=2 from by unfold zbd;rw[if_pos HM.out,←HNS.out,if_neg hn,if_pos (.inl hs0)])
   obtain⟨wf,hwf⟩:=nmq (((((((((w1.setCell ⟨w.heap.size+1,0,none⟩ (.int .u8 0)).setCell ⟨w.heap.size+1,1,none⟩ (.int .u8 0)).setCell ⟨w.heap.size+1,2,none⟩ (.int .i64 0)).setCell ⟨w.heap.size+1,3,none⟩ (.int .i64 0)).setCell ⟨w.heap.size+1,4,none⟩ (.int .i64 0)).setCell ⟨w.heap.size+1,5,none⟩ (.int .i64 0)).setCell ⟨w.heap.size+1,6,none⟩ (.slice none 0 0)).setCell ⟨w.heap.size+1,7,none⟩ (.slice none 0 0)))
   have hff:Fr (fun b=>b=w.heap.size+1) w1 wf:=by rw[hwf];exact(Fr.own (Fr.own (Fr.own (Fr.own (Fr.own (Fr.own (Fr.own (Fr.own (Fr.refl _ _) _ _) _ _) _ _) _ _) _ _) _ _) _ _) _ _)
   have kf:Bk wf (w.heap.size+1) 59 #[.int .u8 0,.int .u8 0,.int .i64 0,.int .i64 0,.int .i64 0,.int .i64 0,.slice none 0 0,.slice none 0 0]:=by
    have:=((((((((HK1'.out.set_ 0 (.int .u8 0)).set_ 1 (.int .u8 0)).set_ 2 (.int .i64 0)).set_ 3 (.int .i64 0)).set_ 4 (.int .i64 0)).set_ 5 (.int .i64 0)).set_ 6 (.slice none 0 0)).set_ 7 (.slice none 0 0))
    rw[hwf];simpa using this
   have HKF:=hdq kf
   have HWF:=hdq hwf
   have HFF:=hdq (show Fr NoT w wf from HF02.out.then hff fun i hi e=>by have e:i=w.heap.size+1:=e;omega)
   clear hwf hff kf
   go_wp2_with fail
   rw[←HWF.out]
   refine bodyPost_ret (zau (p:=6) (q:=7) (ty:=59) rfl _ _ (w.heap.size+1) 59 _ (0,0) _ rfl HKF.out Tryz.underlying59 rfl zcX) rfl ⟨HFF.out,?_⟩
   rw[if_neg (by rw[HE.out];decide),HE.out]
   rfl
  by_cases hs1:65536 < steps
  ·have hs0':0≤steps:=by omega
   have HE:=hdq (show zbd g script.length steps=2 from by unfold zbd;rw[if_pos HM.out,←HNS.out,if_neg hn,if_pos (.inr hs1)])
   obtain⟨wf,hwf⟩:=nmq (((((((((w1.setCell ⟨w.heap.size+1,0,none⟩ (.int .u8 0)).setCell ⟨w.heap.size+1,1,none⟩ (.int .u8 0)).setCell ⟨w.heap.size+1,2,none⟩ (.int .i64 0)).setCell ⟨w.heap.size+1,3,none⟩ (.int .i64 0)).setCell ⟨w.heap.size+1,4,none⟩ (.int .i64 0)).setCell ⟨w.heap.size+1,5,none⟩ (.int .i64 0)).setCell ⟨w.heap.size+1,6,none⟩ (.slice none 0 0)).setCell ⟨w.heap.size+1,7,none⟩ (.slice none 0 0)))
   have hff:Fr (fun b=>b=w.heap.size+1) w1 wf:=by rw[hwf];exact(Fr.own (Fr.own (Fr.own (Fr.own (Fr.own (Fr.own (Fr.own (Fr.own (Fr.refl _ _) _ _) _ _) _ _) _ _) _ _) _ _) _ _) _ _)
   have kf:Bk wf (w.heap.size+1) 59 #[.int .u8 0,.int .u8 0,.int .i64 0,.int .i64 0,.int .i64 0,.int .i64 0,.slice none 0 0,.slice none 0 0]:=by
    have:=((((((((HK1'.out.set_ 0 (.int .u8 0)).set_ 1 (.int .u8 0)).set_ 2 (.int .i64 0)).set_ 3 (.int .i64 0)).set_ 4 (.int .i64 0)).set_ 5 (.int .i64 0)).set_ 6 (.slice none 0 0)).set_ 7 (.slice none 0 0))
    rw[hwf];simpa using this
   have HKF:=hdq kf
   have HWF:=hdq hwf
   have HFF:=hdq (show Fr NoT w wf from HF02.out.then hff fun i hi e=>by have e:i=w.heap.size+1:=e;omega)
   clear hwf hff kf
   go_wp2_with fail
   rw[←HWF.out]
   refine bodyPost_ret (zau (p:=6) (q:=7) (ty:=59) rfl _ _ (w.heap.size+1) 59 _ (0,0) _ rfl HKF.out Tryz.underlying59 rfl zcX) rfl ⟨HFF.out,?_⟩
   rw[if_neg (by rw[HE.out];decide),HE.out]
   rfl
  have HE:=hdq (show zbd g script.length steps=0 from by unfold zbd;rw[if_pos HM.out,←HNS.out,if_neg hn,if_neg (by omega)])
  obtain⟨st,rfl⟩:∃st:Nat,steps=st:=⟨steps.toNat,by omega⟩
  have hst:st≤65536:=by omega
  have hml:=zcW HM.out
  obtain⟨nv,hnv⟩:∃n:Nat,g.vars=(n:Int):=⟨g.vars.toNat,by omega⟩
  have hnv1:nv≤1000:=by omega
  have hmk:=fun(W:World)=>zmu nv (by omega) W
  have hmm:= @run_makeMap Tryz.prog
  obtain⟨zv,hzv⟩:=nmq ((intL (zbX nv)).toArray )
  simp only[←hzv]at hmk
  have HZV:=hdq hzv
  have HNV:=hdq hnv
  have HML:=hdq hml
  rw[hnv]at g0
  have HS:Hid (∀W',Fr NoT w1 W'→W'.cell? ⟨w.heap.size,0,none⟩=some (.int .i64 nv)∧W'.cell? ⟨w.heap.size,1,none⟩=some (.slice Aa na ca)∧W'.cell? ⟨w.heap.size,2,none⟩=some (.int .i64 g.nodes)∧W'.cell? ⟨w.heap.size,3,none⟩=some (.int .i64 g.start)∧W'.cell? ⟨w.heap.size,4,none⟩=some (.int .i64 g.last)∧W'.cell? ⟨w.heap.size,5,none⟩=some (.slice Ae ne ce)):=hdq (fun W' hf=>⟨(hf.cell (p:=⟨w.heap.size,0,none⟩) gl id).trans g0,(hf.cell (p:=⟨w.heap.size,1,none⟩) gl id).trans g1,(hf.cell (p:=⟨w.heap.size,2,none⟩) gl id).trans g2,(hf.cell (p:=⟨w.heap.size,3,none⟩) gl id).trans g3,(hf.cell (p:=⟨w.heap.size,4,none⟩) gl id).trans g4,(hf.cell (p:=⟨w.heap.size,5,none⟩) gl id).trans g5⟩)
  clear hml hn hzv hnv
  go_wp2_with fail
  go_cut [9] (fun s9 wx=>∃R b bv,s9= .pointer (some ⟨R,0,none⟩)∧Hid (Bk wx R 167 #[.map (some b),.int .i64 nv,.slice Aa na ca,.int .i64 g.nodes,.int .i64 g.start,.int .i64 g.last,.slice Ae ne ce,.slice As ns cs,.int .u8 0,.int .u8 0,.int .i64 0,.int .i64 g.start,.int .i64 0,.int .i64 st,.slice (some ⟨bv,0,none⟩) nv nv,.slice none 0 0])∧Hid (Bk wx bv 3 zv)∧Hid (GI wx b wx.heap.size 0 (fun _=>nilS) g.edges 0 (.map []))∧Hid (Fr NoT w1 wx)∧Hid (w1.heap.size≤R∧w1.heap.size≤b∧w1.heap.size≤bv∧R≠b∧R≠bv∧b≠bv))
  case first=>
   refine zaE (fun W'=>W'.cell? ⟨w.heap.size,0,none⟩=some (.int .i64 nv)∧W'.cell? ⟨w.heap.size,1,none⟩=some (.slice Aa na ca)∧W'.cell? ⟨w.heap.size,2,none⟩=some (.int .i64 g.nodes)∧W'.cell? ⟨w.heap.size,3,none⟩=some (.int .i64 g.start)∧W'.cell? ⟨w.heap.size,4,none⟩=some (.int .i64 g.last)∧W'.cell? ⟨w.heap.size,5,none⟩=some (.slice Ae ne ce)) 14 (by kernel_rfl) ⟨g0,g1,g2,g3,g4,g5⟩ (fun hHeld=>?_)
   refine zaa 1 (v:=?_) rfl (by kernel_rfl) (by kernel_rfl) (by kernel_rfl) (by kernel_rfl) (fun _ _ _ h=>h) hHeld (by rfl) ?_ ?_
   rotate_left
   ·intro wz hSz
    (try dsimp only at hSz)
    go_simp
    try with_reducible rfl
   try simp only[Act.put,List.setIfInBounds_toArray,List.set_cons_zero,List.set_cons_succ]
   refine zaa 2 (v:=?_) rfl (by kernel_rfl) (by kernel_rfl) (by kernel_rfl) (by kernel_rfl) (fun _ _ _ h=>h) hHeld (by rfl) ?_ ?_
   rotate_left
   ·intro wz hSz
    (try dsimp only at hSz)
    go_simp
    try with_reducible rfl
   try simp only[Act.put,List.setIfInBounds_toArray,List.set_cons_zero,List.set_cons_succ]
   refine zaa 3 (v:=?_) rfl (by kernel_rfl) (by kernel_rfl) (by kernel_rfl) (by kernel_rfl) (fun _ _ _ h=>h) hHeld (by rfl) ?_ ?_
   rotate_left
   ·intro wz hSz
    (try dsimp only at hSz)
    go_simp
    try with_reducible rfl
   try simp only[Act.put,List.setIfInBounds_toArray,List.set_cons_zero,List.set_cons_succ]
   refine zaa 4 (v:=?_) rfl (by kernel_rfl) (by kernel_rfl) (by kernel_rfl) (by kernel_rfl) (fun _ _ _ h=>h) hHeld (by rfl) ?_ ?_
   rotate_left
   ·intro wz hSz
    (try dsimp only at hSz)
    go_simp
    try with_reducible rfl
   try simp only[Act.put,List.setIfInBounds_toArray,List.set_cons_zero,List.set_cons_succ]
   refine zaa 5 (v:=?_) rfl (by kernel_rfl) (by kernel_rfl) (by kernel_rfl) (by kernel_rfl) (fun _ _ _ h=>h) hHeld (by rfl) ?_ ?_
   rotate_left
   ·intro wz hSz
    (try dsimp only at hSz)
    go_simp
    try with_reducible rfl
   try simp only[Act.put,List.setIfInBounds_toArray,List.set_cons_zero,List.set_cons_succ]
   refine zaa 6 (v:=?_) rfl (by kernel_rfl) (by kernel_rfl) (by kernel_rfl) (by kernel_rfl) (fun _ _ _ h=>h) hHeld (by rfl) ?_ ?_
   rotate_left
   ·intro wz hSz
    (try dsimp only at hSz)
    go_simp
    try with_reducible rfl
   try simp only[Act.put,List.setIfInBounds_toArray,List.set_cons_zero,List.set_cons_succ]
   refine zaa 7 (v:=?_) rfl (by kernel_rfl) (by kernel_rfl) (by kernel_rfl) (by kernel_rfl) (fun _ _ _ h=>h) hHeld (by rfl) ?_ ?_
   rotate_left
   ·intro wz hSz
    (try dsimp only at hSz)
    go_simp
    try with_reducible rfl
   try simp only[Act.put,List.setIfInBounds_toArray,List.set_cons_zero,List.set_cons_succ]
   refine znD 0 8 rfl rfl (by kernel_rfl) (fun K hK=>?_) (fun K hK=>?_)
   ·go_simp
    obtain⟨wA,hwA⟩:=nmq ((w1.alloc (.map #[] 0)).drew )
    rw[←hwA]
    have hfwA:Fr NoT w1 wA:=by rw[hwA];exact((Fr.refl _ _).alloc _).drew
    have hswA:=HS.out wA hfwA
    try dsimp only
    refine hK.out _ _ hswA ?_
    clear hK K
    clear hHeld
    have hHeld:=hswA
    try simp only[Act.put,List.setIfInBounds_toArray,List.set_cons_zero,List.set_cons_succ]
    have HwA:=hdq hwA
    have HFwA:=hdq hfwA
    have HZwA:=hdq (show wA.heap.size=w1.heap.size+1 from by rw[hwA];simp[World.drew])
    clear hwA hfwA
    refine zaf 8 rfl (by kernel_rfl) (fun K hK=>?_)
    go_simp
    obtain⟨wB,hwB⟩:=nmq (wA.alloc (.cells zv 3))
    rw[←hwB]
    have hfwB:Fr NoT w1 wB:=by rw[hwB];exact HFwA.out.alloc _
    have hswB:=HS.out wB hfwB
    try dsimp only
    refine hK.out _ _ hswB ?_
    clear hK K
    clear hHeld
    have hHeld:=hswB
    try simp only[Act.put,List.setIfInBounds_toArray,List.set_cons_zero,List.set_cons_succ]
    have HwB:=hdq hwB
    have HFwB:=hdq hfwB
    have HZwB:=hdq (show wB.heap.size=wA.heap.size+1 from by rw[hwB];simp[World.drew])
    clear hwB hfwB
    refine zaa 9 (v:=?_) rfl (by kernel_rfl) (by kernel_rfl) (by kernel_rfl) (by kernel_rfl) (fun _ _ _ h=>h) hHeld (by rfl) ?_ ?_
    rotate_left
    ·intro wz hSz
     (try dsimp only at hSz)
     go_simp
     try with_reducible rfl
    try simp only[Act.put,List.setIfInBounds_toArray,List.set_cons_zero,List.set_cons_succ]
    refine zaa 10 (v:=?_) rfl (by kernel_rfl) (by kernel_rfl) (by kernel_rfl) (by kernel_rfl) (fun _ _ _ h=>h) hHeld (by rfl) ?_ ?_
    rotate_left
    ·intro wz hSz
     (try dsimp only at hSz)
     go_simp
     try with_reducible rfl
    try simp only[Act.put,List.setIfInBounds_toArray,List.set_cons_zero,List.set_cons_succ]
    refine zaa 11 (v:=?_) rfl (by kernel_rfl) (by kernel_rfl) (by kernel_rfl) (by kernel_rfl) (fun _ _ _ h=>h) hHeld (by rfl) ?_ ?_
    rotate_left
    ·intro wz hSz
     (try dsimp only at hSz)
     go_simp
     try with_reducible rfl
    try simp only[Act.put,List.setIfInBounds_toArray,List.set_cons_zero,List.set_cons_succ]
    refine zaf 12 rfl (by kernel_rfl) (fun K hK=>?_)
    go_simp
    obtain⟨wC,hwC⟩:=nmq (wB.alloc (.cells #[.map (some w1.heap.size),.int .i64 nv,.slice Aa na ca,.int .i64 g.nodes,.int .i64 g.start,.int .i64 g.last,.slice Ae ne ce,.slice As ns cs,.int .u8 0,.int .u8 0,.int .i64 0,.int .i64 g.start,.int .i64 0,.int .i64 st,.slice (some ⟨wA.heap.size,0,none⟩) nv nv,.slice none 0 0] 167))
    rw[←hwC]
    have hfwC:Fr NoT w1 wC:=by rw[hwC];exact HFwB.out.alloc _
    have hswC:=HS.out wC hfwC
    try dsimp only
    refine hK.out _ _ hswC ?_
    clear hK K
    clear hHeld
    have hHeld:=hswC
    try simp only[Act.put,List.setIfInBounds_toArray,List.set_cons_zero,List.set_cons_succ]
    have HwC:=hdq hwC
    have HFwC:=hdq hfwC
    have HZwC:=hdq (show wC.heap.size=wB.heap.size+1 from by rw[hwC];simp[World.drew])
    clear hwC hfwC
    refine zaf 13 rfl (by kernel_rfl) (fun K hK=>?_)
    go_simp
    refine hK.out _ _ hHeld ?_
    clear hK K
    refine za3 (by kernel_rfl) ?_
    clear hHeld
    go_wp2_with fail
    go_meet
    have hzA:=HZwA.out
    have hzB:=HZwB.out
    have hzC:=HZwC.out
    have hAB:Fr NoT wA wB:=by rw[HwB.out];exact(Fr.refl _ _).alloc _
    have hBC:Fr NoT wB wC:=by rw[HwC.out];exact(Fr.refl _ _).alloc _
    refine⟨wB.heap.size,w1.heap.size,wA.heap.size,rfl,hdq (by rw[HwC.out];exact Bk.new _ _ _),hdq ?_,hdq ?_,HFwC,hdq (by omega)⟩
    ·have h1:Bk wB wA.heap.size 3 zv:=by rw[HwB.out];exact Bk.new _ _ _
     exact h1.fr0 hBC
    ·have h1:=((GI.made w1 wC.heap.size g.edges).fr0 (Fr.refl _ _).drew);rw[←HwA.out]at h1;exact(h1.fr0 hAB).fr0 hBC

   ·go_simp
    obtain⟨wA,hwA⟩:=nmq ((w1.alloc (.cells zv 3)).drew )
    rw[←hwA]
    have hfwA:Fr NoT w1 wA:=by rw[hwA];exact((Fr.refl _ _).alloc _).drew
    have hswA:=HS.out wA hfwA
    try dsimp only
    refine hK.out _ _ hswA ?_
    clear hK K
    clear hHeld
    have hHeld:=hswA
    try simp only[Act.put,List.setIfInBounds_toArray,List.set_cons_zero,List.set_cons_succ]
    have HwA:=hdq hwA
    have HFwA:=hdq hfwA
    have HZwA:=hdq (show wA.heap.size=w1.heap.size+1 from by rw[hwA];simp[World.drew])
    clear hwA hfwA
    refine zaa 9 (v:=?_) rfl (by kernel_rfl) (by kernel_rfl) (by kernel_rfl) (by kernel_rfl) (fun _ _ _ h=>h) hHeld (by rfl) ?_ ?_
    rotate_left
    ·intro wz hSz
     (try dsimp only at hSz)
     go_simp
     try with_reducible rfl
    try simp only[Act.put,List.setIfInBounds_toArray,List.set_cons_zero,List.set_cons_succ]
    refine zaa 10 (v:=?_) rfl (by kernel_rfl) (by kernel_rfl) (by kernel_rfl) (by kernel_rfl) (fun _ _ _ h=>h) hHeld (by rfl) ?_ ?_
    rotate_left
    ·intro wz hSz
     (try dsimp only at hSz)
     go_simp
     try with_reducible rfl
    try simp only[Act.put,List.setIfInBounds_toArray,List.set_cons_zero,List.set_cons_succ]
    refine zaf 0 rfl (by kernel_rfl) (fun K hK=>?_)
    go_simp
    obtain⟨wB,hwB⟩:=nmq (wA.alloc (.map #[] 0))
    rw[←hwB]
    have hfwB:Fr NoT w1 wB:=by rw[hwB];exact HFwA.out.alloc _
    have hswB:=HS.out wB hfwB
    try dsimp only
    refine hK.out _ _ hswB ?_
    clear hK K
    clear hHeld
    have hHeld:=hswB
    try simp only[Act.put,List.setIfInBounds_toArray,List.set_cons_zero,List.set_cons_succ]
    have HwB:=hdq hwB
    have HFwB:=hdq hfwB
    have HZwB:=hdq (show wB.heap.size=wA.heap.size+1 from by rw[hwB];simp[World.drew])
    clear hwB hfwB
    refine zaa 11 (v:=?_) rfl (by kernel_rfl) (by kernel_rfl) (by kernel_rfl) (by kernel_rfl) (fun _ _ _ h=>h) hHeld (by rfl) ?_ ?_
    rotate_left
    ·intro wz hSz
     (try dsimp only at hSz)
     go_simp
     try with_reducible rfl
    try simp only[Act.put,List.setIfInBounds_toArray,List.set_cons_zero,List.set_cons_succ]
    refine zaf 12 rfl (by kernel_rfl) (fun K hK=>?_)
    go_simp
    obtain⟨wC,hwC⟩:=nmq (wB.alloc (.cells #[.map (some wA.heap.size),.int .i64 nv,.slice Aa na ca,.int .i64 g.nodes,.int .i64 g.start,.int .i64 g.last,.slice Ae ne ce,.slice As ns cs,.int .u8 0,.int .u8 0,.int .i64 0,.int .i64 g.start,.int .i64 0,.int .i64 st,.slice (some ⟨w1.heap.size,0,none⟩) nv nv,.slice none 0 0] 167))
    rw[←hwC]
    have hfwC:Fr NoT w1 wC:=by rw[hwC];exact HFwB.out.alloc _
    have hswC:=HS.out wC hfwC
    try dsimp only
    refine hK.out _ _ hswC ?_
    clear hK K
    clear hHeld
    have hHeld:=hswC
    try simp only[Act.put,List.setIfInBounds_toArray,List.set_cons_zero,List.set_cons_succ]
    have HwC:=hdq hwC
    have HFwC:=hdq hfwC
    have HZwC:=hdq (show wC.heap.size=wB.heap.size+1 from by rw[hwC];simp[World.drew])
    clear hwC hfwC
    refine zaf 13 rfl (by kernel_rfl) (fun K hK=>?_)
    go_simp
    refine hK.out _ _ hHeld ?_
    clear hK K
    refine za3 (by kernel_rfl) ?_
    clear hHeld
    go_wp2_with fail
    go_meet
    have hzA:=HZwA.out
    have hzB:=HZwB.out
    have hzC:=HZwC.out
    have hAB:Fr NoT wA wB:=by rw[HwB.out];exact(Fr.refl _ _).alloc _
    have hBC:Fr NoT wB wC:=by rw[HwC.out];exact(Fr.refl _ _).alloc _
    refine⟨wB.heap.size,wA.heap.size,w1.heap.size,rfl,hdq (by rw[HwC.out];exact Bk.new _ _ _),hdq ?_,hdq ?_,HFwC,hdq (by omega)⟩
    ·have h1:Bk wA w1.heap.size 3 zv:=by rw[HwA.out];exact(Bk.new _ _ _).fr0 (Fr.refl _ _).drew
     exact(h1.fr0 hAB).fr0 hBC
    ·have h1:=GI.made wA wC.heap.size g.edges;rw[←HwB.out]at h1;exact h1.fr0 hBC

  case rest=>
   obtain⟨R,b,bv,rfl,hkM,hkv,hgi,hfc,hneq⟩:=hcut
   obtain⟨hRl,hbl,hvl,hRb,hRv,hbv⟩:=hneq.out
   obtain⟨i0,hi0,hz0,hz1,hz2⟩:=info_parts zgK
   obtain⟨iS,hiS,hsz0,hsz1,hsz2⟩:=info_parts znB
   have HI0:=hdq (And.intro hi0 (And.intro hz0 (And.intro hz1 hz2)))
   have HIS:=hdq (And.intro hiS (And.intro hsz0 (And.intro hsz1 hsz2)))
   have k0:=HK0'.out.fr0 hfc.out
   rw[HNV.out]at k0
   have HKG:=hdq k0
   have e0:=k0.cell 0
   have ef0:=k0.frozen 0
   have e1:=k0.cell 1
   have ef1:=k0.frozen 1
   have e2:=k0.cell 2
   have ef2:=k0.frozen 2
   have e3:=k0.cell 3
   have ef3:=k0.frozen 3
   have e4:=k0.cell 4
   have ef4:=k0.frozen 4
   have e5:=k0.cell 5
   have ef5:=k0.frozen 5
   have el:=k0.lt
   simp only[List.getElem?_toArray,List.getElem?_cons_succ,List.getElem?_cons_zero]at e0 e1 e2 e3 e4 e5
   have m0:=hkM.out.cell 0
   have ml:=hkM.out.lt
   simp only[List.getElem?_toArray,List.getElem?_cons_succ,List.getElem?_cons_zero]at m0
   have hbw:=hgi.out.own.lt
   have hnb0:¬w.heap.size=b:=by omega
   have hne2:ne≤2048:=by rw[HNE.out];exact HML.out.1
   clear k0 hi0 hz0 hz1 hz2 hiS hsz0 hsz1 hsz2 hmk hmm ef0 ef1 ef2 ef3 ef4 ef5
   go_wp2_with fail
   go_loopw [50] (fun i wr=>∃(k:Nat) (V:Int→Value) (D:DataW Value),k≤ne∧i= .int .i64 k∧Hid (GI wr b wc.heap.size k V g.edges k D)∧Hid (Fr (fun x=>x=b) wc wr)) (fun i _=>ne - (intOf i).toNat)
   case atStart=>exact⟨0,fun _=>nilS,.map [],Nat.zero_le _,rfl,hgi,hdq (Fr.refl _ _)⟩
   case round=>
    obtain⟨k,V,D,hk,rfl,hgk,hfk⟩:=hrel
    have e5':=(hfk.out.cell (p:=⟨w.heap.size,5,none⟩) el hnb0).trans e5
    by_cases hlt:k < ne
    ·have hlt':(k:Int) < (ne:Int):=by omega
     have hk0:(0:Int)≤(k:Int):=by omega
     obtain⟨e,he⟩:∃e,g.edges[k]?=some e:=⟨_,List.getElem?_eq_getElem (by rw[←HNE.out];exact hlt)⟩
     obtain⟨be,oe,rfl,hat⟩:=zlW HG.out.edges he
     obtain⟨hbeB,x0,x1,x2,x3,x4,⟨A5,c5,x5,hx5⟩,x6,hok⟩:=hat.at_ he
     have x2:w.cell? ⟨be,oe+k*7+2,none⟩=some (.int .u8 e.kind):=x2
     have hfwr:Fr (fun x=>x=b) w wr:=((HF02.out.trans hfc.out).any.trans hfk.out)
     have hnbe:¬be=b:=by have:=HF02.out.size;omega
     have y0:=(hfwr.cell (p:=⟨be,oe+k*7,none⟩) hbeB hnbe).trans x0
     have y1:=(hfwr.cell (p:=⟨be,oe+k*7+1,none⟩) hbeB hnbe).trans x1
     have y2:=(hfwr.cell (p:=⟨be,oe+k*7+2,none⟩) hbeB hnbe).trans x2
     have y3:=(hfwr.cell (p:=⟨be,oe+k*7+3,none⟩) hbeB hnbe).trans x3
     have y4:=(hfwr.cell (p:=⟨be,oe+k*7+4,none⟩) hbeB hnbe).trans x4
     have y5:=(hfwr.cell (p:=⟨be,oe+k*7+5,none⟩) hbeB hnbe).trans x5
     have y6:=(hfwr.cell (p:=⟨be,oe+k*7+6,none⟩) hbeB hnbe).trans x6
     have hbel:=hfwr.low hbeB
     have m0':=(hfk.out.cell (p:=⟨R,0,none⟩) ml hRb).trans m0
     have mlr:=hfk.out.low ml
     have hx64:in64 e.from_:=hok.1
     obtain⟨v,hv⟩:=nmq (V e.from_)
     obtain⟨m,hm⟩:=nmq ((idxE g.edges e.from_ k).length )
     have hml:m≤k:=by rw[hm];exact zgL _ _ _
     obtain⟨xs,hxs⟩:=nmq (zeS (idxE g.edges e.from_ k))
     obtain⟨wa,hwa⟩:=nmq (wr.alloc (.cells #[.int .i64 e.from_,.int .i64 e.to_,.int .u8 e.kind,.int .i64 e.n,.int .u8 e.cmp,.slice A5 e.args.len c5,.int .i64 e.at_] 47))
     have hfa:Fr NoT wr wa:=by rw[hwa];exact(Fr.refl _ _).alloc _
     have ka:Bk wa wr.heap.size 47 #[.int .i64 e.from_,.int .i64 e.to_,.int .u8 e.kind,.int .i64 e.n,.int .u8 e.cmp,.slice A5 e.args.len c5,.int .i64 e.at_]:=by rw[hwa];exact Bk.new _ _ _
     have a0:=ka.cell 0
     have al:=ka.lt
     simp only[List.getElem?_toArray,List.getElem?_cons_zero]at a0
     have m0a:=(hfa.cell (p:=⟨R,0,none⟩) mlr id).trans m0'
     have hlk:∀(W':World),Fr NoT wr W'→(Instr.lookup 165 (.map (some b)) (.int .i64 e.from_) false).run Tryz.prog W'= .ok v W':=fun W' hf=>by rw[hv];exact hgk.out.look_fr hf id hx64
     have hS:∀W',Fr NoT wa W'→(W'.cell? ⟨R,0,none⟩=some (.map (some b))∧W'.cell? ⟨wr.heap.size,0,none⟩=some (.int .i64 e.from_)∧(Instr.lookup 165 (.map (some b)) (.int .i64 e.from_) false).run Tryz.prog W'= .ok v W'):=fun W' hf=>⟨(hf.cell (p:=⟨R,0,none⟩) (hfa.low mlr) id).trans m0a,(hf.cell (p:=⟨wr.heap.size,0,none⟩) al id).trans a0,hlk W' (hfa.trans hf)⟩
     have HS2:=hdq hS
     have HWA:=hdq hwa
     have HFA:=hdq hfa
     have HE2:=hdq he
     have HOK:=hdq hok
     have HV:=hdq hv
     have HMM:=hdq hm
     have HXS:=hdq hxs
     clear hat hx5 hok hwa ka hS hlk hv hm hxs x0 x1 x2 x3 x4 x5 x6 hfwr he m0a hfa a0 m0'
     go_wp2_with fail
     rw[←HWA.out]
     refine zaE (fun W'=>W'.cell? ⟨R,0,none⟩=some (.map (some b))∧W'.cell? ⟨wr.heap.size,0,none⟩=some (.int .i64 e.from_)∧(Instr.lookup 165 (.map (some b)) (.int .i64 e.from_) false).run Tryz.prog W'= .ok v W') 16 (by kernel_rfl) (HS2.out _ (Fr.refl _ _).drew) (fun hHeld=>?_)
     refine zaa 0 (v:=?_) rfl (by kernel_rfl) (by kernel_rfl) (by kernel_rfl) (by kernel_rfl) (fun _ _ _ h=>h) hHeld (by rfl) ?_ ?_
     rotate_left
     ·intro wz hSz
      (try dsimp only at hSz)
      go_simp
      try with_reducible rfl
     try simp only[Act.put,List.setIfInBounds_toArray,List.set_cons_zero,List.set_cons_succ]
     refine zaa 1 (v:=?_) rfl (by kernel_rfl) (by kernel_rfl) (by kernel_rfl) (by kernel_rfl) (fun _ _ _ h=>h) hHeld (by rfl) ?_ ?_
     rotate_left
     ·intro wz hSz
      (try dsimp only at hSz)
      go_simp
      try with_reducible rfl
     try simp only[Act.put,List.setIfInBounds_toArray,List.set_cons_zero,List.set_cons_succ]
     refine zaa 2 (v:=?_) rfl (by kernel_rfl) (by kernel_rfl) (by kernel_rfl) (by kernel_rfl) (fun _ _ _ h=>h) hHeld (by rfl) ?_ ?_
     rotate_left
     ·intro wz hSz
      (try dsimp only at hSz)
      go_simp
      try with_reducible rfl
     try simp only[Act.put,List.setIfInBounds_toArray,List.set_cons_zero,List.set_cons_succ]
     refine zaa 3 (v:=?_) rfl (by kernel_rfl) (by kernel_rfl) (by kernel_rfl) (by kernel_rfl) (fun _ _ _ h=>h) hHeld (by rfl) ?_ ?_
     rotate_left
     ·intro wz hSz
      (try dsimp only at hSz)
      go_simp
      try with_reducible rfl
     try simp only[Act.put,List.setIfInBounds_toArray,List.set_cons_zero,List.set_cons_succ]
     refine zaa 4 (v:=?_) rfl (by kernel_rfl) (by kernel_rfl) (by kernel_rfl) (by kernel_rfl) (fun _ _ _ h=>h) hHeld (by rfl) ?_ ?_
     rotate_left
     ·intro wz hSz
      (try dsimp only at hSz)
      go_simp
      try with_reducible rfl
     try simp only[Act.put,List.setIfInBounds_toArray,List.set_cons_zero,List.set_cons_succ]
     refine zaa 5 (v:=?_) rfl (by kernel_rfl) (by kernel_rfl) (by kernel_rfl) (by kernel_rfl) (fun _ _ _ h=>h) hHeld (by rfl) ?_ ?_
     rotate_left
     ·intro wz hSz
      (try dsimp only at hSz)
      go_simp
      try with_reducible rfl
     try simp only[Act.put,List.setIfInBounds_toArray,List.set_cons_zero,List.set_cons_succ]
     refine zaa 6 (v:=?_) rfl (by kernel_rfl) (by kernel_rfl) (by kernel_rfl) (by kernel_rfl) (fun _ _ _ h=>h) hHeld (by rfl) ?_ ?_
     rotate_left
     ·intro wz hSz
      (try dsimp only at hSz)
      go_simp
      try with_reducible rfl
     try simp only[Act.put,List.setIfInBounds_toArray,List.set_cons_zero,List.set_cons_succ]
     refine zaa 7 (v:=?_) rfl (by kernel_rfl) (by kernel_rfl) (by kernel_rfl) (by kernel_rfl) (fun _ _ _ h=>h) hHeld (by rfl) ?_ ?_
     rotate_left
     ·intro wz hSz
      (try dsimp only at hSz)
      go_simp
      try with_reducible rfl
     try simp only[Act.put,List.setIfInBounds_toArray,List.set_cons_zero,List.set_cons_succ]
     refine zaa 8 (v:=?_) rfl (by kernel_rfl) (by kernel_rfl) (by kernel_rfl) (by kernel_rfl) (fun _ _ _ h=>h) hHeld (by rfl) ?_ ?_
     rotate_left
     ·intro wz hSz
      (try dsimp only at hSz)
      go_simp
      try with_reducible rfl
     try simp only[Act.put,List.setIfInBounds_toArray,List.set_cons_zero,List.set_cons_succ]
     refine zaa 9 (v:=?_) rfl (by kernel_rfl) (by kernel_rfl) (by kernel_rfl) (by kernel_rfl) (fun _ _ _ h=>h) hHeld (by rfl) ?_ ?_
     rotate_left
     ·intro wz hSz
      (try dsimp only at hSz)
      go_simp
      try with_reducible rfl
     try simp only[Act.put,List.setIfInBounds_toArray,List.set_cons_zero,List.set_cons_succ]
     refine zaa 10 (v:=?_) rfl (by kernel_rfl) (by kernel_rfl) (by kernel_rfl) (by kernel_rfl) (fun _ _ _ h=>h) hHeld (by rfl) ?_ ?_
     rotate_left
     ·intro wz hSz
      (try dsimp only at hSz)
      go_simp
      try with_reducible rfl
     try simp only[Act.put,List.setIfInBounds_toArray,List.set_cons_zero,List.set_cons_succ]
     refine zaa 11 (v:=?_) rfl (by kernel_rfl) (by kernel_rfl) (by kernel_rfl) (by kernel_rfl) (fun _ _ _ h=>h) hHeld (by rfl) ?_ ?_
     rotate_left
     ·intro wz hSz
      (try dsimp only at hSz)
      go_simp
      try with_reducible rfl
     try simp only[Act.put,List.setIfInBounds_toArray,List.set_cons_zero,List.set_cons_succ]
     refine zaa 12 (v:=?_) rfl (by kernel_rfl) (by kernel_rfl) (by kernel_rfl) (by kernel_rfl) (fun _ _ _ h=>h) hHeld (by rfl) ?_ ?_
     rotate_left
     ·intro wz hSz
      (try dsimp only at hSz)
      go_simp
      try with_reducible rfl
     try simp only[Act.put,List.setIfInBounds_toArray,List.set_cons_zero,List.set_cons_succ]
     refine zaa 13 (v:=?_) rfl (by kernel_rfl) (by kernel_rfl) (by kernel_rfl) (by kernel_rfl) (fun _ _ _ h=>h) hHeld (by rfl) ?_ ?_
     rotate_left
     ·intro wz hSz
      (try dsimp only at hSz)
      go_simp
      try with_reducible rfl
     try simp only[Act.put,List.setIfInBounds_toArray,List.set_cons_zero,List.set_cons_succ]
     refine zaf 14 rfl (by kernel_rfl) (fun K hK=>?_)
     go_simp
     obtain⟨w8,hw8⟩:=nmq ((wa.alloc (.cells #[.int .i64 (k:Int)] 3)).drew )
     have hf8:Fr NoT wa w8:=by rw[hw8];exact((Fr.refl _ _).alloc _).drew
     have k8:Bk w8 wa.heap.size 3 ([.int .i64 (k:Int)]:List Value).toArray :=by rw[hw8];exact(Bk.new _ _ _).fr0 (Fr.refl _ _).drew
     have hz8:w8.heap.size=wa.heap.size+1:=by rw[hw8];simp[World.drew]
     rw[←hw8]
     have hs8:=HS2.out w8 hf8
     try dsimp only
     refine hK.out _ _ hs8 ?_
     clear hK K hHeld
     have hHeld:=hs8
     try simp only[Act.put,List.setIfInBounds_toArray,List.set_cons_zero,List.set_cons_succ]
     have HF8:=hdq (HFA.out.trans hf8)
     have HK8:=hdq k8
     have HZ8:=hdq hz8
     have hG8:=hgk.out.fr0 HF8.out
     have hrow:=hG8.rows e.from_ hx64
     rw[←HV.out,←HMM.out,←HXS.out]at hrow
     have HROW:=hdq hrow
     have HG8:=hdq hG8
     have hbase:wc.heap.size≤w8.heap.size:=by have:=hfk.out.size;have:=HF8.out.size;omega
     have hnvb:v.ownBlock≠some wa.heap.size:=fun e'=>by
      have:=((hgk.out.rows e.from_ hx64).lt wa.heap.size (by rw[←HV.out];exact e')).2
      have:=HFA.out.size
      omega
     clear hw8 hf8 k8 hz8 hG8 hrow
     refine zaf 15 rfl (by kernel_rfl) (fun K hK=>?_)
     refine step_append_lies _ (by rfl) _ _ _ (by rfl) wc.heap.size 3 i0 (.int .i64 0) 1 8 Tryz.underlying37 HI0.out.1 HI0.out.2.1 HI0.out.2.2.1 HI0.out.2.2.2 rfl (by decide) v m xs (by rfl) HROW.out
      ⟨wa.heap.size,0,none⟩ 1 1 _ (by rfl) (by rfl) HK8.out.newsL (by simp[Value.oneCell']) (by omega) (by unfold maxLen;omega) (by omega) hbase _ rfl ?_
     intro gg cap w9 hown hgrow hsp hlt9
     have hgf:Fr (fun x=>v.ownBlock=some x) w8 w9:=Fr.grown hgrow fun g' e' _=>e'
     have hvb:¬v.ownBlock=some b:=fun e'=>by have:=(HROW.out.lt b e').1;omega
     have hbg:b≠gg:=fun e'=>by
      rcases hsp with h2|h2
      ·exact hvb (by rw[h2,e'])
      ·have:=HF8.out.size;have:=hfk.out.size;omega
     obtain⟨w10,D2,hupd,hG2,hg2⟩:=HG8.out.step HE2.out hx64 (.slice (some ⟨gg,0,none⟩) (m+1) cap) (n:=k) (by unfold maxLen;omega)
      (fun x hx e'=>by have:=((hgk.out.rows x hx).lt b e').1;omega) (by intro e';exact hbg (by simpa[Value.ownBlock]using e'.symm)) (w1:=w9) (by rw[←HV.out];exact hgrow) (by rw[←HMM.out,←HXS.out];exact hown)
      (by
       rw[←HV.out]
       rcases hsp with h2|h2
       ·left;rw[h2];rfl
       ·right;exact⟨gg,rfl,by omega⟩)
     have hG9:(Instr.lookup 165 (.map (some b)) (.int .i64 e.from_) false).run Tryz.prog w9= .ok v w9:=by rw[HV.out];exact HG8.out.look_fr hgf hvb hx64
     have hnR9:¬v.ownBlock=some R:=fun e'=>by have:=(HROW.out.lt R e').1;omega
     have hnw9:¬v.ownBlock=some wr.heap.size:=fun e'=>by
      have:=((hgk.out.rows e.from_ hx64).lt wr.heap.size (by rw[←HV.out];exact e')).2
      omega
     have hs9:=And.intro ((hgf.cell (p:=⟨R,0,none⟩) (by have:=HF8.out.size;show R < w8.heap.size;omega) hnR9).trans hs8.1) (And.intro ((hgf.cell (p:=⟨wr.heap.size,0,none⟩) (by have:=HZ8.out;have:=HFA.out.size;show wr.heap.size < w8.heap.size;omega) hnw9).trans hs8.2.1) hG9)
     refine hK.out _ _ hs9 ?_
     clear hK K
     try simp only[Act.put,List.setIfInBounds_toArray,List.set_cons_zero,List.set_cons_succ]
     refine zho 16 rfl (by kernel_rfl) (by decide) (fun K hK=>?_)
     go_simp
     refine hK.out _ _ ?_
     clear hK K
     refine za3 (by kernel_rfl) ?_
     have HFN:=hdq (show Fr (fun x=>x=b) wc w10 from((hfk.out.trans HF8.out.any).then hgf fun x hx e'=>absurd hx (by have:=(HROW.out.lt x e').1;omega)).trans (Fr.grown hg2 fun g' e' _=>by simpa using e'.symm))
     have HGN:=hdq hG2
     clear hHeld hs8 hs9 hG9 hupd hg2 hgf hown hgrow hsp hG2 y0 y1 y2 y3 y4 y5 y6 e5'
     go_wp2_with fail
     go_roundw
     case rel=>exact⟨k+1,_,D2,by omega,by go_num,HGN,HFN⟩
     case measure=>simp[intOf];omega
    ·have hkn:k=ne:=by omega
     have hlt':¬(k:Int) < (ne:Int):=by omega
     have HGF:=hdq (show GI wr b wc.heap.size ne V g.edges g.edges.length D from by
      have:=hgk.out
      rw[hkn]at this
      rw[←HNE.out]
      exact this)
     obtain⟨wm,hwm⟩:=nmq wr
     subst hwm
     have e1':=(hfk.out.cell (p:=⟨w.heap.size,1,none⟩) el hnb0).trans e1
     have elr:=hfk.out.low el
     have HKM:=hdq (hkM.out.fr hfk.out hRb)
     have HU0:=hdq (show BgY wm R 167 (fun v=> #[.map (some b),.int .i64 nv,.slice Aa na ca,.int .i64 g.nodes,.int .i64 g.start,.int .i64 g.last,.slice Ae ne ce,.slice As ns cs,.int .u8 0,.int .u8 0,.int .i64 0,.int .i64 g.start,.int .i64 0,.int .i64 st,.slice (some ⟨bv,0,none⟩) nv nv,v]) 15 g.arrays (.slice none 0 0) wm [] 0 from⟨Fr.refl _ _,HKM.out,World.ownsRow_nil _ _ _ _,rfl,fun i b l hi=>by simp at hi,List.nodup_nil,fun b hb=>by simp at hb,fun b hb=>by simp at hb⟩)
     have hmk:=fun(n:Nat) (hn:n≤1000) (W:World)=>zmu n (by omega) W
     have HMK:=hdq hmk
     have hna4:na≤4:=by have:=HML.out.2.1;have:=HNA.out;omega
     have hmlR:=HKM.out.lt
     have hnR0:¬w.heap.size=R:=by omega
     clear hkn hgk hmk e5'
     go_wp2_with fail
     go_loopw [75] (fun i wr=>∃(q:Nat) (v:Value) (bs:List Nat),q≤na∧i= .int .i64 q∧Hid (BgY wm R 167 (fun v=> #[.map (some b),.int .i64 nv,.slice Aa na ca,.int .i64 g.nodes,.int .i64 g.start,.int .i64 g.last,.slice Ae ne ce,.slice As ns cs,.int .u8 0,.int .u8 0,.int .i64 0,.int .i64 g.start,.int .i64 0,.int .i64 st,.slice (some ⟨bv,0,none⟩) nv nv,v]) 15 g.arrays v wr bs q)) (fun i _=>na - (intOf i).toNat)
     case atStart=>exact⟨0,_, [],Nat.zero_le _,rfl,HU0⟩
     case round=>
      clear HU0
      obtain⟨q,v,bs,hq,rfl,hb⟩:=hrel
      have q1:=hb.out.bk.cell 15
      have qf:=hb.out.bk.frozen 15
      have pl:=hb.out.bk.lt
      simp only[List.getElem?_toArray,List.getElem?_cons_succ,List.getElem?_cons_zero]at q1
      by_cases hlt2:q < na
      ·have hlt2':(q:Int) < (na:Int):=by omega
       have hq0:(0:Int)≤(q:Int):=by omega
       obtain⟨n,hnk⟩:∃n,g.arrays[q]?=some n:=⟨_,List.getElem?_eq_getElem (by rw[←HNA.out];exact hlt2)⟩
       obtain⟨bx,ox,rfl,hat⟩:=HG.out.arrays.2.2 (by rw[←HNA.out];omega)
       have hbxw:=hat.1
       have hc:=(hat.2 q n hnk).1
       have hnxb:¬bx=b:=by have:=HF02.out.size;omega
       have hnxR:¬bx=R:=by have:=HF02.out.size;omega
       have d0:=(hb.out.fr.cell (p:=⟨bx,ox+q,none⟩) (hfk.out.low ((HF02.out.trans hfc.out).low hbxw)) hnxR).trans ((hfk.out.cell (p:=⟨bx,ox+q,none⟩) ((HF02.out.trans hfc.out).low hbxw) hnxb).trans (((HF02.out.trans hfc.out).cell (p:=⟨bx,ox+q,none⟩) hbxw id).trans hc))
       have hxr:bx < wr.heap.size:=hb.out.fr.low (hfk.out.low ((HF02.out.trans hfc.out).low hbxw))
       have hn2:=zfZ HM.out n (List.mem_of_getElem? hnk)
       obtain⟨nn,rfl⟩:∃nn:Nat,n=nn:=⟨n.toNat,by omega⟩
       have hmk:=fun(W:World)=>HMK.out nn (by omega) W
       obtain⟨zn,hzn⟩:=nmq ((intL (zbX nn)).toArray )
       simp only[←hzn]at hmk
       obtain⟨w8,hw8⟩:=nmq (((wr.alloc (.cells zn 3)).alloc (.cells #[.slice (some ⟨wr.heap.size,0,none⟩) nn nn] 37)).drew )
       obtain⟨w7,hw7⟩:=nmq ((wr.alloc (.cells zn 3)).drew )
       have hf7:Fr NoT wr w7:=by rw[hw7];exact((Fr.refl _ _).alloc _).drew
       have hf8:Fr NoT wr w8:=by rw[hw8];exact(((Fr.refl _ _).alloc _).alloc _).drew
       have hk8:Bk w8 wr.heap.size 3 zn∧Bk w8 (wr.heap.size+1) 37 ([.slice (some ⟨wr.heap.size,0,none⟩) nn nn]:List Value).toArray :=by rw[hw8];exact zbZ _ _ _ _ _
       have hz8:w8.heap.size=wr.heap.size+1+1:=by rw[hw8];simp[World.drew]
       have hz7:w7.heap.size=wr.heap.size+1:=by rw[hw7];simp[World.drew]
       have HROW8:=hdq (zep hb.out.row hf8 (fun _ _=>id))
       have HK8:=hdq hk8.1
       have HK9:=hdq hk8.2
       have HF7:=hdq hf7
       have HF8:=hdq hf8
       have HW7:=hdq hw7
       have HW8:=hdq hw8
       have HZ8:=hdq hz8
       have HZ7:=hdq hz7
       have HNK:=hdq hnk
       have HZN:=hdq hzn
       have hbase:wm.heap.size≤w8.heap.size:=by have:=hb.out.fr.size;omega
       have q8:=(hf8.cell (p:=⟨R,15,none⟩) pl id).trans q1
       have f8:=(hf8.frozen (p:=⟨R,15,none⟩) pl id).trans qf
       have e1'':=(hb.out.fr.cell (p:=⟨w.heap.size,1,none⟩) elr hnR0).trans e1'
       clear hat hc hk8 hw7 hw8 hz8 hz7 hnk hzn hn2 hf7 hf8
       go_wp2_with fail
       refine zaE (fun W'=>W'.cell? ⟨R,15,none⟩=some v) 15 (by kernel_rfl) q1 (fun hHeld=>?_)
       refine zaa 0 (v:=?_) rfl (by kernel_rfl) (by kernel_rfl) (by kernel_rfl) (by kernel_rfl) (fun _ _ _ h=>h) hHeld (by rfl) ?_ ?_
       rotate_left
       ·intro wz hSz
        (try dsimp only at hSz)
        go_simp
        try with_reducible rfl
       try simp only[Act.put,List.setIfInBounds_toArray,List.set_cons_zero,List.set_cons_succ]
       refine zaa 1 (v:=?_) rfl (by kernel_rfl) (by kernel_rfl) (by kernel_rfl) (by kernel_rfl) (fun _ _ _ h=>h) hHeld (by rfl) ?_ ?_
       rotate_left
       ·intro wz hSz
        (try dsimp only at hSz)
        go_simp
        try with_reducible rfl
       try simp only[Act.put,List.setIfInBounds_toArray,List.set_cons_zero,List.set_cons_succ]
       refine zaa 2 (v:=?_) rfl (by kernel_rfl) (by kernel_rfl) (by kernel_rfl) (by kernel_rfl) (fun _ _ _ h=>h) hHeld (by rfl) ?_ ?_
       rotate_left
       ·intro wz hSz
        (try dsimp only at hSz)
        go_simp
        try with_reducible rfl
       try simp only[Act.put,List.setIfInBounds_toArray,List.set_cons_zero,List.set_cons_succ]
       refine zaa 3 (v:=?_) rfl (by kernel_rfl) (by kernel_rfl) (by kernel_rfl) (by kernel_rfl) (fun _ _ _ h=>h) hHeld (by rfl) ?_ ?_
       rotate_left
       ·intro wz hSz
        (try dsimp only at hSz)
        go_simp
        try with_reducible rfl
       try simp only[Act.put,List.setIfInBounds_toArray,List.set_cons_zero,List.set_cons_succ]
       refine zaa 4 (v:=?_) rfl (by kernel_rfl) (by kernel_rfl) (by kernel_rfl) (by kernel_rfl) (fun _ _ _ h=>h) hHeld (by rfl) ?_ ?_
       rotate_left
       ·intro wz hSz
        (try dsimp only at hSz)
        go_simp
        try with_reducible rfl
       try simp only[Act.put,List.setIfInBounds_toArray,List.set_cons_zero,List.set_cons_succ]
       refine zaa 5 (v:=?_) rfl (by kernel_rfl) (by kernel_rfl) (by kernel_rfl) (by kernel_rfl) (fun _ _ _ h=>h) hHeld (by rfl) ?_ ?_
       rotate_left
       ·intro wz hSz
        (try dsimp only at hSz)
        go_simp
        try with_reducible rfl
       try simp only[Act.put,List.setIfInBounds_toArray,List.set_cons_zero,List.set_cons_succ]
       refine zaa 6 (v:=?_) rfl (by kernel_rfl) (by kernel_rfl) (by kernel_rfl) (by kernel_rfl) (fun _ _ _ h=>h) hHeld (by rfl) ?_ ?_
       rotate_left
       ·intro wz hSz
        (try dsimp only at hSz)
        go_simp
        try with_reducible rfl
       try simp only[Act.put,List.setIfInBounds_toArray,List.set_cons_zero,List.set_cons_succ]
       refine zaa 7 (v:=?_) rfl (by kernel_rfl) (by kernel_rfl) (by kernel_rfl) (by kernel_rfl) (fun _ _ _ h=>h) hHeld (by rfl) ?_ ?_
       rotate_left
       ·intro wz hSz
        (try dsimp only at hSz)
        go_simp
        try with_reducible rfl
       try simp only[Act.put,List.setIfInBounds_toArray,List.set_cons_zero,List.set_cons_succ]
       refine zaf 8 rfl (by kernel_rfl) (fun K hK=>?_)
       go_simp
       rw[←HW7.out]
       refine hK.out _ _ ((HF7.out.cell (p:=⟨R,15,none⟩) pl id).trans q1) ?_
       clear hK K hmk hHeld
       refine zaf 9 rfl (by kernel_rfl) (fun K hK=>?_)
       go_simp
       rw[show(w7.alloc (.cells #[.slice (some ⟨wr.heap.size,0,none⟩) nn nn] 37))=w8 from by rw[HW7.out,HW8.out];rfl]
       refine hK.out _ _ q8 ?_
       clear hK K
       try simp only[Act.put,List.setIfInBounds_toArray,List.set_cons_zero,List.set_cons_succ]
       refine zaf 10 rfl (by kernel_rfl) (fun K hK=>?_)
       rw[HZ7.out]
       refine step_append_lies _ (by rfl) _ _ _ (by rfl) wm.heap.size 37 iS (.slice none 0 0) 1 24 Tryz.underlying55 HIS.out.1 HIS.out.2.1 HIS.out.2.2.1 HIS.out.2.2.2 rfl (by decide) v q (rowL bs (begA (g.arrays.take q))) (by rfl) HROW8.out
        ⟨wr.heap.size+1,0,none⟩ 1 1 _ (by rfl) (by rfl) HK9.out.newsL (by simp[Value.oneCell']) (by omega) (by unfold maxLen;omega) (by omega) hbase _ rfl ?_
       intro gg cap w9 hown hgrow hsp hlt9
       have hgf:Fr (fun x=>v.ownBlock=some x) w8 w9:=Fr.grown hgrow fun g' e' _=>e'
       have hvR:¬v.ownBlock=some R:=fun e'=>by have:=(HROW8.out.lt R e').1;omega
       have pl8:R < w8.heap.size:=HF8.out.low pl
       have q9:=(hgf.cell (p:=⟨R,15,none⟩) pl8 hvR).trans q8
       have f9:=(hgf.frozen (p:=⟨R,15,none⟩) pl8 hvR).trans f8
       have p9:=hgf.low pl8
       have HN:=hdq (hb.out.step (fun _ _=>rfl) hmlR HNK.out HF8.out (by rw[Int.toNat_natCast,←HZN.out];exact HK8.out) HZ8.out (by rw[Int.toNat_natCast];exact hown) hgrow hsp)
       refine hK.out _ _ q9 ?_
       clear hK K hown hgrow hsp hgf
       try simp only[Act.put,List.setIfInBounds_toArray,List.set_cons_zero,List.set_cons_succ]
       refine zaf 11 rfl (by kernel_rfl) (fun K hK=>?_)
       go_simp
       refine hK.out _ _ q9 ?_
       clear hK K
       try simp only[Act.put,List.setIfInBounds_toArray,List.set_cons_zero,List.set_cons_succ]
       refine zaf 12 rfl (by kernel_rfl) (fun K hK=>?_)
       go_simp
       refine hK.out _ _ q9 ?_
       clear hK K
       try simp only[Act.put,List.setIfInBounds_toArray,List.set_cons_zero,List.set_cons_succ]
       refine zaf 13 rfl (by kernel_rfl) (fun K hK=>?_)
       go_simp
       refine hK.out _ _ q9 ?_
       clear hK K
       try simp only[Act.put,List.setIfInBounds_toArray,List.set_cons_zero,List.set_cons_succ]
       refine zaf 14 rfl (by kernel_rfl) (fun K hK=>?_)
       go_simp
       refine hK.out _ _ q9 ?_
       clear hK K
       try simp only[Act.put,List.setIfInBounds_toArray,List.set_cons_zero,List.set_cons_succ]
       refine zho 15 rfl (by kernel_rfl) (by decide) (fun K hK=>?_)
       go_simp
       refine hK.out _ _ ?_
       clear hK K
       refine za3 (by kernel_rfl) ?_
       go_wp2_with fail
       go_roundw
       case rel=>exact⟨q+1,_,_,by omega,by go_num,HN⟩
       case measure=>simp[intOf];omega
      ·have hqn:q=na:=by omega
       have hlt2':¬(q:Int) < (na:Int):=by omega
       have hrow:=hb.out.row
       rw[List.take_of_length_le (by rw[hqn,HNA.out];exact Nat.le_refl _),hqn]at hrow
       have hva:∃A c,v= .slice A na c:=by
        rcases hrow.2 with⟨e',h0⟩|⟨g',cap',cur',e',_⟩
        ·exact⟨none,0,by rw[e',h0]⟩
        ·exact⟨_,_,e'⟩
       obtain⟨A,cr,rfl⟩:=hva
       have hfm:=hb.out.fr
       have hwm1:w1.heap.size≤wm.heap.size:=by have:=hfc.out.size;have:=hfk.out.size;omega
       have hcw:wc.heap.size≤wm.heap.size:=hfk.out.size
       have hbvl:=hkv.out.lt
       have hbal:(begA g.arrays).length =na:=by rw[begA,List.length_map,HNA.out]
       have heach:∀(j x:Nat) (l:List Int),bs[j]?=some x→(begA g.arrays)[j]?=some l→wm.heap.size≤x∧Bk wr x 3 (intL l).toArray :=hb.out.each
       have hbsl:∀x∈bs,wm.heap.size≤x:=fun x hx=>by
        obtain⟨j,hj⟩:=List.getElem?_of_mem hx
        have hjl:=(List.getElem?_eq_some_iff.1 hj).1
        rw[hb.out.len,hqn,←hbal]at hjl
        exact(heach j x _ hj (List.getElem?_eq_getElem hjl)).1
       have hkv2:Bk wr bv 3 zv:=(hkv.out.fr hfk.out (fun e'=>hbv (by have e':bv=b:=e';exact e'.symm))).fr hfm (fun e'=>hRv (by have e':bv=R:=e';exact e'.symm))
       have hsto:Sto wr w1.heap.size (zbX nv) (begA g.arrays) bv A cr bs:=by
        refine⟨by rw[←HZV.out];exact hkv2,hvl,?_,by rw[hb.out.len,hqn,hbal],fun j x l hj hl=>⟨by have:=(heach j x l hj hl).1;omega,(heach j x l hj hl).2⟩,hb.out.nd,fun hm=>by have:=hbsl _ hm;omega,?_,?_,⟨?_,?_⟩,by rw[zbY,hbal];refine⟨by omega,by omega,fun l hl=>?_⟩;obtain⟨z,hz,rfl⟩:=List.mem_map.1 hl;rw[zbY];have:=zfZ HM.out z hz;omega⟩
        ·rw[hbal]
         refine⟨hrow.1,?_⟩
         rcases hrow.2 with h2|⟨g',cap',cur',e',h3,r'⟩
         ·exact .inl h2
         ·exact .inr ⟨g',cap',cur',e',by omega,r'⟩
        ·rw[hbal];intro e';have:=(hrow.lt _ e').1;omega
        ·rw[hbal];exact hb.out.rb
        ·intro n' hn';rw[zbX,List.mem_replicate]at hn';rw[hn'.2];simp[is64]
        ·intro l hl n' hn'
         obtain⟨z,_,rfl⟩:=List.mem_map.1 hl
         rw[zbX,List.mem_replicate]at hn';rw[hn'.2];simp[is64]
       have hfall:Fr (fun x=>x=b∨x=R) w wr:=((HF02.out.trans hfc.out).any.trans (hfk.out.mono fun x _ e'=> .inl e')).trans (hfm.mono fun x _ e'=> .inr e')
       have hlow:∀x,(x=b∨x=R)→w.heap.size≤x:=by rintro x (rfl|rfl)<;>omega
       have hmn:MnR ⟨⟨g,Aa,ca,Ae,ce,w1.heap.size,R,bv,A,cr,bs⟩,b,ne,V,D⟩ wr (run0 g script st) As cs 0 0 0 0:=by
        have hs:=hsto
        refine⟨?_,by rw[show(run0 g script st).vs =zbX nv from by simp[run0,HNV.out]];exact hs,(HG.out.keep (Same.of_fr hfall (Nat.le_refl _) hlow)).up HF02.out.size,(HSC.out.keep (Same.of_fr hfall (Nat.le_refl _) hlow)).up HF02.out.size,hRl,hRv,fun hm=>by have h2:wm.heap.size≤R:=hbsl R hm;omega,?_,?_,?_,?_,⟨?_,hbl⟩,?_⟩
        ·have hbk:=hb.out.bk
         unfold mnC rnC run0
         simp only[HNV.out,←HNA.out,←HNE.out,←HNS.out,hbal,Int.toNat_natCast,zbY]
         exact hbk
        ·show(Value.slice A (begA g.arrays).length cr).ownBlock ≠some R
         rw[hbal];intro e';have:=(hrow.lt _ e').1;omega
        ·show((zbX g.vars.toNat).length :Int)=g.vars
         rw[zbY,HNV.out];simp
        ·show(begA g.arrays).length =g.arrays.length
         rw[hbal,HNA.out]
        ·exact(HGF.out.fr hfm (fun e'=>hRb e'.symm) (fun x hx g' hg' e'=>by have e':g'=R:=e';have:=((HGF.out.rows x hx).lt g' hg').1;omega) |> fun hh=>GI.lower (by have:=hfc.out.size;exact this) hh)
        ·rintro(e'|e'|e')
         ·exact hRb e'.symm
         ·exact hbv e'
         ·have h2:wm.heap.size≤b:=hbsl b e';omega
        ·intro x hx g' hg'
         have h1:=((HGF.out.rows x hx).lt g' hg')
         rintro(e'|e'|e')
         ·have e':g'=R:=e';omega
         ·have e':g'=bv:=e';omega
         ·have h2:wm.heap.size≤g':=hbsl g' e';omega
       obtain⟨m,hmg,hmR,hmL,hmn'⟩:∃m:MW,m.c.g=g∧m.c.R=R∧m.c.L=w1.heap.size∧MnR m wr (run0 g script st) As cs 0 0 0 0:=⟨_,rfl,rfl,rfl,hmn⟩
       obtain⟨wn,hwn⟩:=nmq wr
       subst hwn
       have HLOW:=hdq hmn'.low
       have hnT0:¬m.c.T w.heap.size:=fun h=>by have:=hmn'.low _ h;omega
       have hnT1:¬m.c.T (w.heap.size+1):=fun h=>by have:=hmn'.low _ h;omega
       have HKX0:=hdq ((HKG.out.fr hfk.out hnb0).fr hfm hnR0)
       have HKX:=hdq (((HK1'.out.fr0 hfc.out).fr hfk.out (by show ¬w.heap.size+1=b;omega)).fr hfm (by show ¬w.heap.size+1=R;omega))
       have HFX:=hdq (show Fr NoT w wn from hfall.mono fun x hx e'=>absurd hx (by have:=hlow x e';omega))
       have hnR1:¬w.heap.size+1=R:=by omega
       have hnR2:¬R=w.heap.size+1:=by omega
       have hnR3:¬R=w.heap.size:=by omega
       have HR0:=hdq hmn'
       have hwz:w.heap.size+1 < w1.heap.size:=by omega
       clear hmn hmn' hsto hfall hlow hkv2 heach hbsl hrow hfm hb q1 qf pl e1' HGF HKM HMK hmlR elr hbal hwm1 hcw
       go_wp2_with fail
       go_step3
       go_wp2_with fail
       go_loopw [] (fun wr=>∃(s:Rs) (As':Option Addr) (cs':Nat),Hid (MnR m wr s As' cs' 0 0 0 0)∧Hid (Fr m.c.T wn wr)∧s.left≤65536∧in64 s.node∧Hid (∀en,Ends g s en→Ends g (run0 g script st) en)) (fun wr=>zkA g R wr)
       case atStart=>exact⟨run0 g script st,As,cs,HR0,hdq (Fr.refl _ _),by simpa[run0]using hst,ziu HM.out,hdq fun _ h=>h⟩
       case round=>
        obtain⟨s,As',cs',hr,hfr,hlf,hnode,hen⟩:=hrel
        have k0:=HKX0.out.fr hfr.out hnT0
        have c4:=k0.cell 4
        have c4l:=k0.lt
        simp only[List.getElem?_toArray,List.getElem?_cons_succ,List.getElem?_cons_zero]at c4
        have q8:=hr.out.blk.cell 8
        have qf8:=hr.out.blk.frozen 8
        have q9:=hr.out.blk.cell 9
        have qf9:=hr.out.blk.frozen 9
        have q10:=hr.out.blk.cell 10
        have qf10:=hr.out.blk.frozen 10
        have q11:=hr.out.blk.cell 11
        have qf11:=hr.out.blk.frozen 11
        have q12:=hr.out.blk.cell 12
        have qf12:=hr.out.blk.frozen 12
        have q13:=hr.out.blk.cell 13
        have qf13:=hr.out.blk.frozen 13
        have q14:=hr.out.blk.cell 14
        have qf14:=hr.out.blk.frozen 14
        have q15:=hr.out.blk.cell 15
        have qf15:=hr.out.blk.frozen 15
        have ql:=hr.out.blk.lt
        simp only[mnC,rnC,List.getElem?_toArray,List.getElem?_cons_succ,List.getElem?_cons_zero]at q8 q9 q10 q11 q12 q13 q14 q15
        rw[hmR]at q8 qf8 q9 qf9 q10 qf10 q11 qf11 q12 qf12 q13 qf13 q14 qf14 q15 qf15 ql
        by_cases hl:s.node=g.last
        ·have hl2:(s.node==g.last)=true:=by simp[hl]
         have hfv:Fr (fun b=>b=R) wr (wr.setCell ⟨R,8,none⟩ (.int .u8 1)):=Fr.own (Fr.refl _ _) _ _
         have hput:=hr.out.put 8 (.int .u8 1) (s':=s) (k':=1) (wr':=0) (at':=0) (ed':=0) rfl rfl rfl rfl
         rw[hmR]at hput
         have HFV:=hdq (show Fr m.c.T wn (wr.setCell ⟨R,8,none⟩ (.int .u8 1))from hfr.out.trans hput.2)
         have HRF:=hdq hput.1
         have HEN:=hdq (hen.out _ (Ends.done hl))
         have kS:=HKX.out.fr HFV.out hnT1
         have v0:=kS.cell 0
         have vf0:=kS.frozen 0
         have v1:=kS.cell 1
         have vf1:=kS.frozen 1
         have v2:=kS.cell 2
         have vf2:=kS.frozen 2
         have v3:=kS.cell 3
         have vf3:=kS.frozen 3
         have v4:=kS.cell 4
         have vf4:=kS.frozen 4
         have v5:=kS.cell 5
         have vf5:=kS.frozen 5
         have v6:=kS.cell 6
         have vf6:=kS.frozen 6
         have v7:=kS.cell 7
         have vf7:=kS.frozen 7
         have vl:=kS.lt
         simp only[List.getElem?_toArray,List.getElem?_cons_succ,List.getElem?_cons_zero]at v0 v1 v2 v3 v4 v5 v6 v7
         obtain⟨wf,hwf⟩:=nmq (((((((((((wr.setCell ⟨R,8,none⟩ (.int .u8 1)).setCell ⟨w.heap.size+1,0,none⟩ (.int .u8 1)).setCell ⟨w.heap.size+1,1,none⟩ (.int .u8 0)).setCell ⟨w.heap.size+1,2,none⟩ (.int .i64 0)).setCell ⟨w.heap.size+1,3,none⟩ (.int .i64 s.node)).setCell ⟨w.heap.size+1,4,none⟩ (.int .i64 0)).setCell ⟨w.heap.size+1,5,none⟩ (.int .i64 s.left)).setCell ⟨w.heap.size+1,6,none⟩ (.slice (some ⟨m.c.bv,0,none⟩) s.vs.length s.vs.length)).setCell ⟨w.heap.size+1,7,none⟩ (.slice m.c.Ar s.ls.length m.c.cr))).drew )
         have hff:Fr (fun b=>b=w.heap.size+1) (wr.setCell ⟨R,8,none⟩ (.int .u8 1)) wf:=by rw[hwf];exact((Fr.own (Fr.own (Fr.own (Fr.own (Fr.own (Fr.own (Fr.own (Fr.own (Fr.refl _ _) _ _) _ _) _ _) _ _) _ _) _ _) _ _) _ _)).drew
         have kf:Bk wf (w.heap.size+1) 59 #[.int .u8 1,.int .u8 0,.int .i64 0,.int .i64 s.node,.int .i64 0,.int .i64 s.left,.slice (some ⟨m.c.bv,0,none⟩) s.vs.length s.vs.length,.slice m.c.Ar s.ls.length m.c.cr]:=by
          have:=((((((((kS.set_ 0 (.int .u8 1)).set_ 1 (.int .u8 0)).set_ 2 (.int .i64 0)).set_ 3 (.int .i64 s.node)).set_ 4 (.int .i64 0)).set_ 5 (.int .i64 s.left)).set_ 6 (.slice (some ⟨m.c.bv,0,none⟩) s.vs.length s.vs.length)).set_ 7 (.slice m.c.Ar s.ls.length m.c.cr))
          rw[hwf];exact Bk.fr0 (by simpa using this) (Fr.refl _ _).drew
         have hfw:Fr NoT w wf:=(HFX.out.then HFV.out fun i hi ht=>absurd (HLOW.out i ht) (by have:=HF02.out.size;omega)).then hff fun i hi e=>by have e:i=w.heap.size+1:=e;omega
         have hstF:=HRF.out.sto.fr hff (fun e=>by have e:m.c.bv=w.heap.size+1:=e;have:=HRF.out.sto.vl;omega) (fun b hb e=>by have e:b=w.heap.size+1:=e;have:=HRF.out.sto.lo2 b hb;omega) (fun b hb e=>by have e:b=w.heap.size+1:=e;have:=(HRF.out.sto.row.lt b hb).1;omega)
         have HPP:=hdq (show RunN g script st w (.returned (.tuple #[.agg #[.int .u8 1,.int .u8 0,.int .i64 0,.int .i64 s.node,.int .i64 0,.int .i64 s.left,.slice (some ⟨m.c.bv,0,none⟩) s.vs.length s.vs.length,.slice m.c.Ar s.ls.length m.c.cr],.int .i64 0])) wf from⟨hfw,by
          rw[if_pos HE.out]
          exact⟨_,_,HEN.out,⟨_,_,_,_,_,rfl,rfl,hstF.lower (by omega)⟩,rfl⟩⟩)
         have HKF:=hdq kf
         have HWF:=hdq hwf
         clear kf hwf hff hfw hstF hl hfv v0 v1 v2 v3 v4 v5 v6 v7 vf0 vf1 vf2 vf3 vf4 vf5 vf6 vf7 vl kS k0 hput
         have kW:=HKX.out.fr hfr.out hnT1
         have v0:=kW.cell 0
         have vf0:=kW.frozen 0
         have v1:=kW.cell 1
         have vf1:=kW.frozen 1
         have v2:=kW.cell 2
         have vf2:=kW.frozen 2
         have v3:=kW.cell 3
         have vf3:=kW.frozen 3
         have v4:=kW.cell 4
         have vf4:=kW.frozen 4
         have v5:=kW.cell 5
         have vf5:=kW.frozen 5
         have v6:=kW.cell 6
         have vf6:=kW.frozen 6
         have v7:=kW.cell 7
         have vf7:=kW.frozen 7
         have vl:=kW.lt
         simp only[List.getElem?_toArray,List.getElem?_cons_succ,List.getElem?_cons_zero]at v0 v1 v2 v3 v4 v5 v6 v7
         clear kW
         go_wp2_with fail
         go_region
         go_wp2_with fail
         rw[Exit.noGoto_ret,←HWF.out]
         refine bodyPost_ret (zau (p:=6) (q:=7) (ty:=59) rfl _ _ (w.heap.size+1) 59 _ (0,0) _ rfl HKF.out Tryz.underlying59 rfl zcX) rfl ?_
         exact HPP.out
        ·have hl2:(s.node==g.last)=false:=by simpa using hl
         have HNX:=hdq (by have:=zky m wr.drew s As' cs' (hr.out.fr0 (Fr.refl _ _).drew) (by rw[hmg];exact HM.out) hnode hlf;rw[hmR]at this;exact this:Calls Tryz.prog 81 #[.pointer (some ⟨R,0,none⟩)] wr.drew (zbL m s wr.drew))
         have HL:=hdq hl
         clear hl
         go_wp2_with fail
         go_region
         go_wp2_with fail
         go_at_call 81
         refine HNX.out.mono ?_
         rintro e w4 ⟨hf4,hd⟩
         have hf4':Fr m.c.T wr w4:=(Fr.refl _ _).drew.trans hf4
         rw[hmg]at hd
         cases hs:zaP g s with
         |inl t=>
          rw[hs]at hd
          obtain⟨rfl,As2,cs2,ht⟩:=hd
          have HMS:=hdq (show zkA g R w4 < zkA g R wr from by
           have u1:=zhs ht
           have u2:=zhs hr.out
           rw[hmg,hmR]at u1 u2
           rw[u1,u2]
           exact zks HM.out hs)
          have HT:=hdq ht
          have HF4:=hdq hf4'
          have HS3:=hdq hs
          clear hs ht hf4 hf4'
          go_wp2_with fail
          go_roundw
          case rel=>exact⟨t,As2,cs2,HT,hdq (hfr.out.trans HF4.out),Nat.le_trans (zfY HM.out HS3.out) hlf,zkz HM.out HS3.out,hdq fun en h=>hen.out en (.go HL.out HS3.out h)⟩
          case measure=>exact HMS.out
         |inr z=>
          rw[hs]at hd
          obtain⟨As2,cs2,t,kk,wq,at_,ed,P,rfl,hz,hP,hPl,ht⟩:=hd
          have HEN:=hdq (show Ends g (run0 g script st) (t.stop kk wq at_ ed)from hen.out _ (.stop HL.out (by rw[hs,hz])))
          have p1:=ht.put 8 (.int .u8 kk) (s':=t) (k':=kk) (wr':=wq) (at':=0) (ed':=ed) rfl rfl rfl rfl
          have p2:=p1.1.put 10 (.int .i64 at_) (s':=t) (k':=kk) (wr':=wq) (at':=at_) (ed':=ed) rfl rfl rfl rfl
          rw[hmR]at p1 p2
          have HRF:=hdq p2.1
          have HFV:=hdq ((hfr.out.trans hf4').trans (p1.2.trans p2.2))
          have P0:=hP.cell 0
          have P1:=hP.cell 1
          have Pl:=hP.lt
          simp only[List.getElem?_toArray,List.getElem?_cons_succ,List.getElem?_cons_zero]at P0 P1
          have hPR:¬P=R:=by have:=ql;show ¬P=R;intro e';rw[e']at hPl;have h9:R < wr.drew.heap.size:=this;omega
          have hPR':¬R=P:=fun e'=>hPR e'.symm
          have hPS:¬P=w.heap.size+1:=by have:=hwz;have h6:=HFX.out.size;have h5:=HF02.out.size;have h8:=(hfr.out).size;have h7:wr.heap.size≤P:=hPl;omega
          have hPS':¬w.heap.size+1=P:=fun e'=>hPS e'.symm
          have r8:=ht.blk.cell 8
          have rf8:=ht.blk.frozen 8
          have r9:=ht.blk.cell 9
          have rf9:=ht.blk.frozen 9
          have r10:=ht.blk.cell 10
          have rf10:=ht.blk.frozen 10
          have r11:=ht.blk.cell 11
          have rf11:=ht.blk.frozen 11
          have r12:=ht.blk.cell 12
          have rf12:=ht.blk.frozen 12
          have r13:=ht.blk.cell 13
          have rf13:=ht.blk.frozen 13
          have r14:=ht.blk.cell 14
          have rf14:=ht.blk.frozen 14
          have r15:=ht.blk.cell 15
          have rf15:=ht.blk.frozen 15
          have rl:=ht.blk.lt
          simp only[mnC,rnC,List.getElem?_toArray,List.getElem?_cons_succ,List.getElem?_cons_zero]at r8 r9 r10 r11 r12 r13 r14 r15
          rw[hmR]at r8 rf8 r9 rf9 r10 rf10 r11 rf11 r12 rf12 r13 rf13 r14 rf14 r15 rf15 rl
          have kS:=HKX.out.fr HFV.out hnT1
          have v0:=kS.cell 0
          have vf0:=kS.frozen 0
          have v1:=kS.cell 1
          have vf1:=kS.frozen 1
          have v2:=kS.cell 2
          have vf2:=kS.frozen 2
          have v3:=kS.cell 3
          have vf3:=kS.frozen 3
          have v4:=kS.cell 4
          have vf4:=kS.frozen 4
          have v5:=kS.cell 5
          have vf5:=kS.frozen 5
          have v6:=kS.cell 6
          have vf6:=kS.frozen 6
          have v7:=kS.cell 7
          have vf7:=kS.frozen 7
          have vl:=kS.lt
          simp only[List.getElem?_toArray,List.getElem?_cons_succ,List.getElem?_cons_zero]at v0 v1 v2 v3 v4 v5 v6 v7
          obtain⟨wf,hwf⟩:=nmq ((((((((((((w4.setCell ⟨R,8,none⟩ (.int .u8 kk)).setCell ⟨R,10,none⟩ (.int .i64 at_)).setCell ⟨w.heap.size+1,0,none⟩ (.int .u8 kk)).setCell ⟨w.heap.size+1,1,none⟩ (.int .u8 wq)).setCell ⟨w.heap.size+1,2,none⟩ (.int .i64 at_)).setCell ⟨w.heap.size+1,3,none⟩ (.int .i64 t.node)).setCell ⟨w.heap.size+1,4,none⟩ (.int .i64 ed)).setCell ⟨w.heap.size+1,5,none⟩ (.int .i64 t.left)).setCell ⟨w.heap.size+1,6,none⟩ (.slice (some ⟨m.c.bv,0,none⟩) t.vs.length t.vs.length)).setCell ⟨w.heap.size+1,7,none⟩ (.slice m.c.Ar t.ls.length m.c.cr))).drew )
          have hff:Fr (fun b=>b=w.heap.size+1) ((w4.setCell ⟨R,8,none⟩ (.int .u8 kk)).setCell ⟨R,10,none⟩ (.int .i64 at_)) wf:=by rw[hwf];exact((Fr.own (Fr.own (Fr.own (Fr.own (Fr.own (Fr.own (Fr.own (Fr.own (Fr.refl _ _) _ _) _ _) _ _) _ _) _ _) _ _) _ _) _ _)).drew
          have kf:Bk wf (w.heap.size+1) 59 #[.int .u8 kk,.int .u8 wq,.int .i64 at_,.int .i64 t.node,.int .i64 ed,.int .i64 t.left,.slice (some ⟨m.c.bv,0,none⟩) t.vs.length t.vs.length,.slice m.c.Ar t.ls.length m.c.cr]:=by
           have:=((((((((kS.set_ 0 (.int .u8 kk)).set_ 1 (.int .u8 wq)).set_ 2 (.int .i64 at_)).set_ 3 (.int .i64 t.node)).set_ 4 (.int .i64 ed)).set_ 5 (.int .i64 t.left)).set_ 6 (.slice (some ⟨m.c.bv,0,none⟩) t.vs.length t.vs.length)).set_ 7 (.slice m.c.Ar t.ls.length m.c.cr))
           rw[hwf];exact Bk.fr0 (by simpa using this) (Fr.refl _ _).drew
          have hfw:Fr NoT w wf:=(HFX.out.then HFV.out fun i hi ht=>absurd (HLOW.out i ht) (by have:=HF02.out.size;omega)).then hff fun i hi e=>by have e:i=w.heap.size+1:=e;omega
          have hstF:=HRF.out.sto.fr hff (fun e=>by have e:m.c.bv=w.heap.size+1:=e;have:=HRF.out.sto.vl;omega) (fun b hb e=>by have e:b=w.heap.size+1:=e;have:=HRF.out.sto.lo2 b hb;omega) (fun b hb e=>by have e:b=w.heap.size+1:=e;have:=(HRF.out.sto.row.lt b hb).1;omega)
          have HPP:=hdq (show RunN g script st w (.returned (.tuple #[.agg #[.int .u8 kk,.int .u8 wq,.int .i64 at_,.int .i64 t.node,.int .i64 ed,.int .i64 t.left,.slice (some ⟨m.c.bv,0,none⟩) t.vs.length t.vs.length,.slice m.c.Ar t.ls.length m.c.cr],.int .i64 0])) wf from⟨hfw,by
           rw[if_pos HE.out]
           exact⟨_,_,HEN.out,⟨_,_,_,_,_,rfl,rfl,hstF.lower (by omega)⟩,rfl⟩⟩)
          have HKF:=hdq kf
          have HWF:=hdq hwf
          clear kf hwf hff hfw hstF v0 v1 v2 v3 v4 v5 v6 v7 vf0 vf1 vf2 vf3 vf4 vf5 vf6 vf7 vl kS k0 p1 p2 hs hz
          have kW:=HKX.out.fr (hfr.out.trans hf4') hnT1
          have v0:=kW.cell 0
          have vf0:=kW.frozen 0
          have v1:=kW.cell 1
          have vf1:=kW.frozen 1
          have v2:=kW.cell 2
          have vf2:=kW.frozen 2
          have v3:=kW.cell 3
          have vf3:=kW.frozen 3
          have v4:=kW.cell 4
          have vf4:=kW.frozen 4
          have v5:=kW.cell 5
          have vf5:=kW.frozen 5
          have v6:=kW.cell 6
          have vf6:=kW.frozen 6
          have v7:=kW.cell 7
          have vf7:=kW.frozen 7
          have vl:=kW.lt
          simp only[List.getElem?_toArray,List.getElem?_cons_succ,List.getElem?_cons_zero]at v0 v1 v2 v3 v4 v5 v6 v7
          clear kW hf4 hf4' hP ht
          go_wp2_with fail
          go_region
          go_wp2_with fail
          rw[Exit.noGoto_ret,←HWF.out]
          refine bodyPost_ret (zau (p:=6) (q:=7) (ty:=59) rfl _ _ (w.heap.size+1) 59 _ (0,0) _ rfl HKF.out Tryz.underlying59 rfl zcX) rfl ?_
          exact HPP.out
theorem zlZ (g:Gr) (Aa Ae As:Option Addr) (ca ce cs:Nat) (script:List Int) (steps:Int) (w:World) (hg:GrSl w w.heap.size g Aa ca Ae ce) (hsc:IsSl w w.heap.size script As cs):
  Calls Tryz.prog 31 #[grV g.vars Aa g.arrays.length ca g.nodes g.start g.last Ae g.edges.length ce,.slice As script.length cs,.int .i64 steps] w (RunP g script steps w):=
 (ze0 g Aa Ae As ca ce cs script steps w hg hsc).mono fun _ _ h=>h.runP
end Go.Proofs.YtobegfbdedgmpaaGreatDoor
