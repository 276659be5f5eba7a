/-
  A graph that came in: its names are not longer than any text may be.
-/
import Derived.Test.YtphlnpaikpjakaaFlOpenC
import Derived.Test.YtphlnpaikpjakaaPkGreat
set_option linter.unusedVariables false
set_option linter.unusedSimpArgs false
set_option maxRecDepth 100000
namespace Go.Proofs.Ytphlnpaikpjakaa
open Go.RowKit Go.ChangeShapes Go.WideShapes Go.Deep

section
variable {H:Type} {P:Program}
abbrev wok (l:List Nat):Prop:=l.all (fun x=>decide (x≤reachBytes))=true
theorem wtP_get:∀ {ts:List TypeId} {ds:List (DataW H)} {j:Nat} {t:TypeId} {d:DataW H},ts[j]?=some t→ds[j]?=some d→wok (DataW.weightsEach P ts ds)→wok (DataW.weights P t d)
 | [],_,_,_,_,h,_,_=>by simp at h
 |_::_, [],_,_,_,_,h,_=>by simp at h
 |a::ts,b::ds,0,t,d,h1,h2,hw=>by
  simp only[wok,DataW.weightsEach,List.all_append,Bool.and_eq_true]at hw
  simp only[List.getElem?_cons_zero,Option.some.injEq]at h1 h2
  rw[←h1,←h2];exact hw.1
 |a::ts,b::ds,j+1,t,d,h1,h2,hw=>by
  simp only[wok,DataW.weightsEach,List.all_append,Bool.and_eq_true]at hw
  simp only[List.getElem?_cons_succ]at h1 h2
  exact wtP_get h1 h2 hw.2
theorem wtP_all {e:TypeId}:∀ {ds:List (DataW H)} {j:Nat} {d:DataW H},ds[j]?=some d→wok (DataW.weightsAll P e ds)→wok (DataW.weights P e d)
 | [],_,_,h,_=>by simp at h
 |b::ds,0,d,h,hw=>by
  simp only[wok,DataW.weightsAll,List.all_append,Bool.and_eq_true]at hw
  simp only[List.getElem?_cons_zero,Option.some.injEq]at h
  rw[←h];exact hw.1
 |b::ds,j+1,d,h,hw=>by
  simp only[wok,DataW.weightsAll,List.all_append,Bool.and_eq_true]at hw
  simp only[List.getElem?_cons_succ]at h
  exact wtP_all h hw.2
theorem wtP_slice {t e:TypeId} {elems spare:List (DataW H)} (ht:P.underlying t=some (.slice e)) (h:wok (DataW.weights P t (.slice elems spare))):wok (DataW.weightsAll P e elems):=by
 unfold DataW.weights at h
 rw[ht]at h
 simp only[wok,List.all_cons,List.all_append,Bool.and_eq_true]at h
 exact h.2.1
theorem wtP_struct {t:TypeId} {fs:Array Field} {parts:List (DataW H)} (ht:P.underlying t=some (.struct fs)) (h:wok (DataW.weights P t (.agg parts))):wok (DataW.weightsEach P (fs.toList.map (·.type)) parts):=by
 unfold DataW.weights at h
 rw[ht]at h
 exact h
end
theorem nmX_of:∀ {xs:Exs},(∀(i:Nat) (k:Int) (nm:ByteArray) (n:Int) (args:Exs) (at_:Int) (rest:Exs),Exs.drop i xs= .cons k nm n args at_ rest→nm.size≤140737488355328∧nmX args)→nmX xs
 | .nil,_=>trivial
 | .cons k nm n args at_ rest,h=>⟨(h 0 _ _ _ _ _ _ rfl).1,(h 0 _ _ _ _ _ _ rfl).2,nmX_of fun i k' nm' n' args' at' rest' hd=>h (i+1) k' nm' n' args' at' rest' hd⟩

section
variable {H:Type} {enc:TypeId×Value→H} {w:World} {base:Nat} {spare:Nat→Bool} {held:Bool}
theorem open_nm:∀(fuel:Nat) (v:Value) (x:DataW H×List MemPlace),DataW.trod enc Try.prog w base spare held fuel 42 [v]=some x→wok (DataW.weights Try.prog 42 x.1)→
  ∀(xs:Exs) (A:Option Addr) (c B:Nat),v= .slice A xs.len c→ExSl w B xs A c→nmX xs:=by
 intro fuel
 induction fuel using Nat.strongRecOn with
 |_ fuel ih=>
 intro v x h hw xs A c B hv hsl
 rcases DataW.trod_slice Try.underlying42 h with⟨h0,_⟩|⟨a,len,cap,elems,rest,n,hn,hcs,hxe,_,_,_,hel,hget,_⟩
 ·have h0:=(List.cons.inj h0).1
  rw[hv]at h0
  injection h0 with _ h1 _
  cases xs with
  |nil=>trivial
  |cons _ _ _ _ _ _=>simp[Exs.len]at h1
 ·have hcs:=(List.cons.inj hcs).1
  rw[hv]at hcs
  injection hcs with hA hlen hc
  rw[hxe]at hw
  have hwa:=wtP_slice Try.underlying42 hw
  refine nmX_of fun i k nm m args at_ rest' hd=>?_
  have hi:i < xs.len:=by
   by_cases hi:i < xs.len
   ·exact hi
   ·rw[Exs.drop_nil (by omega)]at hd;cases hd
  obtain⟨b,o,hbo,hat⟩:=hsl.2.2 (by omega)
  obtain⟨_,_,c1,_,⟨A',c',c3,hsl'⟩,_⟩:=hat.at_ hd
  rw[hA]at hbo
  injection hbo with hbo
  have h1:=hget i (by omega)
  obtain⟨y,hy⟩:∃y,elems[i]?=some y:=⟨_,List.getElem?_eq_getElem (by omega)⟩
  rw[hy]at h1
  obtain⟨cs',hcc,ht⟩:=Option.bind_eq_some_iff.1 h1
  rw[c_ex]at hcc
  obtain⟨_,hcl,hat2⟩:=World.cells?_some hcc
  obtain⟨ys,n',hn',hye,_,hyl,hf⟩:=DataW.trod_struct Try.underlying63 ht
  have hwy:wok (DataW.weights Try.prog 63 y.1):=wtP_all (j:=i) (by rw[List.getElem?_map,hy];rfl) hwa
  rw[hye]at hwy
  have hwe:=wtP_struct Try.underlying63 hwy
  have g:∀j,j < 5→∃z,ys[j]?=some z:=fun j hj=>⟨_,List.getElem?_eq_getElem (by rw[hyl];exact hj)⟩
  obtain⟨z1,hz1⟩:=g 1 (by omega)
  obtain⟨z3,hz3⟩:=g 3 (by omega)
  have ad:∀j,(a.add (i*5)).add j=⟨b,o+i*5+j,none⟩:=fun j=>by
   subst hbo
   unfold Addr.add
   by_cases h1:i*5=0<;>by_cases h2:j=0<;>simp[h1,h2]
  have e1:cs'[1]?=some (.string nm):=by rw[←hat2 1 (by omega),ad];exact c1
  have e3:cs'[3]?=some (.slice A' args.len c'):=by rw[←hat2 3 (by omega),ad];exact c3
  have f1:=(hf 1 _ rfl).trans hz1
  have f3:=(hf 3 _ rfl).trans hz3
  have q1:(cs'.drop 1).take (Try.prog.cellsOf 9)= [.string nm]:=by rw[c_str];exact take_one e1
  have q3:(cs'.drop 3).take (Try.prog.cellsOf 42)= [.slice A' args.len c']:=by rw[c_exs];exact take_one e3
  have f1':DataW.trod enc Try.prog w base spare held n' 9 [.string nm]=some z1:=by rw[←q1];exact f1
  have f3':DataW.trod enc Try.prog w base spare held n' 42 [.slice A' args.len c']=some z3:=by rw[←q3];exact f3
  refine⟨?_,?_⟩
  ·obtain⟨s,hs,hzs,_⟩:=DataW.trod_string Try.underlying9 f1'
   have hs:=(List.cons.inj hs).1
   injection hs with hs
   have hw1:wok (DataW.weights Try.prog 9 z1.1):=wtP_get (j:=1) rfl (by rw[List.getElem?_map,hz1];rfl) hwe
   rw[hzs]at hw1
   unfold DataW.weights at hw1
   simp only[wok,List.all_cons,List.all_nil,Bool.and_true,decide_eq_true_eq,Array.length_toList]at hw1
   rw[hs]
   exact leq9 hw1 (by decide)
  ·exact ih n' (by omega) _ z3 f3' (wtP_get (j:=3) rfl (by rw[List.getElem?_map,hz3];rfl) hwe) args A' c' B rfl hsl'
theorem open_nmE (fuel:Nat) (v:Value) (x:DataW H×List MemPlace) (h:DataW.trod enc Try.prog w base spare held fuel 23 [v]=some x) (hw:wok (DataW.weights Try.prog 23 x.1)) (l:List Ed) (A:Option Addr) (c B:Nat)
  (hv:v= .slice A l.length c) (hsl:EdSl w B l A c):∀e∈l,nmX e.args:=by
 intro e he
 obtain⟨i,hei⟩:=List.getElem?_of_mem he
 have hi:=(List.getElem?_eq_some_iff.1 hei).1
 rcases DataW.trod_slice Try.underlying23 h with⟨h0,_⟩|⟨a,len,cap,elems,rest,n,hn,hcs,hxe,_,_,_,hel,hget,_⟩
 ·have h0:=(List.cons.inj h0).1
  rw[hv]at h0
  injection h0 with _ h1 _
  omega
 ·have hcs:=(List.cons.inj hcs).1
  rw[hv]at hcs
  injection hcs with hA hlen hc
  rw[hxe]at hw
  have hwa:=wtP_slice Try.underlying23 hw
  obtain⟨b,o,hbo,hat⟩:=hsl.2.2 (by omega)
  obtain⟨_,_,_,_,_,_,⟨A',c',c5,hsl'⟩,_⟩:=hat.at_ hei
  rw[hA]at hbo
  injection hbo with hbo
  have h1:=hget i (by omega)
  obtain⟨y,hy⟩:∃y,elems[i]?=some y:=⟨_,List.getElem?_eq_getElem (by omega)⟩
  rw[hy]at h1
  obtain⟨cs',hcc,ht⟩:=Option.bind_eq_some_iff.1 h1
  rw[c_ed]at hcc
  obtain⟨_,hcl,hat2⟩:=World.cells?_some hcc
  obtain⟨ys,n',hn',hye,_,hyl,hf⟩:=DataW.trod_struct Try.underlying46 ht
  have hwy:wok (DataW.weights Try.prog 46 y.1):=wtP_all (j:=i) (by rw[List.getElem?_map,hy];rfl) hwa
  rw[hye]at hwy
  have hwe:=wtP_struct Try.underlying46 hwy
  obtain⟨z2,hz2⟩:∃z,ys[2]?=some z:=⟨_,List.getElem?_eq_getElem (by rw[hyl];decide)⟩
  have ad:∀j,(a.add (i*7)).add j=⟨b,o+i*7+j,none⟩:=fun j=>by
   subst hbo
   unfold Addr.add
   by_cases h1:i*7=0<;>by_cases h2:j=0<;>simp[h1,h2]
  have e5:cs'[5]?=some (.slice A' e.args.len c'):=by rw[←hat2 5 (by omega),ad];exact c5
  have hd:=(hf 2 _ rfl).trans hz2
  have hd2:DataW.trod enc Try.prog w base spare held n' 44 ((cs'.drop 2).take 4)=some z2:=by
   have h9:(cs'.drop 2).take (Try.prog.cellsOf 44)=(cs'.drop 2).take 4:=by rw[c_do]
   rw[←h9]
   exact hd
  have sub:∀j,j < 4→((cs'.drop 2).take 4)[j]?=cs'[2+j]?:=fun j hj=>by rw[List.getElem?_take,if_pos hj,List.getElem?_drop]
  obtain⟨us,n2,hn2,hue,_,hul,hg⟩:=DataW.trod_struct Try.underlying44 hd2
  have hwd:wok (DataW.weights Try.prog 44 z2.1):=wtP_get (j:=2) rfl (by rw[List.getElem?_map,hz2];rfl) hwe
  rw[hue]at hwd
  have hwu:=wtP_struct Try.underlying44 hwd
  obtain⟨u3,hu3⟩:∃z,us[3]?=some z:=⟨_,List.getElem?_eq_getElem (by rw[hul];decide)⟩
  have h3:=(hg 3 _ rfl).trans hu3
  have h3':DataW.trod enc Try.prog w base spare held n2 42 [.slice A' e.args.len c']=some u3:=by
   have h4:(((cs'.drop 2).take 4).drop 3).take (Try.prog.cellsOf 42)= [.slice A' e.args.len c']:=by rw[c_exs];exact take_one ((sub 3 (by omega)).trans e5)
   rw[←h4];exact h3
  exact open_nm n2 _ u3 h3' (wtP_get (j:=3) rfl (by rw[List.getElem?_map,hu3];rfl) hwu) e.args A' c' B rfl hsl'
theorem open_graphN {r:Reach} {b0:Nat} {v:Value} {d:DataW H} {p:List MemPlace} (hv:Value.okWide Try.prog w r b0 25 v) (h:DataW.Trod enc Try.prog w base spare held 25 v d p) (hw:wok (DataW.weights Try.prog 25 d)):
  ∃(g:Gr) (Aa Ae:Option Addr) (ca ce:Nat),v=grV g.vars Aa g.arrays.length ca g.nodes g.start g.last Ae g.edges.length ce∧GrSl w w.heap.size g Aa ca Ae ce∧∀e∈g.edges,nmX e.args:=by
 obtain⟨g,Aa,Ae,ca,ce,rfl,hg⟩:=open_graph hv h
 refine⟨g,Aa,Ae,ca,ce,rfl,hg,?_⟩
 obtain⟨fuel,hf⟩:=h
 obtain⟨xs,n,_,hx,_,hlen,hgf⟩:=DataW.trod_struct Try.underlying25 hf
 have hd:d= .agg (xs.map (·.1)):=congrArg Prod.fst hx
 rw[hd]at hw
 have hwe:=wtP_struct Try.underlying25 hw
 obtain⟨z5,hz5⟩:∃z,xs[5]?=some z:=⟨_,List.getElem?_eq_getElem (by rw[hlen];decide)⟩
 have h5:=(hgf 5 _ rfl).trans hz5
 have h5':DataW.trod enc Try.prog w base spare held n 23 [.slice Ae g.edges.length ce]=some z5:=by
  have h9:(([.int .i64 g.vars,.slice Aa g.arrays.length ca,.int .i64 g.nodes,.int .i64 g.start,.int .i64 g.last,.slice Ae g.edges.length ce]:List Value).drop 5).take (Try.prog.cellsOf 23)= [.slice Ae g.edges.length ce]:=by rw[c_eds];rfl
  rw[←h9];exact h5
 exact open_nmE n _ z5 h5' (wtP_get (j:=5) rfl (by rw[List.getElem?_map,hz5];rfl) hwe) g.edges Ae ce w.heap.size rfl hg.2
end
end Go.Proofs.Ytphlnpaikpjakaa
