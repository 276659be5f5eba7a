/-
  The frame of chapter 13's laws: a graph that came in as an argument.
-/
import Derived.Test.YtphlnpaikpjakaaGreatDoorJgFlOpenB
import Derived.Lib.SmallJoins
import Derived.Test.YtphlnpaikpjakaaGreatDoorPkGreat
set_option linter.unusedVariables false
set_option linter.unusedSimpArgs false
set_option maxRecDepth 100000
namespace Go.Proofs.YtphlnpaikpjakaaGreatDoor
open Go.RowKit Go.ChangeShapes Go.WideShapes Go.Deep

section
variable {H:Type} {enc:TypeId×Value→H} {w:World} {base:Nat} {spare:Nat→Bool} {held:Bool}

theorem open_is (fuel:Nat) (v:Value) (x:DataW H×List MemPlace) (h:DataW.trod enc Tryz.prog w base spare held fuel 29 [v]=some x):∃(l:List Int) (A:Option Addr) (c:Nat),v= .slice A l.length c∧IsSl w w.heap.size l A c:=by
 rcases DataW.trod_slice Tryz.underlying29 h with⟨h0,_⟩|⟨a,len,cap,elems,rest,n,hn,hcs,_,_,hlc,hcm,hel,hget,_⟩
 ·have h0:=(List.cons.inj h0).1
  exact⟨[],none,0,h0,by simp,by decide,by simp⟩
 ·have hcs:=(List.cons.inj hcs).1
  subst hcs
  have key:∀i,i < len→∃m:Int,w.cell? (a.add i)=some (.int .i64 m)∧in64 m:=by
   intro i hi
   have h1:=hget i hi
   obtain⟨y,hy⟩:∃y,elems[i]?=some y:=⟨_,List.getElem?_eq_getElem (by omega)⟩
   rw[hy]at h1
   obtain⟨cs',hc,ht⟩:=Option.bind_eq_some_iff.1 h1
   rw[c_int,Nat.mul_one]at hc
   obtain⟨_,hcl,hat⟩:=World.cells?_some hc
   obtain⟨m,hm,_,hw⟩:=DataW.trod_int Tryz.underlying3 ht
   have h2:=hat 0 (by omega)
   rw[hm]at h2
   exact⟨m,h2,in64_of_wf hw⟩
  by_cases hz:0 < len
  ·obtain⟨m0,h0,_⟩:=key 0 hz
   have hin:=cell_in (a:=a) h0
   have hsp:=hin.2
   have ad:∀i,a.add i=⟨a.block,a.off+i,none⟩:=fun i=>by
    unfold Addr.add
    by_cases h1:i=0<;>simp[h1]
    all_goals(cases a;simp_all)
   refine⟨(List.range len).map fun i=>if h:i < len then Classical.choose (key i h)else 0,some a,cap,by simp,by simpa using hlc,by simpa[maxLen]using hcm,fun _=>⟨a.block,a.off,by cases a;simp_all,hin.1,fun i n hi=>?_⟩⟩
   rw[List.getElem?_map]at hi
   by_cases hil:i < len
   ·rw[List.getElem?_range hil]at hi
    simp only[Option.map_some,Option.some.injEq,dif_pos hil]at hi
    subst hi
    have:=Classical.choose_spec (key i hil)
    exact⟨(congrArg w.cell? (ad i)).symm.trans this.1,this.2⟩
   ·rw[List.getElem?_eq_none (by simp;omega)]at hi
    exact absurd hi (by simp)
  ·have:len=0:=by omega
   subst this
   exact⟨[],some a,cap,rfl,by simp,by simpa[maxLen]using hcm,by simp⟩

theorem open_graph {r:Reach} {b0:Nat} {v:Value} {d:DataW H} {p:List MemPlace} (hv:Value.okWide Tryz.prog w r b0 32 v) (h:DataW.Trod enc Tryz.prog w base spare held 32 v d p):
  ∃(g:Gr) (Aa Ae:Option Addr) (ca ce:Nat),v=grV g.vars Aa g.arrays.length ca g.nodes g.start g.last Ae g.edges.length ce∧GrSl w w.heap.size g Aa ca Ae ce:=by
 have hs:=Tryz.underlying32
 obtain⟨cs,rfl,hsz⟩:=okWide_struct hs hv
 obtain⟨l⟩:=cs
 match l,hsz.trans (show Tryz.prog.cellsOf 32=6 by kernel_rfl)with
 | [c0,c1,c2,c3,c4,c5],_=>
  obtain⟨fuel,hf⟩:=h
  obtain⟨xs,n,_,hx,_,hlen,hg⟩:=DataW.trod_struct hs hf
  match xs,hlen with
  | [y0,y1,y2,y3,y4,y5],_=>
   obtain⟨v0,e0,_⟩:=int_field (cs:= [c0,c1,c2,c3,c4,c5]) Tryz.underlying3 c_int (off:=0) (by simp) (hg 0 _ rfl)
   obtain⟨v2,e2,_⟩:=int_field (cs:= [c0,c1,c2,c3,c4,c5]) Tryz.underlying3 c_int (off:=2) (by simp) (hg 2 _ rfl)
   obtain⟨v3,e3,_⟩:=int_field (cs:= [c0,c1,c2,c3,c4,c5]) Tryz.underlying3 c_int (off:=3) (by simp) (hg 3 _ rfl)
   obtain⟨v4,e4,_⟩:=int_field (cs:= [c0,c1,c2,c3,c4,c5]) Tryz.underlying3 c_int (off:=4) (by simp) (hg 4 _ rfl)
   have h1:DataW.trod enc Tryz.prog w base spare held n 29 [c1]=some y1:=by
    have h9:(([c0,c1,c2,c3,c4,c5]:List Value).drop 1).take (Tryz.prog.cellsOf 29)= [c1]:=by rw[c_ints];rfl
    rw[←h9];exact hg 1 _ rfl
   have h5:DataW.trod enc Tryz.prog w base spare held n 30 [c5]=some y5:=by
    have h9:(([c0,c1,c2,c3,c4,c5]:List Value).drop 5).take (Tryz.prog.cellsOf 30)= [c5]:=by rw[c_eds];rfl
    rw[←h9];exact hg 5 _ rfl
   obtain⟨ar,Aa,ca,rfl,ha⟩:=open_is n c1 y1 h1
   obtain⟨ed,Ae,ce,rfl,he⟩:=open_edges n c5 y5 h5
   simp only[List.getElem?_cons_zero,List.getElem?_cons_succ,Option.some.injEq]at e0 e2 e3 e4
   subst e0 e2 e3 e4
   exact⟨⟨v0,ar,v2,v3,v4,ed⟩,Aa,Ae,ca,ce,rfl,⟨ha,he⟩⟩
end
end Go.Proofs.YtphlnpaikpjakaaGreatDoor

namespace Go.Proofs.YtphlnpaikpjakaaGreatDoor
open Go.RowKit Go.ChangeShapes Go.WideShapes Go.Deep

section
variable {H:Type} {P:Program}
abbrev wok (l:List Nat):Prop:=l.all (fun x=>decide (x≤reachBytes))=true
theorem wtP_get:∀ {ts:List TypeId} {ds:List (DataW H)} {j:Nat} {t:TypeId} {d:DataW H},ts[j]?=some t→ds[j]?=some d→wok (DataW.weightsEach P ts ds)→wok (DataW.weights P t d)
 | [],_,_,_,_,h,_,_=>by simp at h
 |_::_, [],_,_,_,_,h,_=>by simp at h
 |a::ts,b::ds,0,t,d,h1,h2,hw=>by
  simp only[wok,DataW.weightsEach,List.all_append,Bool.and_eq_true]at hw
  simp only[List.getElem?_cons_zero,Option.some.injEq]at h1 h2
  rw[←h1,←h2];exact hw.1
 |a::ts,b::ds,j+1,t,d,h1,h2,hw=>by
  simp only[wok,DataW.weightsEach,List.all_append,Bool.and_eq_true]at hw
  simp only[List.getElem?_cons_succ]at h1 h2
  exact wtP_get h1 h2 hw.2
theorem wtP_all {e:TypeId}:∀ {ds:List (DataW H)} {j:Nat} {d:DataW H},ds[j]?=some d→wok (DataW.weightsAll P e ds)→wok (DataW.weights P e d)
 | [],_,_,h,_=>by simp at h
 |b::ds,0,d,h,hw=>by
  simp only[wok,DataW.weightsAll,List.all_append,Bool.and_eq_true]at hw
  simp only[List.getElem?_cons_zero,Option.some.injEq]at h
  rw[←h];exact hw.1
 |b::ds,j+1,d,h,hw=>by
  simp only[wok,DataW.weightsAll,List.all_append,Bool.and_eq_true]at hw
  simp only[List.getElem?_cons_succ]at h
  exact wtP_all h hw.2
theorem wtP_slice {t e:TypeId} {elems spare:List (DataW H)} (ht:P.underlying t=some (.slice e)) (h:wok (DataW.weights P t (.slice elems spare))):wok (DataW.weightsAll P e elems):=by
 unfold DataW.weights at h
 rw[ht]at h
 simp only[wok,List.all_cons,List.all_append,Bool.and_eq_true]at h
 exact h.2.1
theorem wtP_struct {t:TypeId} {fs:Array Field} {parts:List (DataW H)} (ht:P.underlying t=some (.struct fs)) (h:wok (DataW.weights P t (.agg parts))):wok (DataW.weightsEach P (fs.toList.map (·.type)) parts):=by
 unfold DataW.weights at h
 rw[ht]at h
 exact h
end
theorem nmX_of:∀ {xs:Exs},(∀(i:Nat) (k:Int) (nm:ByteArray) (n:Int) (args:Exs) (at_:Int) (rest:Exs),Exs.drop i xs= .cons k nm n args at_ rest→nm.size≤140737488355328∧nmX args)→nmX xs
 | .nil,_=>trivial
 | .cons k nm n args at_ rest,h=>⟨(h 0 _ _ _ _ _ _ rfl).1,(h 0 _ _ _ _ _ _ rfl).2,nmX_of fun i k' nm' n' args' at' rest' hd=>h (i+1) k' nm' n' args' at' rest' hd⟩

section
variable {H:Type} {enc:TypeId×Value→H} {w:World} {base:Nat} {spare:Nat→Bool} {held:Bool}
theorem open_nm:∀(fuel:Nat) (v:Value) (x:DataW H×List MemPlace),DataW.trod enc Tryz.prog w base spare held fuel 35 [v]=some x→wok (DataW.weights Tryz.prog 35 x.1)→
  ∀(xs:Exs) (A:Option Addr) (c B:Nat),v= .slice A xs.len c→ExSl w B xs A c→nmX xs:=by
 intro fuel
 induction fuel using Nat.strongRecOn with
 |_ fuel ih=>
 intro v x h hw xs A c B hv hsl
 rcases DataW.trod_slice Tryz.underlying35 h with⟨h0,_⟩|⟨a,len,cap,elems,rest,n,hn,hcs,hxe,_,_,_,hel,hget,_⟩
 ·have h0:=(List.cons.inj h0).1
  rw[hv]at h0
  injection h0 with _ h1 _
  cases xs with
  |nil=>trivial
  |cons _ _ _ _ _ _=>simp[Exs.len]at h1
 ·have hcs:=(List.cons.inj hcs).1
  rw[hv]at hcs
  injection hcs with hA hlen hc
  rw[hxe]at hw
  have hwa:=wtP_slice Tryz.underlying35 hw
  refine nmX_of fun i k nm m args at_ rest' hd=>?_
  have hi:i < xs.len:=by
   by_cases hi:i < xs.len
   ·exact hi
   ·rw[Exs.drop_nil (by omega)]at hd;cases hd
  obtain⟨b,o,hbo,hat⟩:=hsl.2.2 (by omega)
  obtain⟨_,_,c1,_,⟨A',c',c3,hsl'⟩,_⟩:=hat.at_ hd
  rw[hA]at hbo
  injection hbo with hbo
  have h1:=hget i (by omega)
  obtain⟨y,hy⟩:∃y,elems[i]?=some y:=⟨_,List.getElem?_eq_getElem (by omega)⟩
  rw[hy]at h1
  obtain⟨cs',hcc,ht⟩:=Option.bind_eq_some_iff.1 h1
  rw[c_ex]at hcc
  obtain⟨_,hcl,hat2⟩:=World.cells?_some hcc
  obtain⟨ys,n',hn',hye,_,hyl,hf⟩:=DataW.trod_struct Tryz.underlying68 ht
  have hwy:wok (DataW.weights Tryz.prog 68 y.1):=wtP_all (j:=i) (by rw[List.getElem?_map,hy];rfl) hwa
  rw[hye]at hwy
  have hwe:=wtP_struct Tryz.underlying68 hwy
  have g:∀j,j < 5→∃z,ys[j]?=some z:=fun j hj=>⟨_,List.getElem?_eq_getElem (by rw[hyl];exact hj)⟩
  obtain⟨z1,hz1⟩:=g 1 (by omega)
  obtain⟨z3,hz3⟩:=g 3 (by omega)
  have ad:∀j,(a.add (i*5)).add j=⟨b,o+i*5+j,none⟩:=fun j=>by
   subst hbo
   unfold Addr.add
   by_cases h1:i*5=0<;>by_cases h2:j=0<;>simp[h1,h2]
  have e1:cs'[1]?=some (.string nm):=by rw[←hat2 1 (by omega),ad];exact c1
  have e3:cs'[3]?=some (.slice A' args.len c'):=by rw[←hat2 3 (by omega),ad];exact c3
  have f1:=(hf 1 _ rfl).trans hz1
  have f3:=(hf 3 _ rfl).trans hz3
  have q1:(cs'.drop 1).take (Tryz.prog.cellsOf 9)= [.string nm]:=by rw[c_str];exact take_one e1
  have q3:(cs'.drop 3).take (Tryz.prog.cellsOf 35)= [.slice A' args.len c']:=by rw[c_exs];exact take_one e3
  have f1':DataW.trod enc Tryz.prog w base spare held n' 9 [.string nm]=some z1:=by rw[←q1];exact f1
  have f3':DataW.trod enc Tryz.prog w base spare held n' 35 [.slice A' args.len c']=some z3:=by rw[←q3];exact f3
  refine⟨?_,?_⟩
  ·obtain⟨s,hs,hzs,_⟩:=DataW.trod_string Tryz.underlying9 f1'
   have hs:=(List.cons.inj hs).1
   injection hs with hs
   have hw1:wok (DataW.weights Tryz.prog 9 z1.1):=wtP_get (j:=1) rfl (by rw[List.getElem?_map,hz1];rfl) hwe
   rw[hzs]at hw1
   unfold DataW.weights at hw1
   simp only[wok,List.all_cons,List.all_nil,Bool.and_true,decide_eq_true_eq,Array.length_toList]at hw1
   rw[hs]
   exact leq9 hw1 (by decide)
  ·exact ih n' (by omega) _ z3 f3' (wtP_get (j:=3) rfl (by rw[List.getElem?_map,hz3];rfl) hwe) args A' c' B rfl hsl'
theorem open_nmE (fuel:Nat) (v:Value) (x:DataW H×List MemPlace) (h:DataW.trod enc Tryz.prog w base spare held fuel 30 [v]=some x) (hw:wok (DataW.weights Tryz.prog 30 x.1)) (l:List Ed) (A:Option Addr) (c B:Nat)
  (hv:v= .slice A l.length c) (hsl:EdSl w B l A c):∀e∈l,nmX e.args:=by
 intro e he
 obtain⟨i,hei⟩:=List.getElem?_of_mem he
 have hi:=(List.getElem?_eq_some_iff.1 hei).1
 rcases DataW.trod_slice Tryz.underlying30 h with⟨h0,_⟩|⟨a,len,cap,elems,rest,n,hn,hcs,hxe,_,_,_,hel,hget,_⟩
 ·have h0:=(List.cons.inj h0).1
  rw[hv]at h0
  injection h0 with _ h1 _
  omega
 ·have hcs:=(List.cons.inj hcs).1
  rw[hv]at hcs
  injection hcs with hA hlen hc
  rw[hxe]at hw
  have hwa:=wtP_slice Tryz.underlying30 hw
  obtain⟨b,o,hbo,hat⟩:=hsl.2.2 (by omega)
  obtain⟨_,_,_,_,_,_,⟨A',c',c5,hsl'⟩,_⟩:=hat.at_ hei
  rw[hA]at hbo
  injection hbo with hbo
  have h1:=hget i (by omega)
  obtain⟨y,hy⟩:∃y,elems[i]?=some y:=⟨_,List.getElem?_eq_getElem (by omega)⟩
  rw[hy]at h1
  obtain⟨cs',hcc,ht⟩:=Option.bind_eq_some_iff.1 h1
  rw[c_ed]at hcc
  obtain⟨_,hcl,hat2⟩:=World.cells?_some hcc
  obtain⟨ys,n',hn',hye,_,hyl,hf⟩:=DataW.trod_struct Tryz.underlying39 ht
  have hwy:wok (DataW.weights Tryz.prog 39 y.1):=wtP_all (j:=i) (by rw[List.getElem?_map,hy];rfl) hwa
  rw[hye]at hwy
  have hwe:=wtP_struct Tryz.underlying39 hwy
  obtain⟨z2,hz2⟩:∃z,ys[2]?=some z:=⟨_,List.getElem?_eq_getElem (by rw[hyl];decide)⟩
  have ad:∀j,(a.add (i*7)).add j=⟨b,o+i*7+j,none⟩:=fun j=>by
   subst hbo
   unfold Addr.add
   by_cases h1:i*7=0<;>by_cases h2:j=0<;>simp[h1,h2]
  have e5:cs'[5]?=some (.slice A' e.args.len c'):=by rw[←hat2 5 (by omega),ad];exact c5
  have hd:=(hf 2 _ rfl).trans hz2
  have hd2:DataW.trod enc Tryz.prog w base spare held n' 37 ((cs'.drop 2).take 4)=some z2:=by
   have h9:(cs'.drop 2).take (Tryz.prog.cellsOf 37)=(cs'.drop 2).take 4:=by rw[c_do]
   rw[←h9]
   exact hd
  have sub:∀j,j < 4→((cs'.drop 2).take 4)[j]?=cs'[2+j]?:=fun j hj=>by rw[List.getElem?_take,if_pos hj,List.getElem?_drop]
  obtain⟨us,n2,hn2,hue,_,hul,hg⟩:=DataW.trod_struct Tryz.underlying37 hd2
  have hwd:wok (DataW.weights Tryz.prog 37 z2.1):=wtP_get (j:=2) rfl (by rw[List.getElem?_map,hz2];rfl) hwe
  rw[hue]at hwd
  have hwu:=wtP_struct Tryz.underlying37 hwd
  obtain⟨u3,hu3⟩:∃z,us[3]?=some z:=⟨_,List.getElem?_eq_getElem (by rw[hul];decide)⟩
  have h3:=(hg 3 _ rfl).trans hu3
  have h3':DataW.trod enc Tryz.prog w base spare held n2 35 [.slice A' e.args.len c']=some u3:=by
   have h4:(((cs'.drop 2).take 4).drop 3).take (Tryz.prog.cellsOf 35)= [.slice A' e.args.len c']:=by rw[c_exs];exact take_one ((sub 3 (by omega)).trans e5)
   rw[←h4];exact h3
  exact open_nm n2 _ u3 h3' (wtP_get (j:=3) rfl (by rw[List.getElem?_map,hu3];rfl) hwu) e.args A' c' B rfl hsl'
theorem open_graphN {r:Reach} {b0:Nat} {v:Value} {d:DataW H} {p:List MemPlace} (hv:Value.okWide Tryz.prog w r b0 32 v) (h:DataW.Trod enc Tryz.prog w base spare held 32 v d p) (hw:wok (DataW.weights Tryz.prog 32 d)):
  ∃(g:Gr) (Aa Ae:Option Addr) (ca ce:Nat),v=grV g.vars Aa g.arrays.length ca g.nodes g.start g.last Ae g.edges.length ce∧GrSl w w.heap.size g Aa ca Ae ce∧∀e∈g.edges,nmX e.args:=by
 obtain⟨g,Aa,Ae,ca,ce,rfl,hg⟩:=open_graph hv h
 refine⟨g,Aa,Ae,ca,ce,rfl,hg,?_⟩
 obtain⟨fuel,hf⟩:=h
 obtain⟨xs,n,_,hx,_,hlen,hgf⟩:=DataW.trod_struct Tryz.underlying32 hf
 have hd:d= .agg (xs.map (·.1)):=congrArg Prod.fst hx
 rw[hd]at hw
 have hwe:=wtP_struct Tryz.underlying32 hw
 obtain⟨z5,hz5⟩:∃z,xs[5]?=some z:=⟨_,List.getElem?_eq_getElem (by rw[hlen];decide)⟩
 have h5:=(hgf 5 _ rfl).trans hz5
 have h5':DataW.trod enc Tryz.prog w base spare held n 30 [.slice Ae g.edges.length ce]=some z5:=by
  have h9:(([.int .i64 g.vars,.slice Aa g.arrays.length ca,.int .i64 g.nodes,.int .i64 g.start,.int .i64 g.last,.slice Ae g.edges.length ce]:List Value).drop 5).take (Tryz.prog.cellsOf 30)= [.slice Ae g.edges.length ce]:=by rw[c_eds];rfl
  rw[←h9];exact h5
 exact open_nmE n _ z5 h5' (wtP_get (j:=5) rfl (by rw[List.getElem?_map,hz5];rfl) hwe) g.edges Ae ce w.heap.size rfl hg.2
end
end Go.Proofs.YtphlnpaikpjakaaGreatDoor
