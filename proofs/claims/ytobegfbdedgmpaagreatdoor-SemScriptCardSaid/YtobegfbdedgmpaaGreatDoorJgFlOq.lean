/-
  The frame of chapter 13's laws: a graph that came in as an argument.
-/
import Derived.Test.YtobegfbdedgmpaaGreatDoorJnFlOp
import Derived.Lib.SmallJoins
import Derived.Test.YtobegfbdedgmpaaGreatDoorJgSv
import Derived.Test.YtobegfbdedgmpaaGreatDoorJgSrR
set_option linter.unusedVariables false
set_option linter.unusedSimpArgs false
set_option maxRecDepth 100000
namespace Go.Proofs.YtobegfbdedgmpaaGreatDoor
open Go.RowKit Go.ChangeShapes Go.WideShapes Go.Deep

section
variable {H:Type} {enc:TypeId×Value→H} {w:World} {base:Nat} {spare:Nat→Bool} {held:Bool}

theorem zkJ (fuel:Nat) (v:Value) (x:DataW H×List MemPlace) (h:DataW.trod enc Tryz.prog w base spare held fuel 37 [v]=some x):∃(l:List Int) (A:Option Addr) (c:Nat),v= .slice A l.length c∧IsSl w w.heap.size l A c:=by
 rcases DataW.trod_slice Tryz.underlying37 h with⟨h0,_⟩|⟨a,len,cap,elems,rest,n,hn,hcs,_,_,hlc,hcm,hel,hget,_⟩
 ·have h0:=(List.cons.inj h0).1
  exact⟨[],none,0,h0,by simp,by decide,by simp⟩
 ·have hcs:=(List.cons.inj hcs).1
  subst hcs
  have key:∀i,i < len→∃m:Int,w.cell? (a.add i)=some (.int .i64 m)∧in64 m:=by
   intro i hi
   have h1:=hget i hi
   obtain⟨y,hy⟩:∃y,elems[i]?=some y:=⟨_,List.getElem?_eq_getElem (by omega)⟩
   rw[hy]at h1
   obtain⟨cs',hc,ht⟩:=Option.bind_eq_some_iff.1 h1
   rw[zdO,Nat.mul_one]at hc
   obtain⟨_,hcl,hat⟩:=World.cells?_some hc
   obtain⟨m,hm,_,hw⟩:=DataW.trod_int Tryz.underlying3 ht
   have h2:=hat 0 (by omega)
   rw[hm]at h2
   exact⟨m,h2,za1 hw⟩
  by_cases hz:0 < len
  ·obtain⟨m0,h0,_⟩:=key 0 hz
   have hin:=zdM (a:=a) h0
   have hsp:=hin.2
   have ad:∀i,a.add i=⟨a.block,a.off+i,none⟩:=fun i=>by
    unfold Addr.add
    by_cases h1:i=0<;>simp[h1]
    all_goals(cases a;simp_all)
   refine⟨(List.range len).map fun i=>if h:i < len then Classical.choose (key i h)else 0,some a,cap,by simp,by simpa using hlc,by simpa[maxLen]using hcm,fun _=>⟨a.block,a.off,by cases a;simp_all,hin.1,fun i n hi=>?_⟩⟩
   rw[List.getElem?_map]at hi
   by_cases hil:i < len
   ·rw[List.getElem?_range hil]at hi
    simp only[Option.map_some,Option.some.injEq,dif_pos hil]at hi
    subst hi
    have:=Classical.choose_spec (key i hil)
    exact⟨(congrArg w.cell? (ad i)).symm.trans this.1,this.2⟩
   ·rw[List.getElem?_eq_none (by simp;omega)]at hi
    exact absurd hi (by simp)
  ·have:len=0:=by omega
   subst this
   exact⟨[],some a,cap,rfl,by simp,by simpa[maxLen]using hcm,by simp⟩

theorem ziz {r:Reach} {b0:Nat} {v:Value} {d:DataW H} {p:List MemPlace} (hv:Value.okWide Tryz.prog w r b0 40 v) (h:DataW.Trod enc Tryz.prog w base spare held 40 v d p):
  ∃(g:Gr) (Aa Ae:Option Addr) (ca ce:Nat),v=grV g.vars Aa g.arrays.length ca g.nodes g.start g.last Ae g.edges.length ce∧GrSl w w.heap.size g Aa ca Ae ce:=by
 have hs:=Tryz.underlying40
 obtain⟨cs,rfl,hsz⟩:=okWide_struct hs hv
 obtain⟨l⟩:=cs
 match l,hsz.trans (show Tryz.prog.cellsOf 40=6 by kernel_rfl)with
 | [c0,c1,c2,c3,c4,c5],_=>
  obtain⟨fuel,hf⟩:=h
  obtain⟨xs,n,_,hx,_,hlen,hg⟩:=DataW.trod_struct hs hf
  match xs,hlen with
  | [y0,y1,y2,y3,y4,y5],_=>
   obtain⟨v0,e0,_⟩:=zaz (cs:= [c0,c1,c2,c3,c4,c5]) Tryz.underlying3 zdO (off:=0) (by simp) (hg 0 _ rfl)
   obtain⟨v2,e2,_⟩:=zaz (cs:= [c0,c1,c2,c3,c4,c5]) Tryz.underlying3 zdO (off:=2) (by simp) (hg 2 _ rfl)
   obtain⟨v3,e3,_⟩:=zaz (cs:= [c0,c1,c2,c3,c4,c5]) Tryz.underlying3 zdO (off:=3) (by simp) (hg 3 _ rfl)
   obtain⟨v4,e4,_⟩:=zaz (cs:= [c0,c1,c2,c3,c4,c5]) Tryz.underlying3 zdO (off:=4) (by simp) (hg 4 _ rfl)
   have h1:DataW.trod enc Tryz.prog w base spare held n 37 [c1]=some y1:=by
    have h9:(([c0,c1,c2,c3,c4,c5]:List Value).drop 1).take (Tryz.prog.cellsOf 37)= [c1]:=by rw[zoW];rfl
    rw[←h9];exact hg 1 _ rfl
   have h5:DataW.trod enc Tryz.prog w base spare held n 38 [c5]=some y5:=by
    have h9:(([c0,c1,c2,c3,c4,c5]:List Value).drop 5).take (Tryz.prog.cellsOf 38)= [c5]:=by rw[c_eds];rfl
    rw[←h9];exact hg 5 _ rfl
   obtain⟨ar,Aa,ca,rfl,ha⟩:=zkJ n c1 y1 h1
   obtain⟨ed,Ae,ce,rfl,he⟩:=ziy n c5 y5 h5
   simp only[List.getElem?_cons_zero,List.getElem?_cons_succ,Option.some.injEq]at e0 e2 e3 e4
   subst e0 e2 e3 e4
   exact⟨⟨v0,ar,v2,v3,v4,ed⟩,Aa,Ae,ca,ce,rfl,⟨ha,he⟩⟩
end
end Go.Proofs.YtobegfbdedgmpaaGreatDoor

namespace Go.Proofs.YtobegfbdedgmpaaGreatDoor
open Go.RowKit Go.ChangeShapes Go.WideShapes Go.Deep

section
variable {H:Type} {enc:TypeId×Value→H} {w:World} {base:Nat} {spare:Nat→Bool} {held:Bool}

end

end Go.Proofs.YtobegfbdedgmpaaGreatDoor

namespace Go.Proofs.YtobegfbdedgmpaaGreatDoor
open Go.RowKit Go.ChangeShapes Go.WideShapes Go.Deep

section
variable {H:Type} {enc:TypeId×Value→H} {w:World} {base:Nat} {spare:Nat→Bool} {held:Bool}

theorem zgP {fuel:Nat} {v:Value} {x:DataW H×List MemPlace} (h:DataW.trod enc Tryz.prog w base spare held fuel 37 [v]=some x):∃(l:List Int) (A:Option Addr) (c:Nat),v= .slice A l.length c∧IsSl w w.heap.size l A c∧(A=none→c=0):=by
 obtain⟨l,A,c,hv,hs⟩:=zkJ fuel v x h
 refine⟨l,A,c,hv,hs,fun hA=>?_⟩
 rcases DataW.trod_slice Tryz.underlying37 h with⟨h0,_⟩|⟨a,len,cap,elems,rest,n,hn,hcs,_⟩
 ·have h0:=(List.cons.inj h0).1
  rw[hv]at h0
  injection h0
 ·have h0:=(List.cons.inj hcs).1
  rw[hv,hA]at h0
  injection h0 with h0
  cases h0
end
end Go.Proofs.YtobegfbdedgmpaaGreatDoor

namespace Go.Proofs.YtobegfbdedgmpaaGreatDoor
open Go.RowKit Go.ChangeShapes Go.WideShapes Go.Deep

section
variable {H:Type} {P:Program}
theorem zgQ:∀ {ts:List TypeId} {ds:List (DataW H)} {j:Nat} {t:TypeId} {d:DataW H},ts[j]?=some t→ds[j]?=some d→(DataW.weightsEach P ts ds).all (fun x=>decide (x≤reachBytes))=true→(DataW.weights P t d).all (fun x=>decide (x≤reachBytes))=true
 | [],_,_,_,_,h,_,_=>by simp at h
 |_::_, [],_,_,_,_,h,_=>by simp at h
 |a::ts,b::ds,0,t,d,h1,h2,hw=>by
  simp only[DataW.weightsEach,List.all_append,Bool.and_eq_true]at hw
  simp only[List.getElem?_cons_zero,Option.some.injEq]at h1 h2
  rw[←h1,←h2];exact hw.1
 |a::ts,b::ds,j+1,t,d,h1,h2,hw=>by
  simp only[DataW.weightsEach,List.all_append,Bool.and_eq_true]at hw
  simp only[List.getElem?_cons_succ]at h1 h2
  exact zgQ h1 h2 hw.2
end
theorem zc3 {H:Type} {enc:TypeId×Value→H} {w:World} {base:Nat} {held:Bool} {spare:Nat→Bool} {fuel:Nat} {v:Value} {x:DataW H×List MemPlace} (h:DataW.trod enc Tryz.prog w base spare held fuel 37 [v]=some x) (hw:(DataW.weights Tryz.prog 37 x.1).all (fun x=>decide (x≤reachBytes))=true):∃(l:List Int) (A:Option Addr) (c:Nat),v= .slice A l.length c∧IsSl w w.heap.size l A c∧(A=none→c=0)∧l.length≤140737488351232:=by
 obtain⟨l,A,c,hv,hs,hn⟩:=zgP h
 refine⟨l,A,c,hv,hs,hn,?_⟩
 rcases DataW.trod_slice Tryz.underlying37 h with⟨h0,_⟩|⟨a,len,cap,elems,rest,n,hfn,hcs,hx,_,_,_,hel,_⟩
 ·have h0:=(List.cons.inj h0).1
  rw[hv]at h0
  injection h0 with h1 h2
  omega
 ·rw[hx]at hw
  have h1:(elems.map (·.1)).length *8≤reachBytes:=by
   unfold DataW.weights at hw
   rw[Tryz.underlying37]at hw
   simp only[List.all_cons,Bool.and_eq_true,decide_eq_true_eq]at hw
   have h2:=hw.1
   rw[show(Tryz.prog).bytesOf 3=8 by kernel_rfl]at h2
   exact Nat.le_trans (Nat.mul_le_mul_right 8 (Nat.le_add_right _ _)) h2
  rw[List.length_map,hel]at h1
  have h0:=(List.cons.inj hcs).1
  rw[hv]at h0
  injection h0 with h2 h3
  have h4:reachBytes=140737488351232:=rfl
  rw[h4]at h1
  omega
end Go.Proofs.YtobegfbdedgmpaaGreatDoor
