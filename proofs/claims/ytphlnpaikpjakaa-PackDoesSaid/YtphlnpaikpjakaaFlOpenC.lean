/-
  The frame of chapter 13's laws: a graph that came in as an argument.
-/
import Derived.Test.YtphlnpaikpjakaaFlOpenB
import Derived.Lib.SmallJoins
set_option maxRecDepth 100000
namespace Go.Proofs.Ytphlnpaikpjakaa
open Go.RowKit Go.ChangeShapes Go.WideShapes Go.Deep

section
variable {H:Type} {enc:TypeId×Value→H} {w:World} {base:Nat} {spare:Nat→Bool} {held:Bool}

theorem open_is (fuel:Nat) (v:Value) (x:DataW H×List MemPlace) (h:DataW.trod enc Try.prog w base spare held fuel 22 [v]=some x):∃(l:List Int) (A:Option Addr) (c:Nat),v= .slice A l.length c∧IsSl w w.heap.size l A c:=by
 rcases DataW.trod_slice Try.underlying22 h with⟨h0,_⟩|⟨a,len,cap,elems,rest,n,hn,hcs,_,_,hlc,hcm,hel,hget,_⟩
 ·have h0:=(List.cons.inj h0).1
  exact⟨[],none,0,h0,by simp,by decide,by simp⟩
 ·have hcs:=(List.cons.inj hcs).1
  subst hcs
  have key:∀i,i < len→∃m:Int,w.cell? (a.add i)=some (.int .i64 m)∧in64 m:=by
   intro i hi
   have h1:=hget i hi
   obtain⟨y,hy⟩:∃y,elems[i]?=some y:=⟨_,List.getElem?_eq_getElem (by omega)⟩
   rw[hy]at h1
   obtain⟨cs',hc,ht⟩:=Option.bind_eq_some_iff.1 h1
   rw[c_int,Nat.mul_one]at hc
   obtain⟨_,hcl,hat⟩:=World.cells?_some hc
   obtain⟨m,hm,_,hw⟩:=DataW.trod_int Try.underlying3 ht
   have h2:=hat 0 (by omega)
   rw[hm]at h2
   exact⟨m,h2,in64_of_wf hw⟩
  by_cases hz:0 < len
  ·obtain⟨m0,h0,_⟩:=key 0 hz
   have hin:=cell_in (a:=a) h0
   have hsp:=hin.2
   have ad:∀i,a.add i=⟨a.block,a.off+i,none⟩:=fun i=>by
    unfold Addr.add
    by_cases h1:i=0<;>simp[h1]
    all_goals(cases a;simp_all)
   refine⟨(List.range len).map fun i=>if h:i < len then Classical.choose (key i h)else 0,some a,cap,by simp,by simpa using hlc,by simpa[maxLen]using hcm,fun _=>⟨a.block,a.off,by cases a;simp_all,hin.1,fun i n hi=>?_⟩⟩
   rw[List.getElem?_map]at hi
   by_cases hil:i < len
   ·rw[List.getElem?_range hil]at hi
    simp only[Option.map_some,Option.some.injEq,dif_pos hil]at hi
    subst hi
    have:=Classical.choose_spec (key i hil)
    exact⟨(congrArg w.cell? (ad i)).symm.trans this.1,this.2⟩
   ·rw[List.getElem?_eq_none (by simp;omega)]at hi
    exact absurd hi (by simp)
  ·have:len=0:=by omega
   subst this
   exact⟨[],some a,cap,rfl,by simp,by simpa[maxLen]using hcm,by simp⟩

theorem open_graph {r:Reach} {b0:Nat} {v:Value} {d:DataW H} {p:List MemPlace} (hv:Value.okWide Try.prog w r b0 25 v) (h:DataW.Trod enc Try.prog w base spare held 25 v d p):
  ∃(g:Gr) (Aa Ae:Option Addr) (ca ce:Nat),v=grV g.vars Aa g.arrays.length ca g.nodes g.start g.last Ae g.edges.length ce∧GrSl w w.heap.size g Aa ca Ae ce:=by
 have hs:=Try.underlying25
 obtain⟨cs,rfl,hsz⟩:=okWide_struct hs hv
 obtain⟨l⟩:=cs
 match l,hsz.trans (show Try.prog.cellsOf 25=6 by kernel_rfl)with
 | [c0,c1,c2,c3,c4,c5],_=>
  obtain⟨fuel,hf⟩:=h
  obtain⟨xs,n,_,hx,_,hlen,hg⟩:=DataW.trod_struct hs hf
  match xs,hlen with
  | [y0,y1,y2,y3,y4,y5],_=>
   obtain⟨v0,e0,_⟩:=int_field (cs:= [c0,c1,c2,c3,c4,c5]) Try.underlying3 c_int (off:=0) (by simp) (hg 0 _ rfl)
   obtain⟨v2,e2,_⟩:=int_field (cs:= [c0,c1,c2,c3,c4,c5]) Try.underlying3 c_int (off:=2) (by simp) (hg 2 _ rfl)
   obtain⟨v3,e3,_⟩:=int_field (cs:= [c0,c1,c2,c3,c4,c5]) Try.underlying3 c_int (off:=3) (by simp) (hg 3 _ rfl)
   obtain⟨v4,e4,_⟩:=int_field (cs:= [c0,c1,c2,c3,c4,c5]) Try.underlying3 c_int (off:=4) (by simp) (hg 4 _ rfl)
   have h1:DataW.trod enc Try.prog w base spare held n 22 [c1]=some y1:=by
    have h9:(([c0,c1,c2,c3,c4,c5]:List Value).drop 1).take (Try.prog.cellsOf 22)= [c1]:=by rw[c_ints];rfl
    rw[←h9];exact hg 1 _ rfl
   have h5:DataW.trod enc Try.prog w base spare held n 23 [c5]=some y5:=by
    have h9:(([c0,c1,c2,c3,c4,c5]:List Value).drop 5).take (Try.prog.cellsOf 23)= [c5]:=by rw[c_eds];rfl
    rw[←h9];exact hg 5 _ rfl
   obtain⟨ar,Aa,ca,rfl,ha⟩:=open_is n c1 y1 h1
   obtain⟨ed,Ae,ce,rfl,he⟩:=open_edges n c5 y5 h5
   simp only[List.getElem?_cons_zero,List.getElem?_cons_succ,Option.some.injEq]at e0 e2 e3 e4
   subst e0 e2 e3 e4
   exact⟨⟨v0,ar,v2,v3,v4,ed⟩,Aa,Ae,ca,ce,rfl,⟨ha,he⟩⟩
end
end Go.Proofs.Ytphlnpaikpjakaa
