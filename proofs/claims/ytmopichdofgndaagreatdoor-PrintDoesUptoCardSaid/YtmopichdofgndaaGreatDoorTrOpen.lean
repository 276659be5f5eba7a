/-
  A tree that came in as an argument: what memory holds of it.
-/
import Derived.Test.YtmopichdofgndaaGreatDoorJnCkC
import Derived.ChangeArms
import Derived.OpenShut
import Derived.SizedLaws
set_option linter.unusedVariables false
set_option linter.unusedSimpArgs false
set_option maxRecDepth 100000
namespace Go.Proofs.YtmopichdofgndaaGreatDoor
open Go.RowKit Go.Shelf Go.ChangeShapes Go.WideShapes

section
variable {H:Type} {P:Program}
def WtOk (P:Program) (t:TypeId) (d:DataW H):Prop:=(DataW.weights P t d).all (fun x=>decide (x≤reachBytes))=true
theorem wtAll_mem {e:TypeId} {d:DataW H}:∀ {l:List (DataW H)},d∈l→(DataW.weightsAll P e l).all (fun x=>decide (x≤reachBytes))=true→WtOk P e d
 | [],h,_=>by simp at h
 |a::r,h,hw=>by
  simp only[DataW.weightsAll,List.all_append,Bool.and_eq_true]at hw
  rcases List.mem_cons.1 h with rfl|h
  ·exact hw.1
  ·exact wtAll_mem h hw.2
theorem wtEach_get:∀ {ts:List TypeId} {ds:List (DataW H)} {j:Nat} {t:TypeId} {d:DataW H},ts[j]?=some t→ds[j]?=some d→(DataW.weightsEach P ts ds).all (fun x=>decide (x≤reachBytes))=true→WtOk P t d
 | [],_,_,_,_,h,_,_=>by simp at h
 |_::_, [],_,_,_,_,h,_=>by simp at h
 |a::ts,b::ds,0,t,d,h1,h2,hw=>by
  simp only[DataW.weightsEach,List.all_append,Bool.and_eq_true]at hw
  simp only[List.getElem?_cons_zero,Option.some.injEq]at h1 h2
  rw[←h1,←h2];exact hw.1
 |a::ts,b::ds,j+1,t,d,h1,h2,hw=>by
  simp only[DataW.weightsEach,List.all_append,Bool.and_eq_true]at hw
  simp only[List.getElem?_cons_succ]at h1 h2
  exact wtEach_get h1 h2 hw.2
theorem wt_slice {t e:TypeId} (ht:P.underlying t=some (.slice e)) {E R:List (DataW H)} (h:WtOk P t (.slice E R)):(E.length+R.length)*P.bytesOf e≤reachBytes∧∀d∈E,WtOk P e d:=by
 unfold WtOk at h
 simp only[DataW.weights,ht,List.all_cons,List.all_append,Bool.and_eq_true,decide_eq_true_eq]at h
 exact⟨h.1,fun d hd=>wtAll_mem hd h.2.1⟩
theorem wt_struct {t:TypeId} {fs:Array Field} (ht:P.underlying t=some (.struct fs)) {ys:List (DataW H×List MemPlace)} (h:WtOk P t (.agg (ys.map (·.1)))) {j:Nat} {f:Field} {z:DataW H×List MemPlace} (hf:fs[j]?=some f) (hz:ys[j]?=some z):WtOk P f.type z.1:=by
 unfold WtOk at h
 simp only[DataW.weights,ht]at h
 refine wtEach_get (j:=j) (t:=f.type) (d:=z.1) ?_ ?_ h
 ·simp[hf]
 ·simp[hz]
end
section
variable {H:Type} {enc:TypeId×Value→H} {w:World} {base:Nat} {spare:Nat→Bool} {held:Bool}

theorem cell_in {a:Addr} {v:Value} (h:w.cell? a=some v):a.block < w.heap.size∧a.spot=none:=by
 unfold World.cell? at h
 cases hb:w.heap[a.block]? with
 |none=>rw[hb]at h;exact absurd h (by simp)
 |some o=>
  refine⟨(Array.getElem?_eq_some_iff.1 hb).1,?_⟩
  rw[hb]at h
  cases o<;>simp at h
  all_goals first|exact h.1|(cases hs:a.spot<;>simp_all)
theorem take_one {cs:List Value} {off:Nat} {v:Value} (h:cs[off]?=some v):(cs.drop off).take 1= [v]:=by
 obtain⟨hi,rfl⟩:=List.getElem?_eq_some_iff.1 h
 rw[List.drop_eq_getElem_cons hi]
 rfl
theorem int_field {k:IntKind} {t:TypeId} {n:Nat} {off:Nat} {cs:List Value} {y:DataW H×List MemPlace} (ht:Tryz.prog.underlying t=some (.int k)) (hc:Tryz.prog.cellsOf t=1) (ho:off < cs.length)
  (h:DataW.trod enc Tryz.prog w base spare held n t ((cs.drop off).take (Tryz.prog.cellsOf t))=some y):∃v,cs[off]?=some (.int k v)∧(Lit.int k v).wf =true:=by
 rw[hc,take_one (List.getElem?_eq_getElem ho)]at h
 obtain⟨v,hv,_,hw⟩:=DataW.trod_int ht h
 exact⟨v,(List.getElem?_eq_getElem ho).trans (congrArg some (List.cons.inj hv).1),hw⟩
theorem str_field {t:TypeId} {n:Nat} {off:Nat} {cs:List Value} {y:DataW H×List MemPlace} (ht:Tryz.prog.underlying t=some .string) (hc:Tryz.prog.cellsOf t=1) (ho:off < cs.length)
  (h:DataW.trod enc Tryz.prog w base spare held n t ((cs.drop off).take (Tryz.prog.cellsOf t))=some y):∃s,cs[off]?=some (.string s)∧s.size≤9223372036854775807:=by
 rw[hc,take_one (List.getElem?_eq_getElem ho)]at h
 obtain⟨s,hv,_,hz⟩:=DataW.trod_string ht h
 exact⟨s,(List.getElem?_eq_getElem ho).trans (congrArg some (List.cons.inj hv).1),by simpa[maxLen]using hz⟩
theorem one_field {t:TypeId} {n:Nat} {off:Nat} {cs:List Value} {y:DataW H×List MemPlace} (hc:Tryz.prog.cellsOf t=1) (ho:off < cs.length)
  (h:DataW.trod enc Tryz.prog w base spare held n t ((cs.drop off).take (Tryz.prog.cellsOf t))=some y):∃v,cs[off]?=some v∧DataW.trod enc Tryz.prog w base spare held n t [v]=some y:=by
 rw[hc,take_one (List.getElem?_eq_getElem ho)]at h
 exact⟨_,List.getElem?_eq_getElem ho,h⟩
theorem in64_of_wf {a:Int} (h:(Lit.int .i64 a).wf =true):in64 a:=by simpa[in64,Lit.wf,IntKind.min,IntKind.max,IntKind.signed,IntKind.bits]using h
theorem in8_of_wf {a:Int} (h:(Lit.int .u8 a).wf =true):in8 a:=by simpa[in8,Lit.wf,IntKind.min,IntKind.max,IntKind.signed,IntKind.bits]using h
theorem c_u8:Tryz.prog.cellsOf 5=1:=by kernel_rfl
theorem c_str:Tryz.prog.cellsOf 9=1:=by kernel_rfl
theorem c_int:Tryz.prog.cellsOf 3=1:=by kernel_rfl
abbrev Old (w:World):Nat→Prop:=fun b=>b < w.heap.size
theorem spot_of {b:Nat} {a:Addr} {len m:Nat} {e:TypeId} {elems:List (DataW H×List MemPlace)} {n:Nat} (hm:0 < m) (hc:Tryz.prog.cellsOf e=m) (hel:elems.length=len) (hget:∀i,i < len→(w.cells? base (a.add (i*Tryz.prog.cellsOf e)) (Tryz.prog.cellsOf e)).bind (DataW.trod enc Tryz.prog w base spare held n e)=elems[i]?) (hi:0 < len):a.spot=none:=by
 have h1:=hget 0 hi
 obtain⟨y,hy⟩:∃y,elems[0]?=some y:=⟨_,List.getElem?_eq_getElem (by omega)⟩
 rw[hy]at h1
 obtain⟨cs',hcc,_⟩:=Option.bind_eq_some_iff.1 h1
 rw[hc]at hcc
 obtain⟨_,hcl,hat⟩:=World.cells?_some hcc
 have h2:=(hat 0 hm).trans (List.getElem?_eq_getElem (by omega))
 rw[Nat.zero_mul]at h2
 exact(cell_in (a:=a) h2).2
theorem addr_of {a:Addr} (hsp:a.spot=none) (i j:Nat):(a.add i).add j=⟨a.block,a.off+i+j,none⟩:=by
 unfold Addr.add
 by_cases h1:i=0<;>by_cases h2:j=0<;>simp[h1,h2]
 all_goals(cases a;simp_all)

theorem c_Ex:Tryz.prog.cellsOf 41=5:=by kernel_rfl
theorem c_sEx:Tryz.prog.cellsOf 36=1:=by kernel_rfl
theorem by_Ex:Tryz.prog.bytesOf 41=64:=by kernel_rfl
def OEx (w:World) (xs:Exs) (A:Option Addr) (c:Nat):Prop:=SlR (fun b o=>ExR w (Old w) False xs b o) xs.len 64 A c∧(szX xs)∧xs.len*64≤140737488351232
def ElemEx (w:World) (b o:Nat):Prop:=∃(k:Int) (nm:ByteArray) (n:Int) (args:Exs) (at_:Int) (A3:Option Addr) (c3:Nat),w.cell? ⟨b,o,none⟩=some (.int .u8 k)∧w.cell? ⟨b,o+1,none⟩=some (.string nm)∧w.cell? ⟨b,o+2,none⟩=some (.int .i64 n)∧w.cell? ⟨b,o+3,none⟩=some (.slice A3 args.len c3)∧w.cell? ⟨b,o+4,none⟩=some (.int .i64 at_)∧OEx w args A3 c3∧in8 k∧nm.size≤9223372036854775807∧in64 n∧in64 at_
theorem atEx_of {b:Nat}:∀(len o:Nat),(∀i,i < len→ElemEx w b (o+i*5))→∃xs:Exs,xs.len=len∧ExR w (Old w) False xs b o∧szX xs
 |0,_,_=>⟨.nil,rfl,trivial,trivial⟩
 |len+1,o,h=>by
  obtain⟨xs,hl,hx,hz⟩:=atEx_of len (o+5) (fun i hi=>by have:=h (i+1) (by omega);rwa [show o+(i+1)*5=o+5+i*5 from by omega]at this)
  obtain⟨k,nm,n,args,at_,A3,c3,h0,h1,h2,h3,h4,s3,r0,r1,r2,r4⟩:=h 0 (by omega)
  rw[Nat.zero_mul,Nat.add_zero]at h0 h1 h2 h3 h4
  exact⟨.cons k nm n args at_ xs,by simp only[Exs.len,hl],⟨⟨(cell_in h0).1,fun z=>z.elim,r0,r2,r4,h0,h1,h2,h4⟩,⟨A3,c3,h3,s3.1⟩,hx⟩,⟨r1,s3.2.1,hz⟩⟩
theorem openEx:∀(fuel:Nat) (v:Value) (x:DataW H×List MemPlace),DataW.trod enc Tryz.prog w base spare held fuel 36 [v]=some x→WtOk Tryz.prog 36 x.1→∃(xs:Exs) (A:Option Addr) (c:Nat),v= .slice A xs.len c∧OEx w xs A c:=by
 intro fuel
 induction fuel using Nat.strongRecOn with
 |_ fuel ih=>
 intro v x h hwt
 rcases DataW.trod_slice Tryz.underlying36 h with⟨h0,_⟩|⟨a,len,cap,elems,rest,n,hn,hcs,hx,_,hlc,hcm,hel,hget,_⟩
 ·have h0:=(List.cons.inj h0).1
  exact⟨.nil,none,0,h0,⟨by simp[Exs.len],⟨by decide,by decide⟩,by simp[Exs.len]⟩,trivial,by decide⟩
 ·have hcs:=(List.cons.inj hcs).1
  subst hcs
  rw[hx]at hwt
  have hwt:=wt_slice Tryz.underlying36 hwt
  have hbytes:=hwt.1
  rw[by_Ex,List.length_map,List.length_map,hel]at hbytes
  have key:∀i,i < len→ElemEx w a.block (a.off+i*5):=by
   intro i hi
   have hsp:=spot_of (b:=0) (by omega) c_Ex hel hget (by omega)
   have h1:=hget i hi
   obtain⟨y,hy⟩:∃y,elems[i]?=some y:=⟨_,List.getElem?_eq_getElem (by omega)⟩
   have hwy:=hwt.2 y.1 (List.mem_map_of_mem (List.mem_of_getElem? hy))
   rw[hy]at h1
   obtain⟨cs',hc,ht⟩:=Option.bind_eq_some_iff.1 h1
   rw[c_Ex]at hc
   obtain⟨_,hcl,hat⟩:=World.cells?_some hc
   obtain⟨ys,n',hn',hy2,_,hyl,hf⟩:=DataW.trod_struct Tryz.underlying41 ht
   rw[hy2]at hwy
   have g:∀j,j < 5→∃z,ys[j]?=some z:=fun j hj=>⟨_,List.getElem?_eq_getElem (by rw[hyl];exact hj)⟩
   obtain⟨z0,hz0⟩:=g 0 (by omega)
   obtain⟨f0,e0,w0⟩:=int_field Tryz.underlying5 c_u8 (off:=0) (by omega) ((hf 0 _ rfl).trans hz0)
   obtain⟨z1,hz1⟩:=g 1 (by omega)
   obtain⟨f1,e1,w1⟩:=str_field Tryz.underlying9 c_str (off:=1) (by omega) ((hf 1 _ rfl).trans hz1)
   obtain⟨z2,hz2⟩:=g 2 (by omega)
   obtain⟨f2,e2,w2⟩:=int_field Tryz.underlying3 c_int (off:=2) (by omega) ((hf 2 _ rfl).trans hz2)
   obtain⟨z3,hz3⟩:=g 3 (by omega)
   obtain⟨v3,e3,t3⟩:=one_field c_sEx (off:=3) (by omega) ((hf 3 _ rfl).trans hz3)
   have wt3:WtOk Tryz.prog 36 z3.1:=wt_struct Tryz.underlying41 hwy (j:=3) rfl hz3
   obtain⟨f3,A3,c3,rfl,s3⟩:=ih n' (by omega) v3 z3 t3 wt3
   obtain⟨z4,hz4⟩:=g 4 (by omega)
   obtain⟨f4,e4,w4⟩:=int_field Tryz.underlying3 c_int (off:=4) (by omega) ((hf 4 _ rfl).trans hz4)
   have ad:∀j,(a.add (i*5)).add j=⟨a.block,a.off+i*5+j,none⟩:=addr_of hsp _
   refine⟨f0,f1,f2,f3,f4,A3,c3,?_,?_,?_,?_,?_,s3,in8_of_wf w0,w1,in64_of_wf w2,in64_of_wf w4⟩
   ·have:=(hat 0 (by omega)).trans e0;rwa [ad]at this
   ·have:=(hat 1 (by omega)).trans e1;rwa [ad]at this
   ·have:=(hat 2 (by omega)).trans e2;rwa [ad]at this
   ·have:=(hat 3 (by omega)).trans e3;rwa [ad]at this
   ·have:=(hat 4 (by omega)).trans e4;rwa [ad]at this
  obtain⟨xs,hl,hx,hz⟩:=atEx_of (w:=w) (b:=a.block) len a.off (fun i hi=>key i hi)
  have hlz:len*64≤140737488351232:=by unfold reachBytes at hbytes;have:len*64≤(len+rest.length)*64:=Nat.mul_le_mul_right _ (by omega);omega
  refine⟨xs,some a,cap,by rw[hl],⟨by rw[hl];exact hlc,⟨by simpa[maxLen]using hcm,by rw[hl];omega⟩,fun hp=>⟨a.block,a.off,?_,hx⟩⟩,hz,by rw[hl];exact hlz⟩
  have:=spot_of (b:=0) (by omega) c_Ex hel hget (by omega)
  cases a
  simp_all
theorem c_Co:Tryz.prog.cellsOf 160=4:=by kernel_rfl
theorem c_sCo:Tryz.prog.cellsOf 37=1:=by kernel_rfl
theorem by_Co:Tryz.prog.bytesOf 160=64:=by kernel_rfl
def OCo (w:World) (xs:Cds) (A:Option Addr) (c:Nat):Prop:=SlR (fun b o=>CdR w (Old w) False xs b o) xs.len 64 A c∧(szC xs)∧xs.len*64≤140737488351232
def ElemCo (w:World) (b o:Nat):Prop:=∃(k:Int) (args:Exs) (of_:Cds) (at_:Int) (A1:Option Addr) (c1:Nat) (A2:Option Addr) (c2:Nat),w.cell? ⟨b,o,none⟩=some (.int .u8 k)∧w.cell? ⟨b,o+1,none⟩=some (.slice A1 args.len c1)∧w.cell? ⟨b,o+2,none⟩=some (.slice A2 of_.len c2)∧w.cell? ⟨b,o+3,none⟩=some (.int .i64 at_)∧OEx w args A1 c1∧OCo w of_ A2 c2∧in8 k∧in64 at_
theorem atCo_of {b:Nat}:∀(len o:Nat),(∀i,i < len→ElemCo w b (o+i*4))→∃xs:Cds,xs.len=len∧CdR w (Old w) False xs b o∧szC xs
 |0,_,_=>⟨.nil,rfl,trivial,trivial⟩
 |len+1,o,h=>by
  obtain⟨xs,hl,hx,hz⟩:=atCo_of len (o+4) (fun i hi=>by have:=h (i+1) (by omega);rwa [show o+(i+1)*4=o+4+i*4 from by omega]at this)
  obtain⟨k,args,of_,at_,A1,c1,A2,c2,h0,h1,h2,h3,s1,s2,r0,r3⟩:=h 0 (by omega)
  rw[Nat.zero_mul,Nat.add_zero]at h0 h1 h2 h3
  exact⟨.cons k args of_ at_ xs,by simp only[Cds.len,hl],⟨⟨(cell_in h0).1,fun z=>z.elim,r0,r3,h0,h3⟩,⟨A1,c1,h1,s1.1⟩,⟨A2,c2,h2,s2.1⟩,hx⟩,⟨s1.2.1,s2.2.1,hz⟩⟩
theorem openCo:∀(fuel:Nat) (v:Value) (x:DataW H×List MemPlace),DataW.trod enc Tryz.prog w base spare held fuel 37 [v]=some x→WtOk Tryz.prog 37 x.1→∃(xs:Cds) (A:Option Addr) (c:Nat),v= .slice A xs.len c∧OCo w xs A c:=by
 intro fuel
 induction fuel using Nat.strongRecOn with
 |_ fuel ih=>
 intro v x h hwt
 rcases DataW.trod_slice Tryz.underlying37 h with⟨h0,_⟩|⟨a,len,cap,elems,rest,n,hn,hcs,hx,_,hlc,hcm,hel,hget,_⟩
 ·have h0:=(List.cons.inj h0).1
  exact⟨.nil,none,0,h0,⟨by simp[Cds.len],⟨by decide,by decide⟩,by simp[Cds.len]⟩,trivial,by decide⟩
 ·have hcs:=(List.cons.inj hcs).1
  subst hcs
  rw[hx]at hwt
  have hwt:=wt_slice Tryz.underlying37 hwt
  have hbytes:=hwt.1
  rw[by_Co,List.length_map,List.length_map,hel]at hbytes
  have key:∀i,i < len→ElemCo w a.block (a.off+i*4):=by
   intro i hi
   have hsp:=spot_of (b:=0) (by omega) c_Co hel hget (by omega)
   have h1:=hget i hi
   obtain⟨y,hy⟩:∃y,elems[i]?=some y:=⟨_,List.getElem?_eq_getElem (by omega)⟩
   have hwy:=hwt.2 y.1 (List.mem_map_of_mem (List.mem_of_getElem? hy))
   rw[hy]at h1
   obtain⟨cs',hc,ht⟩:=Option.bind_eq_some_iff.1 h1
   rw[c_Co]at hc
   obtain⟨_,hcl,hat⟩:=World.cells?_some hc
   obtain⟨ys,n',hn',hy2,_,hyl,hf⟩:=DataW.trod_struct Tryz.underlying160 ht
   rw[hy2]at hwy
   have g:∀j,j < 4→∃z,ys[j]?=some z:=fun j hj=>⟨_,List.getElem?_eq_getElem (by rw[hyl];exact hj)⟩
   obtain⟨z0,hz0⟩:=g 0 (by omega)
   obtain⟨f0,e0,w0⟩:=int_field Tryz.underlying5 c_u8 (off:=0) (by omega) ((hf 0 _ rfl).trans hz0)
   obtain⟨z1,hz1⟩:=g 1 (by omega)
   obtain⟨v1,e1,t1⟩:=one_field c_sEx (off:=1) (by omega) ((hf 1 _ rfl).trans hz1)
   have wt1:WtOk Tryz.prog 36 z1.1:=wt_struct Tryz.underlying160 hwy (j:=1) rfl hz1
   obtain⟨f1,A1,c1,rfl,s1⟩:=openEx n' v1 z1 t1 wt1
   obtain⟨z2,hz2⟩:=g 2 (by omega)
   obtain⟨v2,e2,t2⟩:=one_field c_sCo (off:=2) (by omega) ((hf 2 _ rfl).trans hz2)
   have wt2:WtOk Tryz.prog 37 z2.1:=wt_struct Tryz.underlying160 hwy (j:=2) rfl hz2
   obtain⟨f2,A2,c2,rfl,s2⟩:=ih n' (by omega) v2 z2 t2 wt2
   obtain⟨z3,hz3⟩:=g 3 (by omega)
   obtain⟨f3,e3,w3⟩:=int_field Tryz.underlying3 c_int (off:=3) (by omega) ((hf 3 _ rfl).trans hz3)
   have ad:∀j,(a.add (i*4)).add j=⟨a.block,a.off+i*4+j,none⟩:=addr_of hsp _
   refine⟨f0,f1,f2,f3,A1,c1,A2,c2,?_,?_,?_,?_,s1,s2,in8_of_wf w0,in64_of_wf w3⟩
   ·have:=(hat 0 (by omega)).trans e0;rwa [ad]at this
   ·have:=(hat 1 (by omega)).trans e1;rwa [ad]at this
   ·have:=(hat 2 (by omega)).trans e2;rwa [ad]at this
   ·have:=(hat 3 (by omega)).trans e3;rwa [ad]at this
  obtain⟨xs,hl,hx,hz⟩:=atCo_of (w:=w) (b:=a.block) len a.off (fun i hi=>key i hi)
  have hlz:len*64≤140737488351232:=by unfold reachBytes at hbytes;have:len*64≤(len+rest.length)*64:=Nat.mul_le_mul_right _ (by omega);omega
  refine⟨xs,some a,cap,by rw[hl],⟨by rw[hl];exact hlc,⟨by simpa[maxLen]using hcm,by rw[hl];omega⟩,fun hp=>⟨a.block,a.off,?_,hx⟩⟩,hz,by rw[hl];exact hlz⟩
  have:=spot_of (b:=0) (by omega) c_Co hel hget (by omega)
  cases a
  simp_all
theorem c_St:Tryz.prog.cellsOf 39=7:=by kernel_rfl
theorem c_sSt:Tryz.prog.cellsOf 25=1:=by kernel_rfl
theorem by_St:Tryz.prog.bytesOf 39=128:=by kernel_rfl
def OSt (w:World) (xs:Sts) (A:Option Addr) (c:Nat):Prop:=SlR (fun b o=>StR w (Old w) False xs b o) xs.len 128 A c∧(szS xs)∧xs.len*128≤140737488351232
def ElemSt (w:World) (b o:Nat):Prop:=∃(k:Int) (nm:ByteArray) (args:Exs) (cond:Cds) (body:Sts) (els:Sts) (at_:Int) (A2:Option Addr) (c2:Nat) (A3:Option Addr) (c3:Nat) (A4:Option Addr) (c4:Nat) (A5:Option Addr) (c5:Nat),w.cell? ⟨b,o,none⟩=some (.int .u8 k)∧w.cell? ⟨b,o+1,none⟩=some (.string nm)∧w.cell? ⟨b,o+2,none⟩=some (.slice A2 args.len c2)∧w.cell? ⟨b,o+3,none⟩=some (.slice A3 cond.len c3)∧w.cell? ⟨b,o+4,none⟩=some (.slice A4 body.len c4)∧w.cell? ⟨b,o+5,none⟩=some (.slice A5 els.len c5)∧w.cell? ⟨b,o+6,none⟩=some (.int .i64 at_)∧OEx w args A2 c2∧OCo w cond A3 c3∧OSt w body A4 c4∧OSt w els A5 c5∧in8 k∧nm.size≤9223372036854775807∧in64 at_
theorem atSt_of {b:Nat}:∀(len o:Nat),(∀i,i < len→ElemSt w b (o+i*7))→∃xs:Sts,xs.len=len∧StR w (Old w) False xs b o∧szS xs
 |0,_,_=>⟨.nil,rfl,trivial,trivial⟩
 |len+1,o,h=>by
  obtain⟨xs,hl,hx,hz⟩:=atSt_of len (o+7) (fun i hi=>by have:=h (i+1) (by omega);rwa [show o+(i+1)*7=o+7+i*7 from by omega]at this)
  obtain⟨k,nm,args,cond,body,els,at_,A2,c2,A3,c3,A4,c4,A5,c5,h0,h1,h2,h3,h4,h5,h6,s2,s3,s4,s5,r0,r1,r6⟩:=h 0 (by omega)
  rw[Nat.zero_mul,Nat.add_zero]at h0 h1 h2 h3 h4 h5 h6
  exact⟨.cons k nm args cond body els at_ xs,by simp only[Sts.len,hl],⟨⟨(cell_in h0).1,fun z=>z.elim,r0,r6,h0,h1,h6⟩,⟨A2,c2,h2,s2.1⟩,⟨A3,c3,h3,s3.1⟩,⟨A4,c4,h4,s4.1⟩,⟨A5,c5,h5,s5.1⟩,hx⟩,⟨r1,s2.2.1,s3.2.1,s4.2.1,s5.2.1,hz⟩⟩
theorem openSt:∀(fuel:Nat) (v:Value) (x:DataW H×List MemPlace),DataW.trod enc Tryz.prog w base spare held fuel 25 [v]=some x→WtOk Tryz.prog 25 x.1→∃(xs:Sts) (A:Option Addr) (c:Nat),v= .slice A xs.len c∧OSt w xs A c:=by
 intro fuel
 induction fuel using Nat.strongRecOn with
 |_ fuel ih=>
 intro v x h hwt
 rcases DataW.trod_slice Tryz.underlying25 h with⟨h0,_⟩|⟨a,len,cap,elems,rest,n,hn,hcs,hx,_,hlc,hcm,hel,hget,_⟩
 ·have h0:=(List.cons.inj h0).1
  exact⟨.nil,none,0,h0,⟨by simp[Sts.len],⟨by decide,by decide⟩,by simp[Sts.len]⟩,trivial,by decide⟩
 ·have hcs:=(List.cons.inj hcs).1
  subst hcs
  rw[hx]at hwt
  have hwt:=wt_slice Tryz.underlying25 hwt
  have hbytes:=hwt.1
  rw[by_St,List.length_map,List.length_map,hel]at hbytes
  have key:∀i,i < len→ElemSt w a.block (a.off+i*7):=by
   intro i hi
   have hsp:=spot_of (b:=0) (by omega) c_St hel hget (by omega)
   have h1:=hget i hi
   obtain⟨y,hy⟩:∃y,elems[i]?=some y:=⟨_,List.getElem?_eq_getElem (by omega)⟩
   have hwy:=hwt.2 y.1 (List.mem_map_of_mem (List.mem_of_getElem? hy))
   rw[hy]at h1
   obtain⟨cs',hc,ht⟩:=Option.bind_eq_some_iff.1 h1
   rw[c_St]at hc
   obtain⟨_,hcl,hat⟩:=World.cells?_some hc
   obtain⟨ys,n',hn',hy2,_,hyl,hf⟩:=DataW.trod_struct Tryz.underlying39 ht
   rw[hy2]at hwy
   have g:∀j,j < 7→∃z,ys[j]?=some z:=fun j hj=>⟨_,List.getElem?_eq_getElem (by rw[hyl];exact hj)⟩
   obtain⟨z0,hz0⟩:=g 0 (by omega)
   obtain⟨f0,e0,w0⟩:=int_field Tryz.underlying5 c_u8 (off:=0) (by omega) ((hf 0 _ rfl).trans hz0)
   obtain⟨z1,hz1⟩:=g 1 (by omega)
   obtain⟨f1,e1,w1⟩:=str_field Tryz.underlying9 c_str (off:=1) (by omega) ((hf 1 _ rfl).trans hz1)
   obtain⟨z2,hz2⟩:=g 2 (by omega)
   obtain⟨v2,e2,t2⟩:=one_field c_sEx (off:=2) (by omega) ((hf 2 _ rfl).trans hz2)
   have wt2:WtOk Tryz.prog 36 z2.1:=wt_struct Tryz.underlying39 hwy (j:=2) rfl hz2
   obtain⟨f2,A2,c2,rfl,s2⟩:=openEx n' v2 z2 t2 wt2
   obtain⟨z3,hz3⟩:=g 3 (by omega)
   obtain⟨v3,e3,t3⟩:=one_field c_sCo (off:=3) (by omega) ((hf 3 _ rfl).trans hz3)
   have wt3:WtOk Tryz.prog 37 z3.1:=wt_struct Tryz.underlying39 hwy (j:=3) rfl hz3
   obtain⟨f3,A3,c3,rfl,s3⟩:=openCo n' v3 z3 t3 wt3
   obtain⟨z4,hz4⟩:=g 4 (by omega)
   obtain⟨v4,e4,t4⟩:=one_field c_sSt (off:=4) (by omega) ((hf 4 _ rfl).trans hz4)
   have wt4:WtOk Tryz.prog 25 z4.1:=wt_struct Tryz.underlying39 hwy (j:=4) rfl hz4
   obtain⟨f4,A4,c4,rfl,s4⟩:=ih n' (by omega) v4 z4 t4 wt4
   obtain⟨z5,hz5⟩:=g 5 (by omega)
   obtain⟨v5,e5,t5⟩:=one_field c_sSt (off:=5) (by omega) ((hf 5 _ rfl).trans hz5)
   have wt5:WtOk Tryz.prog 25 z5.1:=wt_struct Tryz.underlying39 hwy (j:=5) rfl hz5
   obtain⟨f5,A5,c5,rfl,s5⟩:=ih n' (by omega) v5 z5 t5 wt5
   obtain⟨z6,hz6⟩:=g 6 (by omega)
   obtain⟨f6,e6,w6⟩:=int_field Tryz.underlying3 c_int (off:=6) (by omega) ((hf 6 _ rfl).trans hz6)
   have ad:∀j,(a.add (i*7)).add j=⟨a.block,a.off+i*7+j,none⟩:=addr_of hsp _
   refine⟨f0,f1,f2,f3,f4,f5,f6,A2,c2,A3,c3,A4,c4,A5,c5,?_,?_,?_,?_,?_,?_,?_,s2,s3,s4,s5,in8_of_wf w0,w1,in64_of_wf w6⟩
   ·have:=(hat 0 (by omega)).trans e0;rwa [ad]at this
   ·have:=(hat 1 (by omega)).trans e1;rwa [ad]at this
   ·have:=(hat 2 (by omega)).trans e2;rwa [ad]at this
   ·have:=(hat 3 (by omega)).trans e3;rwa [ad]at this
   ·have:=(hat 4 (by omega)).trans e4;rwa [ad]at this
   ·have:=(hat 5 (by omega)).trans e5;rwa [ad]at this
   ·have:=(hat 6 (by omega)).trans e6;rwa [ad]at this
  obtain⟨xs,hl,hx,hz⟩:=atSt_of (w:=w) (b:=a.block) len a.off (fun i hi=>key i hi)
  have hlz:len*128≤140737488351232:=by unfold reachBytes at hbytes;have:len*128≤(len+rest.length)*128:=Nat.mul_le_mul_right _ (by omega);omega
  refine⟨xs,some a,cap,by rw[hl],⟨by rw[hl];exact hlc,⟨by simpa[maxLen]using hcm,by rw[hl];omega⟩,fun hp=>⟨a.block,a.off,?_,hx⟩⟩,hz,by rw[hl];exact hlz⟩
  have:=spot_of (b:=0) (by omega) c_St hel hget (by omega)
  cases a
  simp_all
theorem c_Va:Tryz.prog.cellsOf 43=2:=by kernel_rfl
theorem c_sVa:Tryz.prog.cellsOf 22=1:=by kernel_rfl
theorem by_Va:Tryz.prog.bytesOf 43=24:=by kernel_rfl
def OVa (w:World) (xs:List Va) (A:Option Addr) (c:Nat):Prop:=SlR (fun b o=>VaR w (Old w) False xs b o) xs.length 24 A c∧(∀x∈xs,x.nm.size≤9223372036854775807)∧xs.length*24≤140737488351232
def ElemVa (w:World) (b o:Nat):Prop:=∃(nm:ByteArray) (at_:Int),w.cell? ⟨b,o,none⟩=some (.string nm)∧w.cell? ⟨b,o+1,none⟩=some (.int .i64 at_)∧nm.size≤9223372036854775807∧in64 at_
theorem atVa_of {b:Nat}:∀(len o:Nat),(∀i,i < len→ElemVa w b (o+i*2))→∃xs:List Va,xs.length=len∧VaR w (Old w) False xs b o∧∀x∈xs,x.nm.size≤9223372036854775807
 |0,_,_=>⟨[],rfl,trivial,fun x hx=>by simp at hx⟩
 |len+1,o,h=>by
  obtain⟨xs,hl,hx,hz⟩:=atVa_of len (o+2) (fun i hi=>by have:=h (i+1) (by omega);rwa [show o+(i+1)*2=o+2+i*2 from by omega]at this)
  obtain⟨nm,at_,h0,h1,r0,r1⟩:=h 0 (by omega)
  rw[Nat.zero_mul,Nat.add_zero]at h0 h1
  exact⟨(⟨nm,at_⟩:Va)::xs,by simp[hl],⟨⟨(cell_in h0).1,fun z=>z.elim,r1,h0,h1⟩,hx⟩,fun y hy=>by
   rcases List.mem_cons.1 hy with rfl|hy
   ·exact r0
   ·exact hz y hy⟩
theorem openVa:∀(fuel:Nat) (v:Value) (x:DataW H×List MemPlace),DataW.trod enc Tryz.prog w base spare held fuel 22 [v]=some x→WtOk Tryz.prog 22 x.1→∃(xs:List Va) (A:Option Addr) (c:Nat),v= .slice A xs.length c∧OVa w xs A c:=by
 intro fuel
 intro v x h hwt
 rcases DataW.trod_slice Tryz.underlying22 h with⟨h0,_⟩|⟨a,len,cap,elems,rest,n,hn,hcs,hx,_,hlc,hcm,hel,hget,_⟩
 ·have h0:=(List.cons.inj h0).1
  exact⟨[],none,0,h0,⟨by simp,⟨by decide,by decide⟩,by simp⟩,fun x hx=>by simp at hx,by decide⟩
 ·have hcs:=(List.cons.inj hcs).1
  subst hcs
  rw[hx]at hwt
  have hwt:=wt_slice Tryz.underlying22 hwt
  have hbytes:=hwt.1
  rw[by_Va,List.length_map,List.length_map,hel]at hbytes
  have key:∀i,i < len→ElemVa w a.block (a.off+i*2):=by
   intro i hi
   have hsp:=spot_of (b:=0) (by omega) c_Va hel hget (by omega)
   have h1:=hget i hi
   obtain⟨y,hy⟩:∃y,elems[i]?=some y:=⟨_,List.getElem?_eq_getElem (by omega)⟩
   have hwy:=hwt.2 y.1 (List.mem_map_of_mem (List.mem_of_getElem? hy))
   rw[hy]at h1
   obtain⟨cs',hc,ht⟩:=Option.bind_eq_some_iff.1 h1
   rw[c_Va]at hc
   obtain⟨_,hcl,hat⟩:=World.cells?_some hc
   obtain⟨ys,n',hn',hy2,_,hyl,hf⟩:=DataW.trod_struct Tryz.underlying43 ht
   rw[hy2]at hwy
   have g:∀j,j < 2→∃z,ys[j]?=some z:=fun j hj=>⟨_,List.getElem?_eq_getElem (by rw[hyl];exact hj)⟩
   obtain⟨z0,hz0⟩:=g 0 (by omega)
   obtain⟨f0,e0,w0⟩:=str_field Tryz.underlying9 c_str (off:=0) (by omega) ((hf 0 _ rfl).trans hz0)
   obtain⟨z1,hz1⟩:=g 1 (by omega)
   obtain⟨f1,e1,w1⟩:=int_field Tryz.underlying3 c_int (off:=1) (by omega) ((hf 1 _ rfl).trans hz1)
   have ad:∀j,(a.add (i*2)).add j=⟨a.block,a.off+i*2+j,none⟩:=addr_of hsp _
   refine⟨f0,f1,?_,?_,w0,in64_of_wf w1⟩
   ·have:=(hat 0 (by omega)).trans e0;rwa [ad]at this
   ·have:=(hat 1 (by omega)).trans e1;rwa [ad]at this
  obtain⟨xs,hl,hx,hz⟩:=atVa_of (w:=w) (b:=a.block) len a.off (fun i hi=>key i hi)
  have hlz:len*24≤140737488351232:=by unfold reachBytes at hbytes;have:len*24≤(len+rest.length)*24:=Nat.mul_le_mul_right _ (by omega);omega
  refine⟨xs,some a,cap,by rw[hl],⟨by rw[hl];exact hlc,⟨by simpa[maxLen]using hcm,by rw[hl];omega⟩,fun hp=>⟨a.block,a.off,?_,hx⟩⟩,hz,by rw[hl];exact hlz⟩
  have:=spot_of (b:=0) (by omega) c_Va hel hget (by omega)
  cases a
  simp_all
theorem c_Ar:Tryz.prog.cellsOf 66=3:=by kernel_rfl
theorem c_sAr:Tryz.prog.cellsOf 23=1:=by kernel_rfl
theorem by_Ar:Tryz.prog.bytesOf 66=32:=by kernel_rfl
def OAr (w:World) (xs:List Arr) (A:Option Addr) (c:Nat):Prop:=SlR (fun b o=>ArR w (Old w) False xs b o) xs.length 32 A c∧(∀x∈xs,x.nm.size≤9223372036854775807)∧xs.length*32≤140737488351232
def ElemAr (w:World) (b o:Nat):Prop:=∃(nm:ByteArray) (size:Int) (at_:Int),w.cell? ⟨b,o,none⟩=some (.string nm)∧w.cell? ⟨b,o+1,none⟩=some (.int .i64 size)∧w.cell? ⟨b,o+2,none⟩=some (.int .i64 at_)∧nm.size≤9223372036854775807∧in64 size∧in64 at_
theorem atAr_of {b:Nat}:∀(len o:Nat),(∀i,i < len→ElemAr w b (o+i*3))→∃xs:List Arr,xs.length=len∧ArR w (Old w) False xs b o∧∀x∈xs,x.nm.size≤9223372036854775807
 |0,_,_=>⟨[],rfl,trivial,fun x hx=>by simp at hx⟩
 |len+1,o,h=>by
  obtain⟨xs,hl,hx,hz⟩:=atAr_of len (o+3) (fun i hi=>by have:=h (i+1) (by omega);rwa [show o+(i+1)*3=o+3+i*3 from by omega]at this)
  obtain⟨nm,size,at_,h0,h1,h2,r0,r1,r2⟩:=h 0 (by omega)
  rw[Nat.zero_mul,Nat.add_zero]at h0 h1 h2
  exact⟨(⟨nm,size,at_⟩:Arr)::xs,by simp[hl],⟨⟨(cell_in h0).1,fun z=>z.elim,r1,r2,h0,h1,h2⟩,hx⟩,fun y hy=>by
   rcases List.mem_cons.1 hy with rfl|hy
   ·exact r0
   ·exact hz y hy⟩
theorem openAr:∀(fuel:Nat) (v:Value) (x:DataW H×List MemPlace),DataW.trod enc Tryz.prog w base spare held fuel 23 [v]=some x→WtOk Tryz.prog 23 x.1→∃(xs:List Arr) (A:Option Addr) (c:Nat),v= .slice A xs.length c∧OAr w xs A c:=by
 intro fuel
 intro v x h hwt
 rcases DataW.trod_slice Tryz.underlying23 h with⟨h0,_⟩|⟨a,len,cap,elems,rest,n,hn,hcs,hx,_,hlc,hcm,hel,hget,_⟩
 ·have h0:=(List.cons.inj h0).1
  exact⟨[],none,0,h0,⟨by simp,⟨by decide,by decide⟩,by simp⟩,fun x hx=>by simp at hx,by decide⟩
 ·have hcs:=(List.cons.inj hcs).1
  subst hcs
  rw[hx]at hwt
  have hwt:=wt_slice Tryz.underlying23 hwt
  have hbytes:=hwt.1
  rw[by_Ar,List.length_map,List.length_map,hel]at hbytes
  have key:∀i,i < len→ElemAr w a.block (a.off+i*3):=by
   intro i hi
   have hsp:=spot_of (b:=0) (by omega) c_Ar hel hget (by omega)
   have h1:=hget i hi
   obtain⟨y,hy⟩:∃y,elems[i]?=some y:=⟨_,List.getElem?_eq_getElem (by omega)⟩
   have hwy:=hwt.2 y.1 (List.mem_map_of_mem (List.mem_of_getElem? hy))
   rw[hy]at h1
   obtain⟨cs',hc,ht⟩:=Option.bind_eq_some_iff.1 h1
   rw[c_Ar]at hc
   obtain⟨_,hcl,hat⟩:=World.cells?_some hc
   obtain⟨ys,n',hn',hy2,_,hyl,hf⟩:=DataW.trod_struct Tryz.underlying66 ht
   rw[hy2]at hwy
   have g:∀j,j < 3→∃z,ys[j]?=some z:=fun j hj=>⟨_,List.getElem?_eq_getElem (by rw[hyl];exact hj)⟩
   obtain⟨z0,hz0⟩:=g 0 (by omega)
   obtain⟨f0,e0,w0⟩:=str_field Tryz.underlying9 c_str (off:=0) (by omega) ((hf 0 _ rfl).trans hz0)
   obtain⟨z1,hz1⟩:=g 1 (by omega)
   obtain⟨f1,e1,w1⟩:=int_field Tryz.underlying3 c_int (off:=1) (by omega) ((hf 1 _ rfl).trans hz1)
   obtain⟨z2,hz2⟩:=g 2 (by omega)
   obtain⟨f2,e2,w2⟩:=int_field Tryz.underlying3 c_int (off:=2) (by omega) ((hf 2 _ rfl).trans hz2)
   have ad:∀j,(a.add (i*3)).add j=⟨a.block,a.off+i*3+j,none⟩:=addr_of hsp _
   refine⟨f0,f1,f2,?_,?_,?_,w0,in64_of_wf w1,in64_of_wf w2⟩
   ·have:=(hat 0 (by omega)).trans e0;rwa [ad]at this
   ·have:=(hat 1 (by omega)).trans e1;rwa [ad]at this
   ·have:=(hat 2 (by omega)).trans e2;rwa [ad]at this
  obtain⟨xs,hl,hx,hz⟩:=atAr_of (w:=w) (b:=a.block) len a.off (fun i hi=>key i hi)
  have hlz:len*32≤140737488351232:=by unfold reachBytes at hbytes;have:len*32≤(len+rest.length)*32:=Nat.mul_le_mul_right _ (by omega);omega
  refine⟨xs,some a,cap,by rw[hl],⟨by rw[hl];exact hlc,⟨by simpa[maxLen]using hcm,by rw[hl];omega⟩,fun hp=>⟨a.block,a.off,?_,hx⟩⟩,hz,by rw[hl];exact hlz⟩
  have:=spot_of (b:=0) (by omega) c_Ar hel hget (by omega)
  cases a
  simp_all
theorem c_Pr:Tryz.prog.cellsOf 68=4:=by kernel_rfl
theorem c_sPr:Tryz.prog.cellsOf 24=1:=by kernel_rfl
theorem by_Pr:Tryz.prog.bytesOf 68=72:=by kernel_rfl
def OPr (w:World) (xs:List Prc) (A:Option Addr) (c:Nat):Prop:=SlR (fun b o=>PrR w (Old w) False xs b o) xs.length 72 A c∧(∀x∈xs,x.nm.size≤9223372036854775807∧(∀y∈x.params,y.nm.size≤9223372036854775807)∧szS x.body)∧xs.length*72≤140737488351232
def ElemPr (w:World) (b o:Nat):Prop:=∃(nm:ByteArray) (params:List Va) (body:Sts) (at_:Int) (A1:Option Addr) (c1:Nat) (A2:Option Addr) (c2:Nat),w.cell? ⟨b,o,none⟩=some (.string nm)∧w.cell? ⟨b,o+1,none⟩=some (.slice A1 params.length c1)∧w.cell? ⟨b,o+2,none⟩=some (.slice A2 body.len c2)∧w.cell? ⟨b,o+3,none⟩=some (.int .i64 at_)∧OVa w params A1 c1∧OSt w body A2 c2∧nm.size≤9223372036854775807∧in64 at_
theorem atPr_of {b:Nat}:∀(len o:Nat),(∀i,i < len→ElemPr w b (o+i*4))→∃xs:List Prc,xs.length=len∧PrR w (Old w) False xs b o∧∀x∈xs,x.nm.size≤9223372036854775807∧(∀y∈x.params,y.nm.size≤9223372036854775807)∧szS x.body
 |0,_,_=>⟨[],rfl,trivial,fun x hx=>by simp at hx⟩
 |len+1,o,h=>by
  obtain⟨xs,hl,hx,hz⟩:=atPr_of len (o+4) (fun i hi=>by have:=h (i+1) (by omega);rwa [show o+(i+1)*4=o+4+i*4 from by omega]at this)
  obtain⟨nm,params,body,at_,A1,c1,A2,c2,h0,h1,h2,h3,s1,s2,r0,r3⟩:=h 0 (by omega)
  rw[Nat.zero_mul,Nat.add_zero]at h0 h1 h2 h3
  exact⟨(⟨nm,params,body,at_⟩:Prc)::xs,by simp[hl],⟨⟨(cell_in h0).1,fun z=>z.elim,r3,h0,h3⟩,⟨A1,c1,h1,s1.1⟩,⟨A2,c2,h2,s2.1⟩,hx⟩,fun y hy=>by
   rcases List.mem_cons.1 hy with rfl|hy
   ·exact⟨r0,s1.2.1,s2.2.1⟩
   ·exact hz y hy⟩
theorem openPr:∀(fuel:Nat) (v:Value) (x:DataW H×List MemPlace),DataW.trod enc Tryz.prog w base spare held fuel 24 [v]=some x→WtOk Tryz.prog 24 x.1→∃(xs:List Prc) (A:Option Addr) (c:Nat),v= .slice A xs.length c∧OPr w xs A c:=by
 intro fuel
 intro v x h hwt
 rcases DataW.trod_slice Tryz.underlying24 h with⟨h0,_⟩|⟨a,len,cap,elems,rest,n,hn,hcs,hx,_,hlc,hcm,hel,hget,_⟩
 ·have h0:=(List.cons.inj h0).1
  exact⟨[],none,0,h0,⟨by simp,⟨by decide,by decide⟩,by simp⟩,fun x hx=>by simp at hx,by decide⟩
 ·have hcs:=(List.cons.inj hcs).1
  subst hcs
  rw[hx]at hwt
  have hwt:=wt_slice Tryz.underlying24 hwt
  have hbytes:=hwt.1
  rw[by_Pr,List.length_map,List.length_map,hel]at hbytes
  have key:∀i,i < len→ElemPr w a.block (a.off+i*4):=by
   intro i hi
   have hsp:=spot_of (b:=0) (by omega) c_Pr hel hget (by omega)
   have h1:=hget i hi
   obtain⟨y,hy⟩:∃y,elems[i]?=some y:=⟨_,List.getElem?_eq_getElem (by omega)⟩
   have hwy:=hwt.2 y.1 (List.mem_map_of_mem (List.mem_of_getElem? hy))
   rw[hy]at h1
   obtain⟨cs',hc,ht⟩:=Option.bind_eq_some_iff.1 h1
   rw[c_Pr]at hc
   obtain⟨_,hcl,hat⟩:=World.cells?_some hc
   obtain⟨ys,n',hn',hy2,_,hyl,hf⟩:=DataW.trod_struct Tryz.underlying68 ht
   rw[hy2]at hwy
   have g:∀j,j < 4→∃z,ys[j]?=some z:=fun j hj=>⟨_,List.getElem?_eq_getElem (by rw[hyl];exact hj)⟩
   obtain⟨z0,hz0⟩:=g 0 (by omega)
   obtain⟨f0,e0,w0⟩:=str_field Tryz.underlying9 c_str (off:=0) (by omega) ((hf 0 _ rfl).trans hz0)
   obtain⟨z1,hz1⟩:=g 1 (by omega)
   obtain⟨v1,e1,t1⟩:=one_field c_sVa (off:=1) (by omega) ((hf 1 _ rfl).trans hz1)
   have wt1:WtOk Tryz.prog 22 z1.1:=wt_struct Tryz.underlying68 hwy (j:=1) rfl hz1
   obtain⟨f1,A1,c1,rfl,s1⟩:=openVa n' v1 z1 t1 wt1
   obtain⟨z2,hz2⟩:=g 2 (by omega)
   obtain⟨v2,e2,t2⟩:=one_field c_sSt (off:=2) (by omega) ((hf 2 _ rfl).trans hz2)
   have wt2:WtOk Tryz.prog 25 z2.1:=wt_struct Tryz.underlying68 hwy (j:=2) rfl hz2
   obtain⟨f2,A2,c2,rfl,s2⟩:=openSt n' v2 z2 t2 wt2
   obtain⟨z3,hz3⟩:=g 3 (by omega)
   obtain⟨f3,e3,w3⟩:=int_field Tryz.underlying3 c_int (off:=3) (by omega) ((hf 3 _ rfl).trans hz3)
   have ad:∀j,(a.add (i*4)).add j=⟨a.block,a.off+i*4+j,none⟩:=addr_of hsp _
   refine⟨f0,f1,f2,f3,A1,c1,A2,c2,?_,?_,?_,?_,s1,s2,w0,in64_of_wf w3⟩
   ·have:=(hat 0 (by omega)).trans e0;rwa [ad]at this
   ·have:=(hat 1 (by omega)).trans e1;rwa [ad]at this
   ·have:=(hat 2 (by omega)).trans e2;rwa [ad]at this
   ·have:=(hat 3 (by omega)).trans e3;rwa [ad]at this
  obtain⟨xs,hl,hx,hz⟩:=atPr_of (w:=w) (b:=a.block) len a.off (fun i hi=>key i hi)
  have hlz:len*72≤140737488351232:=by unfold reachBytes at hbytes;have:len*72≤(len+rest.length)*72:=Nat.mul_le_mul_right _ (by omega);omega
  refine⟨xs,some a,cap,by rw[hl],⟨by rw[hl];exact hlc,⟨by simpa[maxLen]using hcm,by rw[hl];omega⟩,fun hp=>⟨a.block,a.off,?_,hx⟩⟩,hz,by rw[hl];exact hlz⟩
  have:=spot_of (b:=0) (by omega) c_Pr hel hget (by omega)
  cases a
  simp_all
structure BdT (t:Tre):Prop where
 vars:t.vars.length*24≤140737488351232
 arrays:t.arrays.length*32≤140737488351232
 procs:t.procs.length*72≤140737488351232
 main:t.main.len*128≤140737488351232
theorem open_tree {r:Reach} {b0:Nat} {v:Value} {d:DataW H} {p:List MemPlace} (hv:Value.okWide Tryz.prog w r b0 27 v) (h:DataW.Trod enc Tryz.prog w base spare held 27 v d p) (hwt:WtOk Tryz.prog 27 d):
  ∃(t:Tre) (Av Aa Ap Am:Option Addr) (cv ca cp cm:Nat),v=trV t Av Aa Ap Am cv ca cp cm∧TrR w (Old w) False t Av Aa Ap Am cv ca cp cm∧SzT t∧BdT t:=by
 have hs:=Tryz.underlying27
 obtain⟨cs,rfl,hsz⟩:=okWide_struct hs hv
 obtain⟨l⟩:=cs
 match l,hsz.trans (show Tryz.prog.cellsOf 27=4 by kernel_rfl)with
 | [c0,c1,c2,c3],_=>
  obtain⟨fuel,hf⟩:=h
  obtain⟨xs,n,_,hx,_,hlen,hg⟩:=DataW.trod_struct hs hf
  match xs,hlen with
  | [y0,y1,y2,y3],_=>
   have hd:=(Prod.mk.inj hx).1
   rw[hd]at hwt
   obtain⟨v0,e0,t0⟩:=one_field (cs:= [c0,c1,c2,c3]) c_sVa (off:=0) (by simp) (hg 0 _ rfl)
   obtain⟨v1,e1,t1⟩:=one_field (cs:= [c0,c1,c2,c3]) c_sAr (off:=1) (by simp) (hg 1 _ rfl)
   obtain⟨v2,e2,t2⟩:=one_field (cs:= [c0,c1,c2,c3]) c_sPr (off:=2) (by simp) (hg 2 _ rfl)
   obtain⟨v3,e3,t3⟩:=one_field (cs:= [c0,c1,c2,c3]) c_sSt (off:=3) (by simp) (hg 3 _ rfl)
   simp only[List.getElem?_cons_zero,List.getElem?_cons_succ,Option.some.injEq]at e0 e1 e2 e3
   subst e0 e1 e2 e3
   obtain⟨vs,Av,cv,rfl,sv⟩:=openVa n c0 y0 t0 (wt_struct hs hwt (j:=0) rfl rfl)
   obtain⟨xs,Aa,ca,rfl,sa⟩:=openAr n c1 y1 t1 (wt_struct hs hwt (j:=1) rfl rfl)
   obtain⟨ps,Ap,cp,rfl,sp⟩:=openPr n c2 y2 t2 (wt_struct hs hwt (j:=2) rfl rfl)
   obtain⟨ss,Am,cm,rfl,sm⟩:=openSt n c3 y3 t3 (wt_struct hs hwt (j:=3) rfl rfl)
   exact⟨⟨vs,xs,ps,ss⟩,Av,Aa,Ap,Am,cv,ca,cp,cm,rfl,⟨sv.1,sa.1,sp.1,sm.1⟩,⟨sv.2.1,sa.2.1,sp.2.1,sm.2.1⟩,⟨sv.2.2,sa.2.2,sp.2.2,sm.2.2⟩⟩
end
end Go.Proofs.YtmopichdofgndaaGreatDoor
