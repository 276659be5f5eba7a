/-
  The frame of chapter 13's laws: what a graph that came in is, in memory.
-/
import Derived.Test.YtphlnpaikpjakaaJnCk3
import Derived.ChangeArms
import Derived.OpenShut
namespace Go.Proofs.Ytphlnpaikpjakaa
open Go.RowKit

section
variable {H:Type} {enc:TypeId×Value→H} {w:World} {base:Nat} {spare:Nat→Bool} {held:Bool}

theorem cell_in {a:Addr} {v:Value} (h:w.cell? a=some v):a.block < w.heap.size∧a.spot=none:=by
 unfold World.cell? at h
 cases hb:w.heap[a.block]? with
 |none=>rw[hb]at h;exact absurd h (by simp)
 |some o=>
  refine⟨(Array.getElem?_eq_some_iff.1 hb).1,?_⟩
  rw[hb]at h
  cases o<;>simp at h
  all_goals first|exact h.1|(cases hs:a.spot<;>simp_all)
theorem take_one {cs:List Value} {off:Nat} {v:Value} (h:cs[off]?=some v):(cs.drop off).take 1= [v]:=by
 obtain⟨hi,rfl⟩:=List.getElem?_eq_some_iff.1 h
 rw[List.drop_eq_getElem_cons hi]
 rfl
theorem int_field {k:IntKind} {t:TypeId} {n:Nat} {off:Nat} {cs:List Value} {y:DataW H×List MemPlace} (ht:Try.prog.underlying t=some (.int k)) (hc:Try.prog.cellsOf t=1) (ho:off < cs.length)
  (h:DataW.trod enc Try.prog w base spare held n t ((cs.drop off).take (Try.prog.cellsOf t))=some y):∃v,cs[off]?=some (.int k v)∧(Lit.int k v).wf =true:=by
 rw[hc,take_one (List.getElem?_eq_getElem ho)]at h
 obtain⟨v,hv,_,hw⟩:=DataW.trod_int ht h
 exact⟨v,(List.getElem?_eq_getElem ho).trans (congrArg some (List.cons.inj hv).1),hw⟩
theorem str_field {t:TypeId} {n:Nat} {off:Nat} {cs:List Value} {y:DataW H×List MemPlace} (ht:Try.prog.underlying t=some .string) (hc:Try.prog.cellsOf t=1) (ho:off < cs.length)
  (h:DataW.trod enc Try.prog w base spare held n t ((cs.drop off).take (Try.prog.cellsOf t))=some y):∃s,cs[off]?=some (.string s):=by
 rw[hc,take_one (List.getElem?_eq_getElem ho)]at h
 obtain⟨s,hv,_⟩:=DataW.trod_string ht h
 exact⟨s,(List.getElem?_eq_getElem ho).trans (congrArg some (List.cons.inj hv).1)⟩

def ElemX (w:World) (b o:Nat):Prop:=
 ∃(k:Int) (nm:ByteArray) (n:Int) (args:Exs) (at_:Int) (A:Option Addr) (c:Nat),w.cell? ⟨b,o,none⟩=some (.int .u8 k)∧w.cell? ⟨b,o+1,none⟩=some (.string nm)∧w.cell? ⟨b,o+2,none⟩=some (.int .i64 n)∧
  w.cell? ⟨b,o+3,none⟩=some (.slice A args.len c)∧ExSl w w.heap.size args A c∧w.cell? ⟨b,o+4,none⟩=some (.int .i64 at_)∧in8 k∧in64 n∧in64 at_
theorem exAt_of {b:Nat}:∀(len o:Nat),(∀i,i < len→ElemX w b (o+i*5))→∃xs:Exs,xs.len=len∧ExAt w w.heap.size xs b o
 |0,_,_=>⟨.nil,rfl,trivial⟩
 |len+1,o,h=>by
  obtain⟨xs,hl,hx⟩:=exAt_of len (o+5) (fun i hi=>by have:=h (i+1) (by omega);rwa [show o+(i+1)*5=o+5+i*5 from by omega]at this)
  obtain⟨k,nm,n,args,at_,A,c,h0,h1,h2,h3,hs,h4,r0,r1,r2⟩:=h 0 (by omega)
  rw[Nat.zero_mul,Nat.add_zero]at h0 h1 h2 h3 h4
  exact⟨.cons k nm n args at_ xs,by simp[Exs.len,hl],(cell_in h0).1,h0,h1,h2,⟨A,c,h3,hs.1,hs.2.1,hs.2.2⟩,h4,r0,r1,r2,hx⟩
theorem in64_of_wf {a:Int} (h:(Lit.int .i64 a).wf =true):in64 a:=by simpa[in64,Lit.wf,IntKind.min,IntKind.max,IntKind.signed,IntKind.bits]using h
theorem in8_of_wf {a:Int} (h:(Lit.int .u8 a).wf =true):in8 a:=by simpa[in8,Lit.wf,IntKind.min,IntKind.max,IntKind.signed,IntKind.bits]using h
theorem c_u8:Try.prog.cellsOf 5=1:=by kernel_rfl
theorem c_str:Try.prog.cellsOf 9=1:=by kernel_rfl
theorem c_int:Try.prog.cellsOf 3=1:=by kernel_rfl
theorem c_exs:Try.prog.cellsOf 42=1:=by kernel_rfl
theorem c_ex:Try.prog.cellsOf 63=5:=by kernel_rfl

set_option maxRecDepth 100000 in
theorem open_exprs:∀(fuel:Nat) (v:Value) (x:DataW H×List MemPlace),DataW.trod enc Try.prog w base spare held fuel 42 [v]=some x→∃(xs:Exs) (A:Option Addr) (c:Nat),v= .slice A xs.len c∧ExSl w w.heap.size xs A c:=by
 intro fuel
 induction fuel using Nat.strongRecOn with
 |_ fuel ih=>
 intro v x h
 rcases DataW.trod_slice Try.underlying42 h with⟨h0,_⟩|⟨a,len,cap,elems,rest,n,hn,hcs,_,_,hlc,hcm,hel,hget,_⟩
 ·have h0:=(List.cons.inj h0).1
  exact⟨.nil,none,0,h0,by simp[Exs.len],by decide,by simp[Exs.len]⟩
 ·have hcs:=(List.cons.inj hcs).1
  subst hcs
  have hspot:0 < len→a.spot=none:=by
   intro hi
   have h1:=hget 0 hi
   obtain⟨y,hy⟩:∃y,elems[0]?=some y:=⟨_,List.getElem?_eq_getElem (by omega)⟩
   rw[hy]at h1
   obtain⟨cs',hc,_⟩:=Option.bind_eq_some_iff.1 h1
   rw[c_ex]at hc
   obtain⟨_,hcl,hat⟩:=World.cells?_some hc
   have h2:=(hat 0 (by omega)).trans (List.getElem?_eq_getElem (by omega))
   rw[Nat.zero_mul]at h2
   exact(cell_in (a:=a) h2).2
  have key:∀i,i < len→ElemX w a.block (a.off+i*5):=by
   intro i hi
   have hsp:=hspot (by omega)
   have h1:=hget i hi
   obtain⟨y,hy⟩:∃y,elems[i]?=some y:=⟨_,List.getElem?_eq_getElem (by omega)⟩
   rw[hy]at h1
   obtain⟨cs',hc,ht⟩:=Option.bind_eq_some_iff.1 h1
   rw[c_ex]at hc
   obtain⟨_,hcl,hat⟩:=World.cells?_some hc
   obtain⟨ys,n',hn',_,_,hyl,hf⟩:=DataW.trod_struct Try.underlying63 ht
   have g:∀j,j < 5→∃z,ys[j]?=some z:=fun j hj=>⟨_,List.getElem?_eq_getElem (by rw[hyl];exact hj)⟩
   obtain⟨z0,hz0⟩:=g 0 (by omega)
   obtain⟨z1,hz1⟩:=g 1 (by omega)
   obtain⟨z2,hz2⟩:=g 2 (by omega)
   obtain⟨z3,hz3⟩:=g 3 (by omega)
   obtain⟨z4,hz4⟩:=g 4 (by omega)
   obtain⟨k,e0,w0⟩:=int_field Try.underlying5 c_u8 (off:=0) (by omega) ((hf 0 _ rfl).trans hz0)
   obtain⟨nm,e1⟩:=str_field Try.underlying9 c_str (off:=1) (by omega) ((hf 1 _ rfl).trans hz1)
   obtain⟨m,e2,w2⟩:=int_field Try.underlying3 c_int (off:=2) (by omega) ((hf 2 _ rfl).trans hz2)
   have h3:=(hf 3 _ rfl).trans hz3
   obtain⟨v3,e3⟩:∃v3,cs'[3]?=some v3:=⟨_,List.getElem?_eq_getElem (by omega)⟩
   have h3':DataW.trod enc Try.prog w base spare held n' 42 [v3]=some z3:=by
    have h4:(cs'.drop 3).take (Try.prog.cellsOf 42)= [v3]:=by rw[c_exs];exact take_one e3
    rw[←h4];exact h3
   obtain⟨args,A,c,rfl,hsl⟩:=ih n' (by omega) v3 z3 h3'
   obtain⟨p,e4,w4⟩:=int_field Try.underlying3 c_int (off:=4) (by omega) ((hf 4 _ rfl).trans hz4)
   have ad:∀j,(a.add (i*5)).add j=⟨a.block,a.off+i*5+j,none⟩:=fun j=>by
    unfold Addr.add
    by_cases h1:i*5=0<;>by_cases h2:j=0<;>simp[h1,h2]
    all_goals(cases a;simp_all)
   refine⟨k,nm,m,args,p,A,c,?_,?_,?_,?_,hsl,?_,in8_of_wf w0,in64_of_wf w2,in64_of_wf w4⟩
   ·have:=(hat 0 (by omega)).trans e0;rwa [ad]at this
   ·have:=(hat 1 (by omega)).trans e1;rwa [ad]at this
   ·have:=(hat 2 (by omega)).trans e2;rwa [ad]at this
   ·have:=(hat 3 (by omega)).trans e3;rwa [ad]at this
   ·have:=(hat 4 (by omega)).trans e4;rwa [ad]at this
  obtain⟨xs,hl,hx⟩:=exAt_of (w:=w) (b:=a.block) len a.off (fun i hi=>key i hi)
  refine⟨xs,some a,cap,by rw[hl],by rw[hl];exact hlc,by simpa[maxLen]using hcm,fun hp=>⟨a.block,a.off,?_,hx⟩⟩
  have:=hspot (by omega)
  cases a
  simp_all
end
end Go.Proofs.Ytphlnpaikpjakaa
