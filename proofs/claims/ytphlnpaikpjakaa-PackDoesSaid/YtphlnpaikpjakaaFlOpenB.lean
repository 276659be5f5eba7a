/-
  The frame of chapter 13's laws: edges, numbers, graphs that came in.
-/
import Derived.Test.YtphlnpaikpjakaaFlOpen
namespace Go.Proofs.Ytphlnpaikpjakaa
open Go.RowKit

section
variable {H:Type} {enc:TypeId×Value→H} {w:World} {base:Nat} {spare:Nat→Bool} {held:Bool}

theorem edAt_of {b:Nat}:∀(len o:Nat),(∀i,i < len→∃e:Ed,e.ok∧w.cell? ⟨b,o+i*7,none⟩=some (.int .i64 e.from_)∧w.cell? ⟨b,o+i*7+1,none⟩=some (.int .i64 e.to_)∧w.cell? ⟨b,o+i*7+2,none⟩=some (.int .u8 e.kind)∧
  w.cell? ⟨b,o+i*7+3,none⟩=some (.int .i64 e.n)∧w.cell? ⟨b,o+i*7+4,none⟩=some (.int .u8 e.cmp)∧(∃A c,w.cell? ⟨b,o+i*7+5,none⟩=some (.slice A e.args.len c)∧ExSl w w.heap.size e.args A c)∧w.cell? ⟨b,o+i*7+6,none⟩=some (.int .i64 e.at_))→
  ∃l:List Ed,l.length=len∧EdAt w w.heap.size l b o
 |0,_,_=>⟨[],rfl,trivial⟩
 |len+1,o,h=>by
  obtain⟨l,hl,hx⟩:=edAt_of len (o+7) (fun i hi=>by have:=h (i+1) (by omega);rwa [show o+(i+1)*7=o+7+i*7 from by omega]at this)
  obtain⟨e,hok,h0,h1,h2,h3,h4,h5,h6⟩:=h 0 (by omega)
  rw[Nat.zero_mul,Nat.add_zero]at h0 h1 h2 h3 h4 h5 h6
  exact⟨e::l,by simp[hl],(cell_in h0).1,h0,h1,h2,h3,h4,h5,h6,hok,hx⟩
theorem c_ed:Try.prog.cellsOf 46=7:=by kernel_rfl
theorem c_do:Try.prog.cellsOf 44=4:=by kernel_rfl
theorem c_eds:Try.prog.cellsOf 23=1:=by kernel_rfl
theorem c_ints:Try.prog.cellsOf 22=1:=by kernel_rfl

set_option maxRecDepth 100000 in
theorem open_edges (fuel:Nat) (v:Value) (x:DataW H×List MemPlace) (h:DataW.trod enc Try.prog w base spare held fuel 23 [v]=some x):∃(l:List Ed) (A:Option Addr) (c:Nat),v= .slice A l.length c∧EdSl w w.heap.size l A c:=by
 rcases DataW.trod_slice Try.underlying23 h with⟨h0,_⟩|⟨a,len,cap,elems,rest,n,hn,hcs,_,_,hlc,hcm,hel,hget,_⟩
 ·have h0:=(List.cons.inj h0).1
  exact⟨[],none,0,h0,by simp,by decide,by simp⟩
 ·have hcs:=(List.cons.inj hcs).1
  subst hcs
  have hspot:0 < len→a.spot=none:=by
   intro hi
   have h1:=hget 0 hi
   obtain⟨y,hy⟩:∃y,elems[0]?=some y:=⟨_,List.getElem?_eq_getElem (by omega)⟩
   rw[hy]at h1
   obtain⟨cs',hc,_⟩:=Option.bind_eq_some_iff.1 h1
   rw[c_ed]at hc
   obtain⟨_,hcl,hat⟩:=World.cells?_some hc
   have h2:=(hat 0 (by omega)).trans (List.getElem?_eq_getElem (by omega))
   rw[Nat.zero_mul]at h2
   exact(cell_in (a:=a) h2).2
  obtain⟨l,hl,hx⟩:=edAt_of (w:=w) (b:=a.block) len a.off (fun i hi=>by
   have hsp:=hspot (by omega)
   have h1:=hget i hi
   obtain⟨y,hy⟩:∃y,elems[i]?=some y:=⟨_,List.getElem?_eq_getElem (by omega)⟩
   rw[hy]at h1
   obtain⟨cs',hc,ht⟩:=Option.bind_eq_some_iff.1 h1
   rw[c_ed]at hc
   obtain⟨_,hcl,hat⟩:=World.cells?_some hc
   obtain⟨ys,n',hn',_,_,hyl,hf⟩:=DataW.trod_struct Try.underlying46 ht
   have g:∀j,j < 4→∃z,ys[j]?=some z:=fun j hj=>⟨_,List.getElem?_eq_getElem (by rw[hyl];exact hj)⟩
   obtain⟨z0,hz0⟩:=g 0 (by omega)
   obtain⟨z1,hz1⟩:=g 1 (by omega)
   obtain⟨z2,hz2⟩:=g 2 (by omega)
   obtain⟨z3,hz3⟩:=g 3 (by omega)
   obtain⟨fr,e0,w0⟩:=int_field Try.underlying3 c_int (off:=0) (by omega) ((hf 0 _ rfl).trans hz0)
   obtain⟨tt,e1,w1⟩:=int_field Try.underlying3 c_int (off:=1) (by omega) ((hf 1 _ rfl).trans hz1)
   obtain⟨p,e6,w6⟩:=int_field Try.underlying3 c_int (off:=6) (by omega) ((hf 3 _ rfl).trans hz3)
   have hd:=(hf 2 _ rfl).trans hz2
   have hd2:DataW.trod enc Try.prog w base spare held n' 44 ((cs'.drop 2).take 4)=some z2:=by
    have h9:(cs'.drop 2).take (Try.prog.cellsOf 44)=(cs'.drop 2).take 4:=by rw[c_do]
    rw[←h9]
    exact hd
   have sub:∀j,j < 4→((cs'.drop 2).take 4)[j]?=cs'[2+j]?:=fun j hj=>by rw[List.getElem?_take,if_pos hj,List.getElem?_drop]
   have hdl:((cs'.drop 2).take 4).length =4:=by simp;omega
   obtain⟨us,n2,hn2,_,_,hul,hg⟩:=DataW.trod_struct Try.underlying44 hd2
   have g':∀j,j < 4→∃z,us[j]?=some z:=fun j hj=>⟨_,List.getElem?_eq_getElem (by rw[hul];exact hj)⟩
   obtain⟨u0,hu0⟩:=g' 0 (by omega)
   obtain⟨u1,hu1⟩:=g' 1 (by omega)
   obtain⟨u2,hu2⟩:=g' 2 (by omega)
   obtain⟨u3,hu3⟩:=g' 3 (by omega)
   obtain⟨k,e2,w2⟩:=int_field Try.underlying5 c_u8 (off:=0) (by omega) ((hg 0 _ rfl).trans hu0)
   obtain⟨m,e3,w3⟩:=int_field Try.underlying3 c_int (off:=1) (by omega) ((hg 1 _ rfl).trans hu1)
   obtain⟨cm,e4,w4⟩:=int_field Try.underlying5 c_u8 (off:=2) (by omega) ((hg 2 _ rfl).trans hu2)
   rw[sub 0 (by omega)]at e2
   rw[sub 1 (by omega)]at e3
   rw[sub 2 (by omega)]at e4
   have h3:=(hg 3 _ rfl).trans hu3
   obtain⟨v3,e5⟩:∃v3,cs'[5]?=some v3:=⟨_,List.getElem?_eq_getElem (by omega)⟩
   have h3':DataW.trod enc Try.prog w base spare held n2 42 [v3]=some u3:=by
    have h4:(((cs'.drop 2).take 4).drop 3).take (Try.prog.cellsOf 42)= [v3]:=by rw[c_exs];exact take_one ((sub 3 (by omega)).trans e5)
    rw[←h4];exact h3
   obtain⟨args,A,c,rfl,hsl⟩:=open_exprs n2 v3 u3 h3'
   have ad:∀j,(a.add (i*7)).add j=⟨a.block,a.off+i*7+j,none⟩:=fun j=>by
    unfold Addr.add
    by_cases h1:i*7=0<;>by_cases h2:j=0<;>simp[h1,h2]
    all_goals(cases a;simp_all)
   refine⟨⟨fr,tt,k,m,cm,args,p⟩,⟨in64_of_wf w0,in64_of_wf w1,in8_of_wf w2,in64_of_wf w3,in8_of_wf w4,in64_of_wf w6⟩,?_,?_,?_,?_,?_,⟨A,c,?_,hsl⟩,?_⟩
   ·have:=(hat 0 (by omega)).trans e0;rwa [ad]at this
   ·have:=(hat 1 (by omega)).trans e1;rwa [ad]at this
   ·have:=(hat 2 (by omega)).trans e2;rwa [ad]at this
   ·have:=(hat 3 (by omega)).trans e3;rwa [ad]at this
   ·have:=(hat 4 (by omega)).trans e4;rwa [ad]at this
   ·have:=(hat 5 (by omega)).trans e5;rwa [ad]at this
   ·have:=(hat 6 (by omega)).trans e6;rwa [ad]at this)
  refine⟨l,some a,cap,by rw[hl],by rw[hl];exact hlc,by simpa[maxLen]using hcm,fun hp=>⟨a.block,a.off,?_,hx⟩⟩
  have:=hspot (by omega)
  cases a
  simp_all
end
end Go.Proofs.Ytphlnpaikpjakaa
