/-
  A tree that came in as an argument: how much of it there is, by its reading's bulk.
-/
import Derived.Test.YtmopichdofgndaaGreatDoorTrOpen
set_option linter.unusedVariables false
set_option linter.unusedSimpArgs false
namespace Go.Proofs.YtmopichdofgndaaGreatDoor
open Go.RowKit Go.Shelf Go.ChangeShapes Go.WideShapes

def mX:Exs→Nat
 | .nil =>0
 | .cons _ nm _ args _ r=>1+nm.size+mX args+mX r
def mC:Cds→Nat
 | .nil =>0
 | .cons _ args of_ _ r=>1+mX args+mC of_+mC r
def mS:Sts→Nat
 | .nil =>0
 | .cons _ nm args cond body els _ r=>1+nm.size+mX args+mC cond+mS body+mS els+mS r
def mV:List Va→Nat
 | []=>0
 |v::r=>1+v.nm.size+mV r
def mA:List Arr→Nat
 | []=>0
 |v::r=>1+v.nm.size+mA r
def mP:List Prc→Nat
 | []=>0
 |p::r=>1+p.nm.size+mV p.params+mS p.body+mP r
def mT (t:Tre):Nat:=mV t.vars+mA t.arrays+mP t.procs+mS t.main
theorem add_aB (b o k:Nat):(⟨b,o,none⟩:Addr).add k=⟨b,o+k,none⟩:=by
 unfold Addr.add;split<;>simp_all
section
variable {H:Type} {enc:TypeId×Value→H} {w:World} {base:Nat} {spare:Nat→Bool} {held:Bool}

theorem bk_str {t:TypeId} {n off:Nat} {cs:List Value} {y:DataW H×List MemPlace} {s:ByteArray} (ht:Tryz.prog.underlying t=some .string) (hc:Tryz.prog.cellsOf t=1) (hs:cs[off]?=some (.string s))
  (h:DataW.trod enc Tryz.prog w base spare held n t ((cs.drop off).take (Tryz.prog.cellsOf t))=some y):Rows.uptoBulk y.1=s.size+1:=by
 rw[hc,take_one hs]at h
 obtain⟨s',hv,hx,_⟩:=DataW.trod_string ht h
 cases hv
 rw[hx]
 simp only[Rows.uptoBulk,Array.length_toList]
 rfl
theorem bk_sl {t e:TypeId} {m len c M sz:Nat} {A:Option Addr} {R:Nat→Nat→Prop} (ht:Tryz.prog.underlying t=some (.slice e)) (hc:Tryz.prog.cellsOf e=m) (h:SlR R len sz A c) (h0:len=0→M=0)
  (ih:∀b o,R b o→∀(elems:List (DataW H×List MemPlace)) (n:Nat),elems.length=len→(∀i,i < len→(w.cells? base ⟨b,o+i*m,none⟩ m).bind (DataW.trod enc Tryz.prog w base spare held n e)=elems[i]?)→M≤Rows.uptoBulkAll (elems.map (·.1)))
  {fuel:Nat} {z:DataW H×List MemPlace} (hz:DataW.trod enc Tryz.prog w base spare held fuel t [.slice A len c]=some z):M≤Rows.uptoBulk z.1:=by
 rcases DataW.trod_slice ht hz with⟨h1,_⟩|⟨a,len',cap,elems,rest,n,_,hcs,hx,_,_,_,hel,hget,_⟩
 ·have h1:=(List.cons.inj h1).1
  injection h1 with _ h2 _
  rw[h0 h2];exact Nat.zero_le _
 ·have hcs:=(List.cons.inj hcs).1
  injection hcs with e1 e2 _
  subst e1 e2
  by_cases hl:len=0
  ·rw[h0 hl];exact Nat.zero_le _
  ·obtain⟨b,o,ea,hr⟩:=h.2.2 (by omega)
   have ea:=Option.some.inj ea
   subst ea
   have h2:=ih b o hr elems n hel fun i hi=>by
    have h3:=hget i hi
    rw[hc,add_aB]at h3
    exact h3
   rw[hx]
   simp only[Rows.uptoBulk]
   omega
theorem bk_slf {t e:TypeId} {m len c M sz n off:Nat} {A:Option Addr} {R:Nat→Nat→Prop} {cs:List Value} (ht:Tryz.prog.underlying t=some (.slice e)) (hc1:Tryz.prog.cellsOf t=1) (hc:Tryz.prog.cellsOf e=m) (h:SlR R len sz A c) (h0:len=0→M=0)
  (ih:∀b o,R b o→∀(elems:List (DataW H×List MemPlace)) (n:Nat),elems.length=len→(∀i,i < len→(w.cells? base ⟨b,o+i*m,none⟩ m).bind (DataW.trod enc Tryz.prog w base spare held n e)=elems[i]?)→M≤Rows.uptoBulkAll (elems.map (·.1)))
  {z:DataW H×List MemPlace} (hs:cs[off]?=some (.slice A len c)) (hz:DataW.trod enc Tryz.prog w base spare held n t ((cs.drop off).take (Tryz.prog.cellsOf t))=some z):M≤Rows.uptoBulk z.1:=by
 rw[hc1,take_one hs]at hz
 exact bk_sl ht hc h h0 ih hz
theorem mX_0:∀ {xs:Exs},xs.len=0→mX xs=0
 | .nil,_=>rfl
 | .cons _ _ _ _ _ _,h=>by simp[Exs.len]at h
theorem mC_0:∀ {xs:Cds},xs.len=0→mC xs=0
 | .nil,_=>rfl
 | .cons _ _ _ _ _,h=>by simp[Cds.len]at h
theorem mS_0:∀ {xs:Sts},xs.len=0→mS xs=0
 | .nil,_=>rfl
 | .cons _ _ _ _ _ _ _ _,h=>by simp[Sts.len]at h
theorem mV_0:∀ {xs:List Va},xs.length=0→mV xs=0
 | [],_=>rfl
theorem mA_0:∀ {xs:List Arr},xs.length=0→mA xs=0
 | [],_=>rfl
theorem mP_0:∀ {xs:List Prc},xs.length=0→mP xs=0
 | [],_=>rfl
theorem bkEx {S:Nat→Prop} {Z:Prop}:∀(xs:Exs) (b o:Nat),ExR w S Z xs b o→∀(elems:List (DataW H×List MemPlace)) (n:Nat),elems.length=xs.len→(∀i,i < xs.len→(w.cells? base ⟨b,o+i*5,none⟩ 5).bind (DataW.trod enc Tryz.prog w base spare held n 41)=elems[i]?)→mX xs≤Rows.uptoBulkAll (elems.map (·.1))
 | .nil,_,_,_,_,_,_,_=>Nat.zero_le _
 | .cons k nm n1 args at_ r,b,o,⟨⟨_,_,_,_,_,h0,h1,h2,h4⟩,⟨A3,c3,h3,s3⟩,hr⟩,elems,n,hl,hg=>by
  cases elems with
  |nil=>simp[Exs.len]at hl
  |cons y el=>
   have hrest:=bkEx r b (o+5) hr el n (by simpa[Exs.len]using hl) (fun i hi=>by
    have:=hg (i+1) (by simp only[Exs.len];omega)
    rwa [show o+(i+1)*5=o+5+i*5 from by omega,List.getElem?_cons_succ]at this)
   have g0:=hg 0 (by simp[Exs.len])
   simp only[Nat.zero_mul,Nat.add_zero,List.getElem?_cons_zero]at g0
   obtain⟨cs,hc,ht⟩:=Option.bind_eq_some_iff.1 g0
   obtain⟨_,hcl,hat⟩:=World.cells?_some hc
   obtain⟨ys,n',_,hy,_,hyl,hf⟩:=DataW.trod_struct Tryz.underlying41 ht
   have a1:=(hat 1 (by omega)).symm
   rw[add_aB]at a1
   have a1:=a1.trans h1
   have a3:=(hat 3 (by omega)).symm
   rw[add_aB]at a3
   have a3:=a3.trans h3
   match ys,hyl,hy,hf with
   | [z0,z1,z2,z3,z4],_,hy,hf=>
    have e1:=bk_str (off:=1) Tryz.underlying9 c_str a1 (hf 1 _ rfl)
    have e3:=bk_slf (off:=3) (M:=mX args) Tryz.underlying36 c_sEx c_Ex s3 mX_0 (fun b o h=>bkEx args b o h) a3 (hf 3 _ rfl)
    simp only[mX,List.map_cons,List.map_nil,Rows.uptoBulkAll,hy,Rows.uptoBulk]
    omega
theorem bkCo {S:Nat→Prop} {Z:Prop}:∀(xs:Cds) (b o:Nat),CdR w S Z xs b o→∀(elems:List (DataW H×List MemPlace)) (n:Nat),elems.length=xs.len→(∀i,i < xs.len→(w.cells? base ⟨b,o+i*4,none⟩ 4).bind (DataW.trod enc Tryz.prog w base spare held n 160)=elems[i]?)→mC xs≤Rows.uptoBulkAll (elems.map (·.1))
 | .nil,_,_,_,_,_,_,_=>Nat.zero_le _
 | .cons k args of_ at_ r,b,o,⟨⟨_,_,_,_,h0,h3⟩,⟨A1,c1,h1,s1⟩,⟨A2,c2,h2,s2⟩,hr⟩,elems,n,hl,hg=>by
  cases elems with
  |nil=>simp[Cds.len]at hl
  |cons y el=>
   have hrest:=bkCo r b (o+4) hr el n (by simpa[Cds.len]using hl) (fun i hi=>by
    have:=hg (i+1) (by simp only[Cds.len];omega)
    rwa [show o+(i+1)*4=o+4+i*4 from by omega,List.getElem?_cons_succ]at this)
   have g0:=hg 0 (by simp[Cds.len])
   simp only[Nat.zero_mul,Nat.add_zero,List.getElem?_cons_zero]at g0
   obtain⟨cs,hc,ht⟩:=Option.bind_eq_some_iff.1 g0
   obtain⟨_,hcl,hat⟩:=World.cells?_some hc
   obtain⟨ys,n',_,hy,_,hyl,hf⟩:=DataW.trod_struct Tryz.underlying160 ht
   have a1:=(hat 1 (by omega)).symm
   rw[add_aB]at a1
   have a1:=a1.trans h1
   have a2:=(hat 2 (by omega)).symm
   rw[add_aB]at a2
   have a2:=a2.trans h2
   match ys,hyl,hy,hf with
   | [z0,z1,z2,z3],_,hy,hf=>
    have e1:=bk_slf (off:=1) (M:=mX args) Tryz.underlying36 c_sEx c_Ex s1 mX_0 (fun b o h=>bkEx args b o h) a1 (hf 1 _ rfl)
    have e2:=bk_slf (off:=2) (M:=mC of_) Tryz.underlying37 c_sCo c_Co s2 mC_0 (fun b o h=>bkCo of_ b o h) a2 (hf 2 _ rfl)
    simp only[mC,List.map_cons,List.map_nil,Rows.uptoBulkAll,hy,Rows.uptoBulk]
    omega
theorem bkSt {S:Nat→Prop} {Z:Prop}:∀(xs:Sts) (b o:Nat),StR w S Z xs b o→∀(elems:List (DataW H×List MemPlace)) (n:Nat),elems.length=xs.len→(∀i,i < xs.len→(w.cells? base ⟨b,o+i*7,none⟩ 7).bind (DataW.trod enc Tryz.prog w base spare held n 39)=elems[i]?)→mS xs≤Rows.uptoBulkAll (elems.map (·.1))
 | .nil,_,_,_,_,_,_,_=>Nat.zero_le _
 | .cons k nm args cond body els at_ r,b,o,⟨⟨_,_,_,_,h0,h1,h6⟩,⟨A2,c2,h2,s2⟩,⟨A3,c3,h3,s3⟩,⟨A4,c4,h4,s4⟩,⟨A5,c5,h5,s5⟩,hr⟩,elems,n,hl,hg=>by
  cases elems with
  |nil=>simp[Sts.len]at hl
  |cons y el=>
   have hrest:=bkSt r b (o+7) hr el n (by simpa[Sts.len]using hl) (fun i hi=>by
    have:=hg (i+1) (by simp only[Sts.len];omega)
    rwa [show o+(i+1)*7=o+7+i*7 from by omega,List.getElem?_cons_succ]at this)
   have g0:=hg 0 (by simp[Sts.len])
   simp only[Nat.zero_mul,Nat.add_zero,List.getElem?_cons_zero]at g0
   obtain⟨cs,hc,ht⟩:=Option.bind_eq_some_iff.1 g0
   obtain⟨_,hcl,hat⟩:=World.cells?_some hc
   obtain⟨ys,n',_,hy,_,hyl,hf⟩:=DataW.trod_struct Tryz.underlying39 ht
   have a1:=(hat 1 (by omega)).symm
   rw[add_aB]at a1
   have a1:=a1.trans h1
   have a2:=(hat 2 (by omega)).symm
   rw[add_aB]at a2
   have a2:=a2.trans h2
   have a3:=(hat 3 (by omega)).symm
   rw[add_aB]at a3
   have a3:=a3.trans h3
   have a4:=(hat 4 (by omega)).symm
   rw[add_aB]at a4
   have a4:=a4.trans h4
   have a5:=(hat 5 (by omega)).symm
   rw[add_aB]at a5
   have a5:=a5.trans h5
   match ys,hyl,hy,hf with
   | [z0,z1,z2,z3,z4,z5,z6],_,hy,hf=>
    have e1:=bk_str (off:=1) Tryz.underlying9 c_str a1 (hf 1 _ rfl)
    have e2:=bk_slf (off:=2) (M:=mX args) Tryz.underlying36 c_sEx c_Ex s2 mX_0 (fun b o h=>bkEx args b o h) a2 (hf 2 _ rfl)
    have e3:=bk_slf (off:=3) (M:=mC cond) Tryz.underlying37 c_sCo c_Co s3 mC_0 (fun b o h=>bkCo cond b o h) a3 (hf 3 _ rfl)
    have e4:=bk_slf (off:=4) (M:=mS body) Tryz.underlying25 c_sSt c_St s4 mS_0 (fun b o h=>bkSt body b o h) a4 (hf 4 _ rfl)
    have e5:=bk_slf (off:=5) (M:=mS els) Tryz.underlying25 c_sSt c_St s5 mS_0 (fun b o h=>bkSt els b o h) a5 (hf 5 _ rfl)
    simp only[mS,List.map_cons,List.map_nil,Rows.uptoBulkAll,hy,Rows.uptoBulk]
    omega
theorem bkVa {S:Nat→Prop} {Z:Prop}:∀(xs:List Va) (b o:Nat),VaR w S Z xs b o→∀(elems:List (DataW H×List MemPlace)) (n:Nat),elems.length=xs.length→(∀i,i < xs.length→(w.cells? base ⟨b,o+i*2,none⟩ 2).bind (DataW.trod enc Tryz.prog w base spare held n 43)=elems[i]?)→mV xs≤Rows.uptoBulkAll (elems.map (·.1))
 | [],_,_,_,_,_,_,_=>Nat.zero_le _
 |v::r,b,o,⟨⟨_,_,_,h0,h1⟩,hr⟩,elems,n,hl,hg=>by
  cases elems with
  |nil=>simp[List.length]at hl
  |cons y el=>
   have hrest:=bkVa r b (o+2) hr el n (by simpa[List.length]using hl) (fun i hi=>by
    have:=hg (i+1) (by simp only[List.length];omega)
    rwa [show o+(i+1)*2=o+2+i*2 from by omega,List.getElem?_cons_succ]at this)
   have g0:=hg 0 (by simp[List.length])
   simp only[Nat.zero_mul,Nat.add_zero,List.getElem?_cons_zero]at g0
   obtain⟨cs,hc,ht⟩:=Option.bind_eq_some_iff.1 g0
   obtain⟨_,hcl,hat⟩:=World.cells?_some hc
   obtain⟨ys,n',_,hy,_,hyl,hf⟩:=DataW.trod_struct Tryz.underlying43 ht
   have a0:=(hat 0 (by omega)).symm
   rw[add_aB]at a0
   have a0:=a0.trans h0
   match ys,hyl,hy,hf with
   | [z0,z1],_,hy,hf=>
    have e0:=bk_str (off:=0) Tryz.underlying9 c_str a0 (hf 0 _ rfl)
    simp only[mV,List.map_cons,List.map_nil,Rows.uptoBulkAll,hy,Rows.uptoBulk]
    omega
theorem bkAr {S:Nat→Prop} {Z:Prop}:∀(xs:List Arr) (b o:Nat),ArR w S Z xs b o→∀(elems:List (DataW H×List MemPlace)) (n:Nat),elems.length=xs.length→(∀i,i < xs.length→(w.cells? base ⟨b,o+i*3,none⟩ 3).bind (DataW.trod enc Tryz.prog w base spare held n 66)=elems[i]?)→mA xs≤Rows.uptoBulkAll (elems.map (·.1))
 | [],_,_,_,_,_,_,_=>Nat.zero_le _
 |v::r,b,o,⟨⟨_,_,_,_,h0,h1,h2⟩,hr⟩,elems,n,hl,hg=>by
  cases elems with
  |nil=>simp[List.length]at hl
  |cons y el=>
   have hrest:=bkAr r b (o+3) hr el n (by simpa[List.length]using hl) (fun i hi=>by
    have:=hg (i+1) (by simp only[List.length];omega)
    rwa [show o+(i+1)*3=o+3+i*3 from by omega,List.getElem?_cons_succ]at this)
   have g0:=hg 0 (by simp[List.length])
   simp only[Nat.zero_mul,Nat.add_zero,List.getElem?_cons_zero]at g0
   obtain⟨cs,hc,ht⟩:=Option.bind_eq_some_iff.1 g0
   obtain⟨_,hcl,hat⟩:=World.cells?_some hc
   obtain⟨ys,n',_,hy,_,hyl,hf⟩:=DataW.trod_struct Tryz.underlying66 ht
   have a0:=(hat 0 (by omega)).symm
   rw[add_aB]at a0
   have a0:=a0.trans h0
   match ys,hyl,hy,hf with
   | [z0,z1,z2],_,hy,hf=>
    have e0:=bk_str (off:=0) Tryz.underlying9 c_str a0 (hf 0 _ rfl)
    simp only[mA,List.map_cons,List.map_nil,Rows.uptoBulkAll,hy,Rows.uptoBulk]
    omega
theorem bkPr {S:Nat→Prop} {Z:Prop}:∀(xs:List Prc) (b o:Nat),PrR w S Z xs b o→∀(elems:List (DataW H×List MemPlace)) (n:Nat),elems.length=xs.length→(∀i,i < xs.length→(w.cells? base ⟨b,o+i*4,none⟩ 4).bind (DataW.trod enc Tryz.prog w base spare held n 68)=elems[i]?)→mP xs≤Rows.uptoBulkAll (elems.map (·.1))
 | [],_,_,_,_,_,_,_=>Nat.zero_le _
 |p::r,b,o,⟨⟨_,_,_,h0,h3⟩,⟨A1,c1,h1,s1⟩,⟨A2,c2,h2,s2⟩,hr⟩,elems,n,hl,hg=>by
  cases elems with
  |nil=>simp[List.length]at hl
  |cons y el=>
   have hrest:=bkPr r b (o+4) hr el n (by simpa[List.length]using hl) (fun i hi=>by
    have:=hg (i+1) (by simp only[List.length];omega)
    rwa [show o+(i+1)*4=o+4+i*4 from by omega,List.getElem?_cons_succ]at this)
   have g0:=hg 0 (by simp[List.length])
   simp only[Nat.zero_mul,Nat.add_zero,List.getElem?_cons_zero]at g0
   obtain⟨cs,hc,ht⟩:=Option.bind_eq_some_iff.1 g0
   obtain⟨_,hcl,hat⟩:=World.cells?_some hc
   obtain⟨ys,n',_,hy,_,hyl,hf⟩:=DataW.trod_struct Tryz.underlying68 ht
   have a0:=(hat 0 (by omega)).symm
   rw[add_aB]at a0
   have a0:=a0.trans h0
   have a1:=(hat 1 (by omega)).symm
   rw[add_aB]at a1
   have a1:=a1.trans h1
   have a2:=(hat 2 (by omega)).symm
   rw[add_aB]at a2
   have a2:=a2.trans h2
   match ys,hyl,hy,hf with
   | [z0,z1,z2,z3],_,hy,hf=>
    have e0:=bk_str (off:=0) Tryz.underlying9 c_str a0 (hf 0 _ rfl)
    have e1:=bk_slf (off:=1) (M:=mV p.params) Tryz.underlying22 c_sVa c_Va s1 mV_0 (fun b o h=>bkVa p.params b o h) a1 (hf 1 _ rfl)
    have e2:=bk_slf (off:=2) (M:=mS p.body) Tryz.underlying25 c_sSt c_St s2 mS_0 (fun b o h=>bkSt p.body b o h) a2 (hf 2 _ rfl)
    simp only[mP,List.map_cons,List.map_nil,Rows.uptoBulkAll,hy,Rows.uptoBulk]
    omega
theorem bkTree {t:Tre} {S:Nat→Prop} {Z:Prop} {Av Aa Ap Am:Option Addr} {cv ca cp cm:Nat} {d:DataW H} {p:List MemPlace} (h:DataW.Trod enc Tryz.prog w base spare held 27 (trV t Av Aa Ap Am cv ca cp cm) d p) (hx:TrR w S Z t Av Aa Ap Am cv ca cp cm):mT t≤Rows.uptoBulk d:=by
 obtain⟨fuel,hf⟩:=h
 obtain⟨xs,n,_,hy,_,hlen,hg⟩:=DataW.trod_struct Tryz.underlying27 hf
 have hd:=(Prod.mk.inj hy).1
 match xs,hlen,hd,hg with
 | [y0,y1,y2,y3],_,hd,hg=>
  have e0:=bk_slf (cs:= [.slice Av t.vars.length cv,.slice Aa t.arrays.length ca,.slice Ap t.procs.length cp,.slice Am t.main.len cm]) (off:=0) (M:=mV t.vars) Tryz.underlying22 c_sVa c_Va hx.vars mV_0 (fun b o h=>bkVa t.vars b o h) rfl (hg 0 _ rfl)
  have e1:=bk_slf (cs:= [.slice Av t.vars.length cv,.slice Aa t.arrays.length ca,.slice Ap t.procs.length cp,.slice Am t.main.len cm]) (off:=1) (M:=mA t.arrays) Tryz.underlying23 c_sAr c_Ar hx.arrays mA_0 (fun b o h=>bkAr t.arrays b o h) rfl (hg 1 _ rfl)
  have e2:=bk_slf (cs:= [.slice Av t.vars.length cv,.slice Aa t.arrays.length ca,.slice Ap t.procs.length cp,.slice Am t.main.len cm]) (off:=2) (M:=mP t.procs) Tryz.underlying24 c_sPr c_Pr hx.procs mP_0 (fun b o h=>bkPr t.procs b o h) rfl (hg 2 _ rfl)
  have e3:=bk_slf (cs:= [.slice Av t.vars.length cv,.slice Aa t.arrays.length ca,.slice Ap t.procs.length cp,.slice Am t.main.len cm]) (off:=3) (M:=mS t.main) Tryz.underlying25 c_sSt c_St hx.main mS_0 (fun b o h=>bkSt t.main b o h) rfl (hg 3 _ rfl)
  rw[hd]
  simp only[mT,List.map_cons,List.map_nil,Rows.uptoBulkAll,Rows.uptoBulk]
  omega
end
theorem upto_le {H:Type} {ds:List (DataW H)} (h:Rows.uptoSmall H ds=true):Rows.uptoBulkAll ds≤1048576:=by
 have h:=of_decide_eq_true h
 exact h
end Go.Proofs.YtmopichdofgndaaGreatDoor
