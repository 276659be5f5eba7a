/-
  Plain data of the graphs: expressions (a list of them, as one type), edges, graphs; and what it is for memory to hold them. No program.
-/
import Derived.WalkKit
import Derived.Below
import Derived.OwnWalk
import Derived.Laws.AppendOwn
import Derived.Deep.Draws
set_option linter.unusedVariables false
set_option linter.unusedSimpArgs false
namespace Go.Proofs.Ytphlnpaikpjakaa
open Go.RowKit
/-- a fact laid behind Hid; a thing named -/
theorem hdq {p:Prop} (h:p):Hid p:=h
theorem nmq {α:Type} (a:α):∃x,x=a:=⟨a,rfl⟩
theorem ltq {a b c:Nat} (h:a<b) (k:b≤c):a<c:=Nat.lt_of_lt_of_le h k
theorem leq9 {a b c:Nat} (h:a≤b) (k:b≤c):a≤c:=Nat.le_trans h k
theorem lrq (a:Nat):a≤a:=Nat.le_refl a
theorem aiq {p q:Prop} (h:p) (k:q):p∧q:=⟨h,k⟩

inductive Exs where
 |nil
 |cons (k:Int) (nm:ByteArray) (n:Int) (args:Exs) (at_:Int) (rest:Exs)

def Exs.len:Exs→Nat
 | .nil =>0
 | .cons _ _ _ _ _ rest=>rest.len+1

def Exs.drop:Nat→Exs→Exs
 |0,xs=>xs
 |_+1,.nil => .nil
 |k+1,.cons _ _ _ _ _ rest=>Exs.drop k rest

theorem Exs.len_drop:∀(k:Nat) (xs:Exs),(Exs.drop k xs).len =xs.len - k
 |0,xs=>by simp[Exs.drop]
 |k+1,.nil =>by simp[Exs.drop,Exs.len]
 |k+1,.cons _ _ _ _ _ rest=>by simp[Exs.drop,Exs.len,Exs.len_drop k rest]

theorem Exs.drop_succ:∀(k:Nat) (xs:Exs) {a b c d e f},Exs.drop k xs= .cons a b c d e f→Exs.drop (k+1) xs=f
 |0,.cons _ _ _ _ _ _,_,_,_,_,_,_,h=>by simp only[Exs.drop]at h ⊢;injection h
 |0,.nil,_,_,_,_,_,_,h=>by simp[Exs.drop]at h
 |k+1,.nil,_,_,_,_,_,_,h=>by simp[Exs.drop]at h
 |k+1,.cons _ _ _ _ _ rest,_,_,_,_,_,_,h=>by simp only[Exs.drop]at h ⊢;exact Exs.drop_succ k rest h

theorem Exs.drop_cons {k:Nat} {xs:Exs} (h:k < xs.len):∃a b c d e f,Exs.drop k xs= .cons a b c d e f:=by
 have:=Exs.len_drop k xs
 cases hx:Exs.drop k xs with
 |nil=>rw[hx]at this;simp[Exs.len]at this;omega
 |cons a b c d e f=>exact⟨a,b,c,d,e,f,rfl⟩
theorem Exs.drop_nil {k:Nat} {xs:Exs} (h:xs.len≤k):Exs.drop k xs= .nil :=by
 have:=Exs.len_drop k xs
 cases hx:Exs.drop k xs with
 |nil=>rfl
 |cons a b c d e f=>rw[hx]at this;simp[Exs.len]at this;omega

def in64 (n:Int):Prop:= -9223372036854775808≤n∧n≤9223372036854775807
def in8 (n:Int):Prop:=0≤n∧n≤255

def ExAt (w:World) (B:Nat):Exs→Nat→Nat→Prop
 | .nil,_,_=>True
 | .cons k nm n args at_ rest,b,off=>
  b < B∧w.cell? ⟨b,off,none⟩=some (.int .u8 k)∧w.cell? ⟨b,off+1,none⟩=some (.string nm)∧w.cell? ⟨b,off+2,none⟩=some (.int .i64 n)∧
   (∃A c,w.cell? ⟨b,off+3,none⟩=some (.slice A args.len c)∧args.len≤c∧c≤9223372036854775807∧(0 < args.len→∃b' o',A=some ⟨b',o',none⟩∧ExAt w B args b' o'))∧
   w.cell? ⟨b,off+4,none⟩=some (.int .i64 at_)∧in8 k∧in64 n∧in64 at_∧ExAt w B rest b (off+5)

def ExSl (w:World) (B:Nat) (xs:Exs) (A:Option Addr) (c:Nat):Prop:=
 xs.len≤c∧c≤9223372036854775807∧(0 < xs.len→∃b o,A=some ⟨b,o,none⟩∧ExAt w B xs b o)

def Same (B:Nat) (w w':World):Prop:=∀p:Addr,p.block < B→w'.cell? p=w.cell? p

theorem Same.of {B B':Nat} {w w':World} (h:Below B' w w') (hB:B≤B'):Same B w w':=fun _ hp=>h.cell (Nat.lt_of_lt_of_le hp hB)

theorem ExAt.keep {w w':World} {B:Nat} (h:Same B w w'):∀ {xs:Exs} {b o:Nat},ExAt w B xs b o→ExAt w' B xs b o
 | .nil,_,_,_=>trivial
 | .cons k nm n args at_ rest,b,o,hx=>by
  obtain⟨hb,h0,h1,h2,⟨A,c,h3,hl,hc,ha⟩,h4,r0,r1,r2,hr⟩:=hx
  refine⟨hb,(h _ hb).trans h0,(h _ hb).trans h1,(h _ hb).trans h2,⟨A,c,(h _ hb).trans h3,hl,hc,fun hp=>?_⟩,(h _ hb).trans h4,r0,r1,r2,ExAt.keep h hr⟩
  obtain⟨b',o',e,hx'⟩:=ha hp
  exact⟨b',o',e,ExAt.keep h hx'⟩
theorem ExSl.keep {w w':World} {B:Nat} {xs:Exs} {A:Option Addr} {c:Nat} (h:Same B w w') (hx:ExSl w B xs A c):ExSl w' B xs A c:=
 ⟨hx.1,hx.2.1,fun hp=>by obtain⟨b,o,e,hh⟩:=hx.2.2 hp;exact⟨b,o,e,hh.keep h⟩⟩

theorem ExAt.drop {w:World} {B:Nat}:∀(k:Nat) {xs:Exs} {b o:Nat},ExAt w B xs b o→ExAt w B (Exs.drop k xs) b (o+k*5)
 |0,_,_,_,h=>by simpa[Exs.drop]using h
 |k+1,.nil,_,_,_=>trivial
 |k+1,.cons _ _ _ _ _ rest,b,o,h=>by
  have:=ExAt.drop k h.2.2.2.2.2.2.2.2.2
  simp only[Exs.drop]
  rw[show o+(k+1)*5=o+5+k*5 from by omega]
  exact this
theorem ExAt.at_ {w:World} {B:Nat} {xs:Exs} {b o:Nat} (h:ExAt w B xs b o) {i:Nat} {k:Int} {nm:ByteArray} {n:Int} {args:Exs} {at_:Int} {rest:Exs} (hd:Exs.drop i xs= .cons k nm n args at_ rest):
  b < B∧w.cell? ⟨b,o+i*5,none⟩=some (.int .u8 k)∧w.cell? ⟨b,o+i*5+1,none⟩=some (.string nm)∧w.cell? ⟨b,o+i*5+2,none⟩=some (.int .i64 n)∧
   (∃A c,w.cell? ⟨b,o+i*5+3,none⟩=some (.slice A args.len c)∧ExSl w B args A c)∧w.cell? ⟨b,o+i*5+4,none⟩=some (.int .i64 at_)∧in8 k∧in64 n∧in64 at_:=by
 have:=h.drop i
 rw[hd]at this
 obtain⟨hb,h0,h1,h2,⟨A,c,h3,hl,hc,ha⟩,h4,r0,r1,r2,_⟩:=this
 exact⟨hb,h0,h1,h2,⟨A,c,h3,hl,hc,ha⟩,h4,r0,r1,r2⟩
end Go.Proofs.Ytphlnpaikpjakaa
namespace Go.Proofs.Ytphlnpaikpjakaa
open Go.RowKit
def Exs.any (p:Int→ByteArray→Int→Exs→Int→Bool):Exs→Bool
 | .nil =>false
 | .cons k nm n args at_ rest=>p k nm n args at_ || Exs.any p rest
theorem Exs.any_drop {p:Int→ByteArray→Int→Exs→Int→Bool} {xs:Exs} {i:Nat} {k:Int} {nm:ByteArray} {n:Int} {args:Exs} {at_:Int} {rest:Exs} (hd:Exs.drop i xs= .cons k nm n args at_ rest)
  (hp:p k nm n args at_=false) (h:Exs.any p xs=Exs.any p (Exs.drop i xs)):Exs.any p xs=Exs.any p (Exs.drop (i+1) xs):=by
 rw[h,Exs.drop_succ i xs hd,hd]
 simp[Exs.any,hp]
def exV (k:Int) (nm:ByteArray) (n:Int) (A:Option Addr) (l c:Nat) (at_:Int):Value:= .agg #[.int .u8 k,.string nm,.int .i64 n,.slice A l c,.int .i64 at_]
def IdxPost (b:Bool) (W:World) (e:Ending) (w':World):Prop:=∃n:Int,decide (0≤n)=b∧e= .returned (.int .i64 n)∧Below W.heap.size W w'
def BoolPost (b:Bool) (W:World) (e:Ending) (w':World):Prop:=e= .returned (.bool b)∧Below W.heap.size W w'
end Go.Proofs.Ytphlnpaikpjakaa
namespace Go.Proofs.Ytphlnpaikpjakaa
open Go.RowKit
def argc (k:Int):Int:=if k=1 then 0 else if k=2 then 0 else if k=3 then 1 else if k=4 then 1 else 2
def rightN (vars arrs k n:Int):Bool:=
 if k=1 then decide (0≤n)else if k=2 then(decide (0≤n)&&decide (n < vars))else if k=3 then(decide (0≤n)&&decide (n < arrs))else n==0
def mayK (vars arrs k n:Int) (l:Nat):Bool:=decide (1≤k)&&decide (k≤11)&&rightN vars arrs k n&&((l:Int)==argc k)
def mayX (vars arrs:Int):Exs→Bool
 | .nil =>true
 | .cons k _ n args _ rest=>mayK vars arrs k n args.len&&mayX vars arrs args&&mayX vars arrs rest
theorem any_not_may (vars arrs:Int):∀xs:Exs,Exs.any (fun k _ n args _=> !(mayK vars arrs k n args.len&&mayX vars arrs args)) xs= !mayX vars arrs xs
 | .nil =>rfl
 | .cons k nm n args at_ rest=>by
  simp only[Exs.any,mayX,any_not_may vars arrs rest]
  cases mayK vars arrs k n args.len&&mayX vars arrs args<;>simp
end Go.Proofs.Ytphlnpaikpjakaa

namespace Go.Proofs.Ytphlnpaikpjakaa
open Go.RowKit

section
variable {S T:Nat→Prop} {w w':World} {Z:Prop}
end
end Go.Proofs.Ytphlnpaikpjakaa

namespace Go.Proofs.Ytphlnpaikpjakaa
open Go.RowKit

structure Fr (T:Nat→Prop) (w w':World):Prop where
 os:w'.os=w.os
 tape:w'.tape=w.tape
 output:w'.output=w.output
 size:w.heap.size≤w'.heap.size
 block:∀i,i < w.heap.size→¬T i→w'.heap[i]?=w.heap[i]?
theorem Fr.refl (T:Nat→Prop) (w:World):Fr T w w:=⟨rfl,rfl,rfl,Nat.le_refl _,fun _ _ _=>rfl⟩
theorem Fr.trans {T:Nat→Prop} {a b c:World} (h:Fr T a b) (k:Fr T b c):Fr T a c:=
 ⟨k.os.trans h.os,k.tape.trans h.tape,k.output.trans h.output,Nat.le_trans h.size k.size,fun i hi ht=>(k.block i (Nat.lt_of_lt_of_le hi h.size) ht).trans (h.block i hi ht)⟩
theorem Fr.mono {T T':Nat→Prop} {w w':World} (h:Fr T w w') (ht:∀i,i < w.heap.size→T i→T' i):Fr T' w w':=
 ⟨h.os,h.tape,h.output,h.size,fun i hi hn=>h.block i hi fun t=>hn (ht i hi t)⟩
theorem Fr.alloc {T:Nat→Prop} {w w':World} (h:Fr T w w') (o:Obj):Fr T w (w'.alloc o):=
 h.trans ⟨rfl,rfl,rfl,by simp,fun i hi _=>Below.heap_alloc w' o i hi⟩
theorem Fr.setCell {T:Nat→Prop} {w w':World} (h:Fr T w w') {p:Addr} (hp:T p.block∨w.heap.size≤p.block) (v:Value):Fr T w (w'.setCell p v):=
 ⟨h.os,h.tape,h.output,by simpa using h.size,fun i hi hn=>(Below.heap_setCell w' p v i (fun e=>hp.elim (fun hp=>hn (e▸hp)) (fun hp=>absurd hi (by omega)))).trans (h.block i hi hn)⟩
theorem Fr.of {T:Nat→Prop} {B:Nat} {w w':World} (h:Below B w w') (hb:∀i,i < w.heap.size→B≤i→T i):Fr T w w':=
 ⟨h.os,h.tape,h.output,h.size,fun i hi hn=>h.block i (Nat.lt_of_not_le fun hl=>hn (hb i hi hl))⟩
theorem Fr.below {T:Nat→Prop} {w w':World} (h:Below w.heap.size w w'):Fr T w w':=Fr.of h fun i h1 h2=>absurd h1 (by omega)
theorem Fr.grown {T:Nat→Prop} {w w':World} {row:Option Nat} (h:w.grownBy w' row) (hr:∀g,row=some g→g < w.heap.size→T g):Fr T w w':=
 ⟨h.os,h.tape,h.output,h.size,fun i hi hn=>h.block i hi fun e=>hn (hr i e.symm hi)⟩
theorem Fr.to_below {T:Nat→Prop} {B:Nat} {w w':World} (h:Fr T w w') (hB:B≤w.heap.size) (ht:∀i,i < B→¬T i):Below B w w':=
 ⟨h.os,h.tape,h.output,h.size,fun i hi=>h.block i (Nat.lt_of_lt_of_le hi hB) (ht i hi)⟩
theorem Fr.cell {T:Nat→Prop} {w w':World} (h:Fr T w w') {p:Addr} (hp:p.block < w.heap.size) (ht:¬T p.block):w'.cell? p=w.cell? p:=World.cell?_of_block (h.block _ hp ht)
theorem Fr.own {g:Nat} {w w':World} (h:Fr (fun b=>b=g) w w') (i:Nat) (v:Value):Fr (fun b=>b=g) w (w'.setCell ⟨g,i,none⟩ v):=h.setCell (p:=⟨g,i,none⟩) (Or.inl rfl) v
def Bk (w:World) (g:Nat) (t:TypeId) (cs:Array Value):Prop:=w.heap[g]?=some (.cells cs t (0,0))
theorem Bk.cell {w:World} {g:Nat} {t:TypeId} {cs:Array Value} (h:Bk w g t cs) (i:Nat):w.cell? ⟨g,i,none⟩=cs[i]?:=cell_of_row w g i cs t (0,0) h
theorem Bk.frozen {w:World} {g:Nat} {t:TypeId} {cs:Array Value} (h:Bk w g t cs) (i:Nat):w.frozen? ⟨g,i,none⟩=false:=by
 unfold Bk at h
 simp[World.frozen?,h]
theorem Bk.new (w:World) (t:TypeId) (cs:Array Value):Bk (w.alloc (.cells cs t)) w.heap.size t cs:=heap_alloc_new w _
theorem Bk.lt {w:World} {g:Nat} {t:TypeId} {cs:Array Value} (h:Bk w g t cs):g < w.heap.size:=by
 rcases Nat.lt_or_ge g w.heap.size with hlt|hge
 ·exact hlt
 ·unfold Bk at h;rw[Array.getElem?_eq_none hge]at h;cases h
theorem Bk.set_ {w:World} {g:Nat} {t:TypeId} {cs:Array Value} (h:Bk w g t cs) (i:Nat) (u:Value):Bk (w.setCell ⟨g,i,none⟩ u) g t (cs.setIfInBounds i u):=by
 unfold Bk at h ⊢
 simp[World.setCell,Array.getElem?_modify,h]
theorem Bk.far {w:World} {g:Nat} {t:TypeId} {cs:Array Value} (h:Bk w g t cs) {p:Addr} (hp:g≠p.block) (u:Value):Bk (w.setCell p u) g t cs:=(Below.heap_setCell w p u g hp).trans h
theorem Bk.fr {T:Nat→Prop} {w w':World} {g:Nat} {t:TypeId} {cs:Array Value} (h:Bk w g t cs) (hf:Fr T w w') (ht:¬T g):Bk w' g t cs:=(hf.block g h.lt ht).trans h
theorem Bk.alloc {w:World} {g:Nat} {t:TypeId} {cs:Array Value} (h:Bk w g t cs) (o:Obj):Bk (w.alloc o) g t cs:=(Below.heap_alloc w o g h.lt).trans h
theorem Bk.new_at (w:World) (t:TypeId) (cs:Array Value) {n:Nat} (h:w.heap.size=n):Bk (w.alloc (.cells cs t)) n t cs:=h▸Bk.new w t cs
def NoT:Nat→Prop:=fun _=>False
theorem Fr.any {T:Nat→Prop} {w w':World} (h:Fr NoT w w'):Fr T w w':=h.mono fun _ _ h=>h.elim
theorem Fr.plain {w w':World} (h:Fr NoT w w'):Below w.heap.size w w':=h.to_below (Nat.le_refl _) fun _ _ h=>h
theorem Bk.fr0 {w w':World} {g:Nat} {t:TypeId} {cs:Array Value} (h:Bk w g t cs) (hf:Fr NoT w w'):Bk w' g t cs:=h.fr hf fun h=>h

end Go.Proofs.Ytphlnpaikpjakaa
