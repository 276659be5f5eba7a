/-
  slices.IndexFunc and slices.ContainsFunc over expressions: whether one of them has what a function value asks.
-/
import Derived.Test.YtphlnpaikpjakaaRows
import Derived.Test.YtphlnpaikpjakaaJgOrP
import Derived.Lib.Hide
import Derived.WalkSpells
import Derived.WalkLawsBesides
import Derived.Laws.EntriesVeiled
import Derived.Shelf.Abstract
import Derived.Test.YtphlnpaikpjakaaJnBase
import Derived.Outline
import Derived.BigRegion
import Derived.Deep.DeepCutAuto
import Derived.Maps.OwnSet
import Derived.Maps.OwnOps
import Derived.Maps.RangeWalk
import Derived.Deep.AppendLies
import Derived.Deep.RegionHeld3
import Derived.Deep.DrawnRows
import Derived.StillTailTactics
set_option linter.unusedVariables false
set_option linter.unusedSimpArgs false
set_option maxHeartbeats 3200000
set_option maxRecDepth 100000
namespace Go.Proofs.Ytphlnpaikpjakaa
open Go.RowKit Go.Shelf

def AsksEx (g:Nat) (cap:Array Value) (w:World) (B:Nat) (p:Int→ByteArray→Int→Exs→Int→Bool) (xs:Exs):Prop:=
 ∀(i:Nat) (k:Int) (nm:ByteArray) (n:Int) (args:Exs) (at_:Int) (rest:Exs),Exs.drop i xs= .cons k nm n args at_ rest→in8 k→in64 n→in64 at_→
  ∀(W:World) (A:Option Addr) (c:Nat),Below w.heap.size w W→ExSl W B args A c→
   Calls Try.prog g (#[.agg #[.int .u8 k,.string nm,.int .i64 n,.slice A args.len c,.int .i64 at_]]++cap) W (BoolPost (p k nm n args at_) W)

theorem indexEx (p:Int→ByteArray→Int→Exs→Int→Bool) (xs:Exs) (A:Option Addr) (c:Nat) (g:Nat) (cap:Array Value) (w:World) (B:Nat) (hB:B≤w.heap.size) (hx:ExSl w B xs A c)
  (hent:Enters Try.prog g) (hask:AsksEx g cap w B p xs):
  Calls Try.prog 72 #[.slice A xs.len c,.func (.func g) #[] cap] w (IdxPost (Exs.any p xs) w):=by
 have hl:xs.len≤9223372036854775807:=leq9 hx.1 hx.2.1
 have HA:=hdq hask
 clear hask
 unfold Enters at hent
 go_enter Try.func72,Try.ntmps72
 go_wp2
 go_loopw [8] (fun i wr=>∃k:Nat,k≤xs.len∧i= .int .i64 k∧Below w.heap.size w wr∧Hid (Exs.any p xs=Exs.any p (Exs.drop k xs))) (fun i _=>xs.len - (intOf i).toNat)
 case atStart=>exact⟨0,Nat.zero_le _,rfl,Below.refl _ _,rfl⟩
 case round=>
  obtain⟨k,hk,rfl,hb,hany⟩:=hrel
  by_cases hlt:k < xs.len
  ·obtain⟨a0,a1,a2,a3,a4,a5,hd⟩:=Exs.drop_cons hlt
   obtain⟨b,o,rfl,hat⟩:=hx.2.2 (by omega)
   obtain⟨hbB,c0,c1,c2,⟨A',c',c3,hsl⟩,c4,r0,r1,r2⟩:=(hat.keep (Same.of hb hB)).at_ hd
   have hcall:=hdq (HA.out k a0 a1 a2 a3 a4 a5 hd r0 r1 r2 wr A' c' hb hsl)
   have H:=hdq hd
   clear hd hsl r0 r1 r2
   go_wp2_with fail
   refine hcall.out.mono ?_
   rintro e w1 ⟨rfl,hb1⟩
   cases hp:p a0 a1 a2 a3 a4
   ·have hany':=hdq (Exs.any_drop H.out hp hany.out)
    have hb2:Below w.heap.size w w1:=hb.trans (hb1.mono hb.size)
    clear hp hany hcall c0 c1 c2 c3 c4 hb1
    go_wp2_with fail
    go_roundw
    case rel=>exact⟨k+1,by omega,by go_num,hb2,hany'⟩
    case measure=>simp[intOf];omega
   ·have hfin:Exs.any p xs=true:=by rw[hany.out,H.out];simp[Exs.any,hp]
    have HF:=hdq hfin
    have hb2:Below w.heap.size w w1:=hb.trans (hb1.mono hb.size)
    clear hp hany hcall c0 c1 c2 c3 c4 hb1 hfin
    go_wp2_with fail
    go_ret
    exact⟨k,by rw[HF.out];simp,rfl,hb2⟩
  ·have hfin:Exs.any p xs=false:=by rw[hany.out,Exs.drop_nil (by omega)];rfl
   have HF:=hdq hfin
   clear hfin hany
   go_wp2_with fail
   go_ret
   exact⟨-1,by rw[HF.out];simp,rfl,hb⟩

theorem containsEx (p:Int→ByteArray→Int→Exs→Int→Bool) (xs:Exs) (A:Option Addr) (c:Nat) (g:Nat) (cap:Array Value) (w:World) (B:Nat) (hB:B≤w.heap.size) (hx:ExSl w B xs A c)
  (hent:Enters Try.prog g) (hask:AsksEx g cap w B p xs):
  Calls Try.prog 50 #[.slice A xs.len c,.func (.func g) #[] cap] w (BoolPost (Exs.any p xs) w):=by
 have HC:=hdq (indexEx p xs A c g cap w B hB hx hent hask)
 clear hask hent
 go_enter Try.func50,Try.ntmps50
 go_wp2_with fail
 refine HC.out.mono ?_
 rintro e w1 ⟨n,hn,rfl,hb⟩
 have HN:=hdq hn
 clear hn
 go_wp2_with fail
 go_ret
 exact⟨by rw[←HN.out];rfl,hb⟩

structure Ed where
 from_:Int
 to_:Int
 kind:Int
 n:Int
 cmp:Int
 args:Exs
 at_:Int

def Ed.ok (e:Ed):Prop:=in64 e.from_∧in64 e.to_∧in8 e.kind∧in64 e.n∧in8 e.cmp∧in64 e.at_

def EdAt (w:World) (B:Nat):List Ed→Nat→Nat→Prop
 | [],_,_=>True
 |e::r,b,o=>
  b < B∧w.cell? ⟨b,o,none⟩=some (.int .i64 e.from_)∧w.cell? ⟨b,o+1,none⟩=some (.int .i64 e.to_)∧w.cell? ⟨b,o+2,none⟩=some (.int .u8 e.kind)∧w.cell? ⟨b,o+3,none⟩=some (.int .i64 e.n)∧
   w.cell? ⟨b,o+4,none⟩=some (.int .u8 e.cmp)∧(∃A c,w.cell? ⟨b,o+5,none⟩=some (.slice A e.args.len c)∧ExSl w B e.args A c)∧w.cell? ⟨b,o+6,none⟩=some (.int .i64 e.at_)∧e.ok∧EdAt w B r b (o+7)
def EdSl (w:World) (B:Nat) (l:List Ed) (A:Option Addr) (c:Nat):Prop:=
 l.length≤c∧c≤9223372036854775807∧(0 < l.length→∃b o,A=some ⟨b,o,none⟩∧EdAt w B l b o)

theorem EdAt.keep {w w':World} {B:Nat} (h:Same B w w'):∀ {l:List Ed} {b o:Nat},EdAt w B l b o→EdAt w' B l b o
 | [],_,_,_=>trivial
 |e::r,b,o,hx=>by
  obtain⟨hb,h0,h1,h2,h3,h4,⟨A,c,h5,hs⟩,h6,hok,hr⟩:=hx
  exact⟨hb,(h _ hb).trans h0,(h _ hb).trans h1,(h _ hb).trans h2,(h _ hb).trans h3,(h _ hb).trans h4,⟨A,c,(h _ hb).trans h5,hs.keep h⟩,(h _ hb).trans h6,hok,EdAt.keep h hr⟩
theorem EdSl.keep {w w':World} {B:Nat} {l:List Ed} {A:Option Addr} {c:Nat} (h:Same B w w') (hx:EdSl w B l A c):EdSl w' B l A c:=
 ⟨hx.1,hx.2.1,fun hp=>by obtain⟨b,o,e,hh⟩:=hx.2.2 hp;exact⟨b,o,e,hh.keep h⟩⟩
theorem EdAt.drop {w:World} {B:Nat}:∀(k:Nat) {l:List Ed} {b o:Nat},EdAt w B l b o→EdAt w B (l.drop k) b (o+k*7)
 |0,_,_,_,h=>by simpa using h
 |k+1, [],_,_,_=>by simp[EdAt]
 |k+1,_::r,b,o,h=>by
  have:=EdAt.drop k h.2.2.2.2.2.2.2.2.2
  rw[show o+(k+1)*7=o+7+k*7 from by omega]
  simpa using this
theorem EdAt.at_ {w:World} {B:Nat} {l:List Ed} {b o:Nat} (h:EdAt w B l b o) {i:Nat} {e:Ed} (he:l[i]?=some e):
  b < B∧w.cell? ⟨b,o+i*7,none⟩=some (.int .i64 e.from_)∧w.cell? ⟨b,o+i*7+1,none⟩=some (.int .i64 e.to_)∧w.cell? ⟨b,o+i*7+2,none⟩=some (.int .u8 e.kind)∧w.cell? ⟨b,o+i*7+3,none⟩=some (.int .i64 e.n)∧
   w.cell? ⟨b,o+i*7+4,none⟩=some (.int .u8 e.cmp)∧(∃A c,w.cell? ⟨b,o+i*7+5,none⟩=some (.slice A e.args.len c)∧ExSl w B e.args A c)∧w.cell? ⟨b,o+i*7+6,none⟩=some (.int .i64 e.at_)∧e.ok:=by
 have:=h.drop i
 have hd:l.drop i=e::l.drop (i+1):=by
  obtain⟨hi,rfl⟩:=List.getElem?_eq_some_iff.1 he
  exact List.drop_eq_getElem_cons hi
 rw[hd]at this
 obtain⟨hb,h0,h1,h2,h3,h4,h5,h6,hok,_⟩:=this
 exact⟨hb,h0,h1,h2,h3,h4,h5,h6,hok⟩

def edV (e:Ed) (A:Option Addr) (c:Nat):Value:= .agg #[.int .i64 e.from_,.int .i64 e.to_,.int .u8 e.kind,.int .i64 e.n,.int .u8 e.cmp,.slice A e.args.len c,.int .i64 e.at_]

def AsksEd (g:Nat) (cap:Array Value) (w:World) (B:Nat) (p:Ed→Bool) (l:List Ed):Prop:=
 ∀e∈l,e.ok→∀(W:World) (A:Option Addr) (c:Nat),Below w.heap.size w W→ExSl W B e.args A c→Calls Try.prog g (#[edV e A c]++cap) W (BoolPost (p e) W)

theorem any_drop {α:Type} {p:α→Bool} {l:List α} {i:Nat} {e:α} (he:l[i]?=some e) (hp:p e=false) (h:l.any p=(l.drop i).any p):l.any p=(l.drop (i+1)).any p:=by
 obtain⟨hi,rfl⟩:=List.getElem?_eq_some_iff.1 he
 have e1:l.drop i=l[i]::l.drop (i+1):=List.drop_eq_getElem_cons hi
 rw[h,e1,List.any_cons,hp,Bool.false_or]
theorem any_here {α:Type} {p:α→Bool} {l:List α} {i:Nat} {e:α} (he:l[i]?=some e) (hp:p e=true):l.any p=true:=
 List.any_eq_true.2 ⟨e,List.mem_of_getElem? he,hp⟩

theorem indexEd (p:Ed→Bool) (l:List Ed) (A:Option Addr) (c:Nat) (g:Nat) (cap:Array Value) (w:World) (B:Nat) (hB:B≤w.heap.size) (hx:EdSl w B l A c)
  (hent:Enters Try.prog g) (hask:AsksEd g cap w B p l):
  Calls Try.prog 48 #[.slice A l.length c,.func (.func g) #[] cap] w (IdxPost (l.any p) w):=by
 have hl:l.length≤9223372036854775807:=leq9 hx.1 hx.2.1
 have HA:=hdq hask
 clear hask
 unfold Enters at hent
 go_enter Try.func48,Try.ntmps48
 go_wp2
 go_loopw [8] (fun i wr=>∃k:Nat,k≤l.length∧i= .int .i64 k∧Below w.heap.size w wr∧Hid (l.any p=(l.drop k).any p)) (fun i _=>l.length - (intOf i).toNat)
 case atStart=>exact⟨0,Nat.zero_le _,rfl,Below.refl _ _,rfl⟩
 case round=>
  obtain⟨k,hk,rfl,hb,hany⟩:=hrel
  by_cases hlt:k < l.length
  ·obtain⟨e,he⟩:∃e,l[k]?=some e:=⟨_,List.getElem?_eq_getElem hlt⟩
   obtain⟨b,o,rfl,hat⟩:=hx.2.2 (by omega)
   obtain⟨hbB,c0,c1,c2,c3,c4,⟨A',c',c5,hsl⟩,c6,hok⟩:=(hat.keep (Same.of hb hB)).at_ he
   have hcall:=hdq (HA.out e (List.mem_of_getElem? he) hok wr A' c' hb hsl)
   unfold edV at hcall
   have H:=hdq he
   clear he hsl hok
   go_wp2_with fail
   refine hcall.out.mono ?_
   rintro _ w1 ⟨rfl,hb1⟩
   cases hp:p e
   ·have hany':=hdq (any_drop H.out hp hany.out)
    have hb2:Below w.heap.size w w1:=hb.trans (hb1.mono hb.size)
    clear hp hany hcall c0 c1 c2 c3 c4 c5 c6 hb1
    go_wp2_with fail
    go_roundw
    case rel=>exact⟨k+1,by omega,by go_num,hb2,hany'⟩
    case measure=>simp[intOf];omega
   ·have HF:=hdq (any_here H.out hp)
    have hb2:Below w.heap.size w w1:=hb.trans (hb1.mono hb.size)
    clear hp hany hcall c0 c1 c2 c3 c4 c5 c6 hb1
    go_wp2_with fail
    go_ret
    exact⟨k,by rw[HF.out];simp,rfl,hb2⟩
  ·have hfin:l.any p=false:=by rw[hany.out,List.drop_eq_nil_of_le (by omega)];rfl
   have HF:=hdq hfin
   clear hfin hany
   go_wp2_with fail
   go_ret
   exact⟨-1,by rw[HF.out];simp,rfl,hb⟩
theorem containsEd (p:Ed→Bool) (l:List Ed) (A:Option Addr) (c:Nat) (g:Nat) (cap:Array Value) (w:World) (B:Nat) (hB:B≤w.heap.size) (hx:EdSl w B l A c)
  (hent:Enters Try.prog g) (hask:AsksEd g cap w B p l):
  Calls Try.prog 31 #[.slice A l.length c,.func (.func g) #[] cap] w (BoolPost (l.any p) w):=by
 have HC:=hdq (indexEd p l A c g cap w B hB hx hent hask)
 clear hask hent
 go_enter Try.func31,Try.ntmps31
 go_wp2_with fail
 refine HC.out.mono ?_
 rintro e w1 ⟨n,hn,rfl,hb⟩
 have HN:=hdq hn
 clear hn
 go_wp2_with fail
 go_ret
 exact⟨by rw[←HN.out];rfl,hb⟩

/-! numbers -/
def IsAt (w:World) (B:Nat) (l:List Int) (b o:Nat):Prop:=b < B∧∀(i:Nat) (n:Int),l[i]?=some n→w.cell? ⟨b,o+i,none⟩=some (.int .i64 n)∧in64 n
def IsSl (w:World) (B:Nat) (l:List Int) (A:Option Addr) (c:Nat):Prop:=
 l.length≤c∧c≤9223372036854775807∧(0 < l.length→∃b o,A=some ⟨b,o,none⟩∧IsAt w B l b o)
theorem IsAt.keep {w w':World} {B:Nat} (h:Same B w w') {l:List Int} {b o:Nat} (hx:IsAt w B l b o):IsAt w' B l b o:=
 ⟨hx.1,fun i n hi=>⟨(h _ hx.1).trans (hx.2 i n hi).1,(hx.2 i n hi).2⟩⟩
theorem IsSl.keep {w w':World} {B:Nat} {l:List Int} {A:Option Addr} {c:Nat} (h:Same B w w') (hx:IsSl w B l A c):IsSl w' B l A c:=
 ⟨hx.1,hx.2.1,fun hp=>by obtain⟨b,o,e,hh⟩:=hx.2.2 hp;exact⟨b,o,e,hh.keep h⟩⟩
def AsksI (g:Nat) (cap:Array Value) (w:World) (p:Int→Bool) (l:List Int):Prop:=
 ∀n∈l,in64 n→∀W:World,Below w.heap.size w W→Calls Try.prog g (#[.int .i64 n]++cap) W (BoolPost (p n) W)
theorem indexI (p:Int→Bool) (l:List Int) (A:Option Addr) (c:Nat) (g:Nat) (cap:Array Value) (w:World) (B:Nat) (hB:B≤w.heap.size) (hx:IsSl w B l A c)
  (hent:Enters Try.prog g) (hask:AsksI g cap w p l):
  Calls Try.prog 47 #[.slice A l.length c,.func (.func g) #[] cap] w (IdxPost (l.any p) w):=by
 have hl:l.length≤9223372036854775807:=leq9 hx.1 hx.2.1
 have HA:=hdq hask
 clear hask
 unfold Enters at hent
 go_enter Try.func47,Try.ntmps47
 go_wp2
 go_loopw [8] (fun i wr=>∃k:Nat,k≤l.length∧i= .int .i64 k∧Below w.heap.size w wr∧Hid (l.any p=(l.drop k).any p)) (fun i _=>l.length - (intOf i).toNat)
 case atStart=>exact⟨0,Nat.zero_le _,rfl,Below.refl _ _,rfl⟩
 case round=>
  obtain⟨k,hk,rfl,hb,hany⟩:=hrel
  by_cases hlt:k < l.length
  ·obtain⟨e,he⟩:∃e,l[k]?=some e:=⟨_,List.getElem?_eq_getElem hlt⟩
   obtain⟨b,o,rfl,hat⟩:=hx.2.2 (by omega)
   obtain⟨c0,hok⟩:=(hat.keep (Same.of hb hB)).2 k e he
   have hcall:=hdq (HA.out e (List.mem_of_getElem? he) hok wr hb)
   have H:=hdq he
   clear he hok
   go_wp2_with fail
   refine hcall.out.mono ?_
   rintro _ w1 ⟨rfl,hb1⟩
   cases hp:p e
   ·have hany':=hdq (any_drop H.out hp hany.out)
    have hb2:Below w.heap.size w w1:=hb.trans (hb1.mono hb.size)
    clear hp hany hcall c0 hb1
    go_wp2_with fail
    go_roundw
    case rel=>exact⟨k+1,by omega,by go_num,hb2,hany'⟩
    case measure=>simp[intOf];omega
   ·have HF:=hdq (any_here H.out hp)
    have hb2:Below w.heap.size w w1:=hb.trans (hb1.mono hb.size)
    clear hp hany hcall c0 hb1
    go_wp2_with fail
    go_ret
    exact⟨k,by rw[HF.out];simp,rfl,hb2⟩
  ·have hfin:l.any p=false:=by rw[hany.out,List.drop_eq_nil_of_le (by omega)];rfl
   have HF:=hdq hfin
   clear hfin hany
   go_wp2_with fail
   go_ret
   exact⟨-1,by rw[HF.out];simp,rfl,hb⟩
theorem containsI (p:Int→Bool) (l:List Int) (A:Option Addr) (c:Nat) (g:Nat) (cap:Array Value) (w:World) (B:Nat) (hB:B≤w.heap.size) (hx:IsSl w B l A c)
  (hent:Enters Try.prog g) (hask:AsksI g cap w p l):
  Calls Try.prog 29 #[.slice A l.length c,.func (.func g) #[] cap] w (BoolPost (l.any p) w):=by
 have HC:=hdq (indexI p l A c g cap w B hB hx hent hask)
 clear hask hent
 go_enter Try.func29,Try.ntmps29
 go_wp2_with fail
 refine HC.out.mono ?_
 rintro e w1 ⟨n,hn,rfl,hb⟩
 have HN:=hdq hn
 clear hn
 go_wp2_with fail
 go_ret
 exact⟨by rw[←HN.out];rfl,hb⟩

def Exs.all2 (q:Int→ByteArray→Int→Exs→Int→Int→ByteArray→Int→Exs→Int→Bool):Exs→Exs→Bool
 | .nil,.nil =>true
 | .cons k nm n args at_ rest,.cons k' nm' n' args' at' rest'=>q k nm n args at_ k' nm' n' args' at'&&Exs.all2 q rest rest'
 |_,_=>false
theorem Exs.all2_len {q}:∀ {xs ys:Exs},xs.len≠ys.len→Exs.all2 q xs ys=false
 | .nil,.nil,h=>absurd rfl h
 | .nil,.cons ..,_=>rfl
 | .cons ..,.nil,_=>rfl
 | .cons _ _ _ _ _ r,.cons _ _ _ _ _ r',h=>by
  have:r.len≠r'.len:=fun e=>h (by simp[Exs.len,e])
  simp[Exs.all2,Exs.all2_len this]
theorem Exs.all2_drop {q} {xs ys:Exs} {i:Nat} {k nm n args at_ rest k' nm' n' args' at' rest'} (hd:Exs.drop i xs= .cons k nm n args at_ rest) (hd':Exs.drop i ys= .cons k' nm' n' args' at' rest')
  (hq:q k nm n args at_ k' nm' n' args' at'=true) (h:Exs.all2 q xs ys=Exs.all2 q (Exs.drop i xs) (Exs.drop i ys)):Exs.all2 q xs ys=Exs.all2 q (Exs.drop (i+1) xs) (Exs.drop (i+1) ys):=by
 rw[h,Exs.drop_succ i xs hd,Exs.drop_succ i ys hd',hd,hd']
 simp[Exs.all2,hq]

def AsksEx2 (g:Nat) (w:World) (B:Nat) (q:Int→ByteArray→Int→Exs→Int→Int→ByteArray→Int→Exs→Int→Bool) (xs ys:Exs):Prop:=
 ∀(i:Nat) (k:Int) (nm:ByteArray) (n:Int) (args:Exs) (at_:Int) (rest:Exs) (k':Int) (nm':ByteArray) (n':Int) (args':Exs) (at':Int) (rest':Exs),
  Exs.drop i xs= .cons k nm n args at_ rest→Exs.drop i ys= .cons k' nm' n' args' at' rest'→
  ∀(W:World) (A A':Option Addr) (c c':Nat),Below w.heap.size w W→ExSl W B args A c→ExSl W B args' A' c'→
   Calls Try.prog g #[.agg #[.int .u8 k,.string nm,.int .i64 n,.slice A args.len c,.int .i64 at_],.agg #[.int .u8 k',.string nm',.int .i64 n',.slice A' args'.len c',.int .i64 at']] W (BoolPost (q k nm n args at_ k' nm' n' args' at') W)

theorem equalEx (q:Int→ByteArray→Int→Exs→Int→Int→ByteArray→Int→Exs→Int→Bool) (xs ys:Exs) (A A':Option Addr) (c c':Nat) (g:Nat) (w:World) (B:Nat) (hB:B≤w.heap.size)
  (hx:ExSl w B xs A c) (hy:ExSl w B ys A' c') (hent:Enters Try.prog g) (hask:AsksEx2 g w B q xs ys):
  Calls Try.prog 53 #[.slice A xs.len c,.slice A' ys.len c',.func (.func g) #[] #[]] w (BoolPost (Exs.all2 q xs ys) w):=by
 have hl:xs.len≤9223372036854775807:=leq9 hx.1 hx.2.1
 have hl':ys.len≤9223372036854775807:=leq9 hy.1 hy.2.1
 have HA:=hdq hask
 clear hask
 unfold Enters at hent
 by_cases hlen:xs.len=ys.len
 ·obtain⟨m,hm⟩:=nmq ys.len
  have hxm:xs.len=m:=hlen.trans hm.symm
  rw[hxm,←hm]
  rw[←hm]at hl'
  have HM:=hdq hm
  have HL:=hdq hxm
  clear hlen hm hxm hl
  go_enter Try.func53,Try.ntmps53
  go_wp2
  go_loopw [17] (fun i wr=>∃k:Nat,k≤m∧i= .int .i64 k∧Below w.heap.size w wr∧Hid (Exs.all2 q xs ys=Exs.all2 q (Exs.drop k xs) (Exs.drop k ys))) (fun i _=>m - (intOf i).toNat)
  case atStart=>exact⟨0,Nat.zero_le _,rfl,Below.refl _ _,rfl⟩
  case round=>
   obtain⟨k,hk,rfl,hb,hall⟩:=hrel
   by_cases hlt:k < m
   ·obtain⟨a0,a1,a2,a3,a4,a5,hd⟩:=Exs.drop_cons (show k < xs.len from by rw[HL.out];exact hlt)
    obtain⟨b0,b1,b2,b3,b4,b5,hd'⟩:=Exs.drop_cons (show k < ys.len from by rw[←HM.out];exact hlt)
    obtain⟨b,o,rfl,hat⟩:=hx.2.2 (by rw[HL.out];omega)
    obtain⟨b',o',rfl,hat'⟩:=hy.2.2 (by rw[←HM.out];omega)
    obtain⟨hbB,c0,c1,c2,⟨A1,cc,c3,hsl⟩,c4,_⟩:=(hat.keep (Same.of hb hB)).at_ hd
    obtain⟨hbB',d0,d1,d2,⟨A2,cc',d3,hsl'⟩,d4,_⟩:=(hat'.keep (Same.of hb hB)).at_ hd'
    have hbw:b < wr.heap.size:=ltq hbB (leq9 hB hb.size)
    have hbw':b' < wr.heap.size:=ltq hbB' (leq9 hB hb.size)
    have hbn:¬b'=wr.heap.size:=by omega
    have hcall:=hdq (fun W hW s1 s2=>HA.out k a0 a1 a2 a3 a4 a5 b0 b1 b2 b3 b4 b5 hd hd' W A1 A2 cc cc' hW s1 s2)
    have H:=hdq hd
    have H':=hdq hd'
    have HS:=hdq hsl
    have HS':=hdq hsl'
    clear hd hd' hsl hsl' hx hy
    go_wp2_with fail
    have hW1:Below wr.heap.size wr ((wr.alloc (.cells #[.int .u8 a0,.string a1,.int .i64 a2,.slice A1 a3.len cc,.int .i64 a4] 63)).alloc (.cells #[.int .u8 b0,.string b1,.int .i64 b2,.slice A2 b3.len cc',.int .i64 b4] 63)):=
     ((Below.refl _ _).alloc (lrq _) _).alloc (by simp) _
    have hBr:=leq9 hB hb.size
    have hW2:=hb.trans (hW1.mono hb.size)
    refine(hcall.out _ hW2 (HS.out.keep (Same.of hW1 hBr)) (HS'.out.keep (Same.of hW1 hBr))).mono ?_
    rintro _ w1 ⟨rfl,hb1⟩
    have hb2:Below w.heap.size w w1:=hW2.trans (hb1.mono hW2.size)
    cases hp:q a0 a1 a2 a3 a4 b0 b1 b2 b3 b4
    ·have hfin:Exs.all2 q xs ys=false:=by rw[hall.out,H.out,H'.out];simp[Exs.all2,hp]
     have HF:=hdq hfin
     clear hp hall hcall c0 c1 c2 c3 c4 d0 d1 d2 d3 d4 hb1 hW1 hW2 hfin
     go_wp2_with fail
     go_ret
     exact⟨by rw[HF.out];rfl,hb2⟩
    ·have hall':=hdq (Exs.all2_drop H.out H'.out hp hall.out)
     clear hp hall hcall c0 c1 c2 c3 c4 d0 d1 d2 d3 d4 hb1 hW1 hW2
     go_wp2_with fail
     go_roundw
     case rel=>exact⟨k+1,by omega,by go_num,hb2,hall'⟩
     case measure=>simp[intOf];omega
   ·have hfin:Exs.all2 q xs ys=true:=by rw[hall.out,Exs.drop_nil (by rw[HL.out];omega),Exs.drop_nil (by rw[←HM.out];omega)];rfl
    have HF:=hdq hfin
    clear hfin hall
    go_wp2_with fail
    go_ret
    exact⟨by rw[HF.out];rfl,hb⟩
 ·have HF:=hdq (Exs.all2_len (q:=q) hlen)
  have hne:((xs.len:Int)==(ys.len:Int))=false:=by simp;omega
  have hne':((xs.len:Int) != (ys.len:Int))=true:=by simp;omega
  clear hx hy
  go_enter Try.func53,Try.ntmps53
  go_wp2_with fail
  go_ret
  exact⟨by rw[HF.out];rfl,Below.refl _ _⟩

def alikeX:Exs→Exs→Bool
 | .nil,.nil =>true
 | .cons k _ n args _ rest,.cons k' _ n' args' _ rest'=>(k==k')&&(n==n')&&alikeX args args'&&alikeX rest rest'
 |_,_=>false
theorem alike_all2:∀xs ys:Exs,Exs.all2 (fun k _ n args _ k' _ n' args' _=>(k==k')&&(n==n')&&alikeX args args') xs ys=alikeX xs ys
 | .nil,.nil =>rfl
 | .nil,.cons .. =>rfl
 | .cons ..,.nil =>rfl
 | .cons k nm n args at_ rest,.cons k' nm' n' args' at' rest'=>by simp only[Exs.all2,alikeX,alike_all2 rest rest']
theorem alike_one (k:Int) (nm:ByteArray) (n:Int) (at_:Int) (A:Option Addr) (l c:Nat) (k':Int) (nm':ByteArray) (n':Int) (at':Int) (A':Option Addr) (l' c':Nat) (r:Bool) (w:World)
  (hc:∀W,Below w.heap.size w W→Calls Try.prog 53 #[.slice A l c,.slice A' l' c',.func (.func 54) #[] #[]] W (BoolPost r W)):
  Calls Try.prog 54 #[exV k nm n A l c at_,exV k' nm' n' A' l' c' at'] w (BoolPost ((k==k')&&(n==n')&&r) w):=by
 have HC:=hdq hc
 clear hc
 unfold exV
 have hbb:∀c0 c1:Array Value,Below w.heap.size w ((w.alloc (.cells c0 63)).alloc (.cells c1 63)):=fun _ _=>((Below.refl _ _).alloc (lrq _) _).alloc (by simp) _
 have HBB:=hdq hbb
 clear hbb
 cases h1:k==k'
 ·go_enter Try.func54,Try.ntmps54
  go_wp2_with fail
  go_ret
  exact⟨rfl,HBB.out _ _⟩
 cases h2:n==n'
 ·go_enter Try.func54,Try.ntmps54
  go_wp2_with fail
  go_ret
  exact⟨rfl,HBB.out _ _⟩
 go_enter Try.func54,Try.ntmps54
 go_wp2_with fail
 refine(HC.out _ (HBB.out _ _)).mono ?_
 rintro e w1 ⟨rfl,hb1⟩
 go_wp2_with fail
 go_ret
 exact⟨rfl,(HBB.out _ _).trans (hb1.mono (HBB.out _ _).size)⟩
theorem alike_asks (B:Nat):∀(xs ys:Exs) (w:World),B≤w.heap.size→AsksEx2 54 w B (fun k _ n args _ k' _ n' args' _=>(k==k')&&(n==n')&&alikeX args args') xs ys
 | .nil,_,_,_=>fun i _ _ _ _ _ _ _ _ _ _ _ _ hd=>by cases i<;>simp[Exs.drop]at hd
 | .cons ..,.nil,_,_=>fun i _ _ _ _ _ _ _ _ _ _ _ _ _ hd=>by cases i<;>simp[Exs.drop]at hd
 | .cons k nm n args at_ rest,.cons k' nm' n' args' at' rest',w,hB=>fun i _ _ _ _ _ _ _ _ _ _ _ _ hd hd' W A A' c c' hb hs hs'=>by
  cases i with
  |zero=>
   simp only[Exs.drop]at hd hd'
   injection hd with e1 e2 e3 e4 e5 e6
   injection hd' with f1 f2 f3 f4 f5 f6
   subst e1 e2 e3 e4 e5 e6 f1 f2 f3 f4 f5 f6
   refine alike_one k nm n at_ A args.len c k' nm' n' at' A' args'.len c' _ W fun W2 hb2=>?_
   have hBW:=leq9 hB hb.size
   have:=equalEx (fun k _ n args _ k' _ n' args' _=>(k==k')&&(n==n')&&alikeX args args') args args' A A' c c' 54 W2 B (leq9 hBW hb2.size) (hs.keep (Same.of hb2 hBW)) (hs'.keep (Same.of hb2 hBW))
    (enters_of Try.func54 (by kernel_rfl) rfl) (alike_asks B args args' W2 (leq9 hBW hb2.size))
   rw[alike_all2]at this
   exact this
  |succ i=>
   simp only[Exs.drop]at hd hd'
   exact alike_asks B rest rest' w hB i _ _ _ _ _ _ _ _ _ _ _ _ hd hd' W A A' c c' hb hs hs'
theorem alike_any (xs ys:Exs) (A A':Option Addr) (c c':Nat) (w:World) (B:Nat) (hB:B≤w.heap.size) (hx:ExSl w B xs A c) (hy:ExSl w B ys A' c'):
  Calls Try.prog 53 #[.slice A xs.len c,.slice A' ys.len c',.func (.func 54) #[] #[]] w (BoolPost (alikeX xs ys) w):=by
 have:=equalEx _ xs ys A A' c c' 54 w B hB hx hy (enters_of Try.func54 (by kernel_rfl) rfl) (alike_asks B xs ys w hB)
 rw[alike_all2]at this
 exact this

theorem below_any (n m:Int) (w:World):Calls Try.prog 28 #[.int .i64 n,.int .i64 m] w fun e w'=>e= .returned (.bool (decide (0≤n)&&decide (n < m)))∧w=w':=by
 by_cases h:0≤n
 ·go_enter Try.func28,Try.ntmps28
  go_wp2
  go_ret
  exact⟨by simp[h],rfl⟩
 ·have e1:(decide (0≤n)&&decide (n < m))=false:=by simp[h]
  rw[e1]
  clear e1
  go_enter Try.func28,Try.ntmps28
  go_wp2
  go_ret
  exact⟨rfl,rfl⟩

structure MayEnv (w:World) (G M:Nat) (vars:Int) (Aa:Option Addr) (na ca:Nat):Prop where
 g:G < w.heap.size
 m:M < w.heap.size
 g0:w.cell? ⟨G,0,none⟩=some (.int .i64 vars)
 g1:w.cell? ⟨G,1,none⟩=some (.slice Aa na ca)
 m0:w.cell? ⟨M,0,none⟩=some (.func (.func 70) #[] #[.pointer (some ⟨G,0,none⟩),.pointer (some ⟨M,0,none⟩)])
theorem MayEnv.keep {w w':World} {G M:Nat} {vars:Int} {Aa:Option Addr} {na ca:Nat} (h:MayEnv w G M vars Aa na ca) (hb:Below w.heap.size w w'):MayEnv w' G M vars Aa na ca:=
 ⟨ltq h.g hb.size,ltq h.m hb.size,(hb.cell h.g).trans h.g0,(hb.cell h.g).trans h.g1,(hb.cell h.m).trans h.m0⟩

def MayCalls (A Aa:Option Addr) (c na ca G M l:Nat) (vars:Int) (mx:Bool) (w:World):Prop:=
 ∀W,Below w.heap.size w W→Calls Try.prog 50 #[.slice A l c,.func (.func 71) #[] #[.pointer (some ⟨M,0,none⟩)]] W (BoolPost (!mx) W)

theorem may_k1 (vars:Int) (na:Nat) (nm:ByteArray) (n:Int) (at_:Int) (A Aa:Option Addr) (c ca G M l:Nat) (mx:Bool) (w:World) (hl:l≤9223372036854775807)
  (hm:MayEnv w G M vars Aa na ca) (hc:MayCalls A Aa c na ca G M l vars mx w):
  Calls Try.prog 70 #[exV 1 nm n A l c at_,.pointer (some ⟨G,0,none⟩),.pointer (some ⟨M,0,none⟩)] w (BoolPost (mayK vars na 1 n l&&mx) w):=by
 obtain⟨hg,hmm,g0,g1,m0⟩:=hm
 have HC:=hdq hc
 clear hc
 unfold exV
 by_cases hl0:l=0
 ·subst hl0
  by_cases hn:0≤n
  ·have HF:Hid ((mayK vars na 1 n 0&&mx)=mx):=by show _=_;simp[mayK,rightN,argc,hn]
   go_enter Try.func70,Try.ntmps70
   go_wp2_with fail
   go_quiet (fail)
   go_wp2_with fail
   go_quiet (fail)
   go_wp2_with fail
   refine(HC.out _ (below_drewN ((Below.refl _ _).alloc (lrq _) _) _)).mono ?_
   rintro e w1 ⟨rfl,hb1⟩
   go_wp2_with fail
   go_ret
   exact⟨by rw[HF.out];simp,(below_drewN ((Below.refl _ _).alloc (lrq _) _) _).trans (hb1.mono (by simp))⟩
  ·have HF:Hid ((mayK vars na 1 n 0&&mx)=false):=by show _=_;simp[mayK,rightN,argc,hn]
   go_enter Try.func70,Try.ntmps70
   go_wp2_with fail
   go_quiet (fail)
   go_wp2_with fail
   go_quiet (fail)
   go_wp2_with fail
   go_ret
   exact⟨by rw[HF.out];rfl,below_drewN ((Below.refl _ _).alloc (lrq _) _) _⟩
 ·have HF:Hid ((mayK vars na 1 n l&&mx)=false):=by show _=_;simp[mayK,rightN,argc,hl0]
  go_enter Try.func70,Try.ntmps70
  go_wp2_with fail
  go_quiet (fail)
  go_wp2_with fail
  go_quiet (fail)
  go_wp2_with fail
  all_goals
   go_ret
   exact⟨by rw[HF.out];rfl,below_drewN ((Below.refl _ _).alloc (lrq _) _) _⟩
theorem may_k2 (vars:Int) (na:Nat) (nm:ByteArray) (n:Int) (at_:Int) (A Aa:Option Addr) (c ca G M l:Nat) (mx:Bool) (w:World) (hl:l≤9223372036854775807)
  (hm:MayEnv w G M vars Aa na ca) (hc:MayCalls A Aa c na ca G M l vars mx w):
  Calls Try.prog 70 #[exV 2 nm n A l c at_,.pointer (some ⟨G,0,none⟩),.pointer (some ⟨M,0,none⟩)] w (BoolPost (mayK vars na 2 n l&&mx) w):=by
 obtain⟨hg,hmm,g0,g1,m0⟩:=hm
 have HC:=hdq hc
 clear hc
 unfold exV
 by_cases hn:(decide (0≤n)&&decide (n < vars))=true
 ·by_cases hl0:l=0
  ·subst hl0
   have HF:Hid ((mayK vars na 2 n 0&&mx)=mx):=by show _=_;simp at hn;simp[mayK,rightN,argc,hn]
   go_enter Try.func70,Try.ntmps70
   go_wp2_with fail
   go_quiet (fail)
   go_wp2_with (go_at_call 28;refine(below_any _ _ _).mono ?_;rintro e w' ⟨rfl,rfl⟩)
   refine(HC.out _ (below_drewN ((Below.refl _ _).alloc (lrq _) _) _)).mono ?_
   rintro e w1 ⟨rfl,hb1⟩
   go_wp2_with fail
   go_ret
   exact⟨by rw[HF.out];simp,(below_drewN ((Below.refl _ _).alloc (lrq _) _) _).trans (hb1.mono (by simp))⟩
  ·have HF:Hid ((mayK vars na 2 n l&&mx)=false):=by show _=_;simp[mayK,rightN,argc];omega
   go_enter Try.func70,Try.ntmps70
   go_wp2_with fail
   go_quiet (fail)
   go_wp2_with (go_at_call 28;refine(below_any _ _ _).mono ?_;rintro e w' ⟨rfl,rfl⟩)
   go_ret
   exact⟨by rw[HF.out];rfl,below_drewN ((Below.refl _ _).alloc (lrq _) _) _⟩
 ·have hn':(decide (0≤n)&&decide (n < vars))=false:=by simpa using hn
  have HF:Hid ((mayK vars na 2 n l&&mx)=false):=by show _=_;simp only[mayK,rightN];simp[hn']
  clear hn
  go_enter Try.func70,Try.ntmps70
  go_wp2_with fail
  go_quiet (fail)
  go_wp2_with (go_at_call 28;refine(below_any _ _ _).mono ?_;rintro e w' ⟨rfl,rfl⟩)
  all_goals
   go_ret
   exact⟨by rw[HF.out];rfl,below_drewN ((Below.refl _ _).alloc (lrq _) _) _⟩
theorem may_k3 (vars:Int) (na:Nat) (nm:ByteArray) (n:Int) (at_:Int) (A Aa:Option Addr) (c ca G M l:Nat) (mx:Bool) (w:World) (hl:l≤9223372036854775807) (hna:na≤9223372036854775807)
  (hm:MayEnv w G M vars Aa na ca) (hc:MayCalls A Aa c na ca G M l vars mx w):
  Calls Try.prog 70 #[exV 3 nm n A l c at_,.pointer (some ⟨G,0,none⟩),.pointer (some ⟨M,0,none⟩)] w (BoolPost (mayK vars na 3 n l&&mx) w):=by
 obtain⟨hg,hmm,g0,g1,m0⟩:=hm
 have HC:=hdq hc
 clear hc
 unfold exV
 by_cases hn:(decide (0≤n)&&decide (n < (na:Int)))=true
 ·by_cases hl0:l=1
  ·subst hl0
   have HF:Hid ((mayK vars na 3 n 1&&mx)=mx):=by show _=_;simp at hn;simp[mayK,rightN,argc,hn]
   go_enter Try.func70,Try.ntmps70
   go_wp2_with fail
   go_quiet (fail)
   go_wp2_with (go_at_call 28;refine(below_any _ _ _).mono ?_;rintro e w' ⟨rfl,rfl⟩)
   refine(HC.out _ (below_drewN ((Below.refl _ _).alloc (lrq _) _) _)).mono ?_
   rintro e w1 ⟨rfl,hb1⟩
   go_wp2_with fail
   go_ret
   exact⟨by rw[HF.out];simp,(below_drewN ((Below.refl _ _).alloc (lrq _) _) _).trans (hb1.mono (by simp))⟩
  ·have HF:Hid ((mayK vars na 3 n l&&mx)=false):=by show _=_;simp[mayK,rightN,argc];omega
   go_enter Try.func70,Try.ntmps70
   go_wp2_with fail
   go_quiet (fail)
   go_wp2_with (go_at_call 28;refine(below_any _ _ _).mono ?_;rintro e w' ⟨rfl,rfl⟩)
   go_ret
   exact⟨by rw[HF.out];rfl,below_drewN ((Below.refl _ _).alloc (lrq _) _) _⟩
 ·have hn':(decide (0≤n)&&decide (n < (na:Int)))=false:=by simpa using hn
  have HF:Hid ((mayK vars na 3 n l&&mx)=false):=by show _=_;simp only[mayK,rightN];simp[hn']
  clear hn
  go_enter Try.func70,Try.ntmps70
  go_wp2_with fail
  go_quiet (fail)
  go_wp2_with (go_at_call 28;refine(below_any _ _ _).mono ?_;rintro e w' ⟨rfl,rfl⟩)
  all_goals
   go_ret
   exact⟨by rw[HF.out];rfl,below_drewN ((Below.refl _ _).alloc (lrq _) _) _⟩

theorem may_k4 (vars:Int) (na:Nat) (nm:ByteArray) (n:Int) (at_:Int) (A Aa:Option Addr) (c ca G M l:Nat) (mx:Bool) (w:World) (hl:l≤9223372036854775807)
  (hm:MayEnv w G M vars Aa na ca) (hc:MayCalls A Aa c na ca G M l vars mx w):
  Calls Try.prog 70 #[exV 4 nm n A l c at_,.pointer (some ⟨G,0,none⟩),.pointer (some ⟨M,0,none⟩)] w (BoolPost (mayK vars na 4 n l&&mx) w):=by
 obtain⟨hg,hmm,g0,g1,m0⟩:=hm
 have HC:=hdq hc
 clear hc
 unfold exV
 by_cases hl0:l=1
 ·subst hl0
  by_cases hn0:n=0
  ·subst hn0
   have HF:Hid ((mayK vars na 4 0 1&&mx)=mx):=by show _=_;simp[mayK,rightN,argc]
   go_enter Try.func70,Try.ntmps70
   go_wp2_with fail
   go_quiet (fail)
   go_wp2_with fail
   refine(HC.out _ (below_drewN ((Below.refl _ _).alloc (lrq _) _) _)).mono ?_
   rintro e w1 ⟨rfl,hb1⟩
   go_wp2_with fail
   go_ret
   exact⟨by rw[HF.out];simp,(below_drewN ((Below.refl _ _).alloc (lrq _) _) _).trans (hb1.mono (by simp))⟩
  ·have hn:(n==0)=false:=by simpa using hn0
   have HF:Hid ((mayK vars na 4 n 1&&mx)=false):=by show _=_;simp[mayK,rightN,argc,hn0]
   clear hn0
   go_enter Try.func70,Try.ntmps70
   go_wp2_with fail
   go_quiet (fail)
   go_wp2_with fail
   go_ret
   exact⟨by rw[HF.out];rfl,below_drewN ((Below.refl _ _).alloc (lrq _) _) _⟩
 ·have HF:Hid ((mayK vars na 4 n l&&mx)=false):=by show _=_;simp[mayK,rightN,argc];omega
  have hl1:((l:Int)==1)=false:=by simp;omega
  go_enter Try.func70,Try.ntmps70
  go_wp2_with fail
  go_quiet (fail)
  go_wp2_with fail
  all_goals
   go_ret
   exact⟨by rw[HF.out];rfl,below_drewN ((Below.refl _ _).alloc (lrq _) _) _⟩
theorem may_kx (vars:Int) (na:Nat) (k:Int) (nm:ByteArray) (n:Int) (at_:Int) (A Aa:Option Addr) (c ca G M l:Nat) (mx:Bool) (w:World) (hl:l≤9223372036854775807) (hk:in8 k) (h1:¬k=1) (h2:¬k=2) (h3:¬k=3) (h4:¬k=4)
  (hm:MayEnv w G M vars Aa na ca) (hc:MayCalls A Aa c na ca G M l vars mx w):
  Calls Try.prog 70 #[exV k nm n A l c at_,.pointer (some ⟨G,0,none⟩),.pointer (some ⟨M,0,none⟩)] w (BoolPost (mayK vars na k n l&&mx) w):=by
 obtain⟨hg,hmm,g0,g1,m0⟩:=hm
 have HC:=hdq hc
 clear hc
 unfold exV
 have b1:(k==1)=false:=by simpa using h1
 have b2:(k==2)=false:=by simpa using h2
 have b3:(k==3)=false:=by simpa using h3
 have b4:(k==4)=false:=by simpa using h4
 by_cases hr:5≤k∧k≤11
 ·obtain⟨hr1,hr2⟩:=hr
  have hr0:1≤k:=by omega
  by_cases hl0:l=2
  ·subst hl0
   by_cases hn0:n=0
   ·subst hn0
    have HF:Hid ((mayK vars na k 0 2&&mx)=mx):=by show _=_;simp[mayK,rightN,argc,h1,h2,h3,h4,hr0,hr2]
    clear h1 h2 h3 h4
    go_enter Try.func70,Try.ntmps70
    go_wp2_with fail
    go_quiet (fail)
    go_wp2_with fail
    refine(HC.out _ (below_drewN ((Below.refl _ _).alloc (lrq _) _) _)).mono ?_
    rintro e w1 ⟨rfl,hb1⟩
    go_wp2_with fail
    go_ret
    exact⟨by rw[HF.out];simp,(below_drewN ((Below.refl _ _).alloc (lrq _) _) _).trans (hb1.mono (by simp))⟩
   ·have hn:(n==0)=false:=by simpa using hn0
    have HF:Hid ((mayK vars na k n 2&&mx)=false):=by show _=_;simp[mayK,rightN,argc,h1,h2,h3,h4,hn0]
    clear h1 h2 h3 h4 hn0
    go_enter Try.func70,Try.ntmps70
    go_wp2_with fail
    go_quiet (fail)
    go_wp2_with fail
    go_ret
    exact⟨by rw[HF.out];rfl,below_drewN ((Below.refl _ _).alloc (lrq _) _) _⟩
  ·have HF:Hid ((mayK vars na k n l&&mx)=false):=by show _=_;simp only[mayK,argc,if_neg h1,if_neg h2,if_neg h3,if_neg h4];simp;omega
   have hl1:((l:Int)==2)=false:=by simp;omega
   clear h1 h2 h3 h4
   go_enter Try.func70,Try.ntmps70
   go_wp2_with fail
   go_quiet (fail)
   go_wp2_with fail
   all_goals
    go_ret
    exact⟨by rw[HF.out];rfl,below_drewN ((Below.refl _ _).alloc (lrq _) _) _⟩
 ·have HF:Hid ((mayK vars na k n l&&mx)=false):=by
   show _=_
   have:¬(1≤k∧k≤11):=by omega
   simp only[mayK]
   by_cases hh:1≤k
   ·have:¬k≤11:=by omega
    simp[this]
   ·simp[hh]
  by_cases hr1:1≤k
  ·have hr2:¬k≤11:=by omega
   clear h1 h2 h3 h4 hr
   go_enter Try.func70,Try.ntmps70
   go_wp2_with fail
   go_quiet (fail)
   go_wp2_with fail
   all_goals
    go_ret
    exact⟨by rw[HF.out];rfl,below_drewN ((Below.refl _ _).alloc (lrq _) _) _⟩
  ·clear h1 h2 h3 h4 hr
   go_enter Try.func70,Try.ntmps70
   go_wp2_with fail
   go_quiet (fail)
   go_wp2_with fail
   all_goals
    go_ret
    exact⟨by rw[HF.out];rfl,below_drewN ((Below.refl _ _).alloc (lrq _) _) _⟩

theorem may_one (vars:Int) (na:Nat) (k:Int) (nm:ByteArray) (n:Int) (at_:Int) (A Aa:Option Addr) (c ca G M l:Nat) (mx:Bool) (w:World) (hl:l≤9223372036854775807) (hna:na≤9223372036854775807) (hk:in8 k)
  (hm:MayEnv w G M vars Aa na ca) (hc:MayCalls A Aa c na ca G M l vars mx w):
  Calls Try.prog 70 #[exV k nm n A l c at_,.pointer (some ⟨G,0,none⟩),.pointer (some ⟨M,0,none⟩)] w (BoolPost (mayK vars na k n l&&mx) w):=by
 by_cases h1:k=1
 ·subst h1;exact may_k1 vars na nm n at_ A Aa c ca G M l mx w hl hm hc
 by_cases h2:k=2
 ·subst h2;exact may_k2 vars na nm n at_ A Aa c ca G M l mx w hl hm hc
 by_cases h3:k=3
 ·subst h3;exact may_k3 vars na nm n at_ A Aa c ca G M l mx w hl hna hm hc
 by_cases h4:k=4
 ·subst h4;exact may_k4 vars na nm n at_ A Aa c ca G M l mx w hl hm hc
 exact may_kx vars na k nm n at_ A Aa c ca G M l mx w hl hk h1 h2 h3 h4 hm hc

theorem not_one (vars:Int) (na:Nat) (k:Int) (nm:ByteArray) (n:Int) (at_:Int) (A Aa:Option Addr) (c ca G M l:Nat) (r:Bool) (w:World) (hm:MayEnv w G M vars Aa na ca)
  (hc:∀W,Below w.heap.size w W→Calls Try.prog 70 #[exV k nm n A l c at_,.pointer (some ⟨G,0,none⟩),.pointer (some ⟨M,0,none⟩)] W (BoolPost r W)):
  Calls Try.prog 71 #[exV k nm n A l c at_,.pointer (some ⟨M,0,none⟩)] w (BoolPost (!r) w):=by
 obtain⟨hg,hmm,g0,g1,m0⟩:=hm
 have HC:=hdq hc
 clear hc g0 g1
 unfold exV at HC ⊢
 go_enter Try.func71,Try.ntmps71
 go_wp2_with fail
 refine(HC.out _ ((Below.refl _ _).alloc (lrq _) _)).mono ?_
 rintro e w1 ⟨rfl,hb1⟩
 go_wp2_with fail
 go_ret
 exact⟨rfl,((Below.refl _ _).alloc (lrq _) _).trans (hb1.mono (by simp))⟩

theorem not_asks (vars:Int) (na:Nat) (Aa:Option Addr) (ca G M:Nat) (B:Nat) (hna:na≤9223372036854775807):∀(xs:Exs) (w:World),B≤w.heap.size→MayEnv w G M vars Aa na ca→
  AsksEx 71 #[.pointer (some ⟨M,0,none⟩)] w B (fun k _ n args _=> !(mayK vars na k n args.len&&mayX vars na args)) xs
 | .nil,_,_,_=>fun i _ _ _ _ _ _ hd=>by cases i<;>simp[Exs.drop]at hd
 | .cons k nm n args at_ rest,w,hB,hm=>fun i k' nm' n' args' at' rest' hd hk hn hat W A c hb hsl=>by
  cases i with
  |zero=>
   simp only[Exs.drop]at hd
   injection hd with e1 e2 e3 e4 e5 e6
   subst e1 e2 e3 e4 e5 e6
   have hmW:=hm.keep hb
   refine not_one vars na k nm n at_ A Aa c ca G M args.len _ W hmW fun W2 hb2=>?_
   refine may_one vars na k nm n at_ A Aa c ca G M args.len _ W2 (leq9 hsl.1 hsl.2.1) hna hk (hmW.keep hb2) fun W3 hb3=>?_
   have hb23:=hb2.trans (hb3.mono hb2.size)
   have hB3:B≤W3.heap.size:=leq9 hB (leq9 hb.size hb23.size)
   have:=containsEx (fun k _ n args _=> !(mayK vars na k n args.len&&mayX vars na args)) args A c 71 #[.pointer (some ⟨M,0,none⟩)] W3 B hB3
    (hsl.keep (Same.of hb23 (leq9 hB hb.size))) (enters_of Try.func71 (by kernel_rfl) rfl) (not_asks vars na Aa ca G M B hna args W3 hB3 (hmW.keep hb23))
   rw[any_not_may]at this
   exact this
  |succ i=>
   simp only[Exs.drop]at hd
   exact not_asks vars na Aa ca G M B hna rest w hB hm i k' nm' n' args' at' rest' hd hk hn hat W A c hb hsl

theorem deednot_one (vars:Int) (na:Nat) (k:Int) (nm:ByteArray) (n:Int) (at_:Int) (A Aa:Option Addr) (c ca G M l V:Nat) (r:Bool) (w:World) (hm:MayEnv w G M vars Aa na ca)
  (hV:w.cell? ⟨V,0,none⟩=some (.func (.func 70) #[] #[.pointer (some ⟨G,0,none⟩),.pointer (some ⟨M,0,none⟩)])) (hVl:V < w.heap.size)
  (hc:∀W,Below w.heap.size w W→Calls Try.prog 70 #[exV k nm n A l c at_,.pointer (some ⟨G,0,none⟩),.pointer (some ⟨M,0,none⟩)] W (BoolPost r W)):
  Calls Try.prog 51 #[exV k nm n A l c at_,.pointer (some ⟨V,0,none⟩)] w (BoolPost (!r) w):=by
 have HC:=hdq hc
 clear hc hm
 unfold exV at HC ⊢
 go_enter Try.func51,Try.ntmps51
 go_wp2_with fail
 refine(HC.out _ ((Below.refl _ _).alloc (lrq _) _)).mono ?_
 rintro e w1 ⟨rfl,hb1⟩
 go_wp2_with fail
 go_ret
 exact⟨rfl,((Below.refl _ _).alloc (lrq _) _).trans (hb1.mono (by simp))⟩
theorem deednot_asks (vars:Int) (na:Nat) (Aa:Option Addr) (ca G M V:Nat) (B:Nat) (hna:na≤9223372036854775807) (xs:Exs) (w:World) (hB:B≤w.heap.size) (hm:MayEnv w G M vars Aa na ca)
  (hV:w.cell? ⟨V,0,none⟩=some (.func (.func 70) #[] #[.pointer (some ⟨G,0,none⟩),.pointer (some ⟨M,0,none⟩)])) (hVl:V < w.heap.size):
  AsksEx 51 #[.pointer (some ⟨V,0,none⟩)] w B (fun k _ n args _=> !(mayK vars na k n args.len&&mayX vars na args)) xs:=by
 intro i k nm n args at_ rest hd hk hn hat W A c hb hsl
 have hmW:=hm.keep hb
 refine deednot_one vars na k nm n at_ A Aa c ca G M args.len V _ W hmW ((hb.cell hVl).trans hV) (ltq hVl hb.size) fun W2 hb2=>?_
 refine may_one vars na k nm n at_ A Aa c ca G M args.len _ W2 (leq9 hsl.1 hsl.2.1) hna hk (hmW.keep hb2) fun W3 hb3=>?_
 have hb23:=hb2.trans (hb3.mono hb2.size)
 have hB3:B≤W3.heap.size:=leq9 hB (leq9 hb.size hb23.size)
 have:=containsEx (fun k _ n args _=> !(mayK vars na k n args.len&&mayX vars na args)) args A c 71 #[.pointer (some ⟨M,0,none⟩)] W3 B hB3
  (hsl.keep (Same.of hb23 (leq9 hB hb.size))) (enters_of Try.func71 (by kernel_rfl) rfl) (not_asks vars na Aa ca G M B hna args W3 hB3 (hmW.keep hb23))
 rw[any_not_may]at this
 exact this

def grV (vars:Int) (Aa:Option Addr) (na ca:Nat) (nodes start last:Int) (Ae:Option Addr) (ne ce:Nat):Value:= .agg #[.int .i64 vars,.slice Aa na ca,.int .i64 nodes,.int .i64 start,.int .i64 last,.slice Ae ne ce]

def ExprPost (vars:Int) (Aa:Option Addr) (na ca:Nat) (W:World) (e:Ending) (w':World):Prop:=
 ∃G M:Nat,e= .returned (.func (.func 70) #[] #[.pointer (some ⟨G,0,none⟩),.pointer (some ⟨M,0,none⟩)])∧MayEnv w' G M vars Aa na ca∧Below W.heap.size W w'
theorem fexpr_any (vars:Int) (Aa:Option Addr) (na ca:Nat) (nodes start last:Int) (Ae:Option Addr) (ne ce:Nat) (w:World):
  Calls Try.prog 49 #[grV vars Aa na ca nodes start last Ae ne ce] w (ExprPost vars Aa na ca w):=by
 unfold grV
 go_enter Try.func49,Try.ntmps49
 go_wp2
 go_ret
 exact⟨w.heap.size,w.heap.size+1,rfl,⟨by simp;omega,by simp,by simp,by simp,by simp⟩,((Below.refl _ _).alloc (lrq _) _).alloc (by simp) _⟩

def doV (k n cmp:Int) (A:Option Addr) (l c:Nat):Value:= .agg #[.int .u8 k,.int .i64 n,.int .u8 cmp,.slice A l c]
def argsD (k:Int):Int:=if k=3 then 1 else if k=4 then 2 else if k=6 then 2 else 0
def mostD (vars arrs k:Int):Int:=if k=3 then vars else if k=5 then vars else if k=4 then arrs else 1
def cmpD (k cmp:Int):Bool:=if k=6 then decide (3≤cmp)&&decide (cmp≤8)else cmp==0
def headD (vars arrs k n:Int) (l:Nat):Bool:=decide (1≤k)&&decide (k≤8)&&(decide (0≤n)&&decide (n < mostD vars arrs k))&&((l:Int)==argsD k)
def mayD (vars arrs k n cmp:Int) (args:Exs):Bool:=headD vars arrs k n args.len&&cmpD k cmp&&mayX vars arrs args

def ArrD (w:World) (P Q:Nat) (vars:Int) (na:Nat):Prop:=
 P < w.heap.size∧Q < w.heap.size∧∀k:Nat,k≤8→w.cell? ⟨P,k,none⟩=some (.int .i64 (argsD k))∧w.cell? ⟨Q,k,none⟩=some (.int .i64 (if k=0 then 0 else mostD vars na k))

theorem mayD_head {vars arrs k n cmp:Int} {args:Exs} {l:Nat} (hl:l=args.len) (h:headD vars arrs k n l=false):mayD vars arrs k n cmp args=false:=by
 subst hl;simp[mayD,h]
theorem mayD_cmp {vars arrs k n cmp:Int} {args:Exs} (h:cmpD k cmp=false):mayD vars arrs k n cmp args=false:=by
 simp[mayD,h]
theorem mayD_good {vars arrs k n cmp:Int} {args:Exs} {l:Nat} (hl:l=args.len) (h1:headD vars arrs k n l=true) (h2:cmpD k cmp=true):mayD vars arrs k n cmp args=mayX vars arrs args:=by
 subst hl;simp[mayD,h1,h2]

theorem deed_any (k:Nat) (n cmp:Int) (args:Exs) (A:Option Addr) (c:Nat) (vars:Int) (Aa:Option Addr) (na ca:Nat) (nodes start last:Int) (Ae:Option Addr) (ne ce B:Nat) (w:World)
  (hB:B≤w.heap.size) (hx:ExSl w B args A c) (hk:k≤255) (hcm:in8 cmp) (hna:na≤9223372036854775807):
  Calls Try.prog 33 #[grV vars Aa na ca nodes start last Ae ne ce,doV k n cmp A args.len c] w (BoolPost (mayD vars na k n cmp args) w):=by
 unfold grV doV
 have hl:args.len≤9223372036854775807:=leq9 hx.1 hx.2.1
 obtain⟨l,hll⟩:=nmq args.len
 have HL:=hdq hll
 have HX:=hdq hx
 rw[←hll]at hl ⊢
 clear hll hx
 go_enter Try.func33,Try.ntmps33
 go_upto_region 1 with fail
 go_cut [5,6] (fun s5 s6 wx=>∃P Q:Nat,s5= .pointer (some ⟨P,0,none⟩)∧s6= .pointer (some ⟨Q,0,none⟩)∧ArrD wx P Q vars na∧Below w.heap.size w wx∧w.heap.size+1 < wx.heap.size∧
  wx.cell? ⟨w.heap.size,0,none⟩=some (.int .i64 vars)∧wx.cell? ⟨w.heap.size,1,none⟩=some (.slice Aa na ca)∧wx.cell? ⟨w.heap.size,2,none⟩=some (.int .i64 nodes)∧wx.cell? ⟨w.heap.size,3,none⟩=some (.int .i64 start)∧
  wx.cell? ⟨w.heap.size,4,none⟩=some (.int .i64 last)∧wx.cell? ⟨w.heap.size,5,none⟩=some (.slice Ae ne ce)∧
  wx.cell? ⟨w.heap.size+1,0,none⟩=some (.int .u8 k)∧wx.cell? ⟨w.heap.size+1,1,none⟩=some (.int .i64 n)∧wx.cell? ⟨w.heap.size+1,2,none⟩=some (.int .u8 cmp)∧wx.cell? ⟨w.heap.size+1,3,none⟩=some (.slice A l c))
 case first=>
  go_region
  all_goals
   go_wp2_with fail
   go_meet
   refine⟨_,_,rfl,rfl,⟨by simp<;>omega,by simp<;>omega,?_⟩,?_,by simp<;>omega,(cells4 w _ _ _ _ _ _ _ _ 0).1,(cells4 w _ _ _ _ _ _ _ _ 1).1,(cells4 w _ _ _ _ _ _ _ _ 2).1,(cells4 w _ _ _ _ _ _ _ _ 3).1,(cells4 w _ _ _ _ _ _ _ _ 4).1,(cells4 w _ _ _ _ _ _ _ _ 5).1,(cells4 w _ _ _ _ _ _ _ _ 0).2.1,(cells4 w _ _ _ _ _ _ _ _ 1).2.1,(cells4 w _ _ _ _ _ _ _ _ 2).2.1,(cells4 w _ _ _ _ _ _ _ _ 3).2.1⟩
   ·intro j hj
    have hj':j=0∨j=1∨j=2∨j=3∨j=4∨j=5∨j=6∨j=7∨j=8:=by omega
    rcases hj' with rfl|rfl|rfl|rfl|rfl|rfl|rfl|rfl|rfl
    all_goals first|exact⟨(cells4 w _ _ _ _ _ _ _ _ _).2.2.1,(cells4 w _ _ _ _ _ _ _ _ _).2.2.2⟩|exact⟨(cells4 w _ _ _ _ _ _ _ _ _).2.2.2,(cells4 w _ _ _ _ _ _ _ _ _).2.2.1⟩
   ·exact(((((Below.refl _ _).alloc (lrq _) _).alloc (by simp) _).alloc (by simp<;>omega) _).alloc (by simp<;>omega) _).drew
 case rest=>
  obtain⟨P,Q,rfl,rfl,⟨hP,hQ,hPQ⟩,hbw,hsz,g0,g1,g2,g3,g4,g5,d0,d1,d2,d3⟩:=hcut
  by_cases k0:k=0
  ·have HF:=hdq (mayD_head (vars:=vars) (arrs:=na) (k:=k) (n:=n) (cmp:=cmp) HL.out (by subst k0;simp[headD]))
   subst k0
   clear hPQ
   go_wp2_with fail
   go_quiet (fail)
   go_wp2_with fail
   go_ret
   exact⟨by rw[HF.out];rfl,below_drewN hbw _⟩
  by_cases k8:8 < k
  ·have HF:=hdq (mayD_head (vars:=vars) (arrs:=na) (k:=k) (n:=n) (cmp:=cmp) HL.out (by simp[headD,show ¬(k:Int)≤8 from by omega]))
   have k1:decide ((k:Int) < 1)=false:=by simp;omega
   have k8':decide (8 < (k:Int))=true:=by simp;omega
   clear hPQ k0 k8
   go_wp2_with fail
   go_quiet (fail)
   go_wp2_with fail
   go_ret
   exact⟨by rw[HF.out];rfl,below_drewN hbw _⟩
  obtain⟨p0,q0⟩:=hPQ k (by omega)
  rw[if_neg k0]at q0
  have k1':decide ((k:Int) < 1)=false:=by simp;omega
  have k8':decide (8 < (k:Int))=false:=by simp;omega
  have hk1:decide (1≤(k:Int))=true:=by simp;omega
  have hk8:decide ((k:Int)≤8)=true:=by simp;omega
  obtain⟨mo,hmo⟩:=nmq (mostD vars na k)
  obtain⟨ar,har⟩:=nmq (argsD k)
  rw[←hmo]at q0
  rw[←har]at p0
  have HHD:Hid (headD vars na k n l=((decide (0≤n)&&decide (n < mo))&&((l:Int)==ar))):=by show _=_;rw[headD,hk1,hk8,←hmo,←har];simp
  clear hmo har hk1 hk8 hPQ
  by_cases hb0:(decide (0≤n)&&decide (n < mo))=true
  ·by_cases ha0:((l:Int)==ar)=true
   ·have HH:=hdq (show headD vars na k n l=true from by rw[HHD.out,hb0,ha0];rfl)
    go_wp2_with fail
    go_quiet ((go_at_call 28;exact quiet_left (below_any _ _ _)))
    by_cases k6:k=6
    ·subst k6
     by_cases c3:cmp < 3
     ·have HF:=hdq (mayD_cmp (vars:=vars) (arrs:=na) (n:=n) (args:=args) (show cmpD ((6:Nat):Int) cmp=false from by simp[cmpD];omega))
      have c3':decide (cmp < 3)=true:=by simp;omega
      clear c3
      go_wp2_with fail
      go_ret
      exact⟨by rw[HF.out];rfl,below_drewN hbw _⟩
     by_cases c8:8 < cmp
     ·have HF:=hdq (mayD_cmp (vars:=vars) (arrs:=na) (n:=n) (args:=args) (show cmpD ((6:Nat):Int) cmp=false from by simp[cmpD];omega))
      have c3':decide (cmp < 3)=false:=by simp;omega
      have c8':decide (8 < cmp)=true:=by simp;omega
      clear c3 c8
      go_wp2_with fail
      go_ret
      exact⟨by rw[HF.out];rfl,below_drewN hbw _⟩
     have HF:=hdq (mayD_good HL.out HH.out (show cmpD ((6:Nat):Int) cmp=true from by simp[cmpD];omega))
     have c3':decide (cmp < 3)=false:=by simp;omega
     have c8':decide (8 < cmp)=false:=by simp;omega
     clear c3 c8
     go_wp2_with fail
     refine(fexpr_any vars Aa na ca nodes start last Ae ne ce _).mono ?_
     rintro e w1 ⟨G,M,rfl,hm,hb1⟩
     have hb2:Below w.heap.size w w1:=(below_drewN hbw _).trans (hb1.mono hbw.size)
     have d3':w1.cell? ⟨w.heap.size+1,3,none⟩=some (.slice A l c):=(hb1.cell (p:=⟨w.heap.size+1,3,none⟩) hsz).trans d3
     have hsz1:w.heap.size+1 < w1.heap.size:=ltq hsz hb1.size
     have HM:=hdq hm
     have HB2:=hdq hb2
     clear hb1 hbw hm hb2 g0 g1 g2 g3 g4 g5 d0 d1 d2 d3 hP hQ p0 q0
     go_wp2_with fail
     rw[HL.out]
     have hbW:Below w1.heap.size w1 (w1.alloc (.cells #[.func (.func 70) #[] #[.pointer (some ⟨G,0,none⟩),.pointer (some ⟨M,0,none⟩)]] 86)):=(Below.refl _ _).alloc (lrq _) _
     have hbT:=HB2.out.trans (hbW.mono HB2.out.size)
     refine(containsEx (fun k _ n args _=> !(mayK vars na k n args.len&&mayX vars na args)) args A c 51 #[.pointer (some ⟨w1.heap.size,0,none⟩)] _ B (leq9 hB hbT.size) (HX.out.keep (Same.of hbT hB)) (enters_of Try.func51 (by kernel_rfl) rfl)
      (deednot_asks vars na Aa ca G M w1.heap.size B hna args _ (leq9 hB hbT.size) (HM.out.keep hbW) (newCell w1 _ _ 0) (by simp))).mono ?_
     rw[any_not_may]
     rintro e w2 ⟨rfl,hb3⟩
     go_wp2_with fail
     go_ret
     exact⟨by rw[HF.out];simp,hbT.trans (hb3.mono hbT.size)⟩
    ·have b6:((k:Int)==6)=false:=by simp;omega
     have b6':((k:Int) != 6)=true:=by simp;omega
     have k6':¬(k:Int)=6:=by omega
     by_cases c0:cmp=0
     ·subst c0
      have HF:=hdq (mayD_good HL.out HH.out (show cmpD (k:Int) 0=true from by simp[cmpD,k6']))
      clear k6 k6'
      go_wp2_with fail
      refine(fexpr_any vars Aa na ca nodes start last Ae ne ce _).mono ?_
      rintro e w1 ⟨G,M,rfl,hm,hb1⟩
      have hb2:Below w.heap.size w w1:=(below_drewN hbw _).trans (hb1.mono hbw.size)
      have d3':w1.cell? ⟨w.heap.size+1,3,none⟩=some (.slice A l c):=(hb1.cell (p:=⟨w.heap.size+1,3,none⟩) hsz).trans d3
      have hsz1:w.heap.size+1 < w1.heap.size:=ltq hsz hb1.size
      have HM:=hdq hm
      have HB2:=hdq hb2
      clear hb1 hbw hm hb2 g0 g1 g2 g3 g4 g5 d0 d1 d2 d3 hP hQ p0 q0
      go_wp2_with fail
      rw[HL.out]
      have hbW:Below w1.heap.size w1 (w1.alloc (.cells #[.func (.func 70) #[] #[.pointer (some ⟨G,0,none⟩),.pointer (some ⟨M,0,none⟩)]] 86)):=(Below.refl _ _).alloc (lrq _) _
      have hbT:=HB2.out.trans (hbW.mono HB2.out.size)
      refine(containsEx (fun k _ n args _=> !(mayK vars na k n args.len&&mayX vars na args)) args A c 51 #[.pointer (some ⟨w1.heap.size,0,none⟩)] _ B (leq9 hB hbT.size) (HX.out.keep (Same.of hbT hB)) (enters_of Try.func51 (by kernel_rfl) rfl)
       (deednot_asks vars na Aa ca G M w1.heap.size B hna args _ (leq9 hB hbT.size) (HM.out.keep hbW) (newCell w1 _ _ 0) (by simp))).mono ?_
      rw[any_not_may]
      rintro e w2 ⟨rfl,hb3⟩
      go_wp2_with fail
      go_ret
      exact⟨by rw[HF.out];simp,hbT.trans (hb3.mono hbT.size)⟩
     ·have HF:=hdq (mayD_cmp (vars:=vars) (arrs:=na) (n:=n) (args:=args) (show cmpD (k:Int) cmp=false from by simp[cmpD,k6',c0]))
      have c0':(cmp==0)=false:=by simpa using c0
      have c1':(cmp != 0)=true:=by simpa using c0
      clear k6 k6' c0
      go_wp2_with fail
      go_ret
      exact⟨by rw[HF.out];rfl,below_drewN hbw _⟩
   ·have ha:((l:Int)==ar)=false:=by simpa using ha0
    have HF:=hdq (mayD_head (cmp:=cmp) HL.out (show headD vars na k n l=false from by rw[HHD.out,ha];simp))
    clear ha0
    go_wp2_with fail
    go_quiet ((go_at_call 28;exact quiet_left (below_any _ _ _)))
    go_wp2_with fail
    go_ret
    exact⟨by rw[HF.out];rfl,below_drewN hbw _⟩
  ·have hb1:(decide (0≤n)&&decide (n < mo))=false:=by simpa using hb0
   have HF:=hdq (mayD_head (cmp:=cmp) HL.out (show headD vars na k n l=false from by rw[HHD.out,hb1];simp))
   clear hb0
   go_wp2_with fail
   go_quiet ((go_at_call 28;exact quiet_left (below_any _ _ _)))
   go_wp2_with fail
   go_ret
   exact⟨by rw[HF.out];rfl,below_drewN hbw _⟩

open Go.RowKit Go.Shelf Go.Maps

structure EdR where
 e:Ed
 A:Option Addr
 c:Nat
def EdR.cells (r:EdR):List Value:= [.int .i64 r.e.from_,.int .i64 r.e.to_,.int .u8 r.e.kind,.int .i64 r.e.n,.int .u8 r.e.cmp,.slice r.A r.e.args.len r.c,.int .i64 r.e.at_]
def RAt (w:World) (B:Nat):List EdR→Nat→Nat→Prop
 | [],_,_=>True
 |r::rs,b,o=>b < B∧(∀(j:Nat) (u:Value),r.cells[j]?=some u→w.cell? ⟨b,o+j,none⟩=some u)∧ExSl w B r.e.args r.A r.c∧r.e.ok∧RAt w B rs b (o+7)
theorem EdAt.raw {w:World} {B:Nat}:∀ {l:List Ed} {b o:Nat},EdAt w B l b o→∃rs:List EdR,rs.map EdR.e=l∧RAt w B rs b o
 | [],_,_,_=>⟨[],rfl,trivial⟩
 |e::l,b,o,h=>by
  obtain⟨hb,h0,h1,h2,h3,h4,⟨A,c,h5,hs⟩,h6,hok,hr⟩:=h
  obtain⟨rs,hm,hrs⟩:=EdAt.raw hr
  refine⟨⟨e,A,c⟩::rs,by simp[hm],hb,fun j u hu=>?_,hs,hok,hrs⟩
  match j,hu with
  |0,hu=>simp[EdR.cells]at hu;subst hu;exact h0
  |1,hu=>simp[EdR.cells]at hu;subst hu;exact h1
  |2,hu=>simp[EdR.cells]at hu;subst hu;exact h2
  |3,hu=>simp[EdR.cells]at hu;subst hu;exact h3
  |4,hu=>simp[EdR.cells]at hu;subst hu;exact h4
  |5,hu=>simp[EdR.cells]at hu;subst hu;exact h5
  |6,hu=>simp[EdR.cells]at hu;subst hu;exact h6
  |j+7,hu=>simp[EdR.cells]at hu
theorem RAt.edges {w:World} {B:Nat}:∀ {rs:List EdR} {b o:Nat},RAt w B rs b o→EdAt w B (rs.map EdR.e) b o
 | [],_,_,_=>trivial
 |r::rs,b,o,⟨hb,hc,hs,hok,hr⟩=>
  ⟨hb,hc 0 _ rfl,hc 1 _ rfl,hc 2 _ rfl,hc 3 _ rfl,hc 4 _ rfl,⟨r.A,r.c,hc 5 _ rfl,hs⟩,hc 6 _ rfl,hok,RAt.edges hr⟩
theorem RAt.keep {w w':World} {B:Nat} (h:Same B w w'):∀ {rs:List EdR} {b o:Nat},RAt w B rs b o→RAt w' B rs b o
 | [],_,_,_=>trivial
 |r::rs,b,o,⟨hb,hc,hs,hok,hr⟩=>⟨hb,fun j u hu=>(h _ hb).trans (hc j u hu),hs.keep h,hok,RAt.keep h hr⟩
theorem RAt.at_ {w:World} {B:Nat}:∀ {rs:List EdR} {b o:Nat},RAt w B rs b o→∀ {i:Nat} {r:EdR},rs[i]?=some r→
  b < B∧(∀(j:Nat) (u:Value),r.cells[j]?=some u→w.cell? ⟨b,o+i*7+j,none⟩=some u)∧ExSl w B r.e.args r.A r.c∧r.e.ok
 | [],_,_,_,i,r,hi=>by simp at hi
 |r::rs,b,o,⟨hb,hc,hs,hok,hr⟩,i,r',hi=>by
  cases i with
  |zero=>
   simp at hi;subst hi
   exact⟨hb,fun j u hu=>by simpa using hc j u hu,hs,hok⟩
  |succ i=>
   have:=RAt.at_ hr (i:=i) (r:=r') (by simpa using hi)
   rw[show o+7+i*7=o+(i+1)*7 from by omega]at this
   exact this

def outR (rs:List EdR) (x:Int):List EdR:=rs.filter fun r=>r.e.from_==x
def flatR (rs:List EdR):List Value:=rs.flatMap EdR.cells
theorem flatR_len (rs:List EdR):(flatR rs).length =rs.length*7:=by
 induction rs with
 |nil=>rfl
 |cons r rs ih=>simp[flatR,List.flatMap_cons]at ih ⊢;rw[ih];simp[EdR.cells];omega
def heldE (v:Value):Option (DataW Value×List MemPlace):=some (.held v, [])
theorem heldE_at {w:World} {P:Program} {k e t:TypeId} {b n:Nat} {D:DataW Value} (h:w.ownsMap P k heldE b n D) (K:Keyed P k) (ht:P.underlying t=some (.map k e)) {z:Value} (hz:(zeroValue e).run P w= .ok z w)
  {key:Value} {kl:Lit} (hkey:keyOf P k key=some kl):∃v,(Instr.lookup t (.map (some b)) key false).run P w= .ok v w∧D.atKey kl (.held z)= .held v:=by
 obtain⟨v,ps,hrun,hv⟩:=h.lookup K ht hz (zd:= .held z) (zp:= []) rfl hkey
 simp only[heldE,Option.some.injEq,Prod.mk.injEq]at hv
 exact⟨v,hrun,hv.1.symm⟩

def nilS:Value:= .slice none 0 0

structure GM (w:World) (b base n:Nat) (V:Int→Value) (rs:List EdR) (D:DataW Value):Prop where
 own:w.ownsMap Try.prog 3 heldE b n D
 at_:∀x,in64 x→D.atKey (.int .i64 x) (.held nilS)= .held (V x)
 has:∀x,in64 x→Maps.has D (.int .i64 x)=decide (0 < (outR rs x).length)
 rows:∀x,in64 x→w.ownsRow base 46 7 (V x) (outR rs x).length (flatR (outR rs x))
 apart:∀x y,in64 x→in64 y→x≠y→(V x).ownBlock =none∨(V x).ownBlock ≠(V y).ownBlock
 lt:b < base

theorem intKey:Keyed Try.prog 3:=int_keyed Try.underlying3
theorem wf64 {x:Int} (h:in64 x):(Lit.int .i64 x).wf =true:=by unfold in64 at h;exact WalkArith.wf_i64 h
theorem keyI {x:Int} (h:in64 x):keyOf Try.prog 3 (.int .i64 x)=some (.int .i64 x):=keyOf_int_mk Try.underlying3 (wf64 h)
theorem zeroEdges (w:World):(zeroValue 23).run Try.prog w= .ok nilS w:=by kernel_rfl

theorem GM.look {w:World} {b base n:Nat} {V:Int→Value} {rs:List EdR} {D:DataW Value} (h:GM w b base n V rs D) {x:Int} (hx:in64 x):
  (Instr.lookup 70 (.map (some b)) (.int .i64 x) false).run Try.prog w= .ok (V x) w:=by
 obtain⟨v,hrun,hv⟩:=heldE_at h.own intKey Try.underlying70 (zeroEdges w) (keyI hx)
 rw[h.at_ x hx]at hv
 simp only[DataW.held.injEq]at hv
 rw[hv]
 exact hrun
theorem heap_new2 (w:World) (o o':Obj):((w.alloc o).alloc o').drew.heap[w.heap.size+1]?=some o':=by
 have h:=heap_alloc_new (w.alloc o) o'
 rw[World.size_alloc]at h
 exact h
theorem GM.kept {w w':World} {b base n:Nat} {V:Int→Value} {rs:List EdR} {D:DataW Value} (h:GM w b base n V rs D) (hg:w.grownBy w' none):GM w' b base n V rs D:=
 ⟨h.own.kept hg (by simp),h.at_,h.has,fun x hx=>(h.rows x hx).kept hg (by cases (V x).ownBlock <;>simp),h.apart,h.lt⟩
theorem GM.made (w:World):GM (w.alloc (.map #[] 0)) w.heap.size (w.heap.size+1) 0 (fun _=>nilS) [] (.map []):=
 ⟨World.ownsMap_made _ _ _ _,fun _ _=>rfl,fun _ _=>rfl,fun _ _=>World.ownsRow_nil _ _ _ _,fun _ _ _ _ _=> .inl rfl,Nat.lt_succ_self _⟩

theorem GM.step {w w1:World} {b base n:Nat} {V:Int→Value} {rs:List EdR} {D:DataW Value} (h:GM w b base n V rs D) (r:EdR) (hx:in64 r.e.from_) (v':Value) (hn:n < maxLen)
  (hg:w.grownBy w1 (V r.e.from_).ownBlock) (hown:w1.ownsRow base 46 7 v' ((outR rs r.e.from_).length +1) (flatR (outR rs r.e.from_)++r.cells))
  (hat:v'.ownBlock=(V r.e.from_).ownBlock ∨∃g,v'.ownBlock=some g∧w.heap.size≤g):
  ∃w2 D2,(Instr.mapUpdate 70 (.map (some b)) (.int .i64 r.e.from_) v').run Try.prog w1= .ok () w2∧GM w2 b base (n+1) (fun x=>if x=r.e.from_ then v' else V x) (rs++ [r]) D2∧w1.grownBy w2 (some b):=by
 have hvb:(V r.e.from_).ownBlock ≠some b:=fun e=>by
  have:=((h.rows _ hx).lt b e).1
  have:=h.lt
  omega
 have hown1:w1.ownsMap Try.prog 3 heldE b n D:=h.own.kept hg (fun e=>hvb e.symm)
 obtain⟨w2,hrun,hown2,hg2⟩:=hown1.update intKey Try.underlying70 hn (keyI hx) (val:=v') (d:= .held v') (ps:= []) rfl
 have kx:WideAt.IsKeyLit (.int .i64 r.e.from_):=intKey.key (keyI hx)
 have bne:∀ {u:Value} {m:Nat} {xs:List Value},w1.ownsRow base 46 7 u m xs→u.ownBlock=none∨u.ownBlock≠some b:=fun {u m xs} ho=>by
  cases hu:u.ownBlock with
  |none=>exact .inl rfl
  |some g=>
   refine .inr fun e=>?_
   have:=(ho.lt g hu).1
   have:=h.lt
   cases e
   omega
 have oth:∀x,x≠r.e.from_→outR (rs++ [r]) x=outR rs x:=fun x hne=>by
  simp[outR,List.filter_append,Ne.symm hne]
 have same:outR (rs++ [r]) r.e.from_=outR rs r.e.from_++ [r]:=by simp[outR,List.filter_append]
 refine⟨w2,_,hrun,⟨hown2,fun x hxx=>?_,fun x hxx=>?_,fun x hxx=>?_,fun x y hxx hyy hne=>?_,h.lt⟩,hg2⟩
 ·by_cases e:x=r.e.from_
  ·subst e
   rw[Maps.atKey_put_same hown1.isMap kx,if_pos rfl]
  ·rw[Maps.atKey_put_other (by simpa using e),if_neg e]
   exact h.at_ x hxx
 ·by_cases e:x=r.e.from_
  ·subst e
   rw[Maps.has_put_same hown1.isMap kx,same]
   simp
  ·rw[Maps.has_put_other (by simpa using e),oth x e]
   exact h.has x hxx
 ·by_cases e:x=r.e.from_
  ·subst e
   rw[if_pos rfl,same]
   have:flatR (outR rs r.e.from_++ [r])=flatR (outR rs r.e.from_)++r.cells:=by simp[flatR]
   rw[this,List.length_append]
   exact hown.kept hg2 (bne hown)
  ·rw[if_neg e,oth x e]
   have h1:=(h.rows x hxx).kept hg (h.apart x r.e.from_ hxx hx e)
   exact h1.kept hg2 (bne h1)
 ·have far:∀x,in64 x→x≠r.e.from_→(V x).ownBlock =none∨(V x).ownBlock ≠v'.ownBlock:=fun x hxx hne=>by
   rcases hat with e|⟨g,e,hge⟩
   ·rw[e]
    exact h.apart x _ hxx hx hne
   ·cases hu:(V x).ownBlock with
    |none=>exact .inl rfl
    |some g'=>
     refine .inr fun e'=>?_
     rw[e]at e'
     have:=((h.rows x hxx).lt g' hu).2
     cases e'
     omega
  by_cases e:x=r.e.from_
  ·subst e
   have hy:y≠r.e.from_:=fun e=>hne e.symm
   rw[if_pos rfl,if_neg hy]
   rcases far y hyy hy with h1|h1
   ·cases hv:v'.ownBlock with
    |none=>exact .inl rfl
    |some g=>exact .inr (by rw[h1];simp)
   ·exact .inr (fun e=>h1 e.symm)
  ·rw[if_neg e]
   by_cases e':y=r.e.from_
   ·rw[if_pos e']
    exact far x hxx e
   ·rw[if_neg e']
    exact h.apart x y hxx hyy hne

attribute [local go_sem ↓] Go.wp_at_zero Go.wp_at_succ

theorem infoEdge:(Try.prog.info? 46).map (fun i=>(i.zero,i.size,i.bytes))=some (some (.agg #[.int .i64 0,.int .i64 0,.int .u8 0,.int .i64 0,.int .u8 0,.slice none 0 0,.int .i64 0]),7,72):=by kernel_rfl

def OutsPost (rs:List EdR) (W:World) (e:Ending) (w':World):Prop:=
  ∃(b base n:Nat) (V:Int→Value) (D:DataW Value),e= .returned (.map (some b))∧GM w' b base n V rs D∧W.heap.size≤b∧base≤w'.heap.size∧Below W.heap.size W w'

theorem outs_any (rs:List EdR) (vars:Int) (Aa:Option Addr) (na ca:Nat) (nodes start last:Int) (Ae:Option Addr) (ce B:Nat) (w:World) (hB:B≤w.heap.size)
    (hlen:rs.length≤2048) (hx:rs.length≤ce∧(0 < rs.length→∃b o,Ae=some ⟨b,o,none⟩∧RAt w B rs b o)):
    Calls Try.prog 34 #[grV vars Aa na ca nodes start last Ae rs.length ce] w (OutsPost rs w):=by
  obtain⟨i0,hi0,hz0,hz1,hz2⟩:=info_parts infoEdge
  have hmm:= @run_makeMap Try.prog
  obtain⟨hx1,hx⟩:=hx
  unfold grV
  go_enter Try.func34,Try.ntmps34
  go_wp2
  go_loopw [10] (fun i wr=>∃(k:Nat) (V:Int→Value) (D:DataW Value),k≤rs.length∧i= .int .i64 k∧Hid (GM wr (w.heap.size+1) (w.heap.size+2) k V (rs.take k) D)∧Below w.heap.size w wr∧w.heap.size+2≤wr.heap.size) (fun i _=>rs.length - (intOf i).toNat)
  case atStart=>
    refine⟨0,fun _=>nilS,.map [],Nat.zero_le _,rfl,?_,((Below.refl _ _).alloc (lrq _) _).alloc (by simp) _,by simp⟩
    have h:=GM.made (w.alloc (.cells #[.int .i64 vars,.slice Aa na ca,.int .i64 nodes,.int .i64 start,.int .i64 last,.slice Ae rs.length ce] 25))
    rw[World.size_alloc]at h
    exact h
  case round=>
    obtain⟨k,V,D,hk,rfl,hgm,hb,hws⟩:=hrel
    by_cases hlt:k < rs.length
    · obtain⟨r,hr⟩:∃r,rs[k]?=some r:=⟨_,List.getElem?_eq_getElem hlt⟩
      obtain⟨b,o,rfl,hat⟩:=hx (by omega)
      obtain⟨hbB,hcell,hsl,hok⟩:=(hat.keep (Same.of hb hB)).at_ hr
      have c0:=hcell 0 _ rfl
      have c1:=hcell 1 _ rfl
      have c2:=hcell 2 _ rfl
      have c3:=hcell 3 _ rfl
      have c4:=hcell 4 _ rfl
      have c5:=hcell 5 _ rfl
      have c6:=hcell 6 _ rfl
      simp only[Nat.add_zero]at c0
      have HR:=hdq hr
      have HO:=hdq hok
      clear hcell hr hok hsl
      have hx64:in64 r.e.from_:=HO.out.1
      have hrow:=hgm.out.rows r.e.from_ hx64
      have HRow:=hdq hrow
      have hml:(outR (rs.take k) r.e.from_).length ≤k:=leq9 (List.length_filter_le _ _) (by simp;omega)
      obtain⟨m,hm⟩:=nmq ((outR (rs.take k) r.e.from_).length )
      obtain⟨xs,hxs⟩:=nmq (flatR (outR (rs.take k) r.e.from_))
      obtain⟨v,hv⟩:=nmq (V r.e.from_)
      rw[←hm,←hxs,←hv]at hrow
      rw[←hm]at hml
      have HM:=hdq hm
      have HXS:=hdq hxs
      have HV:=hdq hv
      have hL:∀W,wr.grownBy W none→(Instr.lookup 70 (.map (some (w.heap.size+1))) (.int .i64 r.e.from_) false).run Try.prog W= .ok v W:=fun W hW=>by rw[hv];exact(hgm.out.kept hW).look hx64
      have hL1:=hL _ (only_drew (World.grownBy_alloc wr (.cells #[.int .i64 r.e.from_,.int .i64 r.e.to_,.int .u8 r.e.kind,.int .i64 r.e.n,.int .u8 r.e.cmp,.slice r.A r.e.args.len r.c,.int .i64 r.e.at_] 46) none))
      have hL2:=hL _ (only_drew (only_alloc (World.grownBy_alloc wr (.cells #[.int .i64 r.e.from_,.int .i64 r.e.to_,.int .u8 r.e.kind,.int .i64 r.e.n,.int .u8 r.e.cmp,.slice r.A r.e.args.len r.c,.int .i64 r.e.at_] 46) none) (.cells #[.int .i64 r.e.from_,.int .i64 r.e.to_,.int .u8 r.e.kind,.int .i64 r.e.n,.int .u8 r.e.cmp,.slice r.A r.e.args.len r.c,.int .i64 r.e.at_] 46)))
      have HX:=hdq hx64
      have hne2:some wr.heap.size≠some (w.heap.size+1):=by simp;omega
      have hvb:v.ownBlock≠some wr.heap.size:=fun e=>by have:=(hrow.lt _ e).2;omega
      clear hm hxs hv hL hx64
      go_wp2_with fail
      go_region_held3 (fun w'=>w'.cell? ⟨wr.heap.size,0,none⟩=some (.int .i64 r.e.from_)∧w'.cell? ⟨wr.heap.size,1,none⟩=some (.int .i64 r.e.to_)∧w'.cell? ⟨wr.heap.size,2,none⟩=some (.int .u8 r.e.kind)∧w'.cell? ⟨wr.heap.size,3,none⟩=some (.int .i64 r.e.n)∧
          w'.cell? ⟨wr.heap.size,4,none⟩=some (.int .u8 r.e.cmp)∧w'.cell? ⟨wr.heap.size,5,none⟩=some (.slice r.A r.e.args.len r.c)∧w'.cell? ⟨wr.heap.size,6,none⟩=some (.int .i64 r.e.at_))
        (first
          | (go_split_ands
             refine⟨by go_keep,by go_keep,by go_keep,by go_keep,by go_keep,by go_keep,by go_keep⟩)
          | (go_split_ands
             refine⟨?_,?_,?_,?_,?_,?_,?_⟩
             all_goals((rw[hg2.cell_far _ hsz1 hne2];assumption)))
          | (go_split_ands
             refine⟨?_,?_,?_,?_,?_,?_,?_⟩
             all_goals((rw[hgrow.cell_far _ (by simp;omega) (Ne.symm hvb)];simp))))
        ((refine step_append_lies _ (by rfl) _ _ _ (by rfl) (w.heap.size+2) 46 i0 _ 7 72 Try.underlying23 hi0 hz0 hz1 hz2 rfl (by omega) v m xs (by rfl) (((hrow.alloc _).alloc _).drew)
            ⟨wr.heap.size+1,0,none⟩ 1 1 r.cells (by rfl) (by rfl) (World.news_of_block (cs:= #[.int .i64 r.e.from_,.int .i64 r.e.to_,.int .u8 r.e.kind,.int .i64 r.e.n,.int .u8 r.e.cmp,.slice r.A r.e.args.len r.c,.int .i64 r.e.at_]) (t:=46) (fr:=(0,0)) (heap_new2 wr _ _)) (by simp[EdR.cells,Value.oneCell'])
            (by omega) (by unfold maxLen;omega) (by omega) (by simp;omega) (wr.heap.size+1+1) (by simp) ?_;intro gg cap w1 hown1 hgrow hat hltg;have hsz1:wr.heap.size < w1.heap.size:=ltq (by simp<;>omega) hgrow.size;obtain⟨w2,D2,hupd,hgm2,hg2⟩:=hgm.out.step r HX.out (.slice (some ⟨gg,0,none⟩) (m+1) cap) (by unfold maxLen;omega) (by rw[←HV.out];exact(only_drew (only_alloc (World.grownBy_alloc wr _ _) _)).trans hgrow) (by rw[←HM.out,←HXS.out];exact hown1) (by rw[←HV.out];simp only[Value.ownBlock];rcases hat with e|e;exact .inl e.symm;exact .inr ⟨gg,rfl,by omega⟩)))
      all_goals
        have hbn:Below w.heap.size w w2:=by
          have h1:=((hb.alloc (leq9 (by omega) hws) (.cells r.cells.toArray 46)).alloc (by simp;omega) (.cells r.cells.toArray 46)).drew
          have h2:=h1.grown hgrow (by simp;omega) (fun g hg=>by have:=(hrow.lt g hg).1;omega)
          exact h2.grown hg2 (by omega) (fun g hg=>by simp at hg;omega)
        have hws2:w.heap.size+2≤w2.heap.size:=by have h1:=hg2.size;omega
        have ht:rs.take k++ [r]=rs.take (k+1):=by
          obtain⟨hi,e⟩:=List.getElem?_eq_some_iff.1 HR.out
          rw[List.take_succ_eq_append_getElem hi,e]
        rw[ht]at hgm2
        have HG2:=hdq hgm2
        clear hgm2 hL1 hL2 hupd ht c0 c1 c2 c3 c4 c5 c6 hgrow hown1 hg2 hrow
        go_wp2_with fail
        go_roundw
        case rel=>exact⟨k+1,_,D2,by omega,by go_num,HG2,hbn,hws2⟩
        case measure=>simp[intOf];omega
    · have hk':k=rs.length:=by omega
      have hg':=hgm.out
      rw[hk',List.take_length]at hg'
      have HG:=hdq hg'
      clear hgm hx hg' hk'
      go_wp2_with fail
      go_ret
      exact⟨w.heap.size+1,w.heap.size+2,_,V,D,rfl,HG.out,by omega,hws,hb⟩

def oppC (k:Int):Int:=if k=3 then 6 else if k=4 then 5 else if k=5 then 4 else if k=6 then 3 else if k=7 then 8 else if k=8 then 7 else 0
theorem opp_any (k:Int) (w:World) (h0:3≤k) (h1:k≤8):Calls Try.prog 52 #[.int .u8 k] w fun e w'=>e= .returned (.int .u8 (oppC k))∧w'=w:=by
 have hk:k=3∨k=4∨k=5∨k=6∨k=7∨k=8:=by omega
 have i3:∀w,(Instr.index 108 (.agg #[.int .u8 0,.int .u8 0,.int .u8 0,.int .u8 6,.int .u8 5,.int .u8 4,.int .u8 3,.int .u8 8,.int .u8 7]) (.int .u8 3)).run Try.prog w= .ok (.int .u8 6) w:=fun _=>by kernel_rfl
 have i4:∀w,(Instr.index 108 (.agg #[.int .u8 0,.int .u8 0,.int .u8 0,.int .u8 6,.int .u8 5,.int .u8 4,.int .u8 3,.int .u8 8,.int .u8 7]) (.int .u8 4)).run Try.prog w= .ok (.int .u8 5) w:=fun _=>by kernel_rfl
 have i5:∀w,(Instr.index 108 (.agg #[.int .u8 0,.int .u8 0,.int .u8 0,.int .u8 6,.int .u8 5,.int .u8 4,.int .u8 3,.int .u8 8,.int .u8 7]) (.int .u8 5)).run Try.prog w= .ok (.int .u8 4) w:=fun _=>by kernel_rfl
 have i6:∀w,(Instr.index 108 (.agg #[.int .u8 0,.int .u8 0,.int .u8 0,.int .u8 6,.int .u8 5,.int .u8 4,.int .u8 3,.int .u8 8,.int .u8 7]) (.int .u8 6)).run Try.prog w= .ok (.int .u8 3) w:=fun _=>by kernel_rfl
 have i7:∀w,(Instr.index 108 (.agg #[.int .u8 0,.int .u8 0,.int .u8 0,.int .u8 6,.int .u8 5,.int .u8 4,.int .u8 3,.int .u8 8,.int .u8 7]) (.int .u8 7)).run Try.prog w= .ok (.int .u8 8) w:=fun _=>by kernel_rfl
 have i8:∀w,(Instr.index 108 (.agg #[.int .u8 0,.int .u8 0,.int .u8 0,.int .u8 6,.int .u8 5,.int .u8 4,.int .u8 3,.int .u8 8,.int .u8 7]) (.int .u8 8)).run Try.prog w= .ok (.int .u8 7) w:=fun _=>by kernel_rfl
 rcases hk with rfl|rfl|rfl|rfl|rfl|rfl
 all_goals
  go_enter Try.func52,Try.ntmps52
  go_wp2
  go_ret
  exact⟨rfl,rfl⟩

def rightB:List Ed→Bool
 | [a]=> !(a.kind==6)
 | [a,b]=>(a.kind==6)&&(b.kind==6)&&(b.cmp==oppC a.cmp)&&alikeX a.args b.args
 |_=>false

theorem right_1 (a:Ed) (A:Option Addr) (c:Nat) (w:World) (B:Nat) (hx:EdSl w B [a] A c):
  Calls Try.prog 35 #[.slice A 1 c] w fun e w'=>e= .returned (.bool (rightB [a]))∧w=w':=by
 obtain⟨b,o,rfl,hat⟩:=hx.2.2 (by simp)
 obtain⟨hbB,c0,c1,c2,c3,c4,c5,c6,hok⟩:=hat.at_ (i:=0) (e:=a) rfl
 simp only[Nat.zero_mul,Nat.add_zero]at c0 c1 c2 c3 c4 c6
 clear hat hx c5
 go_enter Try.func35,Try.ntmps35
 go_wp2
 go_ret
 exact⟨rfl,rfl⟩
theorem right_n (l:Nat) (A:Option Addr) (c:Nat) (w:World) (h1:¬l=1) (h2:¬l=2):
  Calls Try.prog 35 #[.slice A l c] w fun e w'=>e= .returned (.bool false)∧Below w.heap.size w w':=by
 have b1:((l:Int)==1)=false:=by simp;omega
 have b2:((l:Int)==2)=false:=by simp;omega
 clear h1 h2
 go_enter Try.func35,Try.ntmps35
 go_wp2
 go_quiet (fail)
 go_wp2
 go_ret
 exact⟨rfl,below_drewN (Below.refl _ _) _⟩
theorem right_2 (a b:Ed) (A:Option Addr) (c:Nat) (w:World) (B:Nat) (hB:B≤w.heap.size) (hx:EdSl w B [a,b] A c) (hcm:a.kind=6→3≤a.cmp∧a.cmp≤8):
  Calls Try.prog 35 #[.slice A 2 c] w (BoolPost (rightB [a,b]) w):=by
 obtain⟨g,o,rfl,hat⟩:=hx.2.2 (by simp)
 obtain⟨hbB,c0,c1,c2,c3,c4,⟨A1,k1,c5,s1⟩,c6,hok⟩:=hat.at_ (i:=0) (e:=a) rfl
 obtain⟨hbB',d0,d1,d2,d3,d4,⟨A2,k2,d5,s2⟩,d6,hok'⟩:=hat.at_ (i:=1) (e:=b) rfl
 simp only[Nat.zero_mul,Nat.add_zero,Nat.one_mul]at c0 c1 c2 c3 c4 c5 c6 d0 d1 d2 d3 d4 d5 d6
 clear hat hx
 cases h1:a.kind==6
 ·have HF:=hdq (show rightB [a,b]=false from by simp only[rightB,h1];rfl)
  clear hcm s1 s2 hok hok'
  go_enter Try.func35,Try.ntmps35
  go_wp2
  go_quiet (fail)
  go_wp2
  go_ret
  exact⟨by rw[HF.out];rfl,below_drewN (Below.refl _ _) _⟩
 cases h2:b.kind==6
 ·have HF:=hdq (show rightB [a,b]=false from by simp only[rightB,h1,h2];rfl)
  clear hcm s1 s2 hok hok'
  go_enter Try.func35,Try.ntmps35
  go_wp2
  go_quiet (fail)
  go_wp2
  go_ret
  exact⟨by rw[HF.out];rfl,below_drewN (Below.refl _ _) _⟩
 obtain⟨m0,m1⟩:=hcm (eq_of_beq h1)
 cases h3:b.cmp==oppC a.cmp
 ·have HF:=hdq (show rightB [a,b]=false from by simp only[rightB,h1,h2,h3];rfl)
  clear hcm s1 s2 hok hok'
  go_enter Try.func35,Try.ntmps35
  go_wp2
  go_quiet ((go_at_call 52;exact Calls.quiet_of_same (opp_any _ _ m0 m1)))
  go_wp2
  go_ret
  exact⟨by rw[HF.out];rfl,below_drewN (Below.refl _ _) _⟩
 have HF:=hdq (show rightB [a,b]=alikeX a.args b.args from by simp only[rightB,h1,h2,h3];rfl)
 have S1:=hdq s1
 have S2:=hdq s2
 have HO:=hdq (fun w=>opp_any a.cmp w m0 m1)
 clear hcm s1 s2 hok hok'
 go_enter Try.func35,Try.ntmps35
 go_wp2
 refine wp_region_still_tail 44 (by kernel_rfl) (by kernel_rfl) ?_
 simp only[List.take_succ_cons,List.take_zero,List.drop_succ_cons,List.drop_zero]
 repeat still_step
 still_call (HO.out _)
 repeat still_step
 try refine wpStill_nil ?_
 go_wp2_with fail
 have hbd:Below w.heap.size w w.drew:=(Below.refl _ _).drew
 refine(alike_any a.args b.args A1 A2 k1 k2 w.drew B hB (S1.out.keep (Same.of hbd hB)) (S2.out.keep (Same.of hbd hB))).mono ?_
 rintro e w1 ⟨rfl,hb1⟩
 go_wp2_with fail
 go_ret
 exact⟨by rw[HF.out];rfl,hbd.trans hb1⟩
theorem right_any (l:List Ed) (A:Option Addr) (c:Nat) (w:World) (B:Nat) (hB:B≤w.heap.size) (hx:EdSl w B l A c) (hcm:∀a∈l,a.kind=6→3≤a.cmp∧a.cmp≤8):
  Calls Try.prog 35 #[.slice A l.length c] w (BoolPost (rightB l) w):=by
 match l,hx,hcm with
 | [],_,_=>exact right_n 0 A c w (by omega) (by omega)
 | [a],hx,_=>exact(right_1 a A c w B hx).mono fun _ _ h=>⟨h.1,h.2▸Below.refl _ _⟩
 | [a,b],hx,hcm=>exact right_2 a b A c w B hB hx (hcm a (by simp))
 |a::b::d::r,hx,_=>exact right_n _ A c w (by simp) (by simp)

def sizeBad (n:Int):Bool:=decide (n < 1) || decide (16 < n)
theorem size_closure (n:Int) (w:World):Calls Try.prog 30 #[.int .i64 n] w (BoolPost (sizeBad n) w):=by
 by_cases h:n < 1
 ·have h1:decide (n < 1)=true:=by simpa using h
  have HF:=hdq (show sizeBad n=true from by simp[sizeBad,h])
  clear h
  go_enter Try.func30,Try.ntmps30
  go_wp2
  go_ret
  exact⟨by rw[HF.out];rfl,Below.refl _ _⟩
 ·have h1:decide (n < 1)=false:=by simpa using h
  have HF:=hdq (show sizeBad n=decide (16 < n)from by simp[sizeBad,h])
  clear h
  go_enter Try.func30,Try.ntmps30
  go_wp2
  go_ret
  exact⟨by rw[HF.out];rfl,Below.refl _ _⟩

def edBad (vars arrs nodes:Int) (e:Ed):Bool:=
 !(decide (0≤e.from_)&&decide (e.from_ < nodes)) || !(decide (0≤e.to_)&&decide (e.to_ < nodes)) || !mayD vars arrs e.kind e.n e.cmp e.args

structure GrBox (w:World) (G:Nat) (vars:Int) (Aa:Option Addr) (na ca:Nat) (nodes start last:Int) (Ae:Option Addr) (ne ce:Nat):Prop where
 lt:G < w.heap.size
 g0:w.cell? ⟨G,0,none⟩=some (.int .i64 vars)
 g1:w.cell? ⟨G,1,none⟩=some (.slice Aa na ca)
 g2:w.cell? ⟨G,2,none⟩=some (.int .i64 nodes)
 g3:w.cell? ⟨G,3,none⟩=some (.int .i64 start)
 g4:w.cell? ⟨G,4,none⟩=some (.int .i64 last)
 g5:w.cell? ⟨G,5,none⟩=some (.slice Ae ne ce)
theorem GrBox.keep {w w':World} {G:Nat} {vars:Int} {Aa:Option Addr} {na ca:Nat} {nodes start last:Int} {Ae:Option Addr} {ne ce:Nat} (h:GrBox w G vars Aa na ca nodes start last Ae ne ce) (hb:Below w.heap.size w w'):GrBox w' G vars Aa na ca nodes start last Ae ne ce:=
 ⟨ltq h.lt hb.size,(hb.cell h.lt).trans h.g0,(hb.cell h.lt).trans h.g1,(hb.cell h.lt).trans h.g2,(hb.cell h.lt).trans h.g3,(hb.cell h.lt).trans h.g4,(hb.cell h.lt).trans h.g5⟩

theorem edge_closure (e:Ed) (A:Option Addr) (c:Nat) (G:Nat) (vars:Int) (Aa:Option Addr) (na ca:Nat) (nodes start last:Int) (Ae:Option Addr) (ne ce B:Nat) (w:World)
  (hB:B≤w.heap.size) (hx:ExSl w B e.args A c) (hok:e.ok) (hna:na≤9223372036854775807) (hg:GrBox w G vars Aa na ca nodes start last Ae ne ce):
  Calls Try.prog 32 #[edV e A c,.pointer (some ⟨G,0,none⟩)] w (BoolPost (edBad vars na nodes e) w):=by
 obtain⟨f,t,k,n,cmp,args,at_⟩:=e
 obtain⟨rf,rt,rk,rn,rc,ra⟩:=hok
 obtain⟨hlt,g0,g1,g2,g3,g4,g5⟩:=hg
 simp only at rf rt rk rn rc ra hx
 obtain⟨k,rfl⟩:=Int.eq_ofNat_of_zero_le rk.1
 have hk:k≤255:=by have:=rk.2;omega
 have HD:=fun W hB hx=>hdq (deed_any k n cmp args A c vars Aa na ca nodes start last Ae ne ce B W hB hx hk rc hna)
 unfold grV doV at HD
 have HX:=hdq hx
 have HDD:=hdq HD
 clear HD hx rf rt rk rn rc ra
 unfold edV
 simp only
 by_cases h1:(decide (0≤f)&&decide (f < nodes))=true
 ·by_cases h2:(decide (0≤t)&&decide (t < nodes))=true
  ·have HF:=hdq (show edBad vars na nodes ⟨f,t,k,n,cmp,args,at_⟩= !mayD vars na k n cmp args from by simp only[edBad,h1,h2];rfl)
   go_enter Try.func32,Try.ntmps32
   go_wp2_with (go_at_call 28;refine(below_any _ _ _).mono ?_;rintro e w' ⟨rfl,rfl⟩)
   have hbb:Below w.heap.size w (w.alloc (.cells #[.int .i64 f,.int .i64 t,.int .u8 k,.int .i64 n,.int .u8 cmp,.slice A args.len c,.int .i64 at_] 46)):=(Below.refl _ _).alloc (lrq _) _
   refine(HDD.out _ (leq9 hB hbb.size) (HX.out.keep (Same.of hbb hB))).out.mono ?_
   rintro _ w1 ⟨rfl,hb1⟩
   go_wp2_with fail
   go_ret
   exact⟨by rw[HF.out];rfl,hbb.trans (hb1.mono hbb.size)⟩
  ·have h2':(decide (0≤t)&&decide (t < nodes))=false:=by simpa using h2
   have HF:=hdq (show edBad vars na nodes ⟨f,t,k,n,cmp,args,at_⟩=true from by simp only[edBad,h1,h2'];rfl)
   clear h2
   go_enter Try.func32,Try.ntmps32
   go_wp2_with (go_at_call 28;refine(below_any _ _ _).mono ?_;rintro e w' ⟨rfl,rfl⟩)
   go_ret
   exact⟨by rw[HF.out];rfl,(Below.refl _ _).alloc (lrq _) _⟩
 ·have h1':(decide (0≤f)&&decide (f < nodes))=false:=by simpa using h1
  have HF:=hdq (show edBad vars na nodes ⟨f,t,k,n,cmp,args,at_⟩=true from by simp only[edBad,h1'];rfl)
  clear h1
  go_enter Try.func32,Try.ntmps32
  go_wp2_with (go_at_call 28;refine(below_any _ _ _).mono ?_;rintro e w' ⟨rfl,rfl⟩)
  go_ret
  exact⟨by rw[HF.out];rfl,(Below.refl _ _).alloc (lrq _) _⟩

structure Gr where
 vars:Int
 arrays:List Int
 nodes:Int
 start:Int
 last:Int
 edges:List Ed
def outE (l:List Ed) (x:Int):List Ed:=l.filter fun e=>e.from_==x
def walkR (l:List Ed) (node:Int):Int→Nat→Bool
 |_,0=>false
 |at_,n+1=>
  match outE l at_ with
  | [e]=>if e.kind=1 then(if e.to_=node then true else walkR l node e.to_ n)else false
  |_=>false
def nodeOk (l:List Ed) (last x:Int):Bool:= !(x==last)&&rightB (outE l x)&& !walkR l x x l.length
def odd1 (vars nodes:Int) (na ne:Nat):Bool:=decide (vars < 0) || decide (32 < vars) || decide (4 < (na:Int)) || decide (nodes < 2) || decide (4096 < nodes) || decide (2048 < (ne:Int))
def odd2 (nodes start last:Int) (sb:Bool):Bool:= !(decide (0≤start)&&decide (start < nodes)) || !(decide (0≤last)&&decide (last < nodes)) || (start==last) || sb
def mayG (g:Gr):Bool:= !(odd1 g.vars g.nodes g.arrays.length g.edges.length || odd2 g.nodes g.start g.last (g.arrays.any sizeBad))&& !g.edges.any (edBad g.vars g.arrays.length g.nodes)&&g.edges.all fun e=>nodeOk g.edges g.last e.from_

def ErrPost (b:Bool) (W:World) (e:Ending) (w':World):Prop:=e= .returned (.int .i64 (if b then 0 else 8))∧Below W.heap.size W w'

theorem check_odd1 (vars nodes start last:Int) (na ne:Nat) (Aa Ae:Option Addr) (ca ce:Nat) (w:World) (h:odd1 vars nodes na ne=true) (hl:ne≤9223372036854775807) (hla:na≤9223372036854775807):
  Calls Try.prog 13 #[grV vars Aa na ca nodes start last Ae ne ce] w (ErrPost false w):=by
 unfold odd1 at h
 unfold grV
 cases h1:decide (vars < 0)
 ·cases h2:decide (32 < vars)
  ·cases h3:decide (4 < (na:Int))
   ·cases h4:decide (nodes < 2)
    ·cases h5:decide (4096 < nodes)
     ·have h6:decide (2048 < (ne:Int))=true:=by rw[h1,h2,h3,h4,h5]at h;exact h
      clear h
      go_enter Try.func13,Try.ntmps13
      go_wp2
      go_ret
      exact⟨rfl,(Below.refl _ _).alloc (lrq _) _⟩
     ·clear h
      go_enter Try.func13,Try.ntmps13
      go_wp2
      go_ret
      exact⟨rfl,(Below.refl _ _).alloc (lrq _) _⟩
    ·clear h
     go_enter Try.func13,Try.ntmps13
     go_wp2
     go_ret
     exact⟨rfl,(Below.refl _ _).alloc (lrq _) _⟩
   ·clear h
    go_enter Try.func13,Try.ntmps13
    go_wp2
    go_ret
    exact⟨rfl,(Below.refl _ _).alloc (lrq _) _⟩
  ·clear h
   go_enter Try.func13,Try.ntmps13
   go_wp2
   go_ret
   exact⟨rfl,(Below.refl _ _).alloc (lrq _) _⟩
 ·clear h
  go_enter Try.func13,Try.ntmps13
  go_wp2
  go_ret
  exact⟨rfl,(Below.refl _ _).alloc (lrq _) _⟩

theorem sizes_ask (w:World) (l:List Int):AsksI 30 #[] w sizeBad l:=fun n _ _ W _=>by
 simpa using size_closure n W

theorem check_odd2 (vars nodes start last:Int) (arrays:List Int) (ne:Nat) (Aa Ae:Option Addr) (ca ce B:Nat) (w:World) (h1:odd1 vars nodes arrays.length ne=false) (h:odd2 nodes start last (arrays.any sizeBad)=true) (hl:ne≤9223372036854775807) (hla:arrays.length≤9223372036854775807)
  (hB:B≤w.heap.size) (hx:IsSl w B arrays Aa ca):
  Calls Try.prog 13 #[grV vars Aa arrays.length ca nodes start last Ae ne ce] w (ErrPost false w):=by
 unfold odd2 at h
 unfold odd1 at h1
 simp only[Bool.or_eq_false_iff]at h1
 obtain⟨⟨⟨⟨⟨o1,o2⟩,o3⟩,o4⟩,o5⟩,o6⟩:=h1
 have HX:=hdq hx
 clear hx
 unfold grV
 have hbb:∀c0:Array Value,Below w.heap.size w (w.alloc (.cells c0 25)):=fun _=>(Below.refl _ _).alloc (lrq _) _
 have HBB:=hdq hbb
 clear hbb
 cases h2:(decide (0≤start)&&decide (start < nodes))
 ·clear h
  go_enter Try.func13,Try.ntmps13
  go_wp2_with (go_at_call 28;refine(below_any _ _ _).mono ?_;rintro e w' ⟨rfl,rfl⟩)
  go_ret
  exact⟨rfl,HBB.out _⟩
 cases h3:(decide (0≤last)&&decide (last < nodes))
 ·clear h
  go_enter Try.func13,Try.ntmps13
  go_wp2_with (go_at_call 28;refine(below_any _ _ _).mono ?_;rintro e w' ⟨rfl,rfl⟩)
  go_ret
  exact⟨rfl,HBB.out _⟩
 cases h4:start==last
 ·have h5:arrays.any sizeBad=true:=by rw[h2,h3,h4]at h;exact h
  have H5:=hdq h5
  clear h h5
  go_enter Try.func13,Try.ntmps13
  go_wp2_with (go_at_call 28;refine(below_any _ _ _).mono ?_;rintro e w' ⟨rfl,rfl⟩)
  refine(containsI sizeBad arrays Aa ca 30 #[] _ B (leq9 hB (HBB.out _).size) (HX.out.keep (Same.of (HBB.out _) hB)) (enters_of Try.func30 (by kernel_rfl) rfl) (sizes_ask _ _)).mono ?_
  rw[H5.out]
  rintro e w1 ⟨rfl,hb1⟩
  go_wp2_with fail
  go_ret
  exact⟨rfl,(HBB.out _).trans (hb1.mono (HBB.out _).size)⟩
 ·clear h
  go_enter Try.func13,Try.ntmps13
  go_wp2_with (go_at_call 28;refine(below_any _ _ _).mono ?_;rintro e w' ⟨rfl,rfl⟩)
  go_ret
  exact⟨rfl,HBB.out _⟩

theorem edges_ask (l:List Ed) (vars:Int) (Aa:Option Addr) (na ca:Nat) (nodes start last:Int) (Ae:Option Addr) (ne ce B G:Nat) (w:World) (hB:B≤w.heap.size) (hna:na≤9223372036854775807)
  (hg:GrBox w G vars Aa na ca nodes start last Ae ne ce):AsksEd 32 #[.pointer (some ⟨G,0,none⟩)] w B (edBad vars na nodes) l:=fun e _ hok W A c hb hs=>
 edge_closure e A c G vars Aa na ca nodes start last Ae ne ce B W (leq9 hB hb.size) hs hok hna (hg.keep hb)

theorem guard_cmp {vars arrs nodes:Int} {e:Ed} (h:edBad vars arrs nodes e=false):e.kind=6→3≤e.cmp∧e.cmp≤8:=fun hk=>by
 simp only[edBad,mayD,Bool.or_eq_false_iff,Bool.not_eq_false',Bool.and_eq_true,cmpD,hk,if_pos,decide_eq_true_eq]at h
 exact h.2.1.2

theorem check_edges (vars nodes start last:Int) (arrays:List Int) (l:List Ed) (Aa Ae:Option Addr) (ca ce B:Nat) (w:World) (h1:odd1 vars nodes arrays.length l.length=false) (h:odd2 nodes start last (arrays.any sizeBad)=false) (hl:l.length≤9223372036854775807) (hla:arrays.length≤9223372036854775807)
  (hB:B≤w.heap.size) (hx:IsSl w B arrays Aa ca) (he:EdSl w B l Ae ce) (hbad:l.any (edBad vars arrays.length nodes)=true):
  Calls Try.prog 13 #[grV vars Aa arrays.length ca nodes start last Ae l.length ce] w (ErrPost false w):=by
 unfold odd2 at h
 unfold odd1 at h1
 simp only[Bool.or_eq_false_iff,Bool.not_eq_false']at h1 h
 obtain⟨⟨⟨⟨⟨o1,o2⟩,o3⟩,o4⟩,o5⟩,o6⟩:=h1
 obtain⟨⟨⟨h2,h3⟩,h4⟩,h5⟩:=h
 have HX:=hdq hx
 have HE:=hdq he
 have HBAD:=hdq hbad
 have H5:=hdq h5
 clear hx he hbad h5
 unfold grV
 have hbb:∀c0:Array Value,Below w.heap.size w (w.alloc (.cells c0 25)):=fun _=>(Below.refl _ _).alloc (lrq _) _
 have HBB:=hdq hbb
 clear hbb
 go_enter Try.func13,Try.ntmps13
 go_wp2_with (go_at_call 28;refine(below_any _ _ _).mono ?_;rintro e w' ⟨rfl,rfl⟩)
 refine(containsI sizeBad arrays Aa ca 30 #[] _ B (leq9 hB (HBB.out _).size) (HX.out.keep (Same.of (HBB.out _) hB)) (enters_of Try.func30 (by kernel_rfl) rfl) (sizes_ask _ _)).mono ?_
 rw[H5.out]
 rintro e w1 ⟨rfl,hb1⟩
 have hbox:GrBox (w.alloc (.cells #[.int .i64 vars,.slice Aa arrays.length ca,.int .i64 nodes,.int .i64 start,.int .i64 last,.slice Ae l.length ce] 25)) w.heap.size vars Aa arrays.length ca nodes start last Ae l.length ce:=
  ⟨by simp,newCell w _ _ 0,newCell w _ _ 1,newCell w _ _ 2,newCell w _ _ 3,newCell w _ _ 4,newCell w _ _ 5⟩
 have hbox1:=hbox.keep hb1
 have hb2:=(HBB.out _).trans (hb1.mono (HBB.out _).size)
 have g5:=hbox1.g5
 have HBX:=hdq hbox1
 have HB2:=hdq hb2
 clear hbox hbox1 hb1 hb2
 go_wp2_with fail
 refine(containsEd (edBad vars arrays.length nodes) l Ae ce 32 #[.pointer (some ⟨w.heap.size,0,none⟩)] w1 B (leq9 hB HB2.out.size) (HE.out.keep (Same.of HB2.out hB)) (enters_of Try.func32 (by kernel_rfl) rfl) (edges_ask l vars Aa arrays.length ca nodes start last Ae l.length ce B w.heap.size w1 (leq9 hB HB2.out.size) hla HBX.out)).mono ?_
 rw[HBAD.out]
 rintro e w2 ⟨rfl,hb3⟩
 go_wp2_with fail
 go_ret
 exact⟨rfl,HB2.out.trans (hb3.mono HB2.out.size)⟩

theorem outs_l (rs:List EdR) (l:List Ed) (hrs:rs.map EdR.e=l) (vars:Int) (Aa:Option Addr) (na ca:Nat) (nodes start last:Int) (Ae:Option Addr) (ce B:Nat) (w:World) (hB:B≤w.heap.size)
  (hlen:l.length≤2048) (hc:l.length≤ce) (hx:0 < l.length→∃b o,Ae=some ⟨b,o,none⟩∧RAt w B rs b o):
  Calls Try.prog 34 #[grV vars Aa na ca nodes start last Ae l.length ce] w (OutsPost rs w):=by
 have e:l.length=rs.length:=by rw[←hrs,List.length_map]
 rw[e]at hlen hc hx ⊢
 exact outs_any rs vars Aa na ca nodes start last Ae ce B w hB hlen ⟨hc,hx⟩

theorem ExAt.more {w:World} {B B':Nat} (hB:B≤B'):∀ {xs:Exs} {b o:Nat},ExAt w B xs b o→ExAt w B' xs b o
 | .nil,_,_,_=>trivial
 | .cons k nm n args at_ rest,b,o,hx=>by
  obtain⟨hb,h0,h1,h2,⟨A,c,h3,hl,hc,ha⟩,h4,r0,r1,r2,hr⟩:=hx
  refine⟨ltq hb hB,h0,h1,h2,⟨A,c,h3,hl,hc,fun hp=>?_⟩,h4,r0,r1,r2,ExAt.more hB hr⟩
  obtain⟨b',o',e,hx'⟩:=ha hp
  exact⟨b',o',e,ExAt.more hB hx'⟩
theorem ExSl.more {w:World} {B B':Nat} (hB:B≤B') {xs:Exs} {A:Option Addr} {c:Nat} (hx:ExSl w B xs A c):ExSl w B' xs A c:=
 ⟨hx.1,hx.2.1,fun hp=>by obtain⟨b,o,e,hh⟩:=hx.2.2 hp;exact⟨b,o,e,hh.more hB⟩⟩
theorem RAt.mem {w:World} {B:Nat}:∀ {rs:List EdR} {b o:Nat},RAt w B rs b o→∀r∈rs,ExSl w B r.e.args r.A r.c∧r.e.ok
 | [],_,_,_,r,hr=>by cases hr
 |a::rs,b,o,⟨_,_,hs,hok,ht⟩,r,hr=>by
  rcases List.mem_cons.1 hr with rfl|hr
  ·exact⟨hs,hok⟩
  ·exact RAt.mem ht r hr
theorem RAt.of_cells {w:World} {B:Nat} {g:Nat} (hg:g < B):∀ {rs:List EdR} {o:Nat},(∀r∈rs,ExSl w B r.e.args r.A r.c∧r.e.ok)→(∀(i:Nat) (u:Value),(flatR rs)[i]?=some u→w.cell? ⟨g,o+i,none⟩=some u)→RAt w B rs g o
 | [],_,_,_=>trivial
 |r::rs,o,hs,hc=>by
  have h7:r.cells.length=7:=rfl
  refine⟨hg,fun j u hu=>hc j u ?_,(hs r (by simp)).1,(hs r (by simp)).2,RAt.of_cells hg (fun r' hr'=>hs r' (by simp[hr'])) fun i u hu=>?_⟩
  ·simp only[flatR,List.flatMap_cons]
   rw[List.getElem?_append_left (by rw[h7];exact h7▸(List.getElem?_eq_some_iff.1 hu).1)]
   exact hu
  ·have:=hc (7+i) u (by
    simp only[flatR,List.flatMap_cons]
    rw[List.getElem?_append_right (by rw[h7];omega),h7,show 7+i - 7=i from by omega]
    exact hu)
   rw[show o+7+i=o+(7+i)from by omega]
   exact this
theorem outE_of (rs:List EdR) (x:Int):outE (rs.map EdR.e) x=(outR rs x).map EdR.e:=by
 simp only[outE,outR,List.filter_map]
 rfl
theorem GM.slice {w:World} {b base n:Nat} {V:Int→Value} {rs:List EdR} {D:DataW Value} (h:GM w b base n V rs D) {B:Nat} (hB:B≤w.heap.size) (hs:∀r∈rs,ExSl w B r.e.args r.A r.c∧r.e.ok) {x:Int} (hx:in64 x):
  ∃A c,V x= .slice A (outE (rs.map EdR.e) x).length c∧EdSl w w.heap.size (outE (rs.map EdR.e) x) A c:=by
 have hrow:=h.rows x hx
 have hlen:(outE (rs.map EdR.e) x).length =(outR rs x).length :=by rw[outE_of,List.length_map]
 rcases hrow.2 with⟨e,h0⟩|⟨g,cap,cur,e,hg,hh,hn,hcap,hsz,ht⟩
 ·rw[hlen,h0]
  have hnil:outE (rs.map EdR.e) x= []:=List.length_eq_zero_iff.1 (hlen.trans h0)
  exact⟨none,0,e,by rw[hnil];exact⟨by simp,by simp,fun hp=>by simp at hp⟩⟩
 ·refine⟨some ⟨g,0,none⟩,cap,by rw[hlen];exact e,by rw[hlen];exact hn,by unfold maxLen at hcap;omega,fun hp=>⟨g,0,rfl,?_⟩⟩
  have hgl:g < w.heap.size:=(Array.getElem?_eq_some_iff.1 hh).1
  rw[outE_of]
  refine RAt.edges (RAt.of_cells hgl (fun r hr=>?_) fun i u hu=>?_)
  ·have:=hs r (List.mem_filter.1 hr).1
   exact⟨this.1.more hB,this.2⟩
  ·have hi:=(List.getElem?_eq_some_iff.1 hu).1
   rw[flatR_len]at hi
   rw[e]at hrow
   rw[Nat.zero_add,hrow.cellAt i hi]
   exact hu
theorem outR_has {rs:List EdR} {x:Int} (h:0 < (outR rs x).length):∃e∈rs.map EdR.e,e.from_=x:=by
 obtain⟨r,hr⟩:=List.exists_mem_of_length_pos h
 have h1:=List.mem_filter.1 hr
 exact⟨r.e,List.mem_map.2 ⟨r,h1.1,rfl⟩,eq_of_beq h1.2⟩
theorem outR_of {rs:List EdR} {e:Ed} (h:e∈rs.map EdR.e):0 < (outR rs e.from_).length :=by
 obtain⟨r,hr,rfl⟩:=List.mem_map.1 h
 exact List.length_pos_of_mem (List.mem_filter.2 ⟨hr,by simp⟩)
theorem all_no {l:List Ed} {last x:Int} (hx:∃e∈l,e.from_=x) (h:nodeOk l last x=false):(l.all fun e=>nodeOk l last e.from_)=false:=by
 obtain⟨e,he,rfl⟩:=hx
 rw[List.all_eq_false]
 exact⟨e,he,by simp[h]⟩
theorem walkR_skip {l:List Ed} {x a:Int} {n:Nat} {e:Ed} (h:outE l a= [e]) (hk:e.kind=1) (ht:¬e.to_=x):walkR l x a (n+1)=walkR l x e.to_ n:=by
 simp only[walkR,h,if_pos hk,if_neg ht]
theorem walkR_stop {l:List Ed} {x a:Int} {n:Nat} (h:∀e,outE l a= [e]→¬e.kind=1):walkR l x a n=false:=by
 cases n with
 |zero=>rfl
 |succ n=>
  unfold walkR
  split
  ·rename_i e he
   rw[if_neg (h e he)]
  ·rfl
theorem walkR_back {l:List Ed} {x a:Int} {n:Nat} {e:Ed} (h:outE l a= [e]) (hk:e.kind=1) (ht:e.to_=x):walkR l x a (n+1)=true:=by
 simp only[walkR,h,if_pos hk,if_pos ht]

theorem check_main (vars nodes start last:Int) (arrays:List Int) (l:List Ed) (rs:List EdR) (hrs:rs.map EdR.e=l) (Aa Ae:Option Addr) (ca ce B:Nat) (w:World) (h1:odd1 vars nodes arrays.length l.length=false) (h:odd2 nodes start last (arrays.any sizeBad)=false) (hl:l.length≤2048) (hla:arrays.length≤9223372036854775807)
  (hB:B≤w.heap.size) (hx:IsSl w B arrays Aa ca) (he:EdSl w B l Ae ce) (hrm:∀r∈rs,ExSl w B r.e.args r.A r.c∧r.e.ok) (hr:0 < l.length→∃b o,Ae=some ⟨b,o,none⟩∧RAt w B rs b o) (hbad:l.any (edBad vars arrays.length nodes)=false):
  Calls Try.prog 13 #[grV vars Aa arrays.length ca nodes start last Ae l.length ce] w (ErrPost (l.all fun e=>nodeOk l last e.from_) w):=by
 unfold odd2 at h
 unfold odd1 at h1
 simp only[Bool.or_eq_false_iff,Bool.not_eq_false']at h1 h
 obtain⟨⟨⟨⟨⟨o1,o2⟩,o3⟩,o4⟩,o5⟩,o6⟩:=h1
 obtain⟨⟨⟨h2,h3⟩,h4⟩,h5⟩:=h
 have HX:=hdq hx
 have HE:=hdq he
 have HR:=hdq hr
 have HRM:=hdq hrm
 have HBAD:=hdq hbad
 have H5:=hdq h5
 have HRS:=hdq hrs
 clear hx he hbad h5 hrs hr hrm
 unfold grV
 have hbb:∀c0:Array Value,Below w.heap.size w (w.alloc (.cells c0 25)):=fun _=>(Below.refl _ _).alloc (lrq _) _
 have HBB:=hdq hbb
 clear hbb
 go_enter Try.func13,Try.ntmps13
 go_wp2_with (go_at_call 28;refine(below_any _ _ _).mono ?_;rintro e w' ⟨rfl,rfl⟩)
 refine(containsI sizeBad arrays Aa ca 30 #[] _ B (leq9 hB (HBB.out _).size) (HX.out.keep (Same.of (HBB.out _) hB)) (enters_of Try.func30 (by kernel_rfl) rfl) (sizes_ask _ _)).mono ?_
 rw[H5.out]
 rintro e w1 ⟨rfl,hb1⟩
 have hbox:GrBox (w.alloc (.cells #[.int .i64 vars,.slice Aa arrays.length ca,.int .i64 nodes,.int .i64 start,.int .i64 last,.slice Ae l.length ce] 25)) w.heap.size vars Aa arrays.length ca nodes start last Ae l.length ce:=
  ⟨by simp,newCell w _ _ 0,newCell w _ _ 1,newCell w _ _ 2,newCell w _ _ 3,newCell w _ _ 4,newCell w _ _ 5⟩
 have hbox1:=hbox.keep hb1
 have hb2:=(HBB.out _).trans (hb1.mono (HBB.out _).size)
 have g5:=hbox1.g5
 have HBX:=hdq hbox1
 have HB2:=hdq hb2
 clear hbox hbox1 hb1 hb2
 go_wp2_with fail
 refine(containsEd (edBad vars arrays.length nodes) l Ae ce 32 #[.pointer (some ⟨w.heap.size,0,none⟩)] w1 B (leq9 hB HB2.out.size) (HE.out.keep (Same.of HB2.out hB)) (enters_of Try.func32 (by kernel_rfl) rfl) (edges_ask l vars Aa arrays.length ca nodes start last Ae l.length ce B w.heap.size w1 (leq9 hB HB2.out.size) hla HBX.out)).mono ?_
 rw[HBAD.out]
 rintro e w2 ⟨rfl,hb3⟩
 have hb4:=HB2.out.trans (hb3.mono HB2.out.size)
 have hbox2:=HBX.out.keep hb3
 obtain⟨hgl,g0,g1,g2,g3,g4,g5'⟩:=hbox2
 have HB4:=hdq hb4
 clear g5 hb3 hb4
 go_wp2_with fail
 refine(outs_l rs l HRS.out vars Aa arrays.length ca nodes start last Ae ce B w2 (leq9 hB HB4.out.size) hl HE.out.1 (fun hp=>by obtain⟨b,o,e,ht⟩:=HR.out hp;exact⟨b,o,e,ht.keep (Same.of HB4.out hB)⟩)).mono ?_
 rintro e w3 ⟨b,base,n,V,D,rfl,hgm,hbl,hbase,hb5⟩
 have hown:=hgm.own
 have hb6:=HB4.out.trans (hb5.mono HB4.out.size)
 have hB3:B≤w3.heap.size:=leq9 hB hb6.size
 have hslice:∀x,in64 x→∃A c,V x= .slice A (outE l x).length c∧EdSl w3 w3.heap.size (outE l x) A c:=fun x hx=>by
  have:=hgm.slice hB3 (fun r hr=>⟨(HRM.out r hr).1.keep (Same.of hb6 hB),(HRM.out r hr).2⟩) hx
  rw[HRS.out]at this
  exact this
 have hlook:∀W,Below w3.heap.size w3 W→∀x,in64 x→(Instr.lookup 70 (.map (some b)) (.int .i64 x) false).run Try.prog W= .ok (V x) W:=fun W hW x hx=>(hgm.kept (only_of_below hW none)).look hx
 have HSL:=hdq hslice
 have HLK:=hdq hlook
 have hblt:b < w3.heap.size:=hown.lt
 have hgl3:w.heap.size < w3.heap.size:=ltq hgl hb5.size
 have g4':=(hb5.cell (p:=⟨w.heap.size,4,none⟩) hgl).trans g4
 have g5:=(hb5.cell (p:=⟨w.heap.size,5,none⟩) hgl).trans g5'
 have HB6:=hdq hb6
 have HGM:=hdq hgm
 clear hgm g0 g1 g2 g3 g4 g5' hslice hlook hb5 hb6 hbase hbl
 go_wp2_with (first|(at_range;refine wpList_range_own _ rfl _ 70 rfl 3 23 intKey Try.underlying70 heldE b n D rfl hown ?_;intro w4 hrg0 hg0 hs0)|fail)
 go_frame
 go_loopw [5] (fun _ wr=>∃(left:Lit→Bool) (cnt:Nat),wr.ranges Try.prog 3 heldE b w3.heap.size n D left cnt∧Below w3.heap.size w3 wr∧Hid (∀x,in64 x→Maps.has D (.int .i64 x)=true→left (.int .i64 x)=false→nodeOk l last x=true)) (fun _ wr=>wr.rangeLeft b w3.heap.size)
 case atStart=>exact⟨_,_,hrg0,⟨hg0.os,hg0.tape,hg0.output,hg0.size,fun i hi=>hg0.block i hi (by simp)⟩,fun x _ h1 h2=>by rw[h1]at h2;cases h2⟩
 case round=>
  obtain⟨left,cnt,hrg,hbr,hok⟩:=hrel
  go_wp2_with (first
   |(at_next;refine wpList_next_ranges _ rfl _ rfl 3 intKey heldE (Value.int .i64) (fun v=>v) (fun key kl hkey=>by obtain⟨x,rfl,_⟩:=Maps.keyOf_int_inv Try.underlying3 hkey;exact⟨x,rfl⟩) (fun v y _=>⟨v,rfl⟩) b w3.heap.size n D _ _ rfl hrg ?_ ?_)
   |fail)
  ·intro _ hl0
   have hfin:(l.all fun e=>nodeOk l last e.from_)=true:=by
    rw[List.all_eq_true]
    intro e he
    rw[←HRS.out]at he
    have hx:in64 e.from_:=by
     obtain⟨r,hr,rfl⟩:=List.mem_map.1 he
     exact(HRM.out r hr).2.1
    exact hok.out e.from_ hx (by rw[HGM.out.has _ hx];simpa using outR_of he) (hl0 _)
   have HF:=hdq hfin
   have hbw:=HB6.out.trans (hbr.mono HB6.out.size)
   have HBW:=hdq hbw
   clear hfin hok hbw
   go_wp2_with fail
   go_ret
   exact⟨by rw[HF.out];rfl,HBW.out⟩
  ·intro x v kl y0 y1 w5 cnt1 hkey hlx hvy hat hrg1 hlt hg1 hs1 hen
   obtain⟨x',ex,rfl,hwx⟩:=Maps.keyOf_int_inv Try.underlying3 hkey
   cases ex
   have hx64:in64 x:=by simpa[in64,Lit.wf,IntKind.min,IntKind.max,IntKind.signed,IntKind.bits]using hwx
   have hvV:v=V x:=by
    simp only[heldE,Option.some.injEq,Prod.mk.injEq]at hvy
    have h1:=hat (.held nilS)
    rw[HGM.out.at_ x hx64,←hvy.1]at h1
    simp only[DataW.held.injEq]at h1
    exact h1.symm
   have hhas:∃e∈l,e.from_=x:=by
    have h1:=Maps.has_true_of_atKey hat
    rw[HGM.out.has x hx64]at h1
    rw[←HRS.out]
    exact outR_has (by simpa using h1)
   obtain⟨A,c,hVA,hsl⟩:=HSL.out x hx64
   obtain rfl:=hvV.trans hVA
   have hb5:Below w3.heap.size w3 w5:=hbr.grown hg1 hbr.size (fun g hg=>by cases hg;exact lrq _)
   have f4:=(hb5.cell (p:=⟨w.heap.size,4,none⟩) hgl3).trans g4'
   have f5:=(hb5.cell (p:=⟨w.heap.size,5,none⟩) hgl3).trans g5
   have hcm:∀a∈outE l x,a.kind=6→3≤a.cmp∧a.cmp≤8:=fun a ha=>guard_cmp (by have:=List.any_eq_false.1 HBAD.out a (List.mem_filter.1 ha).1;simpa using this)
   have hm:(outE l x).length ≤9223372036854775807:=leq9 hsl.1 hsl.2.1
   have HS5:=hdq (hsl.keep (Same.of hb5 (lrq _)))
   have HCM:=hdq hcm
   have HB5:=hdq hb5
   have HHAS:=hdq hhas
   have HX64:=hdq hx64
   have HRG:=hdq hrg
   have HRG1:=hdq hrg1
   have hbw:=HB6.out.trans (hb5.mono HB6.out.size)
   have HBW:=hdq hbw
   clear hkey hvy hat hVA hvV hsl hb5 hcm hhas hx64 hbw hrg hrg1 hlx hwx g4' g5 hbr hown hrg0 hg0 hs0
   cases hxl:x==last
   ·go_wp2_with fail
    refine(right_any (outE l x) A c w5 w3.heap.size HB5.out.size HS5.out HCM.out).mono ?_
    rintro _ w6 ⟨rfl,hb6⟩
    have hbw6:=HBW.out.trans (hb6.mono HBW.out.size)
    have hb36:=HB5.out.trans (hb6.mono HB5.out.size)
    cases hrt:rightB (outE l x)
    ·have HF:=hdq (all_no (last:=last) HHAS.out (by simp only[nodeOk,hrt];simp))
     have HBW6:=hdq hbw6
     clear hbw6 hb36 hb6 hen
     go_wp2_with fail
     go_ret
     exact⟨by rw[HF.out];rfl,HBW6.out⟩
    ·have k4:=(hb36.cell (p:=⟨w.heap.size,5,none⟩) hgl3).trans (by first|exact(HB5.out.cell (p:=⟨w.heap.size,5,none⟩) hgl3).symm.trans f5)
     have HBW6:=hdq hbw6
     have HB36:=hdq hb36
     have HB6':=hdq hb6
     have HRT:=hdq hrt
     clear hbw6 hb36 hb6 hen hrt f4 f5
     go_wp2_with fail
     go_loop [7,94] (fun a i=>∃(k:Nat) (av:Int),k≤l.length∧i= .int .i64 k∧a= .int .i64 av∧Hid (in64 av)∧Hid (walkR l x x l.length=walkR l x av (l.length - k))) (fun _ i=>l.length - (intOf i).toNat)
     case atStart=>exact⟨0,x,Nat.zero_le _,rfl,rfl,HX64.out,rfl⟩
     case round=>
      obtain⟨k,av,hk,rfl,rfl,hav,hwk⟩:=hrel
      by_cases hkl:k < l.length
      ·obtain⟨A2,c2,hV2,hsl2⟩:=HSL.out av hav.out
       have hlk:=HLK.out w6 HB36.out av hav.out
       rw[hV2]at hlk
       have hm2:(outE l av).length ≤9223372036854775807:=leq9 hsl2.1 hsl2.2.1
       by_cases hone:(outE l av).length =1
       ·obtain⟨e,hE⟩:∃e,outE l av= [e]:=List.length_eq_one_iff.1 hone
        rw[hE]at hsl2
        obtain⟨g,o,rfl,hat⟩:=hsl2.2.2 (by simp)
        obtain⟨hgB,c0,c1,c2',c3,c4,_,c6,heok⟩:=(hat.keep (Same.of HB36.out (lrq _))).at_ (i:=0) (e:=e) rfl
        simp only[Nat.zero_mul,Nat.add_zero]at c0 c1 c2' c3 c4 c6
        rw[hone]at hlk
        have hto:=heok.2.1
        have HTO:=hdq hto
        have HEE:=hdq hE
        clear hE hsl2 hat heok hV2 hone hto c0 c3 c4 c6 hm2
        cases hkd:e.kind==1
        ·have HNE:=hdq (fun e' (he':outE l av= [e'])=>show ¬e'.kind=1 from by rw[HEE.out]at he';injection he' with he';subst he';simpa using hkd)
         have HWF:Hid (walkR l x x l.length=false):=by show _=_;rw[hwk.out];exact walkR_stop HNE.out
         have HNO:=hdq (show nodeOk l last x=true from by simp only[nodeOk,hxl,HRT.out,HWF.out];rfl)
         clear hwk
         go_wp2_with fail
         go_roundw
         case rel=>exact⟨_,cnt1,HRG1.out.kept (only_of_below (a:=w5) HB6'.out none) (by simp) (by simp),HB36.out,fun z hz h1 h2=>by
           by_cases hzx:z=x
           ·rw[hzx];exact HNO.out
           ·refine hok.out z hz h1 ?_
            have h3:(Lit.int IntKind.i64 z).sameKey (Lit.int IntKind.i64 x)=false:=Maps.sameKey_ne (by simpa using hzx)
            rw[h3]at h2
            simpa using h2⟩
         case measure=>rw[(HRG1.out.kept (only_of_below (a:=w5) HB6'.out none) (by simp) (by simp)).left_eq,HRG.out.left_eq];exact hlt
        ·have hkd':=eq_of_beq hkd
         have HKD:=hdq hkd'
         clear hkd'
         cases hback:e.to_==x
         ·have hstep:walkR l x x l.length=walkR l x e.to_ (l.length - (k+1)):=by
           rw[hwk.out,show l.length - k=(l.length - (k+1))+1 from by omega]
           exact walkR_skip HEE.out HKD.out (by simpa using hback)
          have HST:=hdq hstep
          clear hstep hwk
          go_wp2_with fail
          go_round
          case rel=>exact⟨k+1,e.to_,by omega,by go_num,rfl,HTO.out,HST.out⟩
          case measure=>simp[intOf];omega
         ·have hbk:walkR l x x l.length=true:=by
           rw[hwk.out,show l.length - k=(l.length - (k+1))+1 from by omega]
           exact walkR_back HEE.out HKD.out (eq_of_beq hback)
          have HF:=hdq (all_no (last:=last) HHAS.out (by simp only[nodeOk,hbk];simp))
          clear hbk hwk
          go_wp2_with fail
          go_ret
          exact⟨by rw[HF.out];rfl,HBW6.out⟩
       ·have hn1:(((outE l av).length :Int)==1)=false:=by simp;omega
        have HWF:Hid (walkR l x x l.length=false):=by show _=_;rw[hwk.out];exact walkR_stop fun e he=>absurd (by rw[he];rfl) hone
        clear hsl2 hV2 hone
        have HNO:=hdq (show nodeOk l last x=true from by simp only[nodeOk,hxl,HRT.out,HWF.out];rfl)
        clear hwk
        go_wp2_with fail
        go_roundw
        case rel=>exact⟨_,cnt1,HRG1.out.kept (only_of_below (a:=w5) HB6'.out none) (by simp) (by simp),HB36.out,fun z hz h1 h2=>by
          by_cases hzx:z=x
          ·rw[hzx];exact HNO.out
          ·refine hok.out z hz h1 ?_
           have h3:(Lit.int IntKind.i64 z).sameKey (Lit.int IntKind.i64 x)=false:=Maps.sameKey_ne (by simpa using hzx)
           rw[h3]at h2
           simpa using h2⟩
        case measure=>rw[(HRG1.out.kept (only_of_below (a:=w5) HB6'.out none) (by simp) (by simp)).left_eq,HRG.out.left_eq];exact hlt
      ·have hke:k=l.length:=by omega
       have HWF:Hid (walkR l x x l.length=false):=by show _=_;rw[hwk.out,hke,Nat.sub_self];rfl
       clear hke
       have HNO:=hdq (show nodeOk l last x=true from by simp only[nodeOk,hxl,HRT.out,HWF.out];rfl)
       clear hwk
       go_wp2_with fail
       go_roundw
       case rel=>exact⟨_,cnt1,HRG1.out.kept (only_of_below (a:=w5) HB6'.out none) (by simp) (by simp),HB36.out,fun z hz h1 h2=>by
         by_cases hzx:z=x
         ·rw[hzx];exact HNO.out
         ·refine hok.out z hz h1 ?_
          have h3:(Lit.int IntKind.i64 z).sameKey (Lit.int IntKind.i64 x)=false:=Maps.sameKey_ne (by simpa using hzx)
          rw[h3]at h2
          simpa using h2⟩
       case measure=>rw[(HRG1.out.kept (only_of_below (a:=w5) HB6'.out none) (by simp) (by simp)).left_eq,HRG.out.left_eq];exact hlt
   ·have HF:=hdq (all_no (last:=last) HHAS.out (by simp only[nodeOk,hxl];simp))
    go_wp2_with fail
    go_ret
    exact⟨by rw[HF.out];rfl,HBW.out⟩

structure GrSl (w:World) (B:Nat) (g:Gr) (Aa:Option Addr) (ca:Nat) (Ae:Option Addr) (ce:Nat):Prop where
 arrays:IsSl w B g.arrays Aa ca
 edges:EdSl w B g.edges Ae ce
theorem GrSl.keep {w w':World} {B:Nat} {g:Gr} {Aa:Option Addr} {ca:Nat} {Ae:Option Addr} {ce:Nat} (h:Same B w w') (hg:GrSl w B g Aa ca Ae ce):GrSl w' B g Aa ca Ae ce:=
 ⟨hg.arrays.keep h,hg.edges.keep h⟩

theorem check_any (g:Gr) (Aa Ae:Option Addr) (ca ce B:Nat) (w:World) (hB:B≤w.heap.size) (hg:GrSl w B g Aa ca Ae ce):
  Calls Try.prog 13 #[grV g.vars Aa g.arrays.length ca g.nodes g.start g.last Ae g.edges.length ce] w (ErrPost (mayG g) w):=by
 have hl:=leq9 hg.edges.1 hg.edges.2.1
 have hla:=leq9 hg.arrays.1 hg.arrays.2.1
 cases h1:odd1 g.vars g.nodes g.arrays.length g.edges.length
 ·cases h2:odd2 g.nodes g.start g.last (g.arrays.any sizeBad)
  ·cases h3:g.edges.any (edBad g.vars g.arrays.length g.nodes)
   ·have h2048:g.edges.length≤2048:=by
     unfold odd1 at h1
     simp at h1
     omega
    have e:mayG g=g.edges.all fun e=>nodeOk g.edges g.last e.from_:=by simp[mayG,h1,h2,h3]
    rw[e]
    by_cases hz:0 < g.edges.length
    ·obtain⟨b,o,eA,hat⟩:=hg.edges.2.2 hz
     obtain⟨rs,hrs,hr⟩:=hat.raw
     exact check_main g.vars g.nodes g.start g.last g.arrays g.edges rs hrs Aa Ae ca ce B w h1 h2 h2048 hla hB hg.arrays hg.edges hr.mem (fun _=>⟨b,o,eA,hr⟩) h3
    ·have hn:g.edges= []:=List.length_eq_zero_iff.1 (by omega)
     exact check_main g.vars g.nodes g.start g.last g.arrays g.edges [] (by rw[hn];rfl) Aa Ae ca ce B w h1 h2 h2048 hla hB hg.arrays hg.edges (fun r hr=>by cases hr) (fun h=>absurd h hz) h3
   ·have e:mayG g=false:=by simp only[mayG,h3];simp
    rw[e]
    exact check_edges g.vars g.nodes g.start g.last g.arrays g.edges Aa Ae ca ce B w h1 h2 hl hla hB hg.arrays hg.edges h3
  ·have e:mayG g=false:=by simp only[mayG,h2];simp
   rw[e]
   exact check_odd2 g.vars g.nodes g.start g.last g.arrays g.edges.length Aa Ae ca ce B w h1 h2 hl hla hB hg.arrays
 ·have e:mayG g=false:=by simp only[mayG,h1];simp
  rw[e]
  exact check_odd1 g.vars g.nodes g.start g.last g.arrays.length g.edges.length Aa Ae ca ce w h1 hl hla
end Go.Proofs.Ytphlnpaikpjakaa
