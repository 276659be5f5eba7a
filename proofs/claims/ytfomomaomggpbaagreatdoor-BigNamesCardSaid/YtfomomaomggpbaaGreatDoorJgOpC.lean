import Derived.Test.YtfomomaomggpbaaGreatDoorJnOpA
set_option linter.unusedVariables false
set_option linter.unusedSimpArgs false
namespace Go.Proofs.YtfomomaomggpbaaGreatDoor
open Go.RowKit Go.Shelf

def opTab:Value:= .agg #[.nilFunc,.nilFunc,.nilFunc,.nilFunc,.func (.func 249) #[] #[],.func (.func 251) #[] #[],.func (.func 252) #[] #[],.func (.func 253) #[] #[],.func (.func 254) #[] #[],.func (.func 256) #[] #[],.func (.func 257) #[] #[],.func (.func 260) #[] #[]]
theorem ops_any (w:World):Calls Tryz.prog 216 #[] w fun e w'=>e= .returned opTab∧Below w.heap.size w w':=by
 go_enter Tryz.func216,Tryz.ntmps216
 go_wp2
 exact bodyPost_ret (v:=opTab) (by simp[opTab,results,Tryz.results216,go_sem]) rfl ⟨rfl,(Below.refl _ _).alloc (lrq _) _⟩
theorem apply_at (k a b:Int) (g:Nat) (n r:Int) (w:World) (h0:4≤k) (h1:k≤11)
  (hidx:∀w,(Instr.index 306 opTab (.int .u8 k)).run Tryz.prog w= .ok (.func (.func g) #[] #[]) w)
  (hent:∀(args:Array Value) (w:World),(callFunc g args).run Tryz.prog w= .ok (.enter g args) w)
  (hg:∀w,Calls Tryz.prog g #[.int .i64 a,.int .i64 b] w fun e w'=>e= .returned (.tuple #[.int .i64 n,.int .u8 r])∧Below w.heap.size w w'):
  Calls Tryz.prog 157 #[.int .u8 k,.int .i64 a,.int .i64 b] w fun e w'=>e= .returned (.tuple #[.int .i64 n,.int .u8 r,.int .i64 0])∧Below w.heap.size w w':=by
 have HG:=hdq hg
 clear hg
 go_enter Tryz.func157,Tryz.ntmps157
 go_wp2_with fail
 refine(ops_any _).mono ?_
 rintro e w1 ⟨rfl,hb1⟩
 go_wp2_with fail
 refine(HG.out _).mono ?_
 rintro e w2 ⟨rfl,hb2⟩
 go_wp2_with fail
 go_ret3
 exact⟨rfl,hb1.trans (hb2.mono hb1.size)⟩

theorem apply_any (k a b:Int) (w:World) (h0:4≤k) (h1:k≤11) (ha:is64 a) (hb:is64 b):
  Calls Tryz.prog 157 #[.int .u8 k,.int .i64 a,.int .i64 b] w fun e w'=>e= .returned (.tuple #[.int .i64 (opR k a b),.int .u8 (opW k a b),.int .i64 0])∧Below w.heap.size w w':=by
 have hk:k=4∨k=5∨k=6∨k=7∨k=8∨k=9∨k=10∨k=11:=by omega
 rcases hk with rfl|rfl|rfl|rfl|rfl|rfl|rfl|rfl
 ·exact apply_at 4 a b 249 _ _ w h0 h1 (fun _=>by kernel_rfl) (enters_of Tryz.func249 (by kernel_rfl) rfl) fun w=>(neg_any a b w ha).mono fun _ _ h=>⟨h.1,h.2▸Below.refl _ _⟩
 ·exact apply_at 5 a b 251 _ _ w h0 h1 (fun _=>by kernel_rfl) (enters_of Tryz.func251 (by kernel_rfl) rfl) fun w=>(add_any a b w ha hb).mono fun _ _ h=>⟨h.1,h.2▸Below.refl _ _⟩
 ·exact apply_at 6 a b 252 _ _ w h0 h1 (fun _=>by kernel_rfl) (enters_of Tryz.func252 (by kernel_rfl) rfl) fun w=>(sub_any a b w ha hb).mono fun _ _ h=>⟨h.1,h.2▸Below.refl _ _⟩
 ·exact apply_at 7 a b 253 _ _ w h0 h1 (fun _=>by kernel_rfl) (enters_of Tryz.func253 (by kernel_rfl) rfl) fun w=>(optimes_any a b w ha hb).mono fun _ _ h=>⟨h.1,h.2▸Below.refl _ _⟩
 ·exact apply_at 8 a b 254 _ _ w h0 h1 (fun _=>by kernel_rfl) (enters_of Tryz.func254 (by kernel_rfl) rfl) fun w=>div_any a b w ha
 ·exact apply_at 9 a b 256 _ _ w h0 h1 (fun _=>by kernel_rfl) (enters_of Tryz.func256 (by kernel_rfl) rfl) fun w=>mod_any a b w ha
 ·by_cases h:b < 0∨63 < b
  ·exact apply_at 10 a b 257 _ _ w h0 h1 (fun _=>by kernel_rfl) (enters_of Tryz.func257 (by kernel_rfl) rfl) fun w=>shl_no a b w h
  ·exact apply_at 10 a b 257 _ _ w h0 h1 (fun _=>by kernel_rfl) (enters_of Tryz.func257 (by kernel_rfl) rfl) fun w=>shl_yes a b w (by omega) (by omega)
 ·by_cases h:b < 0∨63 < b
  ·exact apply_at 11 a b 260 _ _ w h0 h1 (fun _=>by kernel_rfl) (enters_of Tryz.func260 (by kernel_rfl) rfl) fun w=>shr_no a b w h
  ·exact apply_at 11 a b 260 _ _ w h0 h1 (fun _=>by kernel_rfl) (enters_of Tryz.func260 (by kernel_rfl) rfl) fun w=>shr_yes a b w (by omega) (by omega)
/-! the other text's operations -/

def cmpB (k a b:Int):Bool:=
 if k=3 then decide (a < b)else if k=4 then decide (a≤b)else if k=5 then decide (b < a)else if k=6 then decide (b≤a)else if k=7 then a==b else if k=8 then a != b else false
def cmpE (k:Int):Int:=if 3≤k∧k≤8 then 0 else 2
theorem compare_any (k a b:Int) (w:World):
  Calls Tryz.prog 89 #[.int .u8 k,.int .i64 a,.int .i64 b] w fun e w'=>e= .returned (.tuple #[.bool (cmpB k a b),.int .i64 (cmpE k)])∧w=w':=by
 by_cases hk:k=3∨k=4∨k=5∨k=6∨k=7∨k=8
 ·rcases hk with rfl|rfl|rfl|rfl|rfl|rfl
  all_goals
   go_enter Tryz.func89,Tryz.ntmps89
   go_wp2
   go_ret2
   exact⟨rfl,rfl⟩
 ·have h3:(k==3)=false:=by simp;omega
  have h4:(k==4)=false:=by simp;omega
  have h5:(k==5)=false:=by simp;omega
  have h6:(k==6)=false:=by simp;omega
  have h7:(k==7)=false:=by simp;omega
  have h8:(k==8)=false:=by simp;omega
  have e1:cmpB k 0 0=false∧cmpE k=2:=by
   have:¬(3≤k∧k≤8):=by omega
   unfold cmpB cmpE
   simp at h3 h4 h5 h6 h7 h8
   simp[h3,h4,h5,h6,h7,h8,this]
  have e2:cmpB k a b=false:=by
   unfold cmpB
   simp at h3 h4 h5 h6 h7 h8
   simp[h3,h4,h5,h6,h7,h8]
  rw[e1.2,e2]
  clear e1 e2 hk
  go_enter Tryz.func89,Tryz.ntmps89
  go_wp2
  go_ret2
  exact⟨rfl,rfl⟩

def intL (l:List Int):List Value:=l.map fun n=>Value.int .i64 n
def slL (b:Nat) (n:Nat):Value:= .slice (some ⟨b,0,none⟩) n n
def rowL:List Nat→List (List Int)→List Value
 |b::bs,l::ls=>slL b l.length::rowL bs ls
 |_,_=> []
theorem rowL_at:∀ {bs:List Nat} {ls:List (List Int)} {i b:Nat} {l:List Int},bs[i]?=some b→ls[i]?=some l→(rowL bs ls)[i]?=some (slL b l.length)
 | [],_,_,_,_,h,_=>by simp at h
 |_::_, [],_,_,_,_,h=>by simp at h
 |a::bs,m::ls,0,b,l,h,h'=>by
  simp only[List.getElem?_cons_zero,Option.some.injEq]at h h'
  rw[←h,←h'];rfl
 |a::bs,m::ls,i+1,b,l,h,h'=>by
  simp only[List.getElem?_cons_succ]at h h'
  exact rowL_at (bs:=bs) (ls:=ls) h h'
theorem rowL_len:∀ {bs:List Nat} {ls:List (List Int)},bs.length=ls.length→(rowL bs ls).length =ls.length
 | [], [],_=>rfl
 | [],_::_,h=>by simp at h
 |_::_, [],h=>by simp at h
 |_::bs,_::ls,h=>by
  simp only[rowL,List.length_cons]at h ⊢
  rw[rowL_len (bs:=bs) (ls:=ls) (by omega)]
theorem rowL_set:∀ {bs:List Nat} {ls:List (List Int)} {i:Nat} {l l':List Int},ls[i]?=some l→l'.length=l.length→rowL bs (ls.set i l')=rowL bs ls
 | [],_,_,_,_,_,_=>by simp[rowL]
 |_::_, [],_,_,_,h,_=>by simp at h
 |a::bs,m::ls,0,l,l',h,h'=>by
  simp only[List.getElem?_cons_zero,Option.some.injEq]at h
  simp[rowL,h,h']
 |a::bs,m::ls,i+1,l,l',h,h'=>by
  simp only[List.getElem?_cons_succ]at h
  simp only[List.set_cons_succ,rowL]
  rw[rowL_set h h']
theorem rowL_snoc:∀ {bs:List Nat} {ls:List (List Int)} (b:Nat) (l:List Int),bs.length=ls.length→rowL (bs++ [b]) (ls++ [l])=rowL bs ls++ [slL b l.length]
 | [], [],b,l,_=>rfl
 | [],_::_,_,_,h=>by simp at h
 |_::_, [],_,_,h=>by simp at h
 |_::bs,_::ls,b,l,h=>by
  simp only[List.length_cons]at h
  simp only[List.cons_append,rowL]
  rw[rowL_snoc b l (by omega)]
structure Sto (w:World) (L:Nat) (vs:List Int) (ls:List (List Int)) (bv:Nat) (A:Option Addr) (c:Nat) (bs:List Nat):Prop where
 v:Bk w bv 3 (intL vs).toArray
 vl:L≤bv
 row:w.ownsRow L 28 1 (.slice A ls.length c) ls.length (rowL bs ls)
 len:bs.length=ls.length
 each:∀(i b:Nat) (l:List Int),bs[i]?=some b→ls[i]?=some l→L≤b∧Bk w b 3 (intL l).toArray
 nd:bs.Nodup
 nv:bv∉bs
 rv:(Value.slice A ls.length c).ownBlock ≠some bv
 rb:∀b∈bs,(Value.slice A ls.length c).ownBlock ≠some b
 i64:St64 vs ls
 few:vs.length≤1000∧ls.length≤1000∧∀l∈ls,l.length≤1000
theorem Sto.fr {w w':World} {L:Nat} {vs:List Int} {ls:List (List Int)} {bv:Nat} {A:Option Addr} {c:Nat} {bs:List Nat} {T:Nat→Prop} (h:Sto w L vs ls bv A c bs) (hf:Fr T w w')
  (hv:¬T bv) (hb:∀b∈bs,¬T b) (hr:∀b,(Value.slice A ls.length c).ownBlock =some b→¬T b):Sto w' L vs ls bv A c bs:=by
 refine⟨h.v.fr hf hv,h.vl,?_,h.len,fun i b l hi hl=>⟨(h.each i b l hi hl).1,(h.each i b l hi hl).2.fr hf (hb b (List.mem_of_getElem? hi))⟩,h.nd,h.nv,h.rv,h.rb,h.i64,h.few⟩
 obtain⟨h1,h2⟩:=h.row
 refine⟨h1,?_⟩
 rcases h2 with h2|⟨g,cap,cur,hv',hg,hh,r⟩
 ·exact .inl h2
 ·refine .inr ⟨g,cap,cur,hv',hg,?_,r⟩
  have hlt:g < w.heap.size:=(Array.getElem?_eq_some_iff.1 hh).1
  rw[hf.block g hlt (hr g (by rw[hv'];rfl))]
  exact hh
theorem intL_set (l:List Int) (i:Nat) (x:Int):(intL (l.set i x))=(intL l).set i (.int .i64 x):=by simp[intL,List.map_set]
theorem is64_set {l:List Int} (h:∀n∈l,is64 n) (i:Nat) {x:Int} (hx:is64 x):∀n∈l.set i x,is64 n:=fun n hn=>by
 rcases List.mem_or_eq_of_mem_set hn with h1|h1
 ·exact h n h1
 ·rw[h1];exact hx
theorem Sto.setV {w:World} {L:Nat} {vs:List Int} {ls:List (List Int)} {bv:Nat} {A:Option Addr} {c:Nat} {bs:List Nat} (h:Sto w L vs ls bv A c bs) (i:Nat) {x:Int} (hx:is64 x):
  Sto (w.setCell ⟨bv,i,none⟩ (.int .i64 x)) L (vs.set i x) ls bv A c bs∧Fr (fun b=>b=bv) w (w.setCell ⟨bv,i,none⟩ (.int .i64 x)):=by
 have hf:Fr (fun b=>b=bv) w (w.setCell ⟨bv,i,none⟩ (.int .i64 x)):=Fr.own (Fr.refl _ _) _ _
 refine⟨⟨?_,h.vl,?_,h.len,fun j b l hi hl=>⟨(h.each j b l hi hl).1,(h.each j b l hi hl).2.fr hf fun e=>h.nv (by have e:b=bv:=e;rw[←e];exact List.mem_of_getElem? hi)⟩,h.nd,h.nv,h.rv,h.rb,⟨is64_set h.i64.1 i hx,h.i64.2⟩,by rw[List.length_set];exact h.few⟩,hf⟩
 ·have:=h.v.set_ i (.int .i64 x)
  rw[intL_set]
  simpa using this
 ·obtain⟨h1,h2⟩:=h.row
  refine⟨h1,?_⟩
  rcases h2 with h2|⟨g,cap,cur,hv',hg,hh,r⟩
  ·exact .inl h2
  ·refine .inr ⟨g,cap,cur,hv',hg,?_,r⟩
   have hlt:g < w.heap.size:=(Array.getElem?_eq_some_iff.1 hh).1
   rw[hf.block g hlt (fun e=>h.rv (by rw[hv'];have e:g=bv:=e;rw[e];rfl))]
   exact hh
theorem Sto.setA {w:World} {L:Nat} {vs:List Int} {ls:List (List Int)} {bv:Nat} {A:Option Addr} {c:Nat} {bs:List Nat} (h:Sto w L vs ls bv A c bs) {i b:Nat} {l:List Int} (hb:bs[i]?=some b) (hl:ls[i]?=some l) (j:Nat) {x:Int} (hx:is64 x):
  Sto (w.setCell ⟨b,j,none⟩ (.int .i64 x)) L vs (ls.set i (l.set j x)) bv A c bs∧Fr (fun y=>y=b) w (w.setCell ⟨b,j,none⟩ (.int .i64 x)):=by
 have hf:Fr (fun y=>y=b) w (w.setCell ⟨b,j,none⟩ (.int .i64 x)):=Fr.own (Fr.refl _ _) _ _
 have hmb:b∈bs:=List.mem_of_getElem? hb
 refine⟨⟨h.v.fr hf fun e=>h.nv (by have e:bv=b:=e;rw[e];exact hmb),h.vl,?_,by rw[List.length_set];exact h.len,fun k b' l' hi hl'=>?_,h.nd,h.nv,by rw[List.length_set];exact h.rv,by rw[List.length_set];exact h.rb,⟨h.i64.1,fun l' hl'=>?_⟩,?_⟩,hf⟩
 ·rw[List.length_set,rowL_set hl (by rw[List.length_set])]
  obtain⟨h1,h2⟩:=h.row
  refine⟨h1,?_⟩
  rcases h2 with h2|⟨g,cap,cur,hv',hg,hh,r⟩
  ·exact .inl h2
  ·refine .inr ⟨g,cap,cur,hv',hg,?_,r⟩
   have hlt:g < w.heap.size:=(Array.getElem?_eq_some_iff.1 hh).1
   rw[hf.block g hlt (fun e=>h.rb b hmb (by rw[hv'];have e:g=b:=e;rw[e];rfl))]
   exact hh
 ·by_cases e:i=k
  ·subst e
   rw[hb]at hi
   obtain rfl:=Option.some.inj hi
   have hil:i < ls.length:=(List.getElem?_eq_some_iff.1 hl).1
   rw[List.getElem?_set_self hil]at hl'
   obtain rfl:=Option.some.inj hl'
   refine⟨(h.each i b l hb hl).1,?_⟩
   have:=(h.each i b l hb hl).2.set_ j (.int .i64 x)
   rw[intL_set]
   simpa using this
  ·rw[List.getElem?_set_ne e]at hl'
   refine⟨(h.each k b' l' hi hl').1,(h.each k b' l' hi hl').2.fr hf fun e'=>e ?_⟩
   have e':b'=b:=e'
   subst e'
   obtain⟨p1,p2⟩:=List.getElem?_eq_some_iff.1 hb
   obtain⟨p3,p4⟩:=List.getElem?_eq_some_iff.1 hi
   rcases Nat.lt_trichotomy i k with hlt|heq|hgt
   ·exact absurd (p2.trans p4.symm) ((List.pairwise_iff_getElem.1 h.nd) i k p1 p3 hlt)
   ·exact heq
   ·exact absurd (p4.trans p2.symm) ((List.pairwise_iff_getElem.1 h.nd) k i p3 p1 hgt)
 ·rcases List.mem_or_eq_of_mem_set hl' with h1|h1
  ·exact h.i64.2 l' h1
  ·rw[h1];exact is64_set (h.i64.2 l (List.mem_of_getElem? hl)) j hx
 ·refine⟨h.few.1,by rw[List.length_set];exact h.few.2.1,fun l' hl'=>?_⟩
  rcases List.mem_or_eq_of_mem_set hl' with h1|h1
  ·exact h.few.2.2 l' h1
  ·rw[h1,List.length_set];exact h.few.2.2 l (List.mem_of_getElem? hl)
end Go.Proofs.YtfomomaomggpbaaGreatDoor
