import Derived.Test.YtfomomaomggpbaaGreatDoorJnOpA
set_option linter.all false
namespace Go.Proofs.YtfomomaomggpbaaGreatDoor
open Go.RowKit Go.Shelf
def zlO:Value:= .agg #[.nilFunc,.nilFunc,.nilFunc,.nilFunc,.func (.func 249) #[] #[],.func (.func 251) #[] #[],.func (.func 252) #[] #[],.func (.func 253) #[] #[],.func (.func 254) #[] #[],.func (.func 256) #[] #[],.func (.func 257) #[] #[],.func (.func 260) #[] #[]]
theorem znD (w:World):Calls Tryz.prog 216 #[] w λe w'=>e= .returned zlO/\Below w.heap.size w w':=by
 go_enter Tryz.func216,Tryz.ntmps216;go_wp2;exact bodyPost_ret (v:=zlO) (by simp[zlO,results,Tryz.results216,go_sem]) rfl ⟨rfl,(Below.refl _ _).alloc (lrq _) _⟩
theorem za9 (k a b:Int)(g:Nat)(n r:Int)(w:World)(h0:4<=k)(h1:k<=11)
  (Fi:∀w,(Instr.index 306 zlO (.int .u8 k)).run Tryz.prog w= .ok (.func (.func g) #[] #[]) w)
  (hent:∀(args:Array Value)(w:World),(callFunc g args).run Tryz.prog w= .ok (.enter g args) w)
  (hg:∀w,Calls Tryz.prog g #[.int .i64 a,.int .i64 b] w λe w'=>e= .returned (.tuple #[.int .i64 n,.int .u8 r])/\Below w.heap.size w w'):
  Calls Tryz.prog 157 #[.int .u8 k,.int .i64 a,.int .i64 b] w λe w'=>e= .returned (.tuple #[.int .i64 n,.int .u8 r,.int .i64 0])/\Below w.heap.size w w':=by
 have HG:=hdq hg;clear hg;go_enter Tryz.func157,Tryz.ntmps157;go_wp2_with fail;refine(znD _).mono ?_;rintro e w1 ⟨rfl,Gw⟩;go_wp2_with fail;refine(HG _).mono ?_;rintro e w2 ⟨rfl,GP⟩;go_wp2_with fail
 go_ret3
 exact⟨rfl,Gw.trans (GP.mono Gw.size)⟩
theorem zjU (k a b:Int)(w:World)(h0:4<=k)(h1:k<=11)(ha:is64 a)(hb:is64 b):
  Calls Tryz.prog 157 #[.int .u8 k,.int .i64 a,.int .i64 b] w λe w'=>e= .returned (.tuple #[.int .i64 (opR k a b),.int .u8 (opW k a b),.int .i64 0])/\Below w.heap.size w w':=by
 have hk:k=4\/k=5\/k=6\/k=7\/k=8\/k=9\/k=10\/k=11:=by omega
 rcases hk with rfl|rfl|rfl|rfl|rfl|rfl|rfl|rfl
 ·exact za9 4 a b 249 _ _ w h0 h1 (λ_=>by kernel_rfl) (enters_of Tryz.func249 (by kernel_rfl) rfl) λw=>(znt a b w ha).mono λ_ _ h=>⟨h.1,h.2▸Below.refl _ _⟩
 ·exact za9 5 a b 251 _ _ w h0 h1 (λ_=>by kernel_rfl) (enters_of Tryz.func251 (by kernel_rfl) rfl) λw=>(znu a b w ha hb).mono λ_ _ h=>⟨h.1,h.2▸Below.refl _ _⟩
 ·exact za9 6 a b 252 _ _ w h0 h1 (λ_=>by kernel_rfl) (enters_of Tryz.func252 (by kernel_rfl) rfl) λw=>(znv a b w ha hb).mono λ_ _ h=>⟨h.1,h.2▸Below.refl _ _⟩
 ·exact za9 7 a b 253 _ _ w h0 h1 (λ_=>by kernel_rfl) (enters_of Tryz.func253 (by kernel_rfl) rfl) λw=>(zgM a b w ha hb).mono λ_ _ h=>⟨h.1,h.2▸Below.refl _ _⟩
 ·exact za9 8 a b 254 _ _ w h0 h1 (λ_=>by kernel_rfl) (enters_of Tryz.func254 (by kernel_rfl) rfl) λw=>znx a b w ha
 ·exact za9 9 a b 256 _ _ w h0 h1 (λ_=>by kernel_rfl) (enters_of Tryz.func256 (by kernel_rfl) rfl) λw=>zny a b w ha
 ·by_cases h:b < 0\/63 < b
  ·exact za9 10 a b 257 _ _ w h0 h1 (λ_=>by kernel_rfl) (enters_of Tryz.func257 (by kernel_rfl) rfl) λw=>zos a b w h
  ·exact za9 10 a b 257 _ _ w h0 h1 (λ_=>by kernel_rfl) (enters_of Tryz.func257 (by kernel_rfl) rfl) λw=>znB a b w (by omega) (by omega)
 ·by_cases h:b < 0\/63 < b
  ·exact za9 11 a b 260 _ _ w h0 h1 (λ_=>by kernel_rfl) (enters_of Tryz.func260 (by kernel_rfl) rfl) λw=>zot a b w h
  ·exact za9 11 a b 260 _ _ w h0 h1 (λ_=>by kernel_rfl) (enters_of Tryz.func260 (by kernel_rfl) rfl) λw=>znC a b w (by omega) (by omega)
/-! the other text's operations -/
def cmpB (k a b:Int):Bool:=
 if k=3 then decide (a < b)else if k=4 then decide (a<=b)else if k=5 then decide (b < a)else if k=6 then decide (b<=a)else if k=7 then a==b else if k=8 then a != b else false
def cmpE (k:Int):Int:=if 3<=k/\k<=8 then 0 else 2
theorem zgN (k a b:Int)(w:World):
  Calls Tryz.prog 89 #[.int .u8 k,.int .i64 a,.int .i64 b] w λe w'=>e= .returned (.tuple #[.bool (cmpB k a b),.int .i64 (cmpE k)])/\w=w':=by
 by_cases hk:k=3\/k=4\/k=5\/k=6\/k=7\/k=8
 ·rcases hk with rfl|rfl|rfl|rfl|rfl|rfl;all_goals
   go_enter Tryz.func89,Tryz.ntmps89;go_wp2
   go_ret2
   exact⟨rfl,rfl⟩
 ·have h3:(k==3)=false:=by simp;omega
  have h4:(k==4)=false:=by simp;omega
  have h5:(k==5)=false:=by simp;omega
  have h6:(k==6)=false:=by simp;omega
  have h7:(k==7)=false:=by simp;omega
  have h8:(k==8)=false:=by simp;omega
  have e1:cmpB k 0 0=false/\cmpE k=2:=by
   have:¬(3<=k/\k<=8):=by omega
   unfold cmpB cmpE;simp at h3 h4 h5 h6 h7 h8;simp[h3,h4,h5,h6,h7,h8,this]
  have e2:cmpB k a b=false:=by
   unfold cmpB;simp at h3 h4 h5 h6 h7 h8;simp[h3,h4,h5,h6,h7,h8]
  rw[e1.2,e2];clear e1 e2 hk;go_enter Tryz.func89,Tryz.ntmps89;go_wp2
  go_ret2
  exact⟨rfl,rfl⟩
def intL (l:List Int):List Value:=l.map λn=>Value.int .i64 n
def slL (b:Nat)(n:Nat):Value:= .slice (some ⟨b,0,none⟩) n n
def rowL:List Nat->List (List Int)->List Value
 |b::bs,l::ls=>slL b l.length::rowL bs ls
 |_,_=> []
theorem zgO:∀ {bs:List Nat} {ls:List (List Int)} {i b:Nat} {l:List Int},bs[i]?=some b->ls[i]?=some l->(rowL bs ls)[i]?=some (slL b l.length)
 | [],_,_,_,_,h,_=>by simp at h
 |_::_, [],_,_,_,_,h=>by simp at h
 |a::bs,m::ls,0,b,l,h,h'=>by
  simp only[List.getElem?_cons_zero,Option.some.injEq]at h h';rw[<-h,<-h'];rfl
 |a::bs,m::ls,i+1,b,l,h,h'=>by
  simp only[List.getElem?_cons_succ]at h h';exact zgO (bs:=bs) (ls:=ls) h h'
theorem zfo:∀ {bs:List Nat} {ls:List (List Int)},bs.length=ls.length->(rowL bs ls).length =ls.length
 | [], [],_=>rfl
 | [],_::_,h=>by simp at h
 |_::_, [],h=>by simp at h
 |_::bs,_::ls,h=>by
  simp only[rowL,List.length_cons]at h ⊢;rw[zfo (bs:=bs) (ls:=ls) (by omega)]
theorem zhw:∀ {bs:List Nat} {ls:List (List Int)} {i:Nat} {l l':List Int},ls[i]?=some l->l'.length=l.length->rowL bs (ls.set i l')=rowL bs ls
 | [],_,_,_,_,_,_=>by simp[rowL]
 |_::_, [],_,_,_,h,_=>by simp at h
 |a::bs,m::ls,0,l,l',h,h'=>by
  simp only[List.getElem?_cons_zero,Option.some.injEq]at h;simp[rowL,h,h']
 |a::bs,m::ls,i+1,l,l',h,h'=>by
  simp only[List.getElem?_cons_succ]at h;simp only[List.set_cons_succ,rowL];rw[zhw h h']
theorem zf9:∀ {bs:List Nat} {ls:List (List Int)} (b:Nat) (l:List Int),bs.length=ls.length->rowL (bs++ [b]) (ls++ [l])=rowL bs ls++ [slL b l.length]
 | [], [],b,l,_=>rfl
 | [],_::_,_,_,h=>by simp at h
 |_::_, [],_,_,h=>by simp at h
 |_::bs,_::ls,b,l,h=>by
  simp only[List.length_cons]at h;simp only[List.cons_append,rowL];rw[zf9 b l (by omega)]
structure Sto (w:World)(L:Nat)(vs:List Int)(ls:List (List Int))(bv:Nat)(A:Option Addr)(c:Nat)(bs:List Nat):Prop where
 v:Bk w bv 3 (intL vs).toArray
 vl:L<=bv
 row:w.ownsRow L 28 1 (.slice A ls.length c) ls.length (rowL bs ls)
 len:bs.length=ls.length
 each:∀(i b:Nat)(l:List Int),bs[i]?=some b->ls[i]?=some l->L<=b/\Bk w b 3 (intL l).toArray
 nd:bs.Nodup
 nv:bv∉bs
 rv:(Value.slice A ls.length c).ownBlock ≠some bv
 rb:∀b∈bs,(Value.slice A ls.length c).ownBlock ≠some b
 i64:St64 vs ls
 few:vs.length<=1000/\ls.length<=1000/\∀l∈ls,l.length<=1000
theorem Sto.fr {w w':World}{L:Nat}{vs:List Int}{ls:List (List Int)}{bv:Nat}{A:Option Addr}{c:Nat}{bs:List Nat}{T:Nat->Prop}(h:Sto w L vs ls bv A c bs)(hf:Fr T w w')
  (hv:¬T bv) (hb:∀b∈bs,¬T b) (hr:∀b,(Value.slice A ls.length c).ownBlock =some b->¬T b):Sto w' L vs ls bv A c bs:=by
 refine⟨h.v.fr hf hv,h.vl,?_,h.len,λi b l hi hl=>⟨(h.each i b l hi hl).1,(h.each i b l hi hl).2.fr hf (hb b (List.mem_of_getElem? hi))⟩,h.nd,h.nv,h.rv,h.rb,h.i64,h.few⟩;obtain⟨h1,h2⟩:=h.row;refine⟨h1,?_⟩;rcases h2 with h2|⟨g,cap,cur,Ps,hg,hh,r⟩
 ·exact .inl h2
 ·refine .inr ⟨g,cap,cur,Ps,hg,?_,r⟩;have Hl:g < w.heap.size:=(Array.getElem?_eq_some_iff.1 hh).1;rw[hf.block g Hl (hr g (by rw[Ps];rfl))];exact hh
theorem zjV {w:World}{b:Nat}{l:List Int}(h:Bk w b 3 (intL l).toArray)(KB:∀n∈l,is64 n)(hl:l.length<=9223372036854775807):IsSl w w.heap.size l (some ⟨b,0,none⟩) l.length:=
 ⟨lrq _,hl,λ_=>⟨b,0,rfl,h.lt,λi n hi=>⟨by
  rw[Nat.zero_add,h.cell i];simp[intL,hi],by have:=KB n (List.mem_of_getElem? hi);unfold is64 at this;unfold in64;omega⟩⟩⟩
theorem Sto.stSl {w:World}{L:Nat}{vs:List Int}{ls:List (List Int)}{bv:Nat}{A:Option Addr}{c:Nat}{bs:List Nat}(h:Sto w L vs ls bv A c bs):StSl w w.heap.size vs ls (some ⟨bv,0,none⟩) vs.length A c:=by
 have P5:=h.few;refine⟨zjV h.v h.i64.1 (by omega),?_⟩;rcases h.row.2 with⟨e,h0⟩|⟨g,cap,cur,e,hg,hh,hn,hc,hs,ht⟩
 ·simp only[Value.slice.injEq]at e;refine⟨by rw[h0];exact Nat.zero_le _,by rw[e.2.2];decide,λhp=>by omega⟩
 ·simp only[Value.slice.injEq]at e;obtain⟨rfl,-,rfl⟩:=e;refine⟨hn,by unfold maxLen at hc;omega,λhp=>⟨g,0,rfl,(Array.getElem?_eq_some_iff.1 hh).1,λi l hi=>?_⟩⟩;have M0:i < bs.length:=by rw[h.len];exact(List.getElem?_eq_some_iff.1 hi).1
  obtain⟨b,hb⟩:∃b,bs[i]?=some b:=⟨_,List.getElem?_eq_getElem M0⟩;have hc:=h.row.cells (g:=g) rfl i _ (zgO hb hi);have e:(⟨g,0,none⟩:Addr).add i=⟨g,0+i,none⟩:=by rw[Nat.zero_add];unfold Addr.add;split<;>simp_all
  rw[e]at hc;exact⟨_,_,hc,zjV (h.each i b l hb hi).2 (h.i64.2 l (List.mem_of_getElem? hi)) (by have:=h.few.2.2 l (List.mem_of_getElem? hi);omega)⟩
theorem zhx (l:List Int)(i:Nat)(x:Int):(intL (l.set i x))=(intL l).set i (.int .i64 x):=by simp[intL,List.map_set]
theorem zfp {l:List Int}(h:∀n∈l,is64 n)(i:Nat){x:Int}(hx:is64 x):∀n∈l.set i x,is64 n:=λn hn=>by
 rcases List.mem_or_eq_of_mem_set hn with h1|h1
 ·exact h n h1
 ·rw[h1];exact hx
theorem Sto.setV {w:World}{L:Nat}{vs:List Int}{ls:List (List Int)}{bv:Nat}{A:Option Addr}{c:Nat}{bs:List Nat}(h:Sto w L vs ls bv A c bs)(i:Nat){x:Int}(hx:is64 x):
  Sto (w.setCell ⟨bv,i,none⟩ (.int .i64 x)) L (vs.set i x) ls bv A c bs/\Fr (λb=>b=bv) w (w.setCell ⟨bv,i,none⟩ (.int .i64 x)):=by
 have hf:Fr (λb=>b=bv) w (w.setCell ⟨bv,i,none⟩ (.int .i64 x)):=Fr.own (Fr.refl _ _) _ _;refine⟨⟨?_,h.vl,?_,h.len,λj b l hi hl=>⟨(h.each j b l hi hl).1,(h.each j b l hi hl).2.fr hf λe=>h.nv (by have e:b=bv:=e;rw[<-e];exact List.mem_of_getElem? hi)⟩,h.nd,h.nv,h.rv,h.rb,⟨zfp h.i64.1 i hx,h.i64.2⟩,by rw[List.length_set];exact h.few⟩,hf⟩
 ·have:=h.v.set_ i (.int .i64 x);rw[zhx];simpa using this
 ·obtain⟨h1,h2⟩:=h.row;refine⟨h1,?_⟩;rcases h2 with h2|⟨g,cap,cur,Ps,hg,hh,r⟩
  ·exact .inl h2
  ·refine .inr ⟨g,cap,cur,Ps,hg,?_,r⟩;have Hl:g < w.heap.size:=(Array.getElem?_eq_some_iff.1 hh).1;rw[hf.block g Hl (λe=>h.rv (by rw[Ps];have e:g=bv:=e;rw[e];rfl))];exact hh
theorem Sto.setA {w:World}{L:Nat}{vs:List Int}{ls:List (List Int)}{bv:Nat}{A:Option Addr}{c:Nat}{bs:List Nat}(h:Sto w L vs ls bv A c bs){i b:Nat}{l:List Int}(hb:bs[i]?=some b)(hl:ls[i]?=some l)(j:Nat){x:Int}(hx:is64 x):
  Sto (w.setCell ⟨b,j,none⟩ (.int .i64 x)) L vs (ls.set i (l.set j x)) bv A c bs/\Fr (λy=>y=b) w (w.setCell ⟨b,j,none⟩ (.int .i64 x)):=by
 have hf:Fr (λy=>y=b) w (w.setCell ⟨b,j,none⟩ (.int .i64 x)):=Fr.own (Fr.refl _ _) _ _;have Vm:b∈bs:=List.mem_of_getElem? hb;refine⟨⟨h.v.fr hf λe=>h.nv (by have e:bv=b:=e;rw[e];exact Vm),h.vl,?_,by rw[List.length_set];exact h.len,λk b' l' hi NJ=>?_,h.nd,h.nv,by rw[List.length_set];exact h.rv,by rw[List.length_set];exact h.rb,⟨h.i64.1,λl' NJ=>?_⟩,?_⟩,hf⟩
 ·rw[List.length_set,zhw hl (by rw[List.length_set])];obtain⟨h1,h2⟩:=h.row;refine⟨h1,?_⟩;rcases h2 with h2|⟨g,cap,cur,Ps,hg,hh,r⟩
  ·exact .inl h2
  ·refine .inr ⟨g,cap,cur,Ps,hg,?_,r⟩;have Hl:g < w.heap.size:=(Array.getElem?_eq_some_iff.1 hh).1;rw[hf.block g Hl (λe=>h.rb b Vm (by rw[Ps];have e:g=b:=e;rw[e];rfl))];exact hh
 ·by_cases e:i=k
  ·subst e;rw[hb]at hi;obtain rfl:=Option.some.inj hi;have M0:i < ls.length:=(List.getElem?_eq_some_iff.1 hl).1;rw[List.getElem?_set_self M0]at NJ;obtain rfl:=Option.some.inj NJ;refine⟨(h.each i b l hb hl).1,?_⟩;have:=(h.each i b l hb hl).2.set_ j (.int .i64 x);rw[zhx];simpa using this
  ·rw[List.getElem?_set_ne e]at NJ;refine⟨(h.each k b' l' hi NJ).1,(h.each k b' l' hi NJ).2.fr hf λe'=>e ?_⟩;have e':b'=b:=e';subst e';obtain⟨p1,p2⟩:=List.getElem?_eq_some_iff.1 hb;obtain⟨p3,p4⟩:=List.getElem?_eq_some_iff.1 hi;rcases Nat.lt_trichotomy i k with Hl|heq|kp
   ·exact absurd (p2.trans p4.symm) ((List.pairwise_iff_getElem.1 h.nd) i k p1 p3 Hl)
   ·exact heq
   ·exact absurd (p4.trans p2.symm) ((List.pairwise_iff_getElem.1 h.nd) k i p3 p1 kp)
 ·rcases List.mem_or_eq_of_mem_set NJ with h1|h1
  ·exact h.i64.2 l' h1
  ·rw[h1];exact zfp (h.i64.2 l (List.mem_of_getElem? hl)) j hx
 ·refine⟨h.few.1,by rw[List.length_set];exact h.few.2.1,λl' NJ=>?_⟩;rcases List.mem_or_eq_of_mem_set NJ with h1|h1
  ·exact h.few.2.2 l' h1
  ·rw[h1,List.length_set];exact h.few.2.2 l (List.mem_of_getElem? hl)
