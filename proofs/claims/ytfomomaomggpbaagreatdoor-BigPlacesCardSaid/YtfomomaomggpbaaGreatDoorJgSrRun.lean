/- Stores. -/
import Derived.Test.YtfomomaomggpbaaGreatDoorJgOpC
set_option linter.all false
namespace Go.Proofs.YtfomomaomggpbaaGreatDoor
open Go.RowKit Go.Shelf
def intL (l:List Int):List Value:=l.map λn=>Value.int .i64 n
def slL (b:Nat)(n:Nat):Value:= .slice (some ⟨b,0,none⟩) n n
def rowL:List Nat->List (List Int)->List Value
 |b::bs,l::ls=>slL b l.length::rowL bs ls
 |_,_=> []
theorem zhx:∀ {bs:List Nat} {ls:List (List Int)} {i b:Nat} {l:List Int},bs[i]?=some b->ls[i]?=some l->(rowL bs ls)[i]?=some (slL b l.length)
 | [],_,_,_,_,h,_=>by simp at h
 |_::_, [],_,_,_,_,h=>by simp at h
 |a::bs,m::ls,0,b,l,h,h'=>by
  simp only[List.getElem?_cons_zero,Option.some.injEq]at h h';rw[<-h,<-h'];rfl
 |a::bs,m::ls,i+1,b,l,h,h'=>by
  simp only[List.getElem?_cons_succ]at h h';exact zhx (bs:=bs) (ls:=ls) h h'
theorem zfV:∀ {bs:List Nat} {ls:List (List Int)},bs.length=ls.length->(rowL bs ls).length =ls.length
 | [], [],_=>rfl
 | [],_::_,h=>by simp at h
 |_::_, [],h=>by simp at h
 |_::bs,_::ls,h=>by
  simp only[rowL,List.length_cons]at h ⊢;rw[zfV (bs:=bs) (ls:=ls) (by omega)]
theorem zio:∀ {bs:List Nat} {ls:List (List Int)} {i:Nat} {l l':List Int},ls[i]?=some l->l'.length=l.length->rowL bs (ls.set i l')=rowL bs ls
 | [],_,_,_,_,_,_=>by simp[rowL]
 |_::_, [],_,_,_,h,_=>by simp at h
 |a::bs,m::ls,0,l,l',h,h'=>by
  simp only[List.getElem?_cons_zero,Option.some.injEq]at h;simp[rowL,h,h']
 |a::bs,m::ls,i+1,l,l',h,h'=>by
  simp only[List.getElem?_cons_succ]at h;simp only[List.set_cons_succ,rowL];rw[zio h h']
theorem zgT:∀ {bs:List Nat} {ls:List (List Int)} (b:Nat) (l:List Int),bs.length=ls.length->rowL (bs++ [b]) (ls++ [l])=rowL bs ls++ [slL b l.length]
 | [], [],b,l,_=>rfl
 | [],_::_,_,_,h=>by simp at h
 |_::_, [],_,_,h=>by simp at h
 |_::bs,_::ls,b,l,h=>by
  simp only[List.length_cons]at h;simp only[List.cons_append,rowL];rw[zgT b l (by omega)]
structure Sto (w:World)(L:Nat)(vs:List Int)(ls:List (List Int))(bv:Nat)(A:Option Addr)(c:Nat)(bs:List Nat):Prop where
 v:Bk w bv 3 (intL vs).toArray
 vl:L<=bv
 row:w.ownsRow L 28 1 (.slice A ls.length c) ls.length (rowL bs ls)
 len:bs.length=ls.length
 each:∀(i b:Nat)(l:List Int),bs[i]?=some b->ls[i]?=some l->L<=b/\Bk w b 3 (intL l).toArray
 nd:bs.Nodup
 nv:bv∉bs
 rv:(Value.slice A ls.length c).ownBlock ≠some bv
 rb:∀b∈bs,(Value.slice A ls.length c).ownBlock ≠some b
 i64:St64 vs ls
 few:vs.length<=1000/\ls.length<=1000/\∀l∈ls,l.length<=1000
theorem Sto.fr {w w':World}{L:Nat}{vs:List Int}{ls:List (List Int)}{bv:Nat}{A:Option Addr}{c:Nat}{bs:List Nat}{T:Nat->Prop}(h:Sto w L vs ls bv A c bs)(hf:Fr T w w')
  (hv:¬T bv) (hb:∀b∈bs,¬T b) (hr:∀b,(Value.slice A ls.length c).ownBlock =some b->¬T b):Sto w' L vs ls bv A c bs:=by
 refine⟨h.v.fr hf hv,h.vl,?_,h.len,λi b l hi hl=>⟨(h.each i b l hi hl).1,(h.each i b l hi hl).2.fr hf (hb b (List.mem_of_getElem? hi))⟩,h.nd,h.nv,h.rv,h.rb,h.i64,h.few⟩;obtain⟨h1,h2⟩:=h.row;refine⟨h1,?_⟩;rcases h2 with h2|⟨g,cap,cur,PY,hg,hh,r⟩
 ·exact .inl h2
 ·refine .inr ⟨g,cap,cur,PY,hg,?_,r⟩;have Hk:g < w.heap.size:=(Array.getElem?_eq_some_iff.1 hh).1;rw[hf.block g Hk (hr g (by rw[PY];rfl))];exact hh
theorem zk9 {w:World}{b:Nat}{l:List Int}(h:Bk w b 3 (intL l).toArray)(Kg:∀n∈l,is64 n)(hl:l.length<=9223372036854775807):IsSl w w.heap.size l (some ⟨b,0,none⟩) l.length:=
 ⟨aL _,hl,λ_=>⟨b,0,rfl,h.lt,λi n hi=>⟨by
  rw[Nat.zero_add,h.cell i];simp[intL,hi],by have:=Kg n (List.mem_of_getElem? hi);unfold is64 at this;unfold in64;omega⟩⟩⟩
theorem Sto.stSl {w:World}{L:Nat}{vs:List Int}{ls:List (List Int)}{bv:Nat}{A:Option Addr}{c:Nat}{bs:List Nat}(h:Sto w L vs ls bv A c bs):StSl w w.heap.size vs ls (some ⟨bv,0,none⟩) vs.length A c:=by
 have QP:=h.few;refine⟨zk9 h.v h.i64.1 (by omega),?_⟩;rcases h.row.2 with⟨e,h0⟩|⟨g,cap,cur,e,hg,hh,hn,hc,hs,ht⟩
 ·simp only[Value.slice.injEq]at e;refine⟨by rw[h0];exact Nat.zero_le _,by rw[e.2.2];decide,λhp=>by omega⟩
 ·simp only[Value.slice.injEq]at e;obtain⟨rfl,-,rfl⟩:=e;refine⟨hn,by unfold maxLen at hc;omega,λhp=>⟨g,0,rfl,(Array.getElem?_eq_some_iff.1 hh).1,λi l hi=>?_⟩⟩;have Nm:i < bs.length:=by rw[h.len];exact(List.getElem?_eq_some_iff.1 hi).1
  obtain⟨b,hb⟩:∃b,bs[i]?=some b:=⟨_,List.getElem?_eq_getElem Nm⟩;have hc:=h.row.cells (g:=g) rfl i _ (zhx hb hi);have e:(⟨g,0,none⟩:Addr).add i=⟨g,0+i,none⟩:=by rw[Nat.zero_add];unfold Addr.add;split<;>simp_all
  rw[e]at hc;exact⟨_,_,hc,zk9 (h.each i b l hb hi).2 (h.i64.2 l (List.mem_of_getElem? hi)) (by have:=h.few.2.2 l (List.mem_of_getElem? hi);omega)⟩
theorem zip (l:List Int)(i:Nat)(x:Int):(intL (l.set i x))=(intL l).set i (.int .i64 x):=by simp[intL,List.map_set]
theorem zfW {l:List Int}(h:∀n∈l,is64 n)(i:Nat){x:Int}(hx:is64 x):∀n∈l.set i x,is64 n:=λn hn=>by
 rcases List.mem_or_eq_of_mem_set hn with h1|h1
 ·exact h n h1
 ·rw[h1];exact hx
theorem Sto.setV {w:World}{L:Nat}{vs:List Int}{ls:List (List Int)}{bv:Nat}{A:Option Addr}{c:Nat}{bs:List Nat}(h:Sto w L vs ls bv A c bs)(i:Nat){x:Int}(hx:is64 x):
  Sto (w.setCell ⟨bv,i,none⟩ (.int .i64 x)) L (vs.set i x) ls bv A c bs/\Fr (λb=>b=bv) w (w.setCell ⟨bv,i,none⟩ (.int .i64 x)):=by
 have hf:Fr (λb=>b=bv) w (w.setCell ⟨bv,i,none⟩ (.int .i64 x)):=aJ aH;refine⟨⟨?_,h.vl,?_,h.len,λj b l hi hl=>⟨(h.each j b l hi hl).1,(h.each j b l hi hl).2.fr hf λe=>h.nv (by have e:b=bv:=e;rw[<-e];exact List.mem_of_getElem? hi)⟩,h.nd,h.nv,h.rv,h.rb,⟨zfW h.i64.1 i hx,h.i64.2⟩,by rw[List.length_set];exact h.few⟩,hf⟩
 ·have:=h.v.set_ i (.int .i64 x);rw[zip];simpa using this
 ·obtain⟨h1,h2⟩:=h.row;refine⟨h1,?_⟩;rcases h2 with h2|⟨g,cap,cur,PY,hg,hh,r⟩
  ·exact .inl h2
  ·refine .inr ⟨g,cap,cur,PY,hg,?_,r⟩;have Hk:g < w.heap.size:=(Array.getElem?_eq_some_iff.1 hh).1;rw[hf.block g Hk (λe=>h.rv (by rw[PY];have e:g=bv:=e;rw[e];rfl))];exact hh
theorem Sto.setA {w:World}{L:Nat}{vs:List Int}{ls:List (List Int)}{bv:Nat}{A:Option Addr}{c:Nat}{bs:List Nat}(h:Sto w L vs ls bv A c bs){i b:Nat}{l:List Int}(hb:bs[i]?=some b)(hl:ls[i]?=some l)(j:Nat){x:Int}(hx:is64 x):
  Sto (w.setCell ⟨b,j,none⟩ (.int .i64 x)) L vs (ls.set i (l.set j x)) bv A c bs/\Fr (λy=>y=b) w (w.setCell ⟨b,j,none⟩ (.int .i64 x)):=by
 have hf:Fr (λy=>y=b) w (w.setCell ⟨b,j,none⟩ (.int .i64 x)):=aJ aH;have WC:b∈bs:=List.mem_of_getElem? hb;refine⟨⟨h.v.fr hf λe=>h.nv (by have e:bv=b:=e;rw[e];exact WC),h.vl,?_,by rw[List.length_set];exact h.len,λk b' l' hi N9=>?_,h.nd,h.nv,by rw[List.length_set];exact h.rv,by rw[List.length_set];exact h.rb,⟨h.i64.1,λl' N9=>?_⟩,?_⟩,hf⟩
 ·rw[List.length_set,zio hl (by rw[List.length_set])];obtain⟨h1,h2⟩:=h.row;refine⟨h1,?_⟩;rcases h2 with h2|⟨g,cap,cur,PY,hg,hh,r⟩
  ·exact .inl h2
  ·refine .inr ⟨g,cap,cur,PY,hg,?_,r⟩;have Hk:g < w.heap.size:=(Array.getElem?_eq_some_iff.1 hh).1;rw[hf.block g Hk (λe=>h.rb b WC (by rw[PY];have e:g=b:=e;rw[e];rfl))];exact hh
 ·by_cases e:i=k
  ·subst e;rw[hb]at hi;obtain rfl:=Option.some.inj hi;have Nm:i < ls.length:=(List.getElem?_eq_some_iff.1 hl).1;rw[List.getElem?_set_self Nm]at N9;obtain rfl:=Option.some.inj N9;refine⟨(h.each i b l hb hl).1,?_⟩;have:=(h.each i b l hb hl).2.set_ j (.int .i64 x);rw[zip];simpa using this
  ·rw[List.getElem?_set_ne e]at N9;refine⟨(h.each k b' l' hi N9).1,(h.each k b' l' hi N9).2.fr hf λe'=>e ?_⟩;have e':b'=b:=e';subst e';obtain⟨p1,p2⟩:=List.getElem?_eq_some_iff.1 hb;obtain⟨p3,p4⟩:=List.getElem?_eq_some_iff.1 hi;rcases Nat.lt_trichotomy i k with Hk|heq|vK
   ·exact absurd (p2.trans p4.symm) ((List.pairwise_iff_getElem.1 h.nd) i k p1 p3 Hk)
   ·exact heq
   ·exact absurd (p4.trans p2.symm) ((List.pairwise_iff_getElem.1 h.nd) k i p3 p1 vK)
 ·rcases List.mem_or_eq_of_mem_set N9 with h1|h1
  ·exact h.i64.2 l' h1
  ·rw[h1];exact zfW (h.i64.2 l (List.mem_of_getElem? hl)) j hx
 ·refine⟨h.few.1,by rw[List.length_set];exact h.few.2.1,λl' N9=>?_⟩;rcases List.mem_or_eq_of_mem_set N9 with h1|h1
  ·exact h.few.2.2 l' h1
  ·rw[h1,List.length_set];exact h.few.2.2 l (List.mem_of_getElem? hl)
theorem zla (l l':List Int)(A A':Option Addr)(c c':Nat)(w:World)(B:Nat)(hx:IsSl w B l A c)(hy:IsSl w B l' A' c'):
  Calls Tryz.prog 30 #[.slice A l.length c,.slice A' l'.length c'] w (zcG (l==l') w):=by
 have hl:=aK hx.1 hx.2.1;have N9:=aK hy.1 hy.2.1;by_cases hlen:l.length=l'.length
 ·by_cases h0:l.length=0
  ·have e1:l= []:=List.length_eq_zero_iff.1 h0;have e2:l'= []:=List.length_eq_zero_iff.1 (hlen▸h0);subst e1;subst e2;exact(Tryz.slices_Equal_int_empty A A' c 0 c' w (by omega)).mono λ_ _ h=>⟨h.1,h.2▸Below.refl _ _⟩
  ·obtain⟨b,o,rfl,Hg⟩:=hx.2.2 (by omega);obtain⟨b',o',rfl,Sc⟩:=hy.2.2 (by omega);refine(Tryz.slices_Equal_int b o l.length c b' o' l'.length c' l l' w (aL _) (aL _) hl N9 (λj hj=>?_) (λj hj=>?_)).mono λ_ _ h=>⟨by simpa using h.1,by obtain⟨q,rfl⟩:=h.2;exact below_drewN (Below.refl _ _) _⟩
   ·rw[(Hg.2 j _ (List.getElem?_eq_getElem hj)).1];simp[List.getD,hj]
   ·rw[(Sc.2 j _ (List.getElem?_eq_getElem hj)).1];simp[List.getD,hj]
 ·have Gh:(l==l')=false:=by
   rw[beq_eq_false_iff_ne];exact λe=>hlen (by rw[e])
  rw[Gh];exact(Tryz.slices_Equal_int_lens A A' l.length c l'.length c' w hlen).mono λ_ _ h=>⟨h.1,h.2▸Below.refl _ _⟩
open Go.RowKit
structure En where
 kind:Int
 wrong:Int
 at_:Int
 node:Int
 edge:Int
 left:Int
 vs:List Int
 ls:List (List Int)
/-! skips alone come to an end -/
theorem Same.of_fr {T:Nat->Prop}{L:Nat}{w w':World}(hf:Fr T w w')(hL:L<=w.heap.size)(hT:∀b,T b->L<=b):Same L w w':=λp hp=>hf.cell (aM hp hL) λht=>absurd hp (Nat.not_lt.2 (hT _ ht))
theorem zdL {P:Program}{fn:Func}{p q:Tmp}{ty:TypeId}(h:fn.results= #[.cell p ty,.tmp q])(tmps:Array Value)(w:World)(g:Nat)(t:TypeId)(cs:Array Value)(fr:Nat×Nat)(d:TypeDesc)
  (hp:tmps.getD p undef= .pointer (some ⟨g,0,none⟩)) (hg:w.heap[g]?=some (.cells cs t fr))
  (hu:P.underlying ty=some d) (hd:(match d with| .struct _| .array _ _=>true|_=>false)=true) (hi:(P.info? ty).map (·.size)=some cs.size):
  (results fn tmps).run P w= .ok (.tuple #[.agg cs,tmps.getD q undef]) w:=by
 have LU:tmps[p]?.getD undef= .pointer (some ⟨g,0,none⟩):=by simpa using hp
 simp[results,h,LU,asAddr,run_loadVar_row w g t ty cs fr d hg hu hd hi]
theorem zjp {α:Type} [BEq α] {l l':List α}{k:Nat}{a b:α}(ha:l[k]?=some a)(hb:l'[k]?=some b):(l.drop k==l'.drop k)=((a==b)&&(l.drop (k+1)==l'.drop (k+1))):=by
 obtain⟨h1,rfl⟩:=List.getElem?_eq_some_iff.1 ha;obtain⟨h2,rfl⟩:=List.getElem?_eq_some_iff.1 hb;rw[List.drop_eq_getElem_cons h1,List.drop_eq_getElem_cons h2];rfl
theorem zlb (l l':List Int)(A A':Option Addr)(c c':Nat)(w:World)(B:Nat)(hx:IsSl w B l A c)(hy:IsSl w B l' A' c'):
  Calls Tryz.prog 32 #[.slice A l.length c,.slice A' l'.length c'] w (zcG (l==l') w):=by
 have H:=aA (zla l l' A A' c c' w B hx hy);obtain⟨b,hb⟩:=aF ((l==l'));obtain⟨m,hm⟩:=aF l.length;obtain⟨m',WD⟩:=aF l'.length;rw[<-hb,<-hm,<-WD]at H ⊢;clear hb hx hy hm WD;go_enter Tryz.func32,Tryz.ntmps32;go_wp2_with fail;go_at_call 30;refine H.mono ?_;rintro e w1 ⟨rfl,Gz⟩;go_wp2_with fail;go_ret;exact⟨rfl,Gz⟩
set_option maxHeartbeats 1600000 in
theorem zo5 (ls xp:List (List Int))(A A':Option Addr)(c c':Nat)(w:World)(B:Nat)(hB:B<=w.heap.size)(hx:ArSl w B ls A c)(hy:ArSl w B xp A' c'):
  Calls Tryz.prog 31 #[.slice A ls.length c,.slice A' xp.length c',.func (.func 32) #[] #[]] w (zcG (ls==xp) w):=by
 have hm:ls.length<=9223372036854775807:=aK hx.1 hx.2.1;have hent:Enters Tryz.prog 32:=enters_of Tryz.func32 (by kernel_rfl) rfl;unfold Enters at hent;by_cases Gh:ls.length=xp.length
 ·obtain⟨n,hn⟩:=aF ls.length;rw[<-Gh,<-hn];rw[<-hn]at hm;have HN:=aA hn;have HE:=aA Gh;have HX:=aA hx;have HY:=aA hy;clear hn Gh hx hy;go_enter Tryz.func31,Tryz.ntmps31;go_wp2_with fail;go_loopw [17] (λi wr=>∃k:Nat,k<=n/\i= .int .i64 k/\Below w.heap.size w wr/\Hid ((ls==xp)=(ls.drop k==xp.drop k))) (λi _=>n - (intOf i).toNat);case atStart=>exact⟨0,Nat.zero_le _,rfl,Below.refl _ _,rfl⟩
  case round=>
   obtain⟨k,hk,rfl,hb,hd⟩:=hrel;by_cases Hk:k < n
   ·have h1:k < ls.length:=by rw[<-HN.out];exact Hk
    have h2:k < xp.length:=by rw[<-HE.out,<-HN.out];exact Hk
    obtain⟨b,o,rfl,Hg⟩:=HX.2.2 (by omega);obtain⟨b',o',rfl,Sc⟩:=HY.2.2 (by omega);obtain⟨A3,c3,x3,KT⟩:=(Hg.keep (Same.of hb hB)).2 k _ (List.getElem?_eq_getElem h1);obtain⟨A4,c4,x4,Mt⟩:=(Sc.keep (Same.of hb hB)).2 k _ (List.getElem?_eq_getElem h2);have hs:=zjp (List.getElem?_eq_getElem h1) (List.getElem?_eq_getElem h2);have hc:=zlb _ _ _ _ _ _ wr B KT Mt;obtain⟨q,hq⟩:=aF ((ls[k]==xp[k]));obtain⟨m1,Jn⟩:=aF (ls[k].length );obtain⟨m2,JY⟩:=aF (xp[k].length );rw[<-hq]at hs;rw[<-hq,<-Jn,<-JY]at hc;rw[<-Jn]at x3;rw[<-JY]at x4;have HS:=aA hs;have HC:=aA hc;clear Hg Sc KT Mt hs hc hq Jn JY h1 h2;go_wp2_with fail;go_at_call 32;refine HC.mono ?_;rintro e w1 ⟨rfl,Gz⟩;have G2:Below w.heap.size w w1:=hb.trans (Gz.mono hb.size);cases q with
    |false=>
     have HF:=aA (show(ls==xp)=false from by rw[hd.out,HS.out];rfl);clear Gz x3 x4;go_wp2_with fail;go_ret;exact⟨by rw[HF.out];rfl,G2⟩
    |true=>
     have HF:=aA (show(ls==xp)=(ls.drop (k+1)==xp.drop (k+1))from by rw[hd.out,HS.out];rfl);clear Gz x3 x4;go_wp2_with fail;go_roundw;case rel=>exact⟨k+1,by omega,by go_num,G2,HF⟩
     case measure=>simp[intOf];omega
   ·have HF:=aA (show(ls==xp)=true from by
     rw[hd.out,List.drop_eq_nil_of_le (by rw[<-HN.out];omega),List.drop_eq_nil_of_le (by rw[<-HE.out,<-HN.out];omega)];rfl)
    have HB:=aA hb;clear hd hb;go_wp2_with fail;go_ret;exact⟨by rw[HF.out];rfl,HB.out⟩
 ·have HF:=aA (show(ls==xp)=false from by
   cases h:ls==xp with
   |false=>rfl
   |true=>exact absurd (by rw[eq_of_beq h]) Gh)
  obtain⟨n1,h1⟩:=aF ls.length;obtain⟨n2,h2⟩:=aF xp.length;rw[<-h1,<-h2]at Gh ⊢;have FG:((n1:Int) != (n2:Int))=true:=by simp;omega
  clear Gh h1 h2 hm hx hy;go_enter Tryz.func31,Tryz.ntmps31;go_wp2;go_ret;exact⟨by rw[HF.out];rfl,Below.refl _ _⟩
