/- slices.Clone of expressions, conditions, scalars, arrays. -/
import Derived.Lib.BufferMore
import Derived.Test.YtmopichdofgndaaGreatDoorJnCl
set_option linter.all false
set_option maxHeartbeats 1600000
set_option maxRecDepth 100000
namespace Go.Proofs.YtmopichdofgndaaGreatDoor
open Go.RowKit Go.Shelf
def zhk (L:Nat)(T:TypeId)(size n:Nat)(cs:List Value)(w:World)(e:Ending)(w':World):Prop:=∃v,e= .returned v/\w'.ownsRow L T size v n cs/\Fr NoT w w'/\∃A c,v= .slice A n c
theorem zh8 (A:Option Addr)(n c:Nat)(cs:List Value)(w:World)(hn:n<=9223372036854775807)(hb:n*64<=140737488355328)(hl:cs.length=n*5)(h1:One1 cs)(hA:A=none->n=0)(hc:∀ad,A=some ad->∀j u,cs[j]?=some u->w.cell? (ad.add j)=some u):
  Calls Tryz.prog 150 #[.slice A n c] w (zhk w.heap.size 41 5 n cs w):=by
 obtain⟨i0,hi,Fe,Gh,Gn⟩:=info_parts zfH;have HI:=hdq (aiq hi (aiq Fe (aiq Gh Gn)));have HH:=hdq (aiq hb (aiq hl (aiq h1 (aiq hA hc))));clear hb hl h1 hA hc hi Fe Gh Gn;cases A with
 |none=>
  have Kw:∀W,(binOp .eql 36 (.slice none n c) (.slice none 0 0)).run Tryz.prog W= .ok (.bool true) W:=λW=>Lib.run_eql_slice_nil_nil W _ _ Tryz.underlying36;go_enter Tryz.func150,Tryz.ntmps150;go_wp2_with fail;go_ret;have h0:=HH.2.2.2.1 trivial;subst h0;have hl:=HH.2.1;have e0:cs= []:=List.length_eq_zero_iff.1 (by omega);subst e0;exact⟨_,rfl,World.ownsRow_nil _ _ _ _,Fr.refl _ _,none,0,rfl⟩
 |some ad=>
  have Kw:∀W,(binOp .eql 36 (.slice (some ad) n c) (.slice none 0 0)).run Tryz.prog W= .ok (.bool false) W:=λW=>Lib.run_eql_slice_some_nil W _ _ _ Tryz.underlying36;go_enter Tryz.func150,Tryz.ntmps150;obtain⟨w1,Hc⟩:=nmq (w.alloc (.cells #[] 41));have Hi:Fr NoT w w1:=by rw[Hc];exact(Fr.refl _ _).alloc _
  have J8:w1.ownsRow w.heap.size 41 5 (.slice (some ⟨w.heap.size,0,none⟩) 0 0) 0 []:=by
   rw[Hc];exact World.ownsRow_lit w #[] 0 (lrq _) (by decide) rfl
  have Fd:∀j u,cs[j]?=some u->w1.cell? (ad.add j)=some u:=λj u hj=>by
   have h:=HH.2.2.2.2 ad rfl j u hj;rw[<-h];have Hr:(ad.add j).block < w.heap.size:=zbu h;exact Hi.cell Hr id
  have Hn:=hdq Hi;have PJ:=hdq J8;have L7:=hdq Fd;have Ga:=hdq Hc;have hz:w.heap.size<=w1.heap.size:=Hi.size;have Gk:0+n<=maxLen:=by unfold maxLen;omega
  have Gu:(0+n)*64<=140737488355328:=by rw[Nat.zero_add];exact HH.1
  clear Hi J8 Fd Hc;go_wp2_with (at_builtin;rw[<-Ga.out];refine wpList_append_own _ rfl _ _ 36 rfl w.heap.size 41 i0 (.agg #[.int .u8 0,.string ⟨#[]⟩,.int .i64 0,.slice none 0 0,.int .i64 0]) 5 64 Tryz.underlying36 HI.1 HI.2.1 HI.2.2.1 HI.2.2.2 rfl (by decide) (.slice (some ⟨w.heap.size,0,none⟩) 0 0) 0 [] rfl PJ.out ad n c cs rfl HH.2.1 L7.out HH.2.2.1 Gk Gu hz ?_);intro v' w' Hg hg _;have HO:=hdq Hg;have HG:=hdq hg;clear Hg hg;go_wp2_with fail;go_ret;refine⟨_,rfl,HO.out,Hn.back1 (Fr.grown HG.out λg e _=>by simp[Value.ownBlock]at e;omega) (lrq _),?_⟩;rcases HO.2 with⟨e1,e2⟩|⟨g,cap,cur,e1,_⟩
  ·exact⟨none,0,by rw[e1,e2];rfl⟩
  ·exact⟨_,cap,e1⟩
theorem zh9 (A:Option Addr)(n c:Nat)(cs:List Value)(w:World)(hn:n<=9223372036854775807)(hb:n*64<=140737488355328)(hl:cs.length=n*4)(h1:One1 cs)(hA:A=none->n=0)(hc:∀ad,A=some ad->∀j u,cs[j]?=some u->w.cell? (ad.add j)=some u):
  Calls Tryz.prog 151 #[.slice A n c] w (zhk w.heap.size 160 4 n cs w):=by
 obtain⟨i0,hi,Fe,Gh,Gn⟩:=info_parts ziZ;have HI:=hdq (aiq hi (aiq Fe (aiq Gh Gn)));have HH:=hdq (aiq hb (aiq hl (aiq h1 (aiq hA hc))));clear hb hl h1 hA hc hi Fe Gh Gn;cases A with
 |none=>
  have Kw:∀W,(binOp .eql 37 (.slice none n c) (.slice none 0 0)).run Tryz.prog W= .ok (.bool true) W:=λW=>Lib.run_eql_slice_nil_nil W _ _ Tryz.underlying37;go_enter Tryz.func151,Tryz.ntmps151;go_wp2_with fail;go_ret;have h0:=HH.2.2.2.1 trivial;subst h0;have hl:=HH.2.1;have e0:cs= []:=List.length_eq_zero_iff.1 (by omega);subst e0;exact⟨_,rfl,World.ownsRow_nil _ _ _ _,Fr.refl _ _,none,0,rfl⟩
 |some ad=>
  have Kw:∀W,(binOp .eql 37 (.slice (some ad) n c) (.slice none 0 0)).run Tryz.prog W= .ok (.bool false) W:=λW=>Lib.run_eql_slice_some_nil W _ _ _ Tryz.underlying37;go_enter Tryz.func151,Tryz.ntmps151;obtain⟨w1,Hc⟩:=nmq (w.alloc (.cells #[] 160));have Hi:Fr NoT w w1:=by rw[Hc];exact(Fr.refl _ _).alloc _
  have J8:w1.ownsRow w.heap.size 160 4 (.slice (some ⟨w.heap.size,0,none⟩) 0 0) 0 []:=by
   rw[Hc];exact World.ownsRow_lit w #[] 0 (lrq _) (by decide) rfl
  have Fd:∀j u,cs[j]?=some u->w1.cell? (ad.add j)=some u:=λj u hj=>by
   have h:=HH.2.2.2.2 ad rfl j u hj;rw[<-h];have Hr:(ad.add j).block < w.heap.size:=zbu h;exact Hi.cell Hr id
  have Hn:=hdq Hi;have PJ:=hdq J8;have L7:=hdq Fd;have Ga:=hdq Hc;have hz:w.heap.size<=w1.heap.size:=Hi.size;have Gk:0+n<=maxLen:=by unfold maxLen;omega
  have Gu:(0+n)*64<=140737488355328:=by rw[Nat.zero_add];exact HH.1
  clear Hi J8 Fd Hc;go_wp2_with (at_builtin;rw[<-Ga.out];refine wpList_append_own _ rfl _ _ 37 rfl w.heap.size 160 i0 (.agg #[.int .u8 0,.slice none 0 0,.slice none 0 0,.int .i64 0]) 4 64 Tryz.underlying37 HI.1 HI.2.1 HI.2.2.1 HI.2.2.2 rfl (by decide) (.slice (some ⟨w.heap.size,0,none⟩) 0 0) 0 [] rfl PJ.out ad n c cs rfl HH.2.1 L7.out HH.2.2.1 Gk Gu hz ?_);intro v' w' Hg hg _;have HO:=hdq Hg;have HG:=hdq hg;clear Hg hg;go_wp2_with fail;go_ret;refine⟨_,rfl,HO.out,Hn.back1 (Fr.grown HG.out λg e _=>by simp[Value.ownBlock]at e;omega) (lrq _),?_⟩;rcases HO.2 with⟨e1,e2⟩|⟨g,cap,cur,e1,_⟩
  ·exact⟨none,0,by rw[e1,e2];rfl⟩
  ·exact⟨_,cap,e1⟩
theorem zia (A:Option Addr)(n c:Nat)(cs:List Value)(w:World)(hn:n<=9223372036854775807)(hb:n*24<=140737488355328)(hl:cs.length=n*2)(h1:One1 cs)(hA:A=none->n=0)(hc:∀ad,A=some ad->∀j u,cs[j]?=some u->w.cell? (ad.add j)=some u):
  Calls Tryz.prog 27 #[.slice A n c] w (zhk w.heap.size 43 2 n cs w):=by
 obtain⟨i0,hi,Fe,Gh,Gn⟩:=info_parts zfI;have HI:=hdq (aiq hi (aiq Fe (aiq Gh Gn)));have HH:=hdq (aiq hb (aiq hl (aiq h1 (aiq hA hc))));clear hb hl h1 hA hc hi Fe Gh Gn;cases A with
 |none=>
  have Kw:∀W,(binOp .eql 22 (.slice none n c) (.slice none 0 0)).run Tryz.prog W= .ok (.bool true) W:=λW=>Lib.run_eql_slice_nil_nil W _ _ Tryz.underlying22;go_enter Tryz.func27,Tryz.ntmps27;go_wp2_with fail;go_ret;have h0:=HH.2.2.2.1 trivial;subst h0;have hl:=HH.2.1;have e0:cs= []:=List.length_eq_zero_iff.1 (by omega);subst e0;exact⟨_,rfl,World.ownsRow_nil _ _ _ _,Fr.refl _ _,none,0,rfl⟩
 |some ad=>
  have Kw:∀W,(binOp .eql 22 (.slice (some ad) n c) (.slice none 0 0)).run Tryz.prog W= .ok (.bool false) W:=λW=>Lib.run_eql_slice_some_nil W _ _ _ Tryz.underlying22;go_enter Tryz.func27,Tryz.ntmps27;obtain⟨w1,Hc⟩:=nmq (w.alloc (.cells #[] 43));have Hi:Fr NoT w w1:=by rw[Hc];exact(Fr.refl _ _).alloc _
  have J8:w1.ownsRow w.heap.size 43 2 (.slice (some ⟨w.heap.size,0,none⟩) 0 0) 0 []:=by
   rw[Hc];exact World.ownsRow_lit w #[] 0 (lrq _) (by decide) rfl
  have Fd:∀j u,cs[j]?=some u->w1.cell? (ad.add j)=some u:=λj u hj=>by
   have h:=HH.2.2.2.2 ad rfl j u hj;rw[<-h];have Hr:(ad.add j).block < w.heap.size:=zbu h;exact Hi.cell Hr id
  have Hn:=hdq Hi;have PJ:=hdq J8;have L7:=hdq Fd;have Ga:=hdq Hc;have hz:w.heap.size<=w1.heap.size:=Hi.size;have Gk:0+n<=maxLen:=by unfold maxLen;omega
  have Gu:(0+n)*24<=140737488355328:=by rw[Nat.zero_add];exact HH.1
  clear Hi J8 Fd Hc;go_wp2_with (at_builtin;rw[<-Ga.out];refine wpList_append_own _ rfl _ _ 22 rfl w.heap.size 43 i0 (.agg #[.string ⟨#[]⟩,.int .i64 0]) 2 24 Tryz.underlying22 HI.1 HI.2.1 HI.2.2.1 HI.2.2.2 rfl (by decide) (.slice (some ⟨w.heap.size,0,none⟩) 0 0) 0 [] rfl PJ.out ad n c cs rfl HH.2.1 L7.out HH.2.2.1 Gk Gu hz ?_);intro v' w' Hg hg _;have HO:=hdq Hg;have HG:=hdq hg;clear Hg hg;go_wp2_with fail;go_ret;refine⟨_,rfl,HO.out,Hn.back1 (Fr.grown HG.out λg e _=>by simp[Value.ownBlock]at e;omega) (lrq _),?_⟩;rcases HO.2 with⟨e1,e2⟩|⟨g,cap,cur,e1,_⟩
  ·exact⟨none,0,by rw[e1,e2];rfl⟩
  ·exact⟨_,cap,e1⟩
theorem zib (A:Option Addr)(n c:Nat)(cs:List Value)(w:World)(hn:n<=9223372036854775807)(hb:n*32<=140737488355328)(hl:cs.length=n*3)(h1:One1 cs)(hA:A=none->n=0)(hc:∀ad,A=some ad->∀j u,cs[j]?=some u->w.cell? (ad.add j)=some u):
  Calls Tryz.prog 30 #[.slice A n c] w (zhk w.heap.size 66 3 n cs w):=by
 obtain⟨i0,hi,Fe,Gh,Gn⟩:=info_parts zi0;have HI:=hdq (aiq hi (aiq Fe (aiq Gh Gn)));have HH:=hdq (aiq hb (aiq hl (aiq h1 (aiq hA hc))));clear hb hl h1 hA hc hi Fe Gh Gn;cases A with
 |none=>
  have Kw:∀W,(binOp .eql 23 (.slice none n c) (.slice none 0 0)).run Tryz.prog W= .ok (.bool true) W:=λW=>Lib.run_eql_slice_nil_nil W _ _ Tryz.underlying23;go_enter Tryz.func30,Tryz.ntmps30;go_wp2_with fail;go_ret;have h0:=HH.2.2.2.1 trivial;subst h0;have hl:=HH.2.1;have e0:cs= []:=List.length_eq_zero_iff.1 (by omega);subst e0;exact⟨_,rfl,World.ownsRow_nil _ _ _ _,Fr.refl _ _,none,0,rfl⟩
 |some ad=>
  have Kw:∀W,(binOp .eql 23 (.slice (some ad) n c) (.slice none 0 0)).run Tryz.prog W= .ok (.bool false) W:=λW=>Lib.run_eql_slice_some_nil W _ _ _ Tryz.underlying23;go_enter Tryz.func30,Tryz.ntmps30;obtain⟨w1,Hc⟩:=nmq (w.alloc (.cells #[] 66));have Hi:Fr NoT w w1:=by rw[Hc];exact(Fr.refl _ _).alloc _
  have J8:w1.ownsRow w.heap.size 66 3 (.slice (some ⟨w.heap.size,0,none⟩) 0 0) 0 []:=by
   rw[Hc];exact World.ownsRow_lit w #[] 0 (lrq _) (by decide) rfl
  have Fd:∀j u,cs[j]?=some u->w1.cell? (ad.add j)=some u:=λj u hj=>by
   have h:=HH.2.2.2.2 ad rfl j u hj;rw[<-h];have Hr:(ad.add j).block < w.heap.size:=zbu h;exact Hi.cell Hr id
  have Hn:=hdq Hi;have PJ:=hdq J8;have L7:=hdq Fd;have Ga:=hdq Hc;have hz:w.heap.size<=w1.heap.size:=Hi.size;have Gk:0+n<=maxLen:=by unfold maxLen;omega
  have Gu:(0+n)*32<=140737488355328:=by rw[Nat.zero_add];exact HH.1
  clear Hi J8 Fd Hc;go_wp2_with (at_builtin;rw[<-Ga.out];refine wpList_append_own _ rfl _ _ 23 rfl w.heap.size 66 i0 (.agg #[.string ⟨#[]⟩,.int .i64 0,.int .i64 0]) 3 32 Tryz.underlying23 HI.1 HI.2.1 HI.2.2.1 HI.2.2.2 rfl (by decide) (.slice (some ⟨w.heap.size,0,none⟩) 0 0) 0 [] rfl PJ.out ad n c cs rfl HH.2.1 L7.out HH.2.2.1 Gk Gu hz ?_);intro v' w' Hg hg _;have HO:=hdq Hg;have HG:=hdq hg;clear Hg hg;go_wp2_with fail;go_ret;refine⟨_,rfl,HO.out,Hn.back1 (Fr.grown HG.out λg e _=>by simp[Value.ownBlock]at e;omega) (lrq _),?_⟩;rcases HO.2 with⟨e1,e2⟩|⟨g,cap,cur,e1,_⟩
  ·exact⟨none,0,by rw[e1,e2];rfl⟩
  ·exact⟨_,cap,e1⟩
open Go.RowKit Go.Maps
def MpV (w:World)(b n:Nat)(f:List UInt8->Option Value):Prop:=
 ∃D,w.ownsMap Tryz.prog 9 zfK b n D/\∀t:List UInt8,Maps.has D (.string t)=(f t).isSome /\(∀v,f t=some v->∀z,D.atKey (.string t) z= .held v)/\(f t=none->∀z,D.atKey (.string t) z=z)
theorem MpV.made (w:World):MpV (w.alloc (.map #[] 0)) w.heap.size 0 λ_=>none:=⟨_,World.ownsMap_made _ _ _ _,λt=>⟨rfl,λv h=>by simp at h,λ_ z=>rfl⟩⟩
theorem zll {s:ByteArray}(h:s.size<=9223372036854775807):keyOf Tryz.prog 9 (.string s)=some (.string s.data.toList):=
 WideMaps.keyOf_string_mk (P:=Tryz.prog) Tryz.underlying9 (s:=s) (by unfold maxLen;omega)
theorem MpV.lt {w:World}{b n:Nat}{f:List UInt8->Option Value}(h:MpV w b n f):b < w.heap.size:=by
 obtain⟨D,Hg,_⟩:=h;exact Hg.lt
theorem MpV.kept {w w':World}{b n:Nat}{f:List UInt8->Option Value}(h:MpV w b n f){row:Option Nat}(hg:w.grownBy w' row)(GU:some b≠row):MpV w' b n f:=by
 obtain⟨D,Hg,hD⟩:=h;exact⟨D,Hg.kept hg GU,hD⟩
theorem MpV.fr {w w':World}{b n:Nat}{f:List UInt8->Option Value}(h:MpV w b n f){T:Nat->Prop}(hf:Fr T w w')(ht:¬T b):MpV w' b n f:=by
 obtain⟨D,Hg,hD⟩:=h;have hl:=Hg.lt;obtain⟨es,clock,hb,F,hs,e⟩:=Hg;exact⟨D,⟨es,clock,(hf.block b hl ht).trans hb,F,hs,e⟩,hD⟩
theorem MpV.put {w:World}{b n:Nat}{f:List UInt8->Option Value}(h:MpV w b n f){mt e:TypeId}(YM:Tryz.prog.underlying mt=some (.map 9 e)){s:ByteArray}(hs:s.size<=9223372036854775807)(v:Value)(hn:n < maxLen):
  ∃w',(Instr.mapUpdate mt (.map (some b)) (.string s) v).run Tryz.prog w= .ok () w'/\MpV w' b (n+1) (λy=>if y=s.data.toList then some v else f y)/\w.grownBy w' (some b):=by
 obtain⟨D,Hg,hD⟩:=h;obtain⟨w',JI,NB,hg⟩:=Hg.update strKey YM hn (zll hs) (val:=v) (d:= .held v) (ps:= []) rfl;refine⟨w',JI,⟨_,NB,λx=>?_⟩,hg⟩;have kx:WideAt.IsKeyLit (.string s.data.toList):=strKey.key (zll hs);by_cases e:x=s.data.toList
 ·subst e;simp only[if_true];refine⟨by rw[has_put_same Hg.isMap kx];rfl,λu hu z=>?_,λhu=>by simp at hu⟩;rw[atKey_put_same Hg.isMap kx];simp at hu;rw[hu]
 ·have e2:(Lit.string x)≠ .string s.data.toList:=λh=>e (by simpa using h);simp only[if_neg e];refine⟨by rw[has_put_other e2,(hD x).1],λu hu z=>?_,λhu z=>?_⟩
  ·rw[atKey_put_other e2];exact(hD x).2.1 u hu z
  ·rw[atKey_put_other e2];exact(hD x).2.2 hu z
theorem MpV.look {w:World}{b n:Nat}{f:List UInt8->Option Value}(h:MpV w b n f){mt e:TypeId}(YM:Tryz.prog.underlying mt=some (.map 9 e)){s:ByteArray}(hs:s.size<=9223372036854775807){z:Value}(hz:(zeroValue e).run Tryz.prog w= .ok z w):
  (Instr.lookup mt (.map (some b)) (.string s) true).run Tryz.prog w= .ok (.tuple #[(f s.data.toList).getD z,.bool (f s.data.toList).isSome]) w:=by
 obtain⟨D,Hg,hD⟩:=h;obtain⟨v,ps,JI,hv⟩:=Hg.look_ok strKey YM hz (zd:= .held _) (zp:= []) rfl (zll hs);rw[(hD s.data.toList).1]at JI;rw[JI];cases hl:f s.data.toList with
 |none=>
  rw[(hD s.data.toList).2.2 hl]at hv;simp only[zfK,Option.some.injEq,Prod.mk.injEq,DataW.held.injEq]at hv;rw[hv.1];rfl
 |some u=>
  rw[(hD s.data.toList).2.1 u hl]at hv;simp only[zfK,Option.some.injEq,Prod.mk.injEq,DataW.held.injEq]at hv;rw[hv.1];rfl
theorem MpV.get {w:World}{b n:Nat}{f:List UInt8->Option Value}(h:MpV w b n f){mt e:TypeId}(YM:Tryz.prog.underlying mt=some (.map 9 e)){s:ByteArray}(hs:s.size<=9223372036854775807){z:Value}(hz:(zeroValue e).run Tryz.prog w= .ok z w):
  (Instr.lookup mt (.map (some b)) (.string s) false).run Tryz.prog w= .ok ((f s.data.toList).getD z) w:=by
 obtain⟨D,Hg,hD⟩:=h;obtain⟨v,ps,JI,hv⟩:=Hg.lookup strKey YM hz (zd:= .held _) (zp:= []) rfl (zll hs);rw[JI];cases hl:f s.data.toList with
 |none=>
  rw[(hD s.data.toList).2.2 hl]at hv;simp only[zfK,Option.some.injEq,Prod.mk.injEq,DataW.held.injEq]at hv;rw[hv.1];rfl
 |some u=>
  rw[(hD s.data.toList).2.1 u hl]at hv;simp only[zfK,Option.some.injEq,Prod.mk.injEq,DataW.held.injEq]at hv;rw[hv.1];rfl
open Go.RowKit Go.Shelf Go.Maps
def NmM (w:World)(b c:Nat)(n:Nms):Prop:=MpV w b c λt=>(n t).map .string
theorem zmH (w:World):(zeroValue 9).run Tryz.prog w= .ok (.string ⟨#[]⟩) w:=by kernel_rfl
theorem NmM.look {w:World}{b c:Nat}{n:Nms}(h:NmM w b c n){s:ByteArray}(hs:s.size<=9223372036854775807):
  (Instr.lookup 79 (.map (some b)) (.string s) true).run Tryz.prog w= .ok (.tuple #[.string ((n s.data.toList).getD ⟨#[]⟩),.bool (n s.data.toList).isSome]) w:=by
 rw[MpV.look h Tryz.underlying79 hs (zmH w)];cases n s.data.toList<;>rfl
theorem NmM.fr {w w':World}{b c:Nat}{n:Nms}(h:NmM w b c n){T:Nat->Prop}(hf:Fr T w w')(ht:¬T b):NmM w' b c n:=MpV.fr h hf ht
def StrP (s:ByteArray)(w:World)(e:Ending)(w':World):Prop:=e= .returned (.string s)/\Fr NoT w w'
theorem zjI (b c:Nat)(n:Nms)(s:ByteArray)(w:World)(h:NmM w b c n)(hs:s.size<=9223372036854775807):Calls Tryz.prog 84 #[.map (some b),.string s] w (StrP (ofN n s) w):=by
 have LR:=h.look hs;unfold ofN;cases hn:n s.data.toList with
 |none=>
  rw[hn]at LR;simp only[Option.getD_none,Option.isSome_none]at LR;clear h hn;go_enter Tryz.func84,Tryz.ntmps84;go_wp2_with fail;go_ret;exact⟨rfl,Fr.refl _ _⟩
 |some u=>
  rw[hn]at LR;simp only[Option.getD_some,Option.isSome_some]at LR;clear h hn;go_enter Tryz.func84,Tryz.ntmps84;go_wp2_with fail;go_ret;exact⟨rfl,Fr.refl _ _⟩
def AnX (xs:Exs):Prop:=∀(w:World)(S:Nat->Prop)(A:Option Addr)(c:Nat)(n:Nms)(b k:Nat),NmM w b k n->(∀b,S b->b < w.heap.size)->szX xs->SlR (λb o=>ExR w S False xs b o) xs.len 64 A c->
 Calls Tryz.prog 85 #[.slice A xs.len c,.func (.func 86) #[.map (some b)] #[]] w λe w'=>
  ∃A' c',e= .returned (.slice A' xs.len c')/\SlR (λb o=>ExR w' (New w.heap.size w') True (zar n xs) b o) xs.len 64 A' c'/\Fr NoT w w'
def zlm (cur cur':Array Value)(o:Nat)(a1 a3:Value):Prop:=cur'.size=cur.size/\cur'[o+1]?=some a1/\cur'[o+3]?=some a3/\∀j,j≠o+1->j≠o+3->cur'[j]?=cur[j]?
def AnX1 (args:Exs):Prop:=∀(w:World)(S:Nat->Prop)(A:Option Addr)(c:Nat)(n:Nms)(b q g o:Nat)(T:TypeId)(cur:Array Value)(k:Int)(nm:ByteArray),NmM w b q n->b≠g->(∀b,S b->b < w.heap.size/\b≠g)->nm.size<=9223372036854775807->szX args->
 Bk w g T cur->cur[o]?=some (.int .u8 k)->cur[o+1]?=some (.string nm)->cur[o+3]?=some (.slice A args.len c)->SlR (λb o=>ExR w S False args b o) args.len 64 A c->
 Calls Tryz.prog 86 #[.map (some b),.pointer (some ⟨g,o,none⟩)] w λe w'=>e= .returned (.tuple #[])/\
  ∃A' c' cur',Bk w' g T cur'/\zlm cur cur' o (.string (if k=2 then ofN n nm else nm)) (.slice A' args.len c')/\SlR (λb o=>ExR w' (New w.heap.size w') True (zar n args) b o) args.len 64 A' c'/\Fr (λb=>b=g) w w'
theorem znk {cur:Array Value}{o:Nat}{x1 x3:Value}(h1:o+1 < cur.size)(h3:o+3 < cur.size):zlm cur ((cur.setIfInBounds (o+1) x1).setIfInBounds (o+3) x3) o x1 x3:=by
 refine⟨by simp,?_,?_,λj j1 j3=>?_⟩
 ·rw[Array.getElem?_setIfInBounds_ne (by omega),Array.getElem?_setIfInBounds_self_of_lt h1]
 ·rw[Array.getElem?_setIfInBounds_self_of_lt (by simpa using h3)]
 ·rw[Array.getElem?_setIfInBounds_ne (by omega),Array.getElem?_setIfInBounds_ne (by omega)]
theorem znl {cur:Array Value}{o:Nat}{x1 x3:Value}(h1:cur[o+1]?=some x1)(h3:o+3 < cur.size):zlm cur (cur.setIfInBounds (o+3) x3) o x1 x3:=by
 refine⟨by simp,?_,?_,λj j1 j3=>?_⟩
 ·rw[Array.getElem?_setIfInBounds_ne (by omega),h1]
 ·rw[Array.getElem?_setIfInBounds_self_of_lt h3]
 ·rw[Array.getElem?_setIfInBounds_ne (by omega)]
theorem zhl {w:World}{L L' g i m:Nat}{u:Value}{xs:Exs}{A:Option Addr}{c:Nat}(hg:g < L)(hL:L'<=L)(h:SlR (λb o=>ExR w (New L w) True xs b o) m 64 A c):
  SlR (λb o=>ExR (w.setCell ⟨g,i,none⟩ u) (New L' (w.setCell ⟨g,i,none⟩ u)) True xs b o) m 64 A c:=
 h.imp λ_ _ h=>ExR.more (λb hb=>⟨leq9 hL hb.1,by simpa using hb.2⟩) (ExR.keep ((Fr.own (Fr.refl _ w) i u).same λb hb=>⟨hb.2,λe=>by have e:b=g:=e;have:=hb.1;omega⟩) h)
theorem anx1 (args:Exs)(Ha:AnX args):AnX1 args:=by
 intro w S A c n b q g o T cur k nm hn Uu hS Ht UR FP e0 e1 e3 hx;have hl:args.len<=9223372036854775807:=leq9 hx.1 hx.2.1.1;have c0:=(FP.cell o).trans e0;have c1:=(FP.cell (o+1)).trans e1;have c3:=(FP.cell (o+3)).trans e3;have f1:=FP.frozen (o+1);have f3:=FP.frozen (o+3);have Nr:=FP.lt;have YN:=hdq (zjI b q n nm w hn Ht);have HN:=hdq hn;have Ra:=hdq FP;have HC:=hdq (λ(W:World)(hf:Fr (λb=>b=g) w W)=>Ha W S A c n b q (hn.fr hf Uu) (λb hb=>ltq (hS b hb).1 hf.size) UR (hx.imp λ_ _ h=>ExR.keep (hf.same λb hb=>hS b hb) h));have HB:=hdq (aiq (Array.getElem?_eq_some_iff.1 e1).1 (aiq (Array.getElem?_eq_some_iff.1 e3).1 (aiq e1 e3)));have HX:=hdq (aiq Uu hS);obtain⟨m,hm⟩:=nmq args.len;rw[<-hm]at hl c3 HC ⊢;have HM:=hdq hm;clear Ha hn hS Ht UR hx FP e0 e1 e3 hm Uu;obtain⟨nm',Fi⟩:=nmq ((if k=2 then ofN n nm else nm));rw[<-Fi];by_cases hk:k=2
 ·rw[if_pos hk]at Fi;rw[<-Fi]at YN;subst hk;clear Fi;go_enter Tryz.func86,Tryz.ntmps86;go_wp2_with fail;refine YN.mono ?_;rintro _ w1 ⟨rfl,Hi⟩;have k1:=Ra.fr0 Hi;have g1:=k1.cell (o+1);have g3:=(k1.cell (o+3)).trans ((Ra.cell (o+3)).symm.trans c3);have v1:=k1.frozen (o+1);have v3:=k1.frozen (o+3);have gl:=k1.lt;rw[HB.2.2.1]at g1;have He:=k1.set_ (o+1) (.string nm');have FX:=hdq He;have Hy:=hdq ((Hi.any:Fr (λb=>b=g) w w1).trans (Fr.own (Fr.refl _ _) (o+1) (.string nm')));obtain⟨w2,FU⟩:=nmq (w1.setCell ⟨g,o+1,none⟩ (.string nm'));have LJ:=hdq FU;have FZ:=hdq (HC _ (FU▸Hy.out));clear c0 c1 c3 f1 f3 Nr k1 He Hi FU;go_wp2_with fail;rw[<-LJ.out];refine FZ.mono ?_;rintro _ w3 ⟨A',c',rfl,Fh,GQ⟩;have k3:=(LJ.out▸FX.out:Bk w2 g T _).fr0 GQ;have h3:=k3.frozen (o+3);have Gz:=k3.lt;have q3:=k3.cell (o+3);rw[Array.getElem?_setIfInBounds_ne (by omega),HB.2.2.2]at q3;have F5:=hdq k3;have J7:=hdq Fh;have Gc:=hdq GQ;have HZ:=hdq (aiq (LJ.out▸Hy.size:w.heap.size<=w2.heap.size) (LJ.out▸FX.lt:g < w2.heap.size));clear k3 Fh GQ g1 g3 v1 v3 gl;go_wp2_with fail;go_end0;exact⟨rfl,A',c',_,F5.set_ (o+3) (.slice A' m c'),znk (x1:= .string nm') (x3:= .slice A' m c') HB.1 HB.2.1,zhl HZ.2 HZ.1 J7.out,((LJ.out▸Hy.out:Fr (λb=>b=g) w w2).trans Gc.any).own _ _⟩
 ·rw[if_neg hk]at Fi;have Dh:¬k=2:=hk;have FZ:=hdq (HC w (Fr.refl _ _));go_enter Tryz.func86,Tryz.ntmps86;go_wp2_with fail;refine FZ.mono ?_;rintro _ w3 ⟨A',c',rfl,Fh,GQ⟩;have k3:=Ra.fr0 GQ;have h3:=k3.frozen (o+3);have Gz:=k3.lt;have q3:=k3.cell (o+3);rw[HB.2.2.2]at q3;have F5:=hdq k3;have J7:=hdq Fh;have Gc:=hdq GQ;clear k3 Fh GQ c0 c1 c3 f1 f3;go_wp2_with fail;go_end0;exact⟨rfl,A',c',_,F5.set_ (o+3) (.slice A' m c'),znl (by rw[Fi];exact HB.2.2.1) HB.2.1,zhl Nr (lrq _) J7.out,(Gc.any:Fr (λb=>b=g) w w3).own _ _⟩
theorem zjJ:∀(i:Nat) {xs:Exs} {a0 a1 a2 a3 a4 ar},szX xs->Exs.drop i xs= .cons a0 a1 a2 a3 a4 ar->a1.size<=9223372036854775807/\szX a3
 |0,.cons _ _ _ _ _ _,_,_,_,_,_,_,h,hd=>by
  simp only[Exs.drop]at hd;cases hd;exact⟨h.1,h.2.1⟩
 |0,.nil,_,_,_,_,_,_,_,hd=>by simp[Exs.drop]at hd
 |i+1,.nil,_,_,_,_,_,_,_,hd=>by simp[Exs.drop]at hd
 |i+1,.cons _ _ _ _ _ _,_,_,_,_,_,_,h,hd=>by
  simp only[Exs.drop]at hd;exact zjJ i h.2.2 hd
structure AnSt (w:World)(S:Nat->Prop)(n:Nms)(xs:Exs)(g:Nat)(wr:World)(cur:Array Value)(acc:List Ex)(cs1 cs2:List Value)(k:Nat):Prop where
 bk:Bk wr g 41 cur
 fr:Fr NoT w wr
 c1:∀(j:Nat)(u:Value),cs1[j]?=some u->cur[j]?=some u
 l1:cs1.length=k*5
 c2:∀(j:Nat)(u:Value),cs2[j]?=some u->cur[k*5+j]?=some u
 r1:RowR oneX wr (λb=>w.heap.size<=b/\b < wr.heap.size/\b≠g) acc cs1
 r2:RowR (zhQ False) w S (Exs.drop k xs).toL cs2
 eq:zeb acc (zar n (Exs.drop k xs))=zar n xs
 len:acc.length=k
theorem AnSt.step {w:World}{S:Nat->Prop}{n:Nms}{xs:Exs}{g:Nat}{wr:World}{cur:Array Value}{acc:List Ex}{cs1 cs2':List Value}{k:Nat}{a0:Int}{a1:ByteArray}{a2:Int}{a3:Exs}{a4:Int}{ar:Exs}{A3:Option Addr}{q3:Nat}
  (h:AnSt w S n xs g wr cur acc cs1 ([.int .u8 a0,.string a1,.int .i64 a2,.slice A3 a3.len q3,.int .i64 a4]++cs2') k) (hd:Exs.drop k xs= .cons a0 a1 a2 a3 a4 ar) (hr:RowR (zhQ False) w S ar.toL cs2') (h0:in8 a0) (h2:in64 a2) (h4:in64 a4) (Wt:w.heap.size<=g)
  {w2:World} {cur':Array Value} {A':Option Addr} {c':Nat} (FP:Bk w2 g 41 cur') (Ge:zlm cur cur' (k*5) (.string (if a0=2 then ofN n a1 else a1)) (.slice A' a3.len c')) (Fh:SlR (λb o=>ExR w2 (New wr.heap.size w2) True (zar n a3) b o) a3.len 64 A' c') (hf:Fr (λb=>b=g) wr w2):
  AnSt w S n xs g w2 cur' (acc++ [⟨a0,if a0=2 then ofN n a1 else a1,a2,zar n a3,a4⟩]) (cs1++ [.int .u8 a0,.string (if a0=2 then ofN n a1 else a1),.int .i64 a2,.slice A' a3.len c',.int .i64 a4]) cs2' (k+1):=by
 have hg:=h.bk.lt;have hz:=h.fr.size;have Gn:=hf.size;obtain⟨hs,e1,e3,ej⟩:=Ge;have at_:∀i u, [.int .u8 a0,.string a1,.int .i64 a2,.slice A3 a3.len q3,.int .i64 a4][i]?=some u->cur[k*5+i]?=some u:=λi u hi=>h.c2 i u (by
  rw[List.getElem?_append_left (by have:=(List.getElem?_eq_some_iff.1 hi).1;simpa using this)];exact hi)
 refine⟨FP,Fr.back1 h.fr (hf.mono λb _ (e:b=g)=>(by omega:w.heap.size<=b)) (lrq _),λj u hj=>?_,by simp[h.l1];omega,λj u hj=>?_,?_,?_,?_,by simp[h.len]⟩
 ·by_cases Hr:j < cs1.length
  ·rw[List.getElem?_append_left Hr]at hj;have Hv:=h.l1;rw[ej j (by omega) (by omega)];exact h.c1 j u hj
  ·rw[List.getElem?_append_right (by omega),h.l1]at hj;have Hv:=h.l1;obtain⟨i,rfl⟩:∃i,j=k*5+i:=⟨j - k*5,by omega⟩;rw[show k*5+i - k*5=i from by omega]at hj
   match i,hj with
   |0,hj=>rw[ej _ (by omega) (by omega)];exact at_ 0 u hj
   |1,hj=>rw[e1];exact hj
   |2,hj=>rw[ej _ (by omega) (by omega)];exact at_ 2 u hj
   |3,hj=>rw[e3];exact hj
   |4,hj=>rw[ej _ (by omega) (by omega)];exact at_ 4 u hj
   |i+5,hj=>simp at hj
 ·rw[show(k+1)*5+j=k*5+(5+j)from by omega,ej _ (by omega) (by omega)];refine h.c2 (5+j) u ?_;rw[List.getElem?_append_right (by simp)];simpa using hj
 ·refine RowR.snoc ⟨A',c',?_,h0,h2,h4,?_⟩ (RowR.imp za4 (hf.same λb hb=>⟨hb.2.1,hb.2.2⟩) (λb hb=>⟨hb.1,by have:=hb.2.1;omega,hb.2.2⟩) h.r1)
  ·rw[zaC]
  ·rw[zaC];exact Fh.imp λ_ _ hx=>ExR.more (λb hb=>⟨by have:=hb.1;omega,hb.2,by have:=hb.1;omega⟩) hx
 ·rw[Exs.drop_succ k xs hd];exact hr
 ·rw[zbA,Exs.drop_succ k xs hd,<-h.eq,hd];rfl
theorem zl8 (xs:Exs)(Ha:∀(i:Nat)(a0:Int)(a1:ByteArray)(a2:Int)(a3:Exs)(a4:Int)(ar:Exs),Exs.drop i xs= .cons a0 a1 a2 a3 a4 ar->AnX a3):AnX xs:=by
 intro w S A c n b q hn hS Ht hx;have hl:xs.len<=9223372036854775807:=leq9 hx.1 hx.2.1.1;obtain⟨cs,Ki,GA,Ge,Kw,F6⟩:=slX hx;have Ke:=hdq (zh8 A xs.len c cs w hl hx.2.1.2 Ki Ge Kw F6);have HA:=hdq Ha;have HX:=hdq hx;have HS:=hdq hS;have HN:=hdq (aiq hn Ht);have Kx:=hdq (aiq Ki GA);obtain⟨m,hm⟩:=nmq xs.len;rw[<-hm]at hl Ke ⊢;have HM:=hdq hm;clear Ha hx hS hm hn Ht Ki GA Ge Kw F6;go_enter Tryz.func85,Tryz.ntmps85;go_wp2_with fail;refine Ke.mono ?_;rintro _ w1 ⟨v,rfl,Hg,Hi,A1,c1,rfl⟩;by_cases h0:m=0
 ·subst h0;have Hn:=hdq Hi;have K1:=hdq (zi1 Hg);clear Hg Hi;go_wp2_with fail;go_loopw [10] (λi wr=>wr=w1/\i= .int .i64 0) (λ_ _=>0);case atStart=>exact⟨rfl,rfl⟩
  case round=>
   obtain⟨rfl,rfl⟩:=hrel;go_wp2_with fail;go_ret;exact⟨A1,c1,rfl,⟨Nat.zero_le _,⟨K1.out,by decide⟩,λh=>absurd h (Nat.lt_irrefl 0)⟩,Hn.out⟩
 ·obtain⟨g,cap,pad,e,Wt,Nr,Qp,Js,FP⟩:=zfJ Hg (Nat.pos_of_ne_zero h0);obtain⟨rfl,rfl⟩:A1=some ⟨g,0,none⟩/\c1=cap:=by
   injection e with e1 e2 e3;exact⟨e1,e3⟩
  have Hj:=hdq (show AnSt w S n xs g w1 (cs++pad).toArray [] [] cs 0 from⟨FP,Hi,by simp,rfl,λj u hj=>by
   have:=(List.getElem?_eq_some_iff.1 hj).1;rw[Nat.zero_mul,Nat.zero_add,List.getElem?_toArray,List.getElem?_append_left this];exact hj,rfl,Kx.2,rfl,rfl⟩)
  have HG:=hdq (aiq Wt (aiq Qp Js));clear Hg Hi FP e Nr Js Wt Qp;go_wp2_with fail;go_loopw [10] (λi wr=>∃k:Nat,k<=m/\i= .int .i64 k/\∃(cur:Array Value)(acc:List Ex)(d1 d2:List Value),Hid (AnSt w S n xs g wr cur acc d1 d2 k)) (λi _=>m - (intOf i).toNat);case atStart=>exact⟨0,Nat.zero_le _,rfl,_,_,_,_,Hj⟩
  case round=>
   clear Hj;obtain⟨k,hk,rfl,cur,acc,d1,d2,hb⟩:=hrel;by_cases Hr:k < m
   ·obtain⟨a0,a1,a2,a3,a4,ar,hd⟩:=Exs.drop_cons (show k < xs.len from by rw[<-HM.out];exact Hr);have JV:=hb.r2;rw[hd]at JV;obtain⟨ys,cs',rfl,⟨A3,q3,rfl,r0,r1,r2,s3⟩,hr⟩:=JV;have Hl:(k:Int) < (m:Int):=by omega
    have Fb:(0:Int)<=(k:Int):=by omega
    have ki:w.heap.size<=g:=HG.1;have hq:=HN.1.lt;have Ht:=zjJ k HN.2 hd;have HC:=hdq (anx1 a3 (HA k a0 a1 a2 a3 a4 ar hd) wr S A3 q3 n b q g (k*5) 41 cur a0 a1 (HN.1.fr hb.fr id) (by omega) (λb Je=>⟨ltq (HS b Je) hb.fr.size,by have:=HS b Je;omega⟩) Ht.1 Ht.2 hb.bk (hb.c2 0 _ rfl) (hb.c2 1 _ rfl) (hb.c2 3 _ rfl) (s3.imp λ_ _ h=>ExR.keep (hb.fr.same λb Je=>⟨HS b Je,id⟩) h));have HD:=hdq (aiq hd (aiq hr (aiq r0 (aiq r1 r2))));have MQ:=hb.bk.lt;clear hd hr r0 r1 r2 s3 Ht hq;go_wp2_with fail;refine HC.mono ?_;rintro _ w2 ⟨rfl,A',c',cur',FP,Ge,Fh,Gd⟩;have F8:=hdq (hb.step HD.1 HD.2.1 HD.2.2.1 HD.2.2.2.1 HD.2.2.2.2 ki FP Ge Fh Gd);clear FP Ge Fh Gd hb MQ;go_wp2_with fail;go_roundw;case rel=>exact⟨k+1,by omega,by go_num,_,_,_,_,F8⟩
    case measure=>simp[intOf];omega
   ·have Hl:¬(k:Int) < (m:Int):=by omega
    have JK:k=m:=by omega
    have heq:zar n xs=zd9 acc:=by
     rw[<-zbB,<-hb.eq,Exs.drop_nil (by rw[<-HM.out];omega)];rfl
    have Fh:SlR (λb o=>ExR wr (New w.heap.size wr) True (zar n xs) b o) m 64 (some ⟨g,0,none⟩) c1:=by
     refine⟨HG.2.1,⟨by have:=HG.2.2;unfold maxLen at this;omega,by have:=HX.2.1.2;rw[<-HM.out]at this;exact this⟩,λ_=>⟨g,0,rfl,?_⟩⟩;show ExR wr (New w.heap.size wr) True (zar n xs) g 0
     rw[heq];refine rowX ⟨⟨HG.1,hb.bk.lt⟩,Thaw.of hb.bk⟩ (RowR.imp za4 (SameS.refl _ _) (λb hb=>⟨hb.1,hb.2.1⟩) hb.r1) λj u hj=>?_;rw[Nat.zero_add];exact(hb.bk.cell j).trans (hb.c1 j u hj)
    have J7:=hdq Fh;have HF:=hdq hb.fr;clear heq Fh hb;go_wp2_with fail;go_ret;exact⟨_,_,rfl,J7.out,HF.out⟩
theorem zgL:∀(xs:Exs)(i:Nat)(a0:Int)(a1:ByteArray)(a2:Int)(a3:Exs)(a4:Int)(ar:Exs),Exs.drop i xs= .cons a0 a1 a2 a3 a4 ar->AnX a3
 | .nil,i,_,_,_,_,_,_,h=>by cases i<;>simp[Exs.drop]at h
 | .cons k nm n args at_ rest,0,a0,a1,a2,a3,a4,ar,h=>by
  simp only[Exs.drop,Exs.cons.injEq]at h;obtain⟨_,_,_,rfl,_,_⟩:=h;exact zl8 _ (zgL _)
 | .cons k nm n args at_ rest,i+1,a0,a1,a2,a3,a4,ar,h=>by
  simp only[Exs.drop]at h;exact zgL rest i a0 a1 a2 a3 a4 ar h
theorem zfd (xs:Exs):AnX xs:=zl8 xs (zgL xs)
