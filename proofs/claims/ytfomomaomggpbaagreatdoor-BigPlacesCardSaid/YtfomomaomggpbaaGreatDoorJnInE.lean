/- slices. -/
import Derived.Test.YtfomomaomggpbaaGreatDoorJnRw
import Derived.Test.YtfomomaomggpbaaGreatDoorJgCl
set_option linter.all false
set_option maxHeartbeats 1600000
set_option maxRecDepth 100000
namespace Go.Proofs.YtfomomaomggpbaaGreatDoor
open Go.RowKit Go.Shelf
def zfv (L:Nat)(T:TypeId)(size n:Nat)(cs:List Value)(w:World)(e:Ending)(w':World):Prop:=∃v,e= .returned v/\w'.ownsRow L T size v n cs/\Fr NoT w w'/\∃A c,v= .slice A n c
theorem zjy (A:Option Addr)(n c:Nat)(cs:List Value)(w:World)(hn:n<=9223372036854775807)(hb:n*64<=140737488355328)(hl:cs.length=n*5)(h1:One1 cs)(hA:A=none->n=0)(hc:∀ad,A=some ad->∀j u,cs[j]?=some u->w.cell? (ad.add j)=some u):
  Calls Tryz.prog 138 #[.slice A n c] w (zfv w.heap.size 175 5 n cs w):=by
 obtain⟨i0,hi,Fg,Hw,G5⟩:=info_parts zkm;have HI:=aA (aG hi (aG Fg (aG Hw G5)));have HH:=aA (aG hb (aG hl (aG h1 (aG hA hc))));clear hb hl h1 hA hc hi Fg Hw G5;cases A with
 |none=>
  have GB:∀W,(binOp .eql 48 (.slice none n c) (.slice none 0 0)).run Tryz.prog W= .ok (.bool true) W:=λW=>Lib.run_eql_slice_nil_nil W _ _ Tryz.underlying48;go_enter Tryz.func138,Tryz.ntmps138;go_wp2_with fail;go_ret;have h0:=HH.2.2.2.1 trivial;subst h0;have hl:=HH.2.1;have e0:cs= []:=List.length_eq_zero_iff.1 (by omega);subst e0;exact⟨_,rfl,World.ownsRow_nil _ _ _ _,aH,none,0,rfl⟩
 |some ad=>
  have GB:∀W,(binOp .eql 48 (.slice (some ad) n c) (.slice none 0 0)).run Tryz.prog W= .ok (.bool false) W:=λW=>Lib.run_eql_slice_some_nil W _ _ _ Tryz.underlying48;go_enter Tryz.func138,Tryz.ntmps138;obtain⟨w1,Hc⟩:=aF (w.alloc (.cells #[] 175));have Hd:Fr NoT w w1:=by rw[Hc];exact aH.alloc _
  have FK:w1.ownsRow w.heap.size 175 5 (.slice (some ⟨w.heap.size,0,none⟩) 0 0) 0 []:=by
   rw[Hc];exact World.ownsRow_lit w #[] 0 (aL _) (by decide) rfl
  have Gx:∀j u,cs[j]?=some u->w1.cell? (ad.add j)=some u:=λj u hj=>by
   have h:=HH.2.2.2.2 ad rfl j u hj;rw[<-h];have Hk:(ad.add j).block < w.heap.size:=zcj h;exact Hd.cell Hk id
  have Hl:=aA Hd;have KH:=aA FK;have JQ:=aA Gx;have Ge:=aA Hc;have hz:w.heap.size<=w1.heap.size:=Hd.size;have FW:0+n<=maxLen:=by unfold maxLen;omega
  have JT:(0+n)*64<=140737488355328:=by rw[Nat.zero_add];exact HH.1
  clear Hd FK Gx Hc;go_wp2_with (at_builtin;rw[<-Ge.out];refine wpList_append_own _ rfl _ _ 48 rfl w.heap.size 175 i0 (.agg #[.int .u8 0,.string ⟨#[]⟩,.int .i64 0,.slice none 0 0,.int .i64 0]) 5 64 Tryz.underlying48 HI.1 HI.2.1 HI.2.2.1 HI.2.2.2 rfl (by decide) (.slice (some ⟨w.heap.size,0,none⟩) 0 0) 0 [] rfl KH.out ad n c cs rfl HH.2.1 JQ.out HH.2.2.1 FW JT hz ?_);intro v' w' Ha hg _;have HO:=aA Ha;have HG:=aA hg;clear Ha hg;go_wp2_with fail;go_ret;refine⟨_,rfl,HO.out,Hl.back1 (Fr.grown HG.out λg e _=>by simp[Value.ownBlock]at e;omega) (aL _),?_⟩;rcases HO.2 with⟨e1,e2⟩|⟨g,cap,cur,e1,_⟩
  ·exact⟨none,0,by rw[e1,e2];rfl⟩
  ·exact⟨_,cap,e1⟩
theorem zjz (A:Option Addr)(n c:Nat)(cs:List Value)(w:World)(hn:n<=9223372036854775807)(hb:n*64<=140737488355328)(hl:cs.length=n*4)(h1:One1 cs)(hA:A=none->n=0)(hc:∀ad,A=some ad->∀j u,cs[j]?=some u->w.cell? (ad.add j)=some u):
  Calls Tryz.prog 139 #[.slice A n c] w (zfv w.heap.size 179 4 n cs w):=by
 obtain⟨i0,hi,Fg,Hw,G5⟩:=info_parts zpP;have HI:=aA (aG hi (aG Fg (aG Hw G5)));have HH:=aA (aG hb (aG hl (aG h1 (aG hA hc))));clear hb hl h1 hA hc hi Fg Hw G5;cases A with
 |none=>
  have GB:∀W,(binOp .eql 49 (.slice none n c) (.slice none 0 0)).run Tryz.prog W= .ok (.bool true) W:=λW=>Lib.run_eql_slice_nil_nil W _ _ Tryz.underlying49;go_enter Tryz.func139,Tryz.ntmps139;go_wp2_with fail;go_ret;have h0:=HH.2.2.2.1 trivial;subst h0;have hl:=HH.2.1;have e0:cs= []:=List.length_eq_zero_iff.1 (by omega);subst e0;exact⟨_,rfl,World.ownsRow_nil _ _ _ _,aH,none,0,rfl⟩
 |some ad=>
  have GB:∀W,(binOp .eql 49 (.slice (some ad) n c) (.slice none 0 0)).run Tryz.prog W= .ok (.bool false) W:=λW=>Lib.run_eql_slice_some_nil W _ _ _ Tryz.underlying49;go_enter Tryz.func139,Tryz.ntmps139;obtain⟨w1,Hc⟩:=aF (w.alloc (.cells #[] 179));have Hd:Fr NoT w w1:=by rw[Hc];exact aH.alloc _
  have FK:w1.ownsRow w.heap.size 179 4 (.slice (some ⟨w.heap.size,0,none⟩) 0 0) 0 []:=by
   rw[Hc];exact World.ownsRow_lit w #[] 0 (aL _) (by decide) rfl
  have Gx:∀j u,cs[j]?=some u->w1.cell? (ad.add j)=some u:=λj u hj=>by
   have h:=HH.2.2.2.2 ad rfl j u hj;rw[<-h];have Hk:(ad.add j).block < w.heap.size:=zcj h;exact Hd.cell Hk id
  have Hl:=aA Hd;have KH:=aA FK;have JQ:=aA Gx;have Ge:=aA Hc;have hz:w.heap.size<=w1.heap.size:=Hd.size;have FW:0+n<=maxLen:=by unfold maxLen;omega
  have JT:(0+n)*64<=140737488355328:=by rw[Nat.zero_add];exact HH.1
  clear Hd FK Gx Hc;go_wp2_with (at_builtin;rw[<-Ge.out];refine wpList_append_own _ rfl _ _ 49 rfl w.heap.size 179 i0 (.agg #[.int .u8 0,.slice none 0 0,.slice none 0 0,.int .i64 0]) 4 64 Tryz.underlying49 HI.1 HI.2.1 HI.2.2.1 HI.2.2.2 rfl (by decide) (.slice (some ⟨w.heap.size,0,none⟩) 0 0) 0 [] rfl KH.out ad n c cs rfl HH.2.1 JQ.out HH.2.2.1 FW JT hz ?_);intro v' w' Ha hg _;have HO:=aA Ha;have HG:=aA hg;clear Ha hg;go_wp2_with fail;go_ret;refine⟨_,rfl,HO.out,Hl.back1 (Fr.grown HG.out λg e _=>by simp[Value.ownBlock]at e;omega) (aL _),?_⟩;rcases HO.2 with⟨e1,e2⟩|⟨g,cap,cur,e1,_⟩
  ·exact⟨none,0,by rw[e1,e2];rfl⟩
  ·exact⟨_,cap,e1⟩
theorem zjA (A:Option Addr)(n c:Nat)(cs:List Value)(w:World)(hn:n<=9223372036854775807)(hb:n*24<=140737488355328)(hl:cs.length=n*2)(h1:One1 cs)(hA:A=none->n=0)(hc:∀ad,A=some ad->∀j u,cs[j]?=some u->w.cell? (ad.add j)=some u):
  Calls Tryz.prog 64 #[.slice A n c] w (zfv w.heap.size 77 2 n cs w):=by
 obtain⟨i0,hi,Fg,Hw,G5⟩:=info_parts zkn;have HI:=aA (aG hi (aG Fg (aG Hw G5)));have HH:=aA (aG hb (aG hl (aG h1 (aG hA hc))));clear hb hl h1 hA hc hi Fg Hw G5;cases A with
 |none=>
  have GB:∀W,(binOp .eql 22 (.slice none n c) (.slice none 0 0)).run Tryz.prog W= .ok (.bool true) W:=λW=>Lib.run_eql_slice_nil_nil W _ _ Tryz.underlying22;go_enter Tryz.func64,Tryz.ntmps64;go_wp2_with fail;go_ret;have h0:=HH.2.2.2.1 trivial;subst h0;have hl:=HH.2.1;have e0:cs= []:=List.length_eq_zero_iff.1 (by omega);subst e0;exact⟨_,rfl,World.ownsRow_nil _ _ _ _,aH,none,0,rfl⟩
 |some ad=>
  have GB:∀W,(binOp .eql 22 (.slice (some ad) n c) (.slice none 0 0)).run Tryz.prog W= .ok (.bool false) W:=λW=>Lib.run_eql_slice_some_nil W _ _ _ Tryz.underlying22;go_enter Tryz.func64,Tryz.ntmps64;obtain⟨w1,Hc⟩:=aF (w.alloc (.cells #[] 77));have Hd:Fr NoT w w1:=by rw[Hc];exact aH.alloc _
  have FK:w1.ownsRow w.heap.size 77 2 (.slice (some ⟨w.heap.size,0,none⟩) 0 0) 0 []:=by
   rw[Hc];exact World.ownsRow_lit w #[] 0 (aL _) (by decide) rfl
  have Gx:∀j u,cs[j]?=some u->w1.cell? (ad.add j)=some u:=λj u hj=>by
   have h:=HH.2.2.2.2 ad rfl j u hj;rw[<-h];have Hk:(ad.add j).block < w.heap.size:=zcj h;exact Hd.cell Hk id
  have Hl:=aA Hd;have KH:=aA FK;have JQ:=aA Gx;have Ge:=aA Hc;have hz:w.heap.size<=w1.heap.size:=Hd.size;have FW:0+n<=maxLen:=by unfold maxLen;omega
  have JT:(0+n)*24<=140737488355328:=by rw[Nat.zero_add];exact HH.1
  clear Hd FK Gx Hc;go_wp2_with (at_builtin;rw[<-Ge.out];refine wpList_append_own _ rfl _ _ 22 rfl w.heap.size 77 i0 (.agg #[.string ⟨#[]⟩,.int .i64 0]) 2 24 Tryz.underlying22 HI.1 HI.2.1 HI.2.2.1 HI.2.2.2 rfl (by decide) (.slice (some ⟨w.heap.size,0,none⟩) 0 0) 0 [] rfl KH.out ad n c cs rfl HH.2.1 JQ.out HH.2.2.1 FW JT hz ?_);intro v' w' Ha hg _;have HO:=aA Ha;have HG:=aA hg;clear Ha hg;go_wp2_with fail;go_ret;refine⟨_,rfl,HO.out,Hl.back1 (Fr.grown HG.out λg e _=>by simp[Value.ownBlock]at e;omega) (aL _),?_⟩;rcases HO.2 with⟨e1,e2⟩|⟨g,cap,cur,e1,_⟩
  ·exact⟨none,0,by rw[e1,e2];rfl⟩
  ·exact⟨_,cap,e1⟩
theorem zjB (A:Option Addr)(n c:Nat)(cs:List Value)(w:World)(hn:n<=9223372036854775807)(hb:n*32<=140737488355328)(hl:cs.length=n*3)(h1:One1 cs)(hA:A=none->n=0)(hc:∀ad,A=some ad->∀j u,cs[j]?=some u->w.cell? (ad.add j)=some u):
  Calls Tryz.prog 65 #[.slice A n c] w (zfv w.heap.size 61 3 n cs w):=by
 obtain⟨i0,hi,Fg,Hw,G5⟩:=info_parts zko;have HI:=aA (aG hi (aG Fg (aG Hw G5)));have HH:=aA (aG hb (aG hl (aG h1 (aG hA hc))));clear hb hl h1 hA hc hi Fg Hw G5;cases A with
 |none=>
  have GB:∀W,(binOp .eql 23 (.slice none n c) (.slice none 0 0)).run Tryz.prog W= .ok (.bool true) W:=λW=>Lib.run_eql_slice_nil_nil W _ _ Tryz.underlying23;go_enter Tryz.func65,Tryz.ntmps65;go_wp2_with fail;go_ret;have h0:=HH.2.2.2.1 trivial;subst h0;have hl:=HH.2.1;have e0:cs= []:=List.length_eq_zero_iff.1 (by omega);subst e0;exact⟨_,rfl,World.ownsRow_nil _ _ _ _,aH,none,0,rfl⟩
 |some ad=>
  have GB:∀W,(binOp .eql 23 (.slice (some ad) n c) (.slice none 0 0)).run Tryz.prog W= .ok (.bool false) W:=λW=>Lib.run_eql_slice_some_nil W _ _ _ Tryz.underlying23;go_enter Tryz.func65,Tryz.ntmps65;obtain⟨w1,Hc⟩:=aF (w.alloc (.cells #[] 61));have Hd:Fr NoT w w1:=by rw[Hc];exact aH.alloc _
  have FK:w1.ownsRow w.heap.size 61 3 (.slice (some ⟨w.heap.size,0,none⟩) 0 0) 0 []:=by
   rw[Hc];exact World.ownsRow_lit w #[] 0 (aL _) (by decide) rfl
  have Gx:∀j u,cs[j]?=some u->w1.cell? (ad.add j)=some u:=λj u hj=>by
   have h:=HH.2.2.2.2 ad rfl j u hj;rw[<-h];have Hk:(ad.add j).block < w.heap.size:=zcj h;exact Hd.cell Hk id
  have Hl:=aA Hd;have KH:=aA FK;have JQ:=aA Gx;have Ge:=aA Hc;have hz:w.heap.size<=w1.heap.size:=Hd.size;have FW:0+n<=maxLen:=by unfold maxLen;omega
  have JT:(0+n)*32<=140737488355328:=by rw[Nat.zero_add];exact HH.1
  clear Hd FK Gx Hc;go_wp2_with (at_builtin;rw[<-Ge.out];refine wpList_append_own _ rfl _ _ 23 rfl w.heap.size 61 i0 (.agg #[.string ⟨#[]⟩,.int .i64 0,.int .i64 0]) 3 32 Tryz.underlying23 HI.1 HI.2.1 HI.2.2.1 HI.2.2.2 rfl (by decide) (.slice (some ⟨w.heap.size,0,none⟩) 0 0) 0 [] rfl KH.out ad n c cs rfl HH.2.1 JQ.out HH.2.2.1 FW JT hz ?_);intro v' w' Ha hg _;have HO:=aA Ha;have HG:=aA hg;clear Ha hg;go_wp2_with fail;go_ret;refine⟨_,rfl,HO.out,Hl.back1 (Fr.grown HG.out λg e _=>by simp[Value.ownBlock]at e;omega) (aL _),?_⟩;rcases HO.2 with⟨e1,e2⟩|⟨g,cap,cur,e1,_⟩
  ·exact⟨none,0,by rw[e1,e2];rfl⟩
  ·exact⟨_,cap,e1⟩
open Go.RowKit Go.Maps
def MpV (w:World)(b n:Nat)(f:List UInt8->Option Value):Prop:=
 ∃D,w.ownsMap Tryz.prog 9 zdI b n D/\∀t:List UInt8,Maps.has D (.string t)=(f t).isSome /\(∀v,f t=some v->∀z,D.atKey (.string t) z= .held v)/\(f t=none->∀z,D.atKey (.string t) z=z)
theorem MpV.made (w:World):MpV (w.alloc (.map #[] 0)) w.heap.size 0 λ_=>none:=⟨_,World.ownsMap_made _ _ _ _,λt=>⟨rfl,λv h=>by simp at h,λ_ z=>rfl⟩⟩
theorem zpc {s:ByteArray}(h:s.size<=9223372036854775807):keyOf Tryz.prog 9 (.string s)=some (.string s.data.toList):=
 WideMaps.keyOf_string_mk (P:=Tryz.prog) Tryz.underlying9 (s:=s) (by unfold maxLen;omega)
theorem MpV.lt {w:World}{b n:Nat}{f:List UInt8->Option Value}(h:MpV w b n f):b < w.heap.size:=by
 obtain⟨D,Ha,_⟩:=h;exact Ha.lt
theorem MpV.kept {w w':World}{b n:Nat}{f:List UInt8->Option Value}(h:MpV w b n f){row:Option Nat}(hg:w.grownBy w' row)(Gh:some b≠row):MpV w' b n f:=by
 obtain⟨D,Ha,hD⟩:=h;exact⟨D,Ha.kept hg Gh,hD⟩
theorem MpV.fr {w w':World}{b n:Nat}{f:List UInt8->Option Value}(h:MpV w b n f){T:Nat->Prop}(hf:Fr T w w')(ht:¬T b):MpV w' b n f:=by
 obtain⟨D,Ha,hD⟩:=h;have hl:=Ha.lt;obtain⟨es,clock,hb,F,hs,e⟩:=Ha;exact⟨D,⟨es,clock,(hf.block b hl ht).trans hb,F,hs,e⟩,hD⟩
theorem MpV.put {w:World}{b n:Nat}{f:List UInt8->Option Value}(h:MpV w b n f){mt e:TypeId}(Z6:Tryz.prog.underlying mt=some (.map 9 e)){s:ByteArray}(hs:s.size<=9223372036854775807)(v:Value)(hn:n < maxLen):
  ∃w',(Instr.mapUpdate mt (.map (some b)) (.string s) v).run Tryz.prog w= .ok () w'/\MpV w' b (n+1) (λy=>if y=s.data.toList then some v else f y)/\w.grownBy w' (some b):=by
 obtain⟨D,Ha,hD⟩:=h;obtain⟨w',GL,Ls,hg⟩:=Ha.update strKey Z6 hn (zpc hs) (val:=v) (d:= .held v) (ps:= []) rfl;refine⟨w',GL,⟨_,Ls,λx=>?_⟩,hg⟩;have kx:WideAt.IsKeyLit (.string s.data.toList):=strKey.key (zpc hs);by_cases e:x=s.data.toList
 ·subst e;simp only[if_true];refine⟨by rw[has_put_same Ha.isMap kx];rfl,λu hu z=>?_,λhu=>by simp at hu⟩;rw[atKey_put_same Ha.isMap kx];simp at hu;rw[hu]
 ·have e2:(Lit.string x)≠ .string s.data.toList:=λh=>e (by simpa using h);simp only[if_neg e];refine⟨by rw[has_put_other e2,(hD x).1],λu hu z=>?_,λhu z=>?_⟩
  ·rw[atKey_put_other e2];exact(hD x).2.1 u hu z
  ·rw[atKey_put_other e2];exact(hD x).2.2 hu z
theorem MpV.get {w:World}{b n:Nat}{f:List UInt8->Option Value}(h:MpV w b n f){mt e:TypeId}(Z6:Tryz.prog.underlying mt=some (.map 9 e)){s:ByteArray}(hs:s.size<=9223372036854775807){z:Value}(hz:(zeroValue e).run Tryz.prog w= .ok z w):
  (Instr.lookup mt (.map (some b)) (.string s) false).run Tryz.prog w= .ok ((f s.data.toList).getD z) w:=by
 obtain⟨D,Ha,hD⟩:=h;obtain⟨v,ps,GL,hv⟩:=Ha.lookup strKey Z6 hz (zd:= .held _) (zp:= []) rfl (zpc hs);rw[GL];cases hl:f s.data.toList with
 |none=>
  rw[(hD s.data.toList).2.2 hl]at hv;simp only[zdI,Option.some.injEq,Prod.mk.injEq,DataW.held.injEq]at hv;rw[hv.1];rfl
 |some u=>
  rw[(hD s.data.toList).2.1 u hl]at hv;simp only[zdI,Option.some.injEq,Prod.mk.injEq,DataW.held.injEq]at hv;rw[hv.1];rfl
open Go.RowKit Go.Shelf Go.Maps
