/-
  parse: keywords: a map from words to kinds and methods.
-/
import Derived.Test.YtphlnpaikpjakaaGreatDoorJgJgLoc
import Derived.Deep.DeepCutAuto
set_option linter.unusedVariables false
set_option linter.unusedSimpArgs false
namespace Go.Proofs.YtphlnpaikpjakaaGreatDoor
open Go.RowKit Go.Shelf Go.Maps

def begV (k:Int) (g:Nat):Value:= .agg #[.int .u8 k,.func (.func g) #[] #[]]
def KwM (w:World) (b n:Nat) (tab:List (List UInt8×Value)):Prop:=
 ∃D,w.ownsMap Tryz.prog 9 heldB b n D∧∀t:List UInt8,Maps.has D (.string t)=(tab.lookup t).isSome ∧(∀v,tab.lookup t=some v→∀z,D.atKey (.string t) z= .held v)∧(tab.lookup t=none→∀z,D.atKey (.string t) z=z)
theorem KwM.made (w:World):KwM (w.alloc (.map #[] 0)) w.heap.size 0 []:=⟨_,World.ownsMap_made _ _ _ _,fun t=>⟨rfl,fun v h=>by simp at h,fun _ z=>rfl⟩⟩
theorem KwM.put {w:World} {b n:Nat} {tab:List (List UInt8×Value)} (h:KwM w b n tab) {t:List UInt8} (ht:t.length≤maxLen) (v:Value) (hn:n < maxLen):
  ∃w',(Instr.mapUpdate 212 (.map (some b)) (.string ⟨t.toArray⟩) v).run Tryz.prog w= .ok () w'∧KwM w' b (n+1) ((t,v)::tab)∧w.grownBy w' (some b):=by
 obtain⟨D,hown,hD⟩:=h
 obtain⟨w',hrun,hown',hg⟩:=hown.update strKey Tryz.underlying212 hn (keyS ht) (val:=v) (d:= .held v) (ps:= []) rfl
 refine⟨w',hrun,⟨_,hown',fun x=>?_⟩,hg⟩
 have kx:WideAt.IsKeyLit (.string t):=strKey.key (keyS ht)
 by_cases e:x=t
 ·subst e
  refine⟨by rw[has_put_same hown.isMap kx];simp,fun u hu z=>?_,fun hu=>by simp at hu⟩
  rw[atKey_put_same hown.isMap kx]
  simp at hu
  rw[hu]
 ·have e1:(x==t)=false:=by simpa using e
  have e2:(Lit.string x)≠ .string t:=fun h=>e (by simpa using h)
  refine⟨by rw[has_put_other e2,(hD x).1];simp[List.lookup,e1],fun u hu z=>?_,fun hu z=>?_⟩
  ·rw[atKey_put_other e2]
   exact(hD x).2.1 u (by simpa[List.lookup,e1]using hu) z
  ·rw[atKey_put_other e2]
   exact(hD x).2.2 (by simpa[List.lookup,e1]using hu) z
theorem KwM.kept {w w':World} {b n:Nat} {tab:List (List UInt8×Value)} (h:KwM w b n tab) {row:Option Nat} (hg:w.grownBy w' row) (hne:some b≠row):KwM w' b n tab:=by
 obtain⟨D,hown,hD⟩:=h
 exact⟨D,hown.kept hg hne,hD⟩
theorem zeroBegun (w:World):(zeroValue 210).run Tryz.prog w= .ok (.agg #[.int .u8 0,.nilFunc]) w:=by kernel_rfl
def zeroBeg:Value:= .agg #[.int .u8 0,.nilFunc]
theorem KwM.look {w:World} {b n:Nat} {tab:List (List UInt8×Value)} (h:KwM w b n tab) {t:List UInt8} (ht:t.length≤maxLen):
  (Instr.lookup 212 (.map (some b)) (.string ⟨t.toArray⟩) true).run Tryz.prog w= .ok (.tuple #[(tab.lookup t).getD zeroBeg,.bool (tab.lookup t).isSome]) w:=by
 obtain⟨D,hown,hD⟩:=h
 obtain⟨v,ps,hrun,hv⟩:=hown.look_ok strKey Tryz.underlying212 (zeroBegun w) (zd:= .held _) (zp:= []) rfl (keyS ht)
 rw[(hD t).1]at hrun
 rw[hrun]
 cases hl:tab.lookup t with
 |none=>
  rw[(hD t).2.2 hl]at hv
  simp only[heldB,Option.some.injEq,Prod.mk.injEq,DataW.held.injEq]at hv
  rw[hv.1]
  rfl
 |some u=>
  rw[(hD t).2.1 u hl]at hv
  simp only[heldB,Option.some.injEq,Prod.mk.injEq,DataW.held.injEq]at hv
  rw[hv.1]
  rfl
def kwTab:List (List UInt8×Value):= [([99,97,108,108],begV 9 (kwF 9)),([119,104,105,108,101],begV 8 (kwF 8)),([105,102],begV 7 (kwF 7)),([97,115,115,101,114,116],begV 6 (kwF 6)),([97,115,115,117,109,101],begV 5 (kwF 5)),([105,110,112,117,116],begV 4 (kwF 4)),([115,107,105,112],begV 1 (kwF 1))]
theorem kwTab_key (t:List UInt8):kwTab.lookup t=if keyK t=0 then none else some (begV (keyK t) (kwF (keyK t))):=by
 unfold keyK kwTab
 by_cases h1:t= [115,107,105,112]
 ·subst h1;rfl
 by_cases h2:t= [105,110,112,117,116]
 ·subst h2;rfl
 by_cases h3:t= [97,115,115,117,109,101]
 ·subst h3;rfl
 by_cases h4:t= [97,115,115,101,114,116]
 ·subst h4;rfl
 by_cases h5:t= [105,102]
 ·subst h5;rfl
 by_cases h6:t= [119,104,105,108,101]
 ·subst h6;rfl
 by_cases h7:t= [99,97,108,108]
 ·subst h7;rfl
 have e1:(t== [115,107,105,112])=false:=by simpa using h1
 have e2:(t== [105,110,112,117,116])=false:=by simpa using h2
 have e3:(t== [97,115,115,117,109,101])=false:=by simpa using h3
 have e4:(t== [97,115,115,101,114,116])=false:=by simpa using h4
 have e5:(t== [105,102])=false:=by simpa using h5
 have e6:(t== [119,104,105,108,101])=false:=by simpa using h6
 have e7:(t== [99,97,108,108])=false:=by simpa using h7
 simp only[List.lookup,e1,e2,e3,e4,e5,e6,e7,if_neg h1,if_neg h2,if_neg h3,if_neg h4,if_neg h5,if_neg h6,if_neg h7]
 rfl
set_option maxRecDepth 100000 in
theorem keywords_any (w:World):Calls Tryz.prog 128 #[] w fun e w'=>∃b,e= .returned (.map (some b))∧w.heap.size≤b∧KwM w' b 7 kwTab∧Fr NoT w w':=by
 have hmm:= @run_makeMap Tryz.prog
 obtain⟨w1,u1,k1,g1⟩:=(KwM.made w).put (t:= [115,107,105,112]) (by decide) (begV 1 (kwF 1)) (by decide)
 obtain⟨w2,u2,k2,g2⟩:=k1.put (t:= [105,110,112,117,116]) (by decide) (begV 4 (kwF 4)) (by decide)
 obtain⟨w3,u3,k3,g3⟩:=k2.put (t:= [97,115,115,117,109,101]) (by decide) (begV 5 (kwF 5)) (by decide)
 obtain⟨w4,u4,k4,g4⟩:=k3.put (t:= [97,115,115,101,114,116]) (by decide) (begV 6 (kwF 6)) (by decide)
 obtain⟨w5,u5,k5,g5⟩:=k4.put (t:= [105,102]) (by decide) (begV 7 (kwF 7)) (by decide)
 obtain⟨w6,u6,k6,g6⟩:=k5.put (t:= [119,104,105,108,101]) (by decide) (begV 8 (kwF 8)) (by decide)
 obtain⟨w7,u7,k7,g7⟩:=k6.put (t:= [99,97,108,108]) (by decide) (begV 9 (kwF 9)) (by decide)
 have hf:Fr NoT w w7:=by
  have h0:Fr (fun b=>b=w.heap.size) w w7:=(((((((Fr.refl _ w).alloc (.map #[] 0)).trans (Fr.grown g1 fun g e _=>(Option.some.inj e).symm)).trans (Fr.grown g2 fun g e _=>(Option.some.inj e).symm)).trans (Fr.grown g3 fun g e _=>(Option.some.inj e).symm)).trans (Fr.grown g4 fun g e _=>(Option.some.inj e).symm)).trans (Fr.grown g5 fun g e _=>(Option.some.inj e).symm)).trans (Fr.grown g6 fun g e _=>(Option.some.inj e).symm) |>.trans (Fr.grown g7 fun g e _=>(Option.some.inj e).symm)
  exact h0.mono fun i hi e=>absurd hi (by have e:i=w.heap.size:=e;omega)
 have HK:=hdq k7
 have HF:=hdq hf
 simp only[begV,show kwF 1=166 from by rfl,show kwF 4=167 from by rfl,show kwF 5=168 from by rfl,show kwF 6=168 from by rfl,show kwF 7=169 from by rfl,show kwF 8=170 from by rfl,show kwF 9=171 from by rfl]at u1 u2 u3 u4 u5 u6 u7
 clear k1 k2 k3 k4 k5 k6 k7 g1 g2 g3 g4 g5 g6 g7 hf
 go_enter Tryz.func128,Tryz.ntmps128
 go_wp2_with fail
 go_ret
 exact⟨w.heap.size,rfl,lrq _,HK.out,HF.out⟩

open Go.RowKit Go.Shelf

def StVal (w:World) (L:Nat) (v:Value) (x:St):Prop:=∃p,v= .agg (stC x p).toArray ∧StS w (New L w) x p
structure StmR (C:Pcx) (w:World) (rb sb gb:Nat) (l:List Tk) (d:Nat) (x:St) (u0 u1:Value) (W:World):Prop where
 pa:PaAt C W l d
 st:StAt W sb (w.heap.size+2) x
 raw:Bk W sb 133 #[.int .u8 0,.string ⟨#[]⟩,.slice none 0 0,.slice none 0 0,.slice none 0 0,.slice none 0 0,.int .i64 x.at_]
 beg:Bk W gb 210 #[u0,u1]
 res:Bk W rb 133 #[.int .u8 0,.string ⟨#[]⟩,.slice none 0 0,.slice none 0 0,.slice none 0 0,.slice none 0 0,.int .i64 0]
 fr:Fr NoT w W
theorem stmt_boxes (w w1:World) (a:Int) (hw:w1=(w.alloc (.cells zeroSt 133)).alloc (.cells #[.int .u8 0,.string ⟨#[]⟩,.slice none 0 0,.slice none 0 0,.slice none 0 0,.slice none 0 0,.int .i64 a] 133)):
  Bk w1 w.heap.size 133 zeroSt∧Bk w1 (w.heap.size+1) 133 #[.int .u8 0,.string ⟨#[]⟩,.slice none 0 0,.slice none 0 0,.slice none 0 0,.slice none 0 0,.int .i64 a]∧Fr NoT w w1:=by
 subst hw
 exact⟨(Bk.new _ _ _).alloc _,Bk.new_at _ _ _ (by simp),((Fr.refl _ _).alloc _).alloc _⟩
theorem look_any {w W:World} {b:Nat} {l:List Tk} {k:Int} {tx:ByteArray} (hkk:k=keyK (hdT l).text) (htx:tx=txt (hdT l)) (htl:(hdT l).text.length ≤4096) (h:KwM W b 7 kwTab):
  (Instr.lookup 212 (.map (some b)) (.string tx) true).run Tryz.prog W= .ok (.tuple #[(if k=0 then zeroBeg else begV k (kwF k)),.bool (!(k==0))]) W:=by
 have h1:=h.look (t:=(hdT l).text) (by unfold maxLen;omega)
 rw[kwTab_key,←hkk]at h1
 rw[htx]
 unfold txt
 rw[h1]
 by_cases h0:k=0
 ·subst h0
  rfl
 ·have e:(k==0)=false:=by simpa using h0
  rw[if_neg h0,if_neg h0,e]
  rfl
theorem stmR_a {C:Pcx} {w w1 wk w9:World} {l:List Tk} {d:Nat} {a:Int} {u0 u1:Value} (hL:C.P < w.heap.size∧C.TB < w.heap.size∧C.W0.heap.size≤w.heap.size) (ha:in64 a) (h:PaAt C w l d)
  (hb1:Bk w1 w.heap.size 133 zeroSt) (hb2:Bk w1 (w.heap.size+1) 133 #[.int .u8 0,.string ⟨#[]⟩,.slice none 0 0,.slice none 0 0,.slice none 0 0,.slice none 0 0,.int .i64 a]) (hz:w1.heap.size=w.heap.size+2) (hf1:Fr NoT w w1) (hfk:Fr NoT w1 wk)
  (h9:w9=wk.alloc (.cells #[u0,u1] 210)):
  StmR C w w.heap.size (w.heap.size+1) wk.heap.size l d ⟨0,noB,.nil,.nil,.nil,.nil,a⟩ u0 u1 w9:=by
 have hsk:=hfk.size
 have hfa:Fr NoT wk w9:=by rw[h9];exact(Fr.refl _ _).alloc _
 have hfw:Fr NoT w w9:=(hf1.trans hfk).trans hfa
 refine⟨h.fr hfw id id fun _ _=>id,StAt.new (by unfold in8;omega) ha ((hb2.fr0 hfk).fr0 hfa),(hb2.fr0 hfk).fr0 hfa,?_,(hb1.fr0 hfk).fr0 hfa,hfw⟩
 rw[h9]
 exact Bk.new _ _ _
theorem stmR_b {C:Pcx} {w w1 wa wk w9:World} {l:List Tk} {d:Nat} {a:Int} {u0 u1:Value} (hL:C.P < w.heap.size∧C.TB < w.heap.size∧C.W0.heap.size≤w.heap.size) (ha:in64 a) (h:PaAt C w l d)
  (hb1:Bk w1 w.heap.size 133 zeroSt) (hb2:Bk w1 (w.heap.size+1) 133 #[.int .u8 0,.string ⟨#[]⟩,.slice none 0 0,.slice none 0 0,.slice none 0 0,.slice none 0 0,.int .i64 a]) (hz:w1.heap.size=w.heap.size+2) (hf1:Fr NoT w w1) {z0 z1:Value} (hfa:Fr NoT w1 wa) (hba:Bk wa w1.heap.size 210 #[z0,z1]) (hfk:Fr NoT wa wk)
  (h9:w9=(wk.setCell ⟨w1.heap.size,0,none⟩ u0).setCell ⟨w1.heap.size,1,none⟩ u1):
  StmR C w w.heap.size (w.heap.size+1) w1.heap.size l d ⟨0,noB,.nil,.nil,.nil,.nil,a⟩ u0 u1 w9:=by
 have hsk:=hfk.size
 have hfs:Fr (fun b=>b=w1.heap.size) wk w9:=by rw[h9];exact Fr.own (Fr.own (Fr.refl _ _) _ _) _ _
 have hfw:Fr NoT w w9:=by
  rw[h9]
  exact Fr.high (Fr.high ((hf1.trans hfa).trans hfk) (by omega) _ _) (by omega) _ _
 have hraw:=((hb2.fr0 hfa).fr0 hfk).fr hfs (fun e=>by have e:w.heap.size+1=w1.heap.size:=e;omega)
 refine⟨h.fr hfw id id fun _ _=>id,StAt.new (by unfold in8;omega) ha hraw,hraw,?_,(((hb1.fr0 hfa).fr0 hfk).fr hfs fun e=>?_),hfw⟩
 ·have:=((hba.fr0 hfk).set_ 0 u0).set_ 1 u1
  rw[h9]
  simpa using this
 ·have e:w.heap.size=w1.heap.size:=e
  omega
theorem stmt_fin {C:Pcx} {w w12 w13:World} {x:St} {p:Loc} {r:List Tk} {d:Nat} (hL:C.P < w.heap.size∧C.TB < w.heap.size∧C.W0.heap.size≤w.heap.size) (hs:StS w12 (fun b=>w.heap.size+2≤b∧b < w12.heap.size∧b≠w.heap.size+1) x p) (hp:PaAt C w12 r d) (hf:Fr (PT C (w.heap.size+1)) w w12)
  (h13:w13=((((((w12.setCell ⟨w.heap.size,0,none⟩ (.int .u8 x.k)).setCell ⟨w.heap.size,1,none⟩ (.string x.nm)).setCell ⟨w.heap.size,2,none⟩ (.slice p.A x.args.len p.c)).setCell ⟨w.heap.size,3,none⟩ (.slice p.B x.cond.len p.q)).setCell ⟨w.heap.size,4,none⟩ (.slice p.D x.body.len p.e)).setCell ⟨w.heap.size,5,none⟩ (.slice p.E x.els.len p.f)).setCell ⟨w.heap.size,6,none⟩ (.int .i64 x.at_)):
  EndV C d StVal (.ok x r) w (.returned (.agg #[.int .u8 x.k,.string x.nm,.slice p.A x.args.len p.c,.slice p.B x.cond.len p.q,.slice p.D x.body.len p.e,.slice p.E x.els.len p.f,.int .i64 x.at_])) w13:=by
 have hfr:Fr (fun b=>b=w.heap.size) w12 w13:=by rw[h13];exact Fr.own (Fr.own (Fr.own (Fr.own (Fr.own (Fr.own (Fr.own (Fr.refl _ _) _ _) _ _) _ _) _ _) _ _) _ _) _ _
 have hsz:=hf.size
 refine⟨_,rfl,⟨p,rfl,hs.imp (hfr.same fun b hb=>⟨hb.2.1,fun e=>?_⟩) fun b hb=>⟨by have:=hb.1;omega,by have:=hb.2.1;have:=hfr.size;omega⟩⟩,hp.fr hfr (fun e=>?_) (fun e=>?_) (fun i hi e=>?_),?_⟩
 ·have e:b=w.heap.size:=e
  have:=hb.1
  omega
 ·have e:C.P=w.heap.size:=e
  omega
 ·have e:C.TB=w.heap.size:=e
  omega
 ·have e:i=w.heap.size:=e
  omega
 ·refine((hf.mono (T':=fun b=>b=C.P∨w.heap.size≤b) fun i _ h=>?_).trans (hfr.mono fun i _ h=>?_)).mono fun i hi e=>?_
  ·rcases h with h|h
   ·exact .inl h
   ·exact .inr (by omega)
  ·have h:i=w.heap.size:=h
   exact .inr (by omega)
  ·rcases e with e|e
   ·exact e
   ·omega

def StRow (w:World) (S:Nat→Prop):List St→List Value→Prop
 | [],cs=>cs= []
 |x::xs,cs=>∃p cs',cs=stC x p++cs'∧StS w S x p∧StRow w S xs cs'
theorem StRow.imp {w w':World} {S S':Nat→Prop} (hf:SameS S w w') (hs:∀b,S b→S' b):∀ {xs:List St} {cs:List Value},StRow w S xs cs→StRow w' S' xs cs
 | [],_,h=>h
 |x::xs,cs,h=>by
  obtain⟨p,cs',e,h1,h5⟩:=h
  exact⟨p,cs',e,h1.imp hf hs,StRow.imp hf hs h5⟩
theorem StRow.snoc {w:World} {S:Nat→Prop} {y:St} {p:Loc} (hy:StS w S y p):∀ {xs:List St} {cs:List Value},StRow w S xs cs→StRow w S (xs++ [y]) (cs++stC y p)
 | [],cs,h=>by
  have h:cs= []:=h
  subst h
  exact⟨p, [],by simp,hy,rfl⟩
 |x::xs,cs,h=>by
  obtain⟨q,cs',e,h1,h5⟩:=h
  exact⟨q,cs'++stC y p,by rw[e,List.append_assoc],h1,StRow.snoc hy h5⟩
theorem StRow.len {w:World} {S:Nat→Prop}:∀ {xs:List St} {cs:List Value},StRow w S xs cs→cs.length=xs.length*7
 | [],cs,h=>by
  have h:cs= []:=h
  subst h;rfl
 |x::xs,cs,h=>by
  obtain⟨q,cs',e,h1,h5⟩:=h
  rw[e,List.length_append,StRow.len h5]
  simp[stC];omega
theorem StRow.stR {w:World} {S:Nat→Prop} {g:Nat} (hg:S g):∀ {xs:List St} {cs:List Value} {o:Nat},StRow w S xs cs→(∀j u,cs[j]?=some u→w.cell? ⟨g,o+j,none⟩=some u)→StR w S False (stsOf xs) g o
 | [],_,_,_,_=>trivial
 |x::xs,cs,o,h,hc=>by
  obtain⟨p,cs',e,h1,h5⟩:=h
  subst e
  refine⟨⟨hg,fun h=>absurd h id,h1.k,h1.at_,hc 0 _ rfl,hc 1 _ rfl,hc 6 _ rfl⟩,⟨_,_,hc 2 _ rfl,h1.args⟩,⟨_,_,hc 3 _ rfl,h1.cond⟩,⟨_,_,hc 4 _ rfl,h1.body⟩,⟨_,_,hc 5 _ rfl,h1.els⟩,?_⟩
  refine StRow.stR hg h5 fun j u hj=>?_
  have:=hc (7+j) u (by rw[List.getElem?_append_right (by simp[stC])];simpa[stC]using hj)
  rw[Nat.add_assoc]
  exact this
theorem blk_end {L:Nat} {w:World} {v:Value} {acc:List St} {cs:List Value} {S:Nat→Prop} (hr:w.ownsRow L 133 7 v acc.length cs) (hx:StRow w S acc cs) (hs:∀b,S b→L≤b∧b < w.heap.size) (hf:acc.length≤5001):StlV w L v acc:=by
 rcases hr.2 with⟨rfl,h0⟩|⟨g,cap,cur,rfl,hb,hg,hn,hc,hcs,ht⟩
 ·exact⟨none,0,by rw[stsOf_len,h0],by rw[stsOf_len,h0];exact⟨lrq _,⟨by decide,by omega⟩,fun h=>absurd h (Nat.lt_irrefl 0)⟩⟩
 ·have hl:g < w.heap.size:=(Array.getElem?_eq_some_iff.1 hg).1
  have hcc:cap≤9223372036854775807:=by unfold maxLen at hc;omega
  suffices hx2:StR w (New L w) False (stsOf acc) g 0 by
   exact⟨some ⟨g,0,none⟩,cap,by rw[stsOf_len],by rw[stsOf_len];exact⟨hn,⟨hcc,by omega⟩,fun _=>⟨g,0,rfl,hx2⟩⟩⟩
  refine StRow.stR ⟨hb,hl⟩ (StRow.imp (SameS.refl _ _) hs hx) fun j u hj=>?_
  have:=hr.cells (g:=g) rfl j u hj
  have hadd:(⟨g,0,none⟩:Addr).add j=⟨g,0+j,none⟩:=by
   rw[Nat.zero_add];unfold Addr.add;split<;>simp_all
  rw[hadd]at this
  exact this
theorem row_put {w:World} {base:Nat} {e:TypeId} {size g n cap:Nat} {xs:List Value} (h:w.ownsRow base e size (.slice (some ⟨g,0,none⟩) n cap) n xs) (j:Nat) (u:Value):(w.setCell ⟨g,j,none⟩ u).ownsRow base e size (.slice (some ⟨g,0,none⟩) n cap) n (xs.set j u):=(h.stored j u).1
structure BlkX (C:Pcx) (w:World) (d:Nat) (R:PR (List St)) (one:List Tk→PR St) (lb pb:Nat) (v:Value) (wr:World) (acc:List St) (cs:List Value) (l:List Tk):Prop where
 eq:∃f,R=stmtsF one f acc l∧l.length≤f
 lcell:Bk wr lb 47 #[v]
 row:wr.ownsRow w.heap.size 133 7 v acc.length cs
 rows:StRow wr (NewR w.heap.size v wr) acc cs
 few:acc.length+l.length≤5000
 pa:PaAt C wr l d
 fr:Fr (PT C lb) w wr
theorem BlkX.step {C:Pcx} {w wr w7 w9:World} {d:Nat} {R:PR (List St)} {one:List Tk→PR St} {lb pb f:Nat} {v:Value} {acc:List St} {cs:List Value} {r r2:List Tk} {x:St} {p:Loc} {g cap:Nat}
  (hL:C.P < w.heap.size∧C.TB < w.heap.size∧C.W0.heap.size≤w.heap.size) (hlb:lb < w.heap.size) (hlP:lb≠C.P) (hlT:lb≠C.TB) (hl0:C.W0.heap.size≤lb)
  (hx:BlkX C w d R one lb pb v wr acc cs r) (hR:R=stmtsF one f (acc++ [x]) r2) (hrf:r2.length≤f) (hr2:r2.length < r.length)
  (hv:StS w7 (New wr.heap.size w7) x p) (hp:PaAt C w7 r2 d) (hf:Fr C.T wr w7) (W:World) (hwa:Fr NoT w7 W)
  (hown:w9.ownsRow w.heap.size 133 7 (.slice (some ⟨g,0,none⟩) (acc.length+1) cap) (acc.length+1) (cs++zeroSt.toList))
  (hg:W.grownBy w9 v.ownBlock) (hsp:v.ownBlock=some g∨g=W.heap.size) (w10:World)
  (hw10:w10=(((((((w9.setCell ⟨g,acc.length*7,none⟩ (.int .u8 x.k)).setCell ⟨g,acc.length*7+1,none⟩ (.string x.nm)).setCell ⟨g,acc.length*7+2,none⟩ (.slice p.A x.args.len p.c)).setCell ⟨g,acc.length*7+3,none⟩ (.slice p.B x.cond.len p.q)).setCell ⟨g,acc.length*7+4,none⟩ (.slice p.D x.body.len p.e)).setCell ⟨g,acc.length*7+5,none⟩ (.slice p.E x.els.len p.f)).setCell ⟨g,acc.length*7+6,none⟩ (.int .i64 x.at_)).setCell ⟨lb,0,none⟩ (.slice (some ⟨g,0,none⟩) (acc.length+1) cap)):
  BlkX C w d R one lb pb (.slice (some ⟨g,0,none⟩) (acc.length+1) cap) w10 (acc++ [x]) (cs++stC x p) r2:=by
 have hlt:=hx.row.lt
 have hsF:=hx.fr.size
 have hsf:=hf.size
 have hsw:=hwa.size
 have hsg:=hg.size
 have hcl:=hx.rows.len
 have hgl:=hown.lt g rfl
 have hglb:g≠lb:=by omega
 have hgP:g≠C.P:=by omega
 obtain⟨w8,hw8⟩:=nmq (((((((w9.setCell ⟨g,acc.length*7,none⟩ (.int .u8 x.k)).setCell ⟨g,acc.length*7+1,none⟩ (.string x.nm)).setCell ⟨g,acc.length*7+2,none⟩ (.slice p.A x.args.len p.c)).setCell ⟨g,acc.length*7+3,none⟩ (.slice p.B x.cond.len p.q)).setCell ⟨g,acc.length*7+4,none⟩ (.slice p.D x.body.len p.e)).setCell ⟨g,acc.length*7+5,none⟩ (.slice p.E x.els.len p.f)).setCell ⟨g,acc.length*7+6,none⟩ (.int .i64 x.at_))
 rw[←hw8]at hw10
 have hz8:w8.heap.size=w9.heap.size:=by rw[hw8];simp
 have hz10:w10.heap.size=w9.heap.size:=by rw[hw10];simp[hz8]
 have hf98:Fr (fun b=>b=g) w9 w8:=by rw[hw8];exact Fr.own (Fr.own (Fr.own (Fr.own (Fr.own (Fr.own (Fr.own (Fr.refl _ _) _ _) _ _) _ _) _ _) _ _) _ _) _ _
 have hf80:Fr (fun b=>b=lb) w8 w10:=by rw[hw10];exact Fr.own (Fr.refl _ _) _ _
 have hrow8:w8.ownsRow w.heap.size 133 7 (.slice (some ⟨g,0,none⟩) (acc.length+1) cap) (acc.length+1) (cs++stC x p):=by
  have h1:=row_put (row_put (row_put (row_put (row_put (row_put (row_put hown (acc.length*7) (.int .u8 x.k)) (acc.length*7+1) (.string x.nm)) (acc.length*7+2) (.slice p.A x.args.len p.c)) (acc.length*7+3) (.slice p.B x.cond.len p.q)) (acc.length*7+4) (.slice p.D x.body.len p.e)) (acc.length*7+5) (.slice p.E x.els.len p.f)) (acc.length*7+6) (.int .i64 x.at_)
  rw[←hw8]at h1
  have e:(((((((cs++zeroSt.toList).set (acc.length*7) (.int .u8 x.k)).set (acc.length*7+1) (.string x.nm)).set (acc.length*7+2) (.slice p.A x.args.len p.c)).set (acc.length*7+3) (.slice p.B x.cond.len p.q)).set (acc.length*7+4) (.slice p.D x.body.len p.e)).set (acc.length*7+5) (.slice p.E x.els.len p.f)).set (acc.length*7+6) (.int .i64 x.at_)=cs++stC x p:=by
   rw[←hcl]
   simp[List.set_append,zeroSt,stC]
  rw[e]at h1
  exact h1
 have hW9:Fr (fun b=>v.ownBlock=some b) W w9:=Fr.grown hg fun g e _=>e
 have h79:Fr (fun b=>v.ownBlock=some b) w7 w9:=hwa.any.trans hW9
 have h7x:Fr (fun b=>v.ownBlock=some b∨b=g∨b=lb) w7 w10:=((h79.mono fun i _ h=>Or.inl h).trans (hf98.mono fun i _ h=>Or.inr (Or.inl h))).trans (hf80.mono fun i _ h=>Or.inr (Or.inr h))
 have hrx:Fr (fun b=>b=C.P∨v.ownBlock=some b∨b=g∨b=lb) wr w10:=(hf.mono fun i _ h=>Or.inl h).trans (h7x.mono fun i _ h=>Or.inr h)
 have hgn:∀b,b < w7.heap.size→v.ownBlock≠some b→b≠g:=fun b hb hn e=>by
  subst e
  rcases hsp with h|h
  ·exact hn h
  ·omega
 have hvl:v.ownBlock≠some lb:=fun e=>by have:=(hlt _ e).1;omega
 have hvP:v.ownBlock≠some C.P:=fun e=>by have:=(hlt _ e).1;omega
 have hvT:v.ownBlock≠some C.TB:=fun e=>by have:=(hlt _ e).1;omega
 refine⟨⟨f,hR,hrf⟩,?_,?_,?_,?_,?_,?_⟩
 ·have h1:Bk w8 lb 47 #[v]:=((hx.lcell.fr hf (fun e=>hlP e)).fr h79 hvl).fr hf98 fun e=>hglb (by have e:lb=g:=e;exact e.symm)
  rw[hw10]
  simpa using h1.set_ 0 (.slice (some ⟨g,0,none⟩) (acc.length+1) cap)
 ·rw[hw10]
  have:=ownsRow_setCell_below hrow8 (a:=⟨lb,0,none⟩) hlb (.slice (some ⟨g,0,none⟩) (acc.length+1) cap)
  simpa using this
 ·refine StRow.snoc (hv.imp (h7x.same fun b hb=>⟨hb.2,fun e=>?_⟩) fun b hb=>⟨by have:=hb.1;omega,by have:=hb.2;omega,fun e=>?_⟩) (StRow.imp (hrx.same fun b hb=>⟨hb.2.1,fun e=>?_⟩) (fun b hb=>⟨hb.1,by have:=hb.2.1;omega,fun e=>?_⟩) hx.rows)
  ·have h1:=hb.1
   have h2:=hb.2
   rcases e with e|e|e
   ·have:=(hlt _ e).2;omega
   ·exact hgn b h2 (fun e=>by have:=(hlt _ e).2;omega) e
   ·omega
  ·have h1:=hb.1
   have h2:=hb.2.1
   have h3:=hb.2.2
   rcases e with e|e|e|e
   ·omega
   ·exact h3 e
   ·exact hgn b (by omega) h3 e
   ·omega
  ·have h1:=hb.1
   have h2:=hb.2
   have e:g=b:=by simpa[Value.ownBlock]using e
   exact hgn b h2 (fun e=>by have:=(hlt _ e).2;omega) e.symm
  ·have h2:=hb.2.1
   have e:g=b:=by simpa[Value.ownBlock]using e
   exact hgn b (by omega) hb.2.2 e.symm
 ·have:=hx.few
  rw[List.length_append,List.length_cons,List.length_nil]
  omega
 ·refine hp.fr h7x (fun e=>?_) (fun e=>?_) (fun i hi e=>?_)
  ·rcases e with e|e|e
   ·exact hvP e
   ·exact hgP e.symm
   ·exact hlP e.symm
  ·rcases e with e|e|e
   ·exact hvT e
   ·omega
   ·exact hlT e.symm
  ·rcases e with e|e|e
   ·have:=(hlt _ e).1;omega
   ·omega
   ·omega
 ·refine((hx.fr.mono (T':=fun b=>b=C.P∨v.ownBlock=some b∨b=g∨b=lb) fun i _ h=>?_).trans hrx).mono fun i hi e=>?_
  ·rcases h with h|h
   ·exact .inl h
   ·exact .inr (.inr (.inr h))
  ·rcases e with e|e|e|e
   ·exact .inl e
   ·have:=(hlt _ e).1;omega
   ·omega
   ·exact .inr e

def setE (n:Nat) (k:Int) (nm:ByteArray) (a:Int) (acc:List Ex) (r:List Tk):PR St:=(takeP [61] r).then fun _ r=>(exprP n r).then fun e r=>endS ⟨k,nm,exsOf (acc++ [e]),.nil,.nil,.nil,a⟩ r
def setO (n:Nat) (nm:ByteArray) (a:Int) (r:List Tk):PR St:=if mayB [91] r then(indexP n r).then fun i r=>setE n 3 nm a [i] r else setE n 2 nm a [] r
theorem stmtOf_set {blk:List Tk→PR (List St)} {n:Nat} {l:List Tk} (h:keyK (hdT l).text =0):stmtOf blk n l=(nameP l).then fun x r=>setO n x.nm ((hdT l).at_ :Int) r:=by
 unfold stmtOf
 simp only[h]
 rw[if_neg (by decide),if_neg (by decide),if_neg (by decide),if_neg (by decide),if_neg (by decide),if_neg (by decide)]
 rfl
structure SetX (C:Pcx) (w:World) (d:Nat) (k:Int) (nm:ByteArray) (a:Int) (v:Value) (acc:List Ex) (cs:List Value) (r:List Tk) (W:World):Prop where
 pa:PaAt C W r d
 st:Bk W (w.heap.size+1) 133 #[.int .u8 k,.string nm,v,.slice none 0 0,.slice none 0 0,.slice none 0 0,.int .i64 a]
 res:Bk W w.heap.size 133 zeroSt
 row:W.ownsRow (w.heap.size+2) 68 5 v acc.length cs
 rows:ExRow W (NewR (w.heap.size+2) v W) acc cs
 fr:Fr (PT C (w.heap.size+1)) w W
 few:acc.length≤1
theorem SetX.next {C:Pcx} {w W W':World} {d:Nat} {k a:Int} {nm:ByteArray} {v:Value} {acc:List Ex} {cs:List Value} {r r':List Tk} (hL:C.P < w.heap.size∧C.TB < w.heap.size∧C.W0.heap.size≤w.heap.size) (h:SetX C w d k nm a v acc cs r W) (hf:Fr C.T W W') (hp:PaAt C W' r' d):SetX C w d k nm a v acc cs r' W':=
 ⟨hp,h.st.fr hf fun e=>by have e:w.heap.size+1=C.P:=e;omega,h.res.fr hf fun e=>by have e:w.heap.size=C.P:=e;omega,row_keep h.row hf (by omega),
  h.rows.imp (hf.same fun b hb=>⟨hb.2.1,fun e=>by have e:b=C.P:=e;have:=hb.1;omega⟩) fun b hb=>⟨hb.1,ltq hb.2.1 hf.size,hb.2.2⟩,h.fr.trans (PT.l hf),h.few⟩
theorem SetX.alloc {C:Pcx} {w W:World} {d:Nat} {k a:Int} {nm:ByteArray} {v:Value} {acc:List Ex} {cs:List Value} {r:List Tk} (hL:C.P < w.heap.size∧C.TB < w.heap.size∧C.W0.heap.size≤w.heap.size) (h:SetX C w d k nm a v acc cs r W) (o:Obj):SetX C w d k nm a v acc cs r (W.alloc o):=
 h.next hL ((Fr.refl _ _).alloc _) (h.pa.alloc o)
theorem SetX.start {C:Pcx} {w w10 w11:World} {d:Nat} {a:Int} {nm:ByteArray} {r:List Tk} (hL:C.P < w.heap.size∧C.TB < w.heap.size∧C.W0.heap.size≤w.heap.size)
  (hb:Bk w10 (w.heap.size+1) 133 #[.int .u8 0,.string ⟨#[]⟩,.slice none 0 0,.slice none 0 0,.slice none 0 0,.slice none 0 0,.int .i64 a]) (hr:Bk w10 w.heap.size 133 zeroSt) (hp:PaAt C w10 r d) (hf:Fr C.T w w10)
  (h11:w11=(w10.setCell ⟨w.heap.size+1,0,none⟩ (.int .u8 2)).setCell ⟨w.heap.size+1,1,none⟩ (.string nm)):SetX C w d 2 nm a (.slice none 0 0) [] [] r w11:=by
 have hfs:Fr (fun b=>b=w.heap.size+1) w10 w11:=by rw[h11];exact Fr.own (Fr.own (Fr.refl _ _) _ _) _ _
 refine⟨hp.fr hfs (fun e=>by have e:C.P=w.heap.size+1:=e;omega) (fun e=>by have e:C.TB=w.heap.size+1:=e;omega) (fun i hi e=>by have e:i=w.heap.size+1:=e;omega),?_,hr.fr hfs (fun e=>by have e:w.heap.size=w.heap.size+1:=e;omega),World.ownsRow_nil _ _ _ _,rfl,(PT.l hf).trans (hfs.mono fun i _ h=> .inr h),Nat.zero_le _⟩
 have:=(hb.set_ 0 (.int .u8 2)).set_ 1 (.string nm)
 rw[h11]
 simpa using this
theorem at_value {P:Program} {ops:Array Oper} {o:Oper} {a:Act} {w:World} {K:Act→World→Prop} {Q:Exit→Act→World→Prop} {E:Prop} (f:Operand) (xs:Array Operand) (ts:Array TypeId) (h:o.op= .call {callee:= .value f,args:=xs,argTypes:=ts})
  (g:if Region.wanted o (yielded ops a.tmps)=true then Oper.wp P o a w K Q else E):if Region.wanted o (yielded ops a.tmps)=true then Oper.wp P o a w K Q else E:=g
theorem Bk.news {w:World} {g:Nat} {t:TypeId} {cs:Array Value} (h:Bk w g t cs):∀j u,cs.toList[j]?=some u→w.cell? ((⟨g,0,none⟩:Addr).add j)=some u:=World.news_of_block (fr:=(0,0)) (t:=t) h
def zeroEx:Array Value:= #[.int .u8 0,.string ⟨#[]⟩,.int .i64 0,.slice none 0 0,.int .i64 0]
theorem row_zero5 {w:World} {base:Nat} {e:TypeId} {g cap n:Nat} {cs:List Value} (h:w.ownsRow base e 5 (.slice (some ⟨g,0,none⟩) (n+1) cap) (n+1) (cs++zeroEx.toList)) (hl:cs.length=n*5):
  w.cell? ⟨g,n*5,none⟩=some (.int .u8 0)∧w.cell? ⟨g,n*5+1,none⟩=some (.string ⟨#[]⟩)∧w.cell? ⟨g,n*5+2,none⟩=some (.int .i64 0)∧w.cell? ⟨g,n*5+3,none⟩=some (.slice none 0 0)∧w.cell? ⟨g,n*5+4,none⟩=some (.int .i64 0)∧∀j,w.frozen? ⟨g,j,none⟩=false:=by
 have key:∀j,j < 5→w.cell? ⟨g,n*5+j,none⟩=zeroEx.toList[j]?:=fun j hj=>by
  rw[h.cellAt (n*5+j) (by omega),List.getElem?_append_right (by omega),hl,Nat.add_sub_cancel_left]
 exact⟨key 0 (by omega),key 1 (by omega),key 2 (by omega),key 3 (by omega),key 4 (by omega),fun j=>h.frozenAt j⟩
structure SetY (C:Pcx) (w:World) (d:Nat) (x:St) (p:Loc) (r:List Tk) (W:World):Prop where
 pa:PaAt C W r d
 st:Bk W (w.heap.size+1) 133 (stC x p).toArray
 res:Bk W w.heap.size 133 zeroSt
 hs:StS W (fun b=>w.heap.size+2≤b∧b < W.heap.size∧b≠w.heap.size+1) x p
 fr:Fr (PT C (w.heap.size+1)) w W
theorem SetY.next {C:Pcx} {w W W':World} {d:Nat} {x:St} {p:Loc} {r r':List Tk} (hL:C.P < w.heap.size∧C.TB < w.heap.size∧C.W0.heap.size≤w.heap.size) (h:SetY C w d x p r W) (hf:Fr C.T W W') (hp:PaAt C W' r' d):SetY C w d x p r' W':=
 ⟨hp,h.st.fr hf fun e=>by have e:w.heap.size+1=C.P:=e;omega,h.res.fr hf fun e=>by have e:w.heap.size=C.P:=e;omega,
  h.hs.imp (hf.same fun b hb=>⟨hb.2.1,fun e=>by have e:b=C.P:=e;have:=hb.1;omega⟩) fun b hb=>⟨hb.1,ltq hb.2.1 hf.size,hb.2.2⟩,h.fr.trans (PT.l hf)⟩
theorem SetX.step {C:Pcx} {w wr w7 w9:World} {d:Nat} {k a:Int} {nm:ByteArray} {v:Value} {acc:List Ex} {cs:List Value} {r r2:List Tk} {x:Ex} {A:Option Addr} {c g cap:Nat}
  (hL:C.P < w.heap.size∧C.TB < w.heap.size∧C.W0.heap.size≤w.heap.size) (hk8:in8 k) (ha:in64 a)
  (hx:SetX C w d k nm a v acc cs r wr) (hv:ExV w7 wr.heap.size (exV x.k x.nm x.n A x.args.len c x.at_) x) (hp:PaAt C w7 r2 d) (hf:Fr C.T wr w7) (W:World) (hwa:Fr NoT w7 W)
  (hown:w9.ownsRow (w.heap.size+2) 68 5 (.slice (some ⟨g,0,none⟩) (acc.length+1) cap) (acc.length+1) (cs++zeroEx.toList))
  (hg:W.grownBy w9 v.ownBlock) (hsp:v.ownBlock=some g∨g=W.heap.size) (w10:World)
  (hw10:w10=(((((w9.setCell ⟨g,acc.length*5,none⟩ (.int .u8 x.k)).setCell ⟨g,acc.length*5+1,none⟩ (.string x.nm)).setCell ⟨g,acc.length*5+2,none⟩ (.int .i64 x.n)).setCell ⟨g,acc.length*5+3,none⟩ (.slice A x.args.len c)).setCell ⟨g,acc.length*5+4,none⟩ (.int .i64 x.at_)).setCell ⟨w.heap.size+1,2,none⟩ (.slice (some ⟨g,0,none⟩) (acc.length+1) cap)):
  SetY C w d ⟨k,nm,exsOf (acc++ [x]),.nil,.nil,.nil,a⟩ ⟨some ⟨g,0,none⟩,cap,none,0,none,0,none,0⟩ r2 w10:=by
 have hlt:=hx.row.lt
 have hsF:=hx.fr.size
 have hsf:=hf.size
 have hsw:=hwa.size
 have hsg:=hg.size
 have hcl:cs.length=acc.length*5:=hx.row.1
 have hgl:=hown.lt g rfl
 have hst:=hx.st.lt
 obtain⟨x1,x2,x3,Ax,cx,ex,hsx⟩:=hv
 simp only[exV,Value.agg.injEq,Array.mk.injEq,List.cons.injEq,Value.slice.injEq,true_and,and_true]at ex
 obtain⟨rfl,rfl⟩:=ex
 obtain⟨w8,hw8⟩:=nmq (((((w9.setCell ⟨g,acc.length*5,none⟩ (.int .u8 x.k)).setCell ⟨g,acc.length*5+1,none⟩ (.string x.nm)).setCell ⟨g,acc.length*5+2,none⟩ (.int .i64 x.n)).setCell ⟨g,acc.length*5+3,none⟩ (.slice A x.args.len c)).setCell ⟨g,acc.length*5+4,none⟩ (.int .i64 x.at_))
 rw[←hw8]at hw10
 have hz8:w8.heap.size=w9.heap.size:=by rw[hw8];simp
 have hz10:w10.heap.size=w9.heap.size:=by rw[hw10];simp[hz8]
 have hf98:Fr (fun b=>b=g) w9 w8:=by rw[hw8];exact Fr.own (Fr.own (Fr.own (Fr.own (Fr.own (Fr.refl _ _) _ _) _ _) _ _) _ _) _ _
 have hf80:Fr (fun b=>b=w.heap.size+1) w8 w10:=by rw[hw10];exact Fr.own (Fr.refl _ _) _ _
 have hrow8:w8.ownsRow (w.heap.size+2) 68 5 (.slice (some ⟨g,0,none⟩) (acc.length+1) cap) (acc.length+1) (cs++exC x A c):=by
  have h1:=row_put (row_put (row_put (row_put (row_put hown (acc.length*5) (.int .u8 x.k)) (acc.length*5+1) (.string x.nm)) (acc.length*5+2) (.int .i64 x.n)) (acc.length*5+3) (.slice A x.args.len c)) (acc.length*5+4) (.int .i64 x.at_)
  rw[←hw8]at h1
  have e:(((((cs++zeroEx.toList).set (acc.length*5) (.int .u8 x.k)).set (acc.length*5+1) (.string x.nm)).set (acc.length*5+2) (.int .i64 x.n)).set (acc.length*5+3) (.slice A x.args.len c)).set (acc.length*5+4) (.int .i64 x.at_)=cs++exC x A c:=by
   rw[←hcl]
   simp[List.set_append,zeroEx,exC]
  rw[e]at h1
  exact h1
 have hW9:Fr (fun b=>v.ownBlock=some b) W w9:=Fr.grown hg fun g e _=>e
 have h79:Fr (fun b=>v.ownBlock=some b) w7 w9:=hwa.any.trans hW9
 have h7x:Fr (fun b=>v.ownBlock=some b∨b=g∨b=w.heap.size+1) w7 w10:=((h79.mono fun i _ h=>Or.inl h).trans (hf98.mono fun i _ h=>Or.inr (Or.inl h))).trans (hf80.mono fun i _ h=>Or.inr (Or.inr h))
 have hrx:Fr (fun b=>b=C.P∨v.ownBlock=some b∨b=g∨b=w.heap.size+1) wr w10:=(hf.mono fun i _ h=>Or.inl h).trans (h7x.mono fun i _ h=>Or.inr h)
 have hgn:∀b,b < w7.heap.size→v.ownBlock≠some b→b≠g:=fun b hb hn e=>by
  subst e
  rcases hsp with h|h
  ·exact hn h
  ·omega
 have hrow10:=ownsRow_setCell_below hrow8 (a:=⟨w.heap.size+1,2,none⟩) (by show w.heap.size+1 < w.heap.size+2;omega) (.slice (some ⟨g,0,none⟩) (acc.length+1) cap)
 rw[←hw10]at hrow10
 have hnew:ExRow w10 (NewR (w.heap.size+2) (.slice (some ⟨g,0,none⟩) (acc.length+1) cap) w10) (acc++ [x]) (cs++exC x A c):=by
  refine ExRow.snoc ⟨x1,x2,x3,hsx.imp fun _ _ h=>ExR.more (T:=NewR (w.heap.size+2) (.slice (some ⟨g,0,none⟩) (acc.length+1) cap) w10) (fun b hb=>?_) (ExR.keep (h7x.same fun b hb=>⟨hb.2,fun e=>?_⟩) h)⟩ (ExRow.imp (hrx.same fun b hb=>⟨hb.2.1,fun e=>?_⟩) (fun b hb=>⟨hb.1,by have:=hb.2.1;omega,fun e=>?_⟩) hx.rows)
  ·refine⟨by have:=hb.1;omega,by have:=hb.2;omega,fun e=>?_⟩
   have h1:=hb.1
   have h2:=hb.2
   have e:g=b:=by simpa[Value.ownBlock]using e
   exact hgn b h2 (fun e=>by have:=(hlt _ e).2;omega) e.symm
  ·have h1:=hb.1
   have h2:=hb.2
   rcases e with e|e|e
   ·have:=(hlt _ e).2;omega
   ·exact hgn b h2 (fun e=>by have:=(hlt _ e).2;omega) e
   ·omega
  ·have h1:=hb.1
   have h2:=hb.2.1
   have h3:=hb.2.2
   rcases e with e|e|e|e
   ·omega
   ·exact h3 e
   ·exact hgn b (by omega) h3 e
   ·omega
  ·have h2:=hb.2.1
   have e:g=b:=by simpa[Value.ownBlock]using e
   exact hgn b (by omega) hb.2.2 e.symm
 have hlen:(exsOf (acc++ [x])).len =acc.length+1:=by rw[exsOf_len];simp
 obtain⟨A',c',he,hsl⟩:=someX_end (S:=NewR (w.heap.size+2) (.slice (some ⟨g,0,none⟩) (acc.length+1) cap) w10) (by simpa using hrow10) hnew (fun b hb=>⟨hb.1,hb.2.1⟩) (by have:=hx.few;simp;omega)
 rw[hlen]at he hsl
 simp only[Value.slice.injEq,true_and]at he
 obtain⟨rfl,rfl⟩:=he
 refine⟨hp.fr h7x (fun e=>?_) (fun e=>?_) (fun i hi e=>?_),?_,?_,⟨hk8,ha,?_,⟨lrq 0,sl0,fun h=>absurd h (Nat.lt_irrefl 0)⟩,⟨lrq 0,⟨(by decide:(0:Nat)≤9223372036854775807),by exact Nat.zero_le _⟩,fun h=>absurd h (Nat.lt_irrefl 0)⟩,⟨lrq 0,⟨(by decide:(0:Nat)≤9223372036854775807),by exact Nat.zero_le _⟩,fun h=>absurd h (Nat.lt_irrefl 0)⟩⟩,?_⟩
 ·rcases e with e|e|e
  ·have:=(hlt _ e).1;omega
  ·omega
  ·omega
 ·rcases e with e|e|e
  ·have:=(hlt _ e).1;omega
  ·omega
  ·omega
 ·rcases e with e|e|e
  ·have:=(hlt _ e).1;omega
  ·omega
  ·omega
 ·have h1:Bk w8 (w.heap.size+1) 133 #[.int .u8 k,.string nm,v,.slice none 0 0,.slice none 0 0,.slice none 0 0,.int .i64 a]:=((hx.st.fr hf (fun e=>by have e:w.heap.size+1=C.P:=e;omega)).fr h79 (fun e=>by have:=(hlt _ e).1;omega)).fr hf98 fun e=>by have e:w.heap.size+1=g:=e;omega
  rw[hw10]
  have:=h1.set_ 2 (.slice (some ⟨g,0,none⟩) (acc.length+1) cap)
  simpa[stC,hlen,Cds.len,Sts.len]using this
 ·exact hx.res.fr hrx fun e=>by
   rcases e with e|e|e|e
   ·omega
   ·have:=(hlt _ e).1;omega
   ·omega
   ·omega
 ·show SlR _ (exsOf (acc++ [x])).len 64 _ _
  rw[hlen]
  exact hsl.imp fun _ _ h=>ExR.more (fun b hb=>⟨hb.1,hb.2,by have:=hb.1;omega⟩) h
 ·refine((hx.fr.mono (T':=fun b=>b=C.P∨v.ownBlock=some b∨b=g∨b=w.heap.size+1) fun i _ h=>?_).trans hrx).mono fun i hi e=>?_
  ·rcases h with h|h
   ·exact .inl h
   ·exact .inr (.inr (.inr h))
  ·rcases e with e|e|e|e
   ·exact .inl e
   ·have:=(hlt _ e).1;omega
   ·omega
   ·exact .inr e
theorem setCell_comm {w:World} {p q:Addr} (h:p.block≠q.block) (u v:Value):(w.setCell p u).setCell q v=(w.setCell q v).setCell p u:=by
 unfold World.setCell
 congr 1
 apply Array.ext_getElem?
 intro i
 simp only[Array.getElem?_modify]
 by_cases h1:p.block=i<;>by_cases h2:q.block=i
 ·exact absurd (h1.trans h2.symm) h
 ·simp[h1,h2]
 ·simp[h1,h2]
 ·simp[h1,h2]
theorem SetX.stepN {C:Pcx} {w wr w7 w9:World} {d:Nat} {k a:Int} {nm:ByteArray} {v:Value} {acc:List Ex} {cs:List Value} {r r2:List Tk} {x:Ex} {A:Option Addr} {c g cap:Nat} {o0 o1 o2 o3 o4 m:Nat} (ho:o0=acc.length*5∧o1=acc.length*5+1∧o2=acc.length*5+2∧o3=acc.length*5+3∧o4=acc.length*5+4∧m=acc.length+1)
  (hL:C.P < w.heap.size∧C.TB < w.heap.size∧C.W0.heap.size≤w.heap.size) (hk8:in8 k) (ha:in64 a)
  (hx:SetX C w d k nm a v acc cs r wr) (hv:ExV w7 wr.heap.size (exV x.k x.nm x.n A x.args.len c x.at_) x) (hp:PaAt C w7 r2 d) (hf:Fr C.T wr w7) (W:World) (hwa:Fr NoT w7 W)
  (hown:w9.ownsRow (w.heap.size+2) 68 5 (.slice (some ⟨g,0,none⟩) (acc.length+1) cap) (acc.length+1) (cs++zeroEx.toList))
  (hg:W.grownBy w9 v.ownBlock) (hsp:v.ownBlock=some g∨g=W.heap.size) (w10:World)
  (hw10:w10=(((((w9.setCell ⟨g,o0,none⟩ (.int .u8 x.k)).setCell ⟨g,o1,none⟩ (.string x.nm)).setCell ⟨g,o2,none⟩ (.int .i64 x.n)).setCell ⟨g,o3,none⟩ (.slice A x.args.len c)).setCell ⟨g,o4,none⟩ (.int .i64 x.at_)).setCell ⟨w.heap.size+1,2,none⟩ (.slice (some ⟨g,0,none⟩) m cap)∨
   w10=(((((w9.setCell ⟨w.heap.size+1,2,none⟩ (.slice (some ⟨g,0,none⟩) m cap)).setCell ⟨g,o0,none⟩ (.int .u8 x.k)).setCell ⟨g,o1,none⟩ (.string x.nm)).setCell ⟨g,o2,none⟩ (.int .i64 x.n)).setCell ⟨g,o3,none⟩ (.slice A x.args.len c)).setCell ⟨g,o4,none⟩ (.int .i64 x.at_)):
  SetY C w d ⟨k,nm,exsOf (acc++ [x]),.nil,.nil,.nil,a⟩ ⟨some ⟨g,0,none⟩,cap,none,0,none,0,none,0⟩ r2 w10:=by
 obtain⟨rfl,rfl,rfl,rfl,rfl,rfl⟩:=ho
 have hgl:=hown.lt g rfl
 refine SetX.step hL hk8 ha hx hv hp hf W hwa hown hg hsp w10 ?_
 rcases hw10 with h|h
 ·exact h
 ·have hne:∀j,(⟨w.heap.size+1,2,none⟩:Addr).block ≠(⟨g,j,none⟩:Addr).block :=fun j e=>by
   have e:w.heap.size+1=g:=e
   omega
  rw[h,setCell_comm (hne _),setCell_comm (hne _),setCell_comm (hne _),setCell_comm (hne _),setCell_comm (hne _)]

theorem row_shape {w:World} {base:Nat} {e:TypeId} {size:Nat} {v:Value} {n:Nat} {xs:List Value} (h:w.ownsRow base e size v n xs):∃A c,v= .slice A n c∧n≤c∧c≤9223372036854775807:=by
 rcases h.2 with⟨rfl,rfl⟩|⟨g,cap,cur,rfl,_,_,h1,h2,_⟩
 ·exact⟨none,0,rfl,lrq _,by decide⟩
 ·exact⟨_,_,rfl,h1,by unfold maxLen at h2;omega⟩
theorem row_zero7 {w:World} {base:Nat} {e:TypeId} {g cap n:Nat} {cs:List Value} (h:w.ownsRow base e 7 (.slice (some ⟨g,0,none⟩) (n+1) cap) (n+1) (cs++zeroSt.toList)) (hl:cs.length=n*7):
  w.cell? ⟨g,n*7,none⟩=some (.int .u8 0)∧w.cell? ⟨g,n*7+1,none⟩=some (.string ⟨#[]⟩)∧w.cell? ⟨g,n*7+2,none⟩=some (.slice none 0 0)∧w.cell? ⟨g,n*7+3,none⟩=some (.slice none 0 0)∧w.cell? ⟨g,n*7+4,none⟩=some (.slice none 0 0)∧w.cell? ⟨g,n*7+5,none⟩=some (.slice none 0 0)∧w.cell? ⟨g,n*7+6,none⟩=some (.int .i64 0)∧∀j,w.frozen? ⟨g,j,none⟩=false:=by
 have key:∀j,j < 7→w.cell? ⟨g,n*7+j,none⟩=zeroSt.toList[j]?:=fun j hj=>by
  rw[h.cellAt (n*7+j) (by omega),List.getElem?_append_right (by omega),hl,Nat.add_sub_cancel_left]
 exact⟨key 0 (by omega),key 1 (by omega),key 2 (by omega),key 3 (by omega),key 4 (by omega),key 5 (by omega),key 6 (by omega),fun j=>h.frozenAt j⟩
theorem BlkX.stepN {C:Pcx} {w wr w7 w9:World} {d:Nat} {R:PR (List St)} {one:List Tk→PR St} {lb pb f:Nat} {v:Value} {acc:List St} {cs:List Value} {r r2:List Tk} {x:St} {p:Loc} {g cap m:Nat} (hm:m=acc.length)
  (hL:C.P < w.heap.size∧C.TB < w.heap.size∧C.W0.heap.size≤w.heap.size) (hlb:lb < w.heap.size) (hlP:lb≠C.P) (hlT:lb≠C.TB) (hl0:C.W0.heap.size≤lb)
  (hx:BlkX C w d R one lb pb v wr acc cs r) (hR:R=stmtsF one f (acc++ [x]) r2) (hrf:r2.length≤f) (hr2:r2.length < r.length)
  (hv:StS w7 (New wr.heap.size w7) x p) (hp:PaAt C w7 r2 d) (hf:Fr C.T wr w7) (W:World) (hwa:Fr NoT w7 W)
  (hown:w9.ownsRow w.heap.size 133 7 (.slice (some ⟨g,0,none⟩) (m+1) cap) (m+1) (cs++zeroSt.toList))
  (hg:W.grownBy w9 v.ownBlock) (hsp:v.ownBlock=some g∨g=W.heap.size) (w10:World)
  (hw10:w10=(((((((w9.setCell ⟨g,m*7,none⟩ (.int .u8 x.k)).setCell ⟨g,m*7+1,none⟩ (.string x.nm)).setCell ⟨g,m*7+2,none⟩ (.slice p.A x.args.len p.c)).setCell ⟨g,m*7+3,none⟩ (.slice p.B x.cond.len p.q)).setCell ⟨g,m*7+4,none⟩ (.slice p.D x.body.len p.e)).setCell ⟨g,m*7+5,none⟩ (.slice p.E x.els.len p.f)).setCell ⟨g,m*7+6,none⟩ (.int .i64 x.at_)).setCell ⟨lb,0,none⟩ (.slice (some ⟨g,0,none⟩) (m+1) cap)∨
   w10=(((((((w9.setCell ⟨lb,0,none⟩ (.slice (some ⟨g,0,none⟩) (m+1) cap)).setCell ⟨g,m*7,none⟩ (.int .u8 x.k)).setCell ⟨g,m*7+1,none⟩ (.string x.nm)).setCell ⟨g,m*7+2,none⟩ (.slice p.A x.args.len p.c)).setCell ⟨g,m*7+3,none⟩ (.slice p.B x.cond.len p.q)).setCell ⟨g,m*7+4,none⟩ (.slice p.D x.body.len p.e)).setCell ⟨g,m*7+5,none⟩ (.slice p.E x.els.len p.f)).setCell ⟨g,m*7+6,none⟩ (.int .i64 x.at_)):
  BlkX C w d R one lb pb (.slice (some ⟨g,0,none⟩) (acc.length+1) cap) w10 (acc++ [x]) (cs++stC x p) r2:=by
 subst hm
 have hgl:=hown.lt g rfl
 refine BlkX.step hL hlb hlP hlT hl0 hx hR hrf hr2 hv hp hf W hwa hown hg hsp w10 ?_
 rcases hw10 with h|h
 ·exact h
 ·have hne:∀j,(⟨lb,0,none⟩:Addr).block ≠(⟨g,j,none⟩:Addr).block :=fun j e=>by
   have e:lb=g:=e
   omega
  rw[h,setCell_comm (hne _),setCell_comm (hne _),setCell_comm (hne _),setCell_comm (hne _),setCell_comm (hne _),setCell_comm (hne _),setCell_comm (hne _)]
theorem BlkX.next {C:Pcx} {w wr w2:World} {d:Nat} {R:PR (List St)} {one:List Tk→PR St} {lb pb:Nat} {v:Value} {acc:List St} {cs:List Value} {r:List Tk} (hL:C.P < w.heap.size) (hlP:lb≠C.P) (hx:BlkX C w d R one lb pb v wr acc cs r) (hf:Fr C.T wr w2) (hp:PaAt C w2 r d):BlkX C w d R one lb pb v w2 acc cs r:=
 ⟨hx.eq,hx.lcell.fr hf hlP,row_keep hx.row hf hL,hx.rows.imp (hf.same fun b hb=>⟨hb.2.1,fun e=>by have e:b=C.P:=e;have:=hb.1;omega⟩) (fun b hb=>⟨hb.1,ltq hb.2.1 hf.size,hb.2.2⟩),hx.few,hp,hx.fr.trans (PT.l hf)⟩
theorem blk_less {C:Pcx} {w wr W:World} {d:Nat} {R:PR (List St)} {one:List Tk→PR St} {lb pb:Nat} {v v':Value} {acc acc':List St} {cs cs':List Value} {r r':List Tk} (h:BlkX C w d R one lb pb v' W acc' cs' r') (hx:BlkX C w d R one lb pb v wr acc cs r) (hl:r'.length < r.length):lenP C W < lenP C wr:=by
 rw[h.pa.lenP,hx.pa.lenP]
 exact hl
end Go.Proofs.YtphlnpaikpjakaaGreatDoor
