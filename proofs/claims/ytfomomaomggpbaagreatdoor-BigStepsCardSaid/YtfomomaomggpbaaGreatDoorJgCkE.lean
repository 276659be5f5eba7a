/- check: the map of what has a name, as a function. -/
import Derived.Test.YtfomomaomggpbaaGreatDoorJnCkC
import Derived.Test.YtfomomaomggpbaaGreatDoorJgInE
import Derived.StillTail
import Derived.StillTailTactics
set_option linter.all false
set_option maxHeartbeats 3200000
set_option maxRecDepth 100000
namespace Go.Proofs.YtfomomaomggpbaaGreatDoor
open Go.RowKit Go.Shelf Go.Maps
abbrev Kn:=List UInt8->Option (Int×Int)
def thV (v:Int×Int):Value:= .agg #[.int .u8 v.1,.int .i64 v.2]
def Kn.put (kn:Kn)(t:List UInt8)(v:Int×Int):Kn:=λx=>if x=t then some v else kn x
def Kn.del (kn:Kn)(t:List UInt8):Kn:=λx=>if x=t then none else kn x
def KnM (w:World)(b n:Nat)(kn:Kn):Prop:=
 ∃D,w.ownsMap Tryz.prog 9 zdw b n D/\∀t:List UInt8,Maps.has D (.string t)=(kn t).isSome /\(∀v,kn t=some v->∀z,D.atKey (.string t) z= .held (thV v))/\(kn t=none->∀z,D.atKey (.string t) z=z)
theorem KnM.made (w:World):KnM (w.alloc (.map #[] 0)) w.heap.size 0 λ_=>none:=⟨_,World.ownsMap_made _ _ _ _,λt=>⟨rfl,λv h=>by simp at h,λ_ z=>rfl⟩⟩
theorem zlQ {s:ByteArray}(h:s.size<=9223372036854775807):keyOf Tryz.prog 9 (.string s)=some (.string s.data.toList):=
 WideMaps.keyOf_string_mk (P:=Tryz.prog) Tryz.underlying9 (s:=s) (by unfold maxLen;omega)
theorem KnM.lt {w:World}{b n:Nat}{kn:Kn}(h:KnM w b n kn):b < w.heap.size:=by
 obtain⟨D,Hb,_⟩:=h;exact Hb.lt
theorem KnM.put {w:World}{b n:Nat}{kn:Kn}(h:KnM w b n kn){s:ByteArray}(hs:s.size<=9223372036854775807)(v:Int×Int)(hn:n < maxLen):
  ∃w',(Instr.mapUpdate 135 (.map (some b)) (.string s) (thV v)).run Tryz.prog w= .ok () w'/\KnM w' b (n+1) (kn.put s.data.toList v)/\w.grownBy w' (some b):=by
 obtain⟨D,Hb,hD⟩:=h;obtain⟨w',GH,KY,hg⟩:=Hb.update strKey Tryz.underlying135 hn (zlQ hs) (val:=thV v) (d:= .held (thV v)) (ps:= []) rfl;refine⟨w',GH,⟨_,KY,λx=>?_⟩,hg⟩;have kx:WideAt.IsKeyLit (.string s.data.toList):=strKey.key (zlQ hs);unfold Kn.put;by_cases e:x=s.data.toList
 ·subst e;simp only[if_true];refine⟨by rw[has_put_same Hb.isMap kx];rfl,λu hu z=>?_,λhu=>by simp at hu⟩;rw[atKey_put_same Hb.isMap kx];simp at hu;rw[hu]
 ·have e2:(Lit.string x)≠ .string s.data.toList:=λh=>e (by simpa using h);simp only[if_neg e];refine⟨by rw[has_put_other e2,(hD x).1],λu hu z=>?_,λhu z=>?_⟩
  ·rw[atKey_put_other e2];exact(hD x).2.1 u hu z
  ·rw[atKey_put_other e2];exact(hD x).2.2 hu z
theorem zjZ (w:World):(zeroValue 140).run Tryz.prog w= .ok (.agg #[.int .u8 0,.int .i64 0]) w:=by kernel_rfl
theorem KnM.look {w:World}{b n:Nat}{kn:Kn}(h:KnM w b n kn){s:ByteArray}(hs:s.size<=9223372036854775807):
  (Instr.lookup 135 (.map (some b)) (.string s) true).run Tryz.prog w= .ok (.tuple #[thV ((kn s.data.toList).getD (0,0)),.bool (kn s.data.toList).isSome]) w:=by
 obtain⟨D,Hb,hD⟩:=h;obtain⟨v,ps,GH,hv⟩:=Hb.look_ok strKey Tryz.underlying135 (zjZ w) (zd:= .held _) (zp:= []) rfl (zlQ hs);rw[(hD s.data.toList).1]at GH;rw[GH];cases hl:kn s.data.toList with
 |none=>
  rw[(hD s.data.toList).2.2 hl]at hv;simp only[zdw,Option.some.injEq,Prod.mk.injEq,DataW.held.injEq]at hv;rw[hv.1];rfl
 |some u=>
  rw[(hD s.data.toList).2.1 u hl]at hv;simp only[zdw,Option.some.injEq,Prod.mk.injEq,DataW.held.injEq]at hv;rw[hv.1];rfl
theorem KnM.drop {w:World}{b n:Nat}{kn:Kn}(h:KnM w b n kn){s:ByteArray}(hs:s.size<=9223372036854775807)(ty:TypeId):
  ∃w',(Builtin.delete_ #[135,9] ty #[.map (some b),.string s]).run Tryz.prog w= .ok (.tuple #[]) w'/\KnM w' b n (kn.del s.data.toList)/\w.grownBy w' (some b):=by
 obtain⟨D,Hb,hD⟩:=h;obtain⟨w',GH,KY,hg⟩:=Hb.drop strKey Tryz.underlying135 (zlQ hs) ty;refine⟨w',GH,⟨_,KY,λx=>?_⟩,hg.grown⟩;unfold Kn.del;by_cases e:x=s.data.toList
 ·subst e;simp only[if_true];exact⟨has_del_same,λu hu=>by simp at hu,λ_ z=>atKey_del_same z⟩
 ·have e2:(Lit.string x)≠ .string s.data.toList:=λh=>e (by simpa using h);simp only[if_neg e];refine⟨by rw[has_del_other e2,(hD x).1],λu hu z=>?_,λhu z=>?_⟩
  ·rw[atKey_del_other e2];exact(hD x).2.1 u hu z
  ·rw[atKey_del_other e2];exact(hD x).2.2 hu z
structure CkAt (w:World)(P b n:Nat)(kn:Kn)(st:Int×Int):Prop where
 box:Bk w P 137 #[.map (some b),.int .i64 st.1,.int .i64 st.2]
 map:KnM w b n kn
 ne:P≠b
def CkT (P b:Nat):Nat->Prop:=λx=>x=P\/x=b
theorem KnM.fr {w w':World}{b n:Nat}{kn:Kn}{T:Nat->Prop}(h:KnM w b n kn)(hf:Fr T w w')(ht:¬T b):KnM w' b n kn:=by
 obtain⟨D,⟨es,clock,hb,F,hs,hd⟩,hD⟩:=h;exact⟨D,⟨es,clock,(hf.block b (Array.getElem?_eq_some_iff.1 hb).1 ht).trans hb,F,hs,hd⟩,hD⟩
theorem CkAt.fr {w w':World}{P b n:Nat}{kn:Kn}{st:Int×Int}{T:Nat->Prop}(h:CkAt w P b n kn st)(hf:Fr T w w')(h1:¬T P)(h2:¬T b):CkAt w' P b n kn st:=
 ⟨h.box.fr hf h1,h.map.fr hf h2,h.ne⟩
theorem CkAt.fr0 {w w':World}{P b n:Nat}{kn:Kn}{st:Int×Int}(h:CkAt w P b n kn st)(hf:Fr NoT w w'):CkAt w' P b n kn st:=h.fr hf id id
def zfs (st p:Int×Int):Int×Int:=if st.2=0 then p else st
def askC (st:Int×Int)(is:Bool)(p:Int×Int):Int×Int:=if is then st else zfs st p
def zmP (P b n:Nat)(kn:Kn)(st:Int×Int)(W:World)(e:Ending)(w':World):Prop:=e= .returned (.tuple #[])/\CkAt w' P b n kn st/\Fr (CkT P b) W w'
theorem zj0 (P b n:Nat)(kn:Kn)(st:Int×Int)(at_ er:Int)(w:World)(h:CkAt w P b n kn st):
  Calls Tryz.prog 99 #[.pointer (some ⟨P,0,none⟩),.int .i64 at_,.int .i64 er] w (zmP P b n kn (zfs st (at_,er)) w):=by
 obtain⟨a,e⟩:=st;have hb:=h.box;have c0:=hb.cell 0;have c1:=hb.cell 1;have c2:=hb.cell 2;have f1:=hb.frozen 1;have f2:=hb.frozen 2;have hl:=hb.lt;simp only[getsL]at c0 c1 c2;have H:=hdq h;clear h hb;by_cases he:e=0
 ·subst he;go_enter Tryz.func99,Tryz.ntmps99;go_wp2_with fail;go_end0;refine⟨rfl,⟨?_,?_,H.ne⟩,?_⟩
  ·have:=(H.box.set_ 1 (.int .i64 at_)).set_ 2 (.int .i64 er);simpa[zfs]using this
  ·exact H.map.fr (T:=λx=>x=P) (Fr.own (Fr.own (Fr.refl _ _) _ _) _ _) (λe=>H.ne e.symm)
  ·exact(Fr.own (Fr.own (Fr.refl _ _) _ _) _ _).mono λi _ h=> .inl h
 ·have e1:(e==0)=false:=by simpa using he
  have hf:zfs (a,e) (at_,er)=(a,e):=by unfold zfs;rw[if_neg he]
  rw[hf];clear he hf;go_enter Tryz.func99,Tryz.ntmps99;go_wp2_with fail;go_end0;exact⟨rfl,H.out,Fr.refl _ _⟩
theorem zdB (P b n:Nat)(kn:Kn)(st:Int×Int)(is:Bool)(at_ er:Int)(w:World)(h:CkAt w P b n kn st):
  Calls Tryz.prog 49 #[.pointer (some ⟨P,0,none⟩),.bool is,.int .i64 at_,.int .i64 er] w (zmP P b n kn (askC st is (at_,er)) w):=by
 have HC:=hdq (zj0 P b n kn st at_ er w h);have H:=hdq h;clear h;cases is
 ·go_enter Tryz.func49,Tryz.ntmps49;go_wp2_with fail;refine HC.mono ?_;rintro _ w1 ⟨rfl,h1,h2⟩;have HH:=hdq (aiq h1 h2);clear h1 h2;go_wp2_with fail;go_end0;exact⟨rfl,HH.out⟩
 ·go_enter Tryz.func49,Tryz.ntmps49;go_wp2_with fail;go_end0;exact⟨rfl,H.out,Fr.refl _ _⟩
def useC (kn:Kn)(st:Int×Int)(t:List UInt8)(k at_:Int):Int×Int:=askC (askC st ((kn t).isSome &&((kn t).getD (0,0)).1 != 4) (at_,110)) (((kn t).getD (0,0)).1 ==k) (at_,112)
theorem zlR (P b n:Nat)(kn:Kn)(st:Int×Int)(s:ByteArray)(k at_:Int)(w:World)(h:CkAt w P b n kn st)(hs:s.size<=9223372036854775807):
  Calls Tryz.prog 102 #[.pointer (some ⟨P,0,none⟩),.string s,.int .u8 k,.int .i64 at_] w λe w'=>
   e= .returned (thV ((kn s.data.toList).getD (0,0)))/\CkAt w' P b n kn (useC kn st s.data.toList k at_)/\Fr (CkT P b) w w':=by
 obtain⟨⟨x1,x2⟩,hx⟩:=nmq ((kn s.data.toList).getD (0,0));obtain⟨q,hq⟩:=nmq ((kn s.data.toList).isSome );unfold useC;rw[<-hx,<-hq];simp only;have Hg:Fr NoT w (w.alloc (.cells #[.int .u8 0,.int .i64 0] 140)):=(Fr.refl _ _).alloc _;have JK:=(h.map.fr Hg id).look hs;rw[<-hx,<-hq]at JK;unfold thV at JK ⊢;simp only at JK ⊢;obtain⟨w2,HJ⟩:=nmq ((w.alloc (.cells #[.int .u8 0,.int .i64 0] 140)).alloc (.cells #[.int .u8 x1,.int .i64 x2] 140));have He:Fr NoT w w2:=by rw[HJ];exact Hg.alloc _
 have H9:=h.box;have c0:=H9.cell 0;have hl:=H9.lt;simp only[getsL]at c0;have Ll:=h.map.lt;have Fj:Bk w2 w.heap.size 140 #[.int .u8 0,.int .i64 0]:=by rw[HJ];exact(Bk.new _ _ _).alloc _
 have ge:Bk w2 (w.heap.size+1) 140 #[.int .u8 x1,.int .i64 x2]:=by rw[HJ];exact Bk.new_at _ _ _ (by simp)
 obtain⟨p4,LA⟩:=nmq ((x1 != 4));obtain⟨p5,Rk⟩:=nmq ((x1==k));rw[<-LA,<-Rk];have e4:=LA.symm;have e5:=Rk.symm;have H1:=hdq (λis=>zdB P b n kn st is at_ 110 w2 (h.fr0 He));have Hv:=hdq He;have GB:=hdq Fj;have GJ:=hdq ge;have Ki:=hdq HJ;have Mz:¬CkT P b w.heap.size:=λe=>by rcases e with e|e<;>omega
 have Vn:¬CkT P b (w.heap.size+1):=λe=>by rcases e with e|e<;>omega
 have J4:=hdq (aiq Mz Vn);clear hx hq h Hg He HJ Fj ge H9 LA Rk Mz Vn;cases q;all_goals
  go_enter Tryz.func102,Tryz.ntmps102;go_wp2_with fail;rw[<-Ki.out];refine(H1 _).mono ?_;rintro _ w3 ⟨rfl,h3,Ga⟩;have W7:=GJ.fr Ga J4.2;have d0:=W7.cell 0;have Jx:=W7.lt;simp only[getsL]at d0;have H3:=hdq (zdB P b n kn _ p5 at_ 112 w3 h3);have Ux:=hdq W7;have G8:=hdq (GB.fr Ga J4.1);have Ge:=hdq ((Hv.mono λ_ _ h=>h.elim:Fr (CkT P b) w w2).trans Ga);clear h3 Ga W7;go_wp2_with fail;refine H3.mono ?_;rintro _ w4 ⟨rfl,h4,Hx⟩;have W8:=Ux.fr Hx J4.2;have NK:=G8.fr Hx J4.1;have a0:=W8.cell 0;have a1:=W8.cell 1;have Ku:=W8.lt;have b0:=NK.cell 0;have b1:=NK.cell 1;have f0:=NK.frozen 0;have f1:=NK.frozen 1;have Jf:=NK.lt;simp only[getsL]at a0 a1 b0 b1;have H4:=hdq h4;have GN:=hdq (Ge.trans Hx);have M5:=(NK.set_ 0 (.int .u8 x1)).set_ 1 (.int .i64 x2);have r0:=M5.cell 0;have r1:=M5.cell 1;have FU:=M5.lt;simp only[List.getElem?_toArray,List.getElem?_cons_succ,List.getElem?_cons_zero,List.setIfInBounds_toArray,List.set_cons_zero,List.set_cons_succ]at r0 r1;clear h4 Hx W8 NK M5;go_wp2_with fail;refine bodyPost_ret (v:= .agg #[.int .u8 x1,.int .i64 x2]) (by simp[results,Tryz.results102,go_sem,r0,r1,FU]) rfl ⟨rfl,?_,?_⟩
  ·exact H4.fr (T:=λx=>x=w.heap.size) (Fr.own (Fr.own (Fr.refl _ _) _ _) _ _) (λe=>J4.1 (.inl e.symm)) (λe=>J4.1 (.inr e.symm))
  ·exact(GN.high (lrq _) 0 _).high (lrq _) 1 _
def CkN (w:World)(P b N:Nat)(kn:Kn)(st:Int×Int):Prop:=∃n,n<=N/\CkAt w P b n kn st
def zlS (kn:Kn)(t:List UInt8)(v:Int×Int):Kn:=if(kn t).isSome then kn else kn.put t v
def zgb (kn:Kn)(st:Int×Int)(t:List UInt8)(at_:Int):Int×Int:=askC st (!(kn t).isSome) (at_,111)
theorem zbv (P b N:Nat)(kn:Kn)(st:Int×Int)(s:ByteArray)(at_:Int)(v:Int×Int)(w:World)(h:CkN w P b N kn st)(hs:s.size<=9223372036854775807)(hN:N < maxLen):
  Calls Tryz.prog 48 #[.pointer (some ⟨P,0,none⟩),.string s,.int .i64 at_,thV v] w λe w'=>
   e= .returned (.tuple #[])/\CkN w' P b (N+1) (zlS kn s.data.toList v) (zgb kn st s.data.toList at_)/\Fr (CkT P b) w w':=by
 obtain⟨n,hn,h⟩:=h;obtain⟨v1,v2⟩:=v;obtain⟨⟨x1,x2⟩,hx⟩:=nmq ((kn s.data.toList).getD (0,0));obtain⟨q,hq⟩:=nmq ((kn s.data.toList).isSome );unfold zgb zlS;rw[<-hq];obtain⟨w1,Hc⟩:=nmq (w.alloc (.cells #[.int .u8 v1,.int .i64 v2] 140));have Hg:Fr NoT w w1:=by rw[Hc];exact(Fr.refl _ _).alloc _
 have JK:=(h.map.fr Hg id).look hs;rw[<-hx,<-hq,Hc]at JK;unfold thV at JK ⊢;simp only at JK ⊢;obtain⟨w2,HJ⟩:=nmq ((w.alloc (.cells #[.int .u8 v1,.int .i64 v2] 140)).alloc (.cells #[.int .u8 x1,.int .i64 x2] 140));have He:Fr NoT w w2:=by rw[HJ];exact((Fr.refl _ _).alloc _).alloc _
 have H9:=h.box;have c0:=H9.cell 0;have hl:=H9.lt;simp only[getsL]at c0;have Ll:=h.map.lt;have Ka:Bk w2 w.heap.size 140 #[.int .u8 v1,.int .i64 v2]:=by rw[HJ];exact(Bk.new _ _ _).alloc _
 have H1:=hdq (λis=>zdB P b n kn st is at_ 111 w2 (h.fr0 He));have Hv:=hdq He;have Vo:=hdq Ka;have Ki:=hdq HJ;have Mz:¬CkT P b w.heap.size:=λe=>by rcases e with e|e<;>omega
 have J4:=hdq Mz;have HN:=hdq (aiq hn hN);have HS:=hdq hs;clear hx hq h Hg He Hc HJ Ka H9 Mz hn hN;cases q;all_goals
  go_enter Tryz.func48,Tryz.ntmps48;go_wp2_with fail;rw[<-Ki.out];refine(H1 _).mono ?_;rintro _ w3 ⟨rfl,h3,Ga⟩;have Kt:=Vo.fr Ga J4.out;have d0:=Kt.cell 0;have d1:=Kt.cell 1;have Jx:=Kt.lt;have Fv:=h3.box;have p0:=Fv.cell 0;have Kv:=Fv.lt;simp only[getsL]at d0 d1 p0;obtain⟨w4,KC,h4,Sj⟩:=(h3.map.fr ((Fr.refl NoT w3).drew) id).put HS.out (v1,v2) (by have:=HN.out;omega);have H3:=hdq h3;have H4:=hdq h4;have Vp:=hdq Sj;have Ge:=hdq ((Hv.mono λ_ _ h=>h.elim:Fr (CkT P b) w w2).trans Ga);unfold thV at KC;simp only at KC;clear h3 Ga Kt Fv h4 Sj
 ·go_wp2_with fail;refine wp_region_still_tail 6 (by kernel_rfl) (by kernel_rfl) ?_;simp only[List.take_succ_cons,List.take_zero,List.drop_succ_cons,List.drop_zero]
  repeat still_step
  try refine wpStill_nil ?_
  go_wp2_with fail;go_end0;have Hx:Fr (CkT P b) w3 w4:=((Fr.refl _ _).drew).trans (Fr.grown Vp.out λg e _=> .inr (Option.some.inj e).symm);have P0:=H3.box.fr (((Fr.refl (λx=>x=b) w3).drew).trans (Fr.grown Vp.out λg e _=>(Option.some.inj e).symm)) H3.ne;exact⟨rfl,⟨n+1,by have:=HN.out;omega,P0,H4.out,H3.ne⟩,Ge.trans Hx⟩
 ·go_wp2_with fail;go_end0;exact⟨rfl,⟨n,by have:=HN.out;omega,H3.out⟩,Ge.out⟩
def CkP (P b N:Nat)(kn:Kn)(st:Int×Int)(W:World)(e:Ending)(w':World):Prop:=e= .returned (.tuple #[])/\CkN w' P b N kn st/\Fr (CkT P b) W w'
theorem CkN.fr0 {w w':World}{P b N:Nat}{kn:Kn}{st:Int×Int}(h:CkN w P b N kn st)(hf:Fr NoT w w'):CkN w' P b N kn st:=by
 obtain⟨n,hn,h⟩:=h;exact⟨n,hn,h.fr0 hf⟩
theorem CkN.lt {w:World}{P b N:Nat}{kn:Kn}{st:Int×Int}(h:CkN w P b N kn st):P < w.heap.size/\b < w.heap.size:=by
 obtain⟨n,hn,h⟩:=h;exact⟨h.box.lt,h.map.lt⟩
theorem zgc (P b N:Nat)(kn:Kn)(st:Int×Int)(s:ByteArray)(k at_:Int)(w:World)(h:CkN w P b N kn st)(hs:s.size<=9223372036854775807):
  Calls Tryz.prog 102 #[.pointer (some ⟨P,0,none⟩),.string s,.int .u8 k,.int .i64 at_] w λe w'=>
   e= .returned (thV ((kn s.data.toList).getD (0,0)))/\CkN w' P b N kn (useC kn st s.data.toList k at_)/\Fr (CkT P b) w w':=by
 obtain⟨n,hn,h⟩:=h;exact(zlR P b n kn st s k at_ w h hs).mono λ_ _ ⟨h1,h2,h3⟩=>⟨h1,⟨n,hn,h2⟩,h3⟩
theorem zd6 (P b N:Nat)(kn:Kn)(st:Int×Int)(is:Bool)(at_ er:Int)(w:World)(h:CkN w P b N kn st):
  Calls Tryz.prog 49 #[.pointer (some ⟨P,0,none⟩),.bool is,.int .i64 at_,.int .i64 er] w (CkP P b N kn (askC st is (at_,er)) w):=by
 obtain⟨n,hn,h⟩:=h;exact(zdB P b n kn st is at_ er w h).mono λ_ _ ⟨h1,h2,h3⟩=>⟨h1,⟨n,hn,h2⟩,h3⟩
def zaN (kn:Kn):Exs->Int×Int->Int×Int
 | .nil,st=>st
 | .cons k nm _ args at_ r,st=>zaN kn r (zaN kn args (if k=2 then useC kn st nm.data.toList 1 at_ else if k=3 then useC kn st nm.data.toList 2 at_ else st))
theorem zgR {kn:Kn}{xs:Exs}{i:Nat}{st:Int×Int}{k nm n args at_ r}(hd:Exs.drop i xs= .cons k nm n args at_ r):
  zaN kn (Exs.drop i xs) st=zaN kn (Exs.drop (i+1) xs) (zaN kn args (if k=2 then useC kn st nm.data.toList 1 at_ else if k=3 then useC kn st nm.data.toList 2 at_ else st)):=by
 rw[Exs.drop_succ i xs hd,hd];rfl
def CX (kn:Kn)(xs:Exs):Prop:=∀(P b N:Nat)(st:Int×Int)(W:World)(S:Nat->Prop)(Z:Prop)(A:Option Addr)(c:Nat),CkN W P b N kn st->(∀x,S x->x < W.heap.size/\¬CkT P b x)->SlR (λb o=>ExR W S Z xs b o) xs.len 64 A c->
 Calls Tryz.prog 103 #[.pointer (some ⟨P,0,none⟩),.slice A xs.len c] W (CkP P b N kn (zaN kn xs st) W)
def CXI (kn:Kn)(xs:Exs):Prop:=∀(i:Nat)(a0:Int)(a1:ByteArray)(a2:Int)(a3:Exs)(a4:Int)(ar:Exs),Exs.drop i xs= .cons a0 a1 a2 a3 a4 ar->a1.size<=9223372036854775807/\CX kn a3
theorem zmQ (kn:Kn)(xs:Exs)(Fq:CXI kn xs):CX kn xs:=by
 intro P b N st w S Z A c hc hS hx;have hl:xs.len<=9223372036854775807:=leq9 hx.1 hx.2.1.1;have HA:=hdq Fq;have HX:=hdq hx;have HS:=hdq hS;have HC:=hdq hc;obtain⟨m,hm⟩:=nmq xs.len;rw[<-hm]at hl ⊢;have HM:=hdq hm;obtain⟨F,hF⟩:=nmq (zaN kn xs st);rw[<-hF];have HF:=hdq hF;clear Fq hx hS hm hc hF;go_enter Tryz.func103,Tryz.ntmps103;go_wp2_with fail;go_loopw [8] (λi wr=>∃(k:Nat)(s:Int×Int),k<=m/\i= .int .i64 k/\Hid (Fr (CkT P b) w wr)/\Hid (CkN wr P b N kn s)/\Hid (F=zaN kn (Exs.drop k xs) s)) (λi _=>m - (intOf i).toNat);case atStart=>exact⟨0,st,Nat.zero_le _,rfl,Fr.refl _ _,HC.out,HF.out⟩
 case round=>
  obtain⟨k,s,hk,rfl,hb,Fs,Ha⟩:=hrel;by_cases Hl:k < m
  ·obtain⟨a0,a1,a2,a3,a4,ar,hd⟩:=Exs.drop_cons (show k < xs.len from by rw[<-HM.out];exact Hl);obtain⟨B,o,rfl,Hh⟩:=HX.2.2 (by rw[<-HM.out];omega);have Hm:=(ExR.keep (hb.same λb hb=>HS b hb) Hh).drop k;rw[hd]at Hm;obtain⟨⟨Gh,_,r0,r1,r2,c0,c1,c2,c4⟩,⟨A3,q3,c3,s3⟩,_⟩:=Hm;have Jr:B < wr.heap.size:=ltq (HS _ Gh).1 hb.size;have GD:(k:Int) < (m:Int):=by omega
   have Fz:(0:Int)<=(k:Int):=by omega
   obtain⟨Ht,MB⟩:=HA k a0 a1 a2 a3 a4 ar hd;obtain⟨w2,HJ⟩:=nmq (wr.alloc (.cells #[.int .u8 a0,.string a1,.int .i64 a2,.slice A3 a3.len q3,.int .i64 a4] 175));have He:Fr NoT wr w2:=by rw[HJ];exact(Fr.refl _ _).alloc _
   have FK:Bk w2 wr.heap.size 175 #[.int .u8 a0,.string a1,.int .i64 a2,.slice A3 a3.len q3,.int .i64 a4]:=by rw[HJ];exact Bk.new _ _ _
   have HU:=hdq (λkk=>zgc P b N kn s a1 kk a4 w2 (Fs.fr0 He) Ht);have Rm:=hdq (λ(yp:Int×Int)(W:World)(hW:CkN W P b N kn yp)(h:Fr (CkT P b) wr W)=>MB P b N yp W S Z A3 q3 hW (λx hx=>⟨ltq (HS x hx).1 (hb.trans h).size,(HS x hx).2⟩) (s3.imp λ_ _ hx=>ExR.keep (h.same λx hx=>⟨ltq (HS x hx).1 hb.size,(HS x hx).2⟩) hx));have L5:=Fs.lt;have Mz:¬CkT P b wr.heap.size:=λe=>by rcases e with e|e<;>omega
   have Gi:=hdq (Ha.trans (zgR hd));have HB:=hdq hb.out;have Ls:=hdq Fs.out;have Ki:=hdq HJ;have Kh:=hdq FK;have Hv:=hdq He;have J4:=hdq Mz;clear hd Hh Ha hb Gh s3 r0 r1 r2 Fs Ht MB HJ He FK L5 Mz;by_cases h2:a0=2\/a0=3
   ·rcases h2 with rfl|rfl;all_goals
     go_wp2_with fail;rw[<-Ki.out];refine(HU _).mono ?_;rintro _ w3 ⟨rfl,h3,Ga⟩;have FV:=Kh.fr Ga J4.out;have d3:=FV.cell 3;have Jx:=FV.lt;simp only[getsL]at d3;have Ge:=hdq ((Hv.any:Fr (CkT P b) wr w2).trans Ga);have HR:=hdq (Rm _ w3 h3 Ge.out);clear h3 Ga FV c0 c1 c2 c3 c4;go_wp2_with fail;refine HR.mono ?_;rintro _ w4 ⟨rfl,h4,Hx⟩;have HN:=hdq (aiq h4 ((HB.trans Ge.out).trans Hx));clear h4 Hx d3;go_wp2_with fail;go_roundw;case rel=>exact⟨k+1,_,by omega,by go_num,HN.2,HN.1,Gi.out⟩
     case measure=>simp[intOf];omega
   ·have Yf:a0≠2:=λe=>h2 (.inl e);have Yg:a0≠3:=λe=>h2 (.inr e);have e2:(a0==2)=false:=by simpa using Yf
    have e3:(a0==3)=false:=by simpa using Yg
    have LF:=hdq (show F=zaN kn (Exs.drop (k+1) xs) (zaN kn a3 s)from by rw[Gi.out,if_neg Yf,if_neg Yg]);have HR:=hdq (Rm _ w2 (Ls.fr0 Hv.out) Hv.any);clear h2 Yf Yg;go_wp2_with fail;rw[<-Ki.out];refine HR.mono ?_;rintro _ w4 ⟨rfl,h4,Hx⟩;have HN:=hdq (aiq h4 ((HB.trans (Hv.any:Fr (CkT P b) wr w2)).trans Hx));clear h4 Hx c0 c1 c2 c3 c4;go_wp2_with fail;go_roundw;case rel=>exact⟨k+1,_,by omega,by go_num,HN.2,HN.1,LF.out⟩
    case measure=>simp[intOf];omega
  ·have HE:=hdq (show F=s from by rw[Ha.out,Exs.drop_nil (by rw[<-HM.out];omega)];rfl);have HB:=hdq hb.out;have Ls:=hdq Fs.out;clear Ha hb Fs;go_wp2_with fail;go_end0;exact⟨rfl,HE.out▸Ls.out,HB.out⟩
theorem zgS (kn:Kn):∀xs:Exs,szX xs->CXI kn xs
 | .nil,_=>λi _ _ _ _ _ _ hd=>by cases i<;>simp[Exs.drop]at hd
 | .cons k0 k1 k2 k3 k4 kr,Ht=>λi _ _ _ _ _ _ hd=>by
  cases i with
  |zero=>
   simp only[Exs.drop]at hd;injection hd with e0 e1 e2 e3 e4 e5;subst e0 e1 e2 e3 e4 e5;exact⟨Ht.1,zmQ kn k3 (zgS kn k3 Ht.2.1)⟩
  |succ i=>
   simp only[Exs.drop]at hd;exact zgS kn kr Ht.2.2 i _ _ _ _ _ _ hd
theorem zeK (kn:Kn)(xs:Exs)(Ht:szX xs):CX kn xs:=zmQ kn xs (zgS kn xs Ht)
def za5 (kn:Kn):Cds->Int×Int->Int×Int
 | .nil,st=>st
 | .cons _ args of_ _ r,st=>za5 kn r (za5 kn of_ (zaN kn args st))
theorem zgT {kn:Kn}{xs:Cds}{i:Nat}{st:Int×Int}{k args of_ at_ r}(hd:Cds.drop i xs= .cons k args of_ at_ r):
  za5 kn (Cds.drop i xs) st=za5 kn (Cds.drop (i+1) xs) (za5 kn of_ (zaN kn args st)):=by
 rw[Cds.drop_succ i xs hd,hd];rfl
def CC (kn:Kn)(xs:Cds):Prop:=∀(P b N:Nat)(st:Int×Int)(W:World)(S:Nat->Prop)(Z:Prop)(A:Option Addr)(c:Nat),CkN W P b N kn st->(∀x,S x->x < W.heap.size/\¬CkT P b x)->SlR (λb o=>CdR W S Z xs b o) xs.len 64 A c->
 Calls Tryz.prog 104 #[.pointer (some ⟨P,0,none⟩),.slice A xs.len c] W (CkP P b N kn (za5 kn xs st) W)
def CCI (kn:Kn)(xs:Cds):Prop:=∀(i:Nat)(a0:Int)(a1:Exs)(a2:Cds)(a3:Int)(ar:Cds),Cds.drop i xs= .cons a0 a1 a2 a3 ar->CX kn a1/\CC kn a2
theorem zmR (kn:Kn)(xs:Cds)(Fq:CCI kn xs):CC kn xs:=by
 intro P b N st w S Z A c hc hS hx;have hl:xs.len<=9223372036854775807:=leq9 hx.1 hx.2.1.1;have HA:=hdq Fq;have HX:=hdq hx;have HS:=hdq hS;have HC:=hdq hc;obtain⟨m,hm⟩:=nmq xs.len;rw[<-hm]at hl ⊢;have HM:=hdq hm;obtain⟨F,hF⟩:=nmq (za5 kn xs st);rw[<-hF];have HF:=hdq hF;clear Fq hx hS hm hc hF;go_enter Tryz.func104,Tryz.ntmps104;go_wp2_with fail;go_loopw [8] (λi wr=>∃(k:Nat)(s:Int×Int),k<=m/\i= .int .i64 k/\Hid (Fr (CkT P b) w wr)/\Hid (CkN wr P b N kn s)/\Hid (F=za5 kn (Cds.drop k xs) s)) (λi _=>m - (intOf i).toNat);case atStart=>exact⟨0,st,Nat.zero_le _,rfl,Fr.refl _ _,HC.out,HF.out⟩
 case round=>
  obtain⟨k,s,hk,rfl,hb,Fs,Ha⟩:=hrel;by_cases Hl:k < m
  ·obtain⟨a0,a1,a2,a3,ar,hd⟩:=Cds.drop_cons (show k < xs.len from by rw[<-HM.out];exact Hl);obtain⟨B,o,rfl,Hh⟩:=HX.2.2 (by rw[<-HM.out];omega);have Hm:=(CdR.keep (hb.same λb hb=>HS b hb) Hh).drop k;rw[hd]at Hm;obtain⟨⟨Gh,_,r0,r1,c0,c3⟩,⟨A1,q1,c1,s1⟩,⟨A2,q2,c2,s2⟩,_⟩:=Hm;have Jr:B < wr.heap.size:=ltq (HS _ Gh).1 hb.size;have GD:(k:Int) < (m:Int):=by omega
   have Fz:(0:Int)<=(k:Int):=by omega
   obtain⟨MC,MD⟩:=HA k a0 a1 a2 a3 ar hd;obtain⟨w2,HJ⟩:=nmq (wr.alloc (.cells #[.int .u8 a0,.slice A1 a1.len q1,.slice A2 a2.len q2,.int .i64 a3] 179));have He:Fr NoT wr w2:=by rw[HJ];exact(Fr.refl _ _).alloc _
   have FK:Bk w2 wr.heap.size 179 #[.int .u8 a0,.slice A1 a1.len q1,.slice A2 a2.len q2,.int .i64 a3]:=by rw[HJ];exact Bk.new _ _ _
   have Rn:∀W,Fr (CkT P b) wr W->∀x,S x->x < W.heap.size/\¬CkT P b x:=λW h x hx=>⟨ltq (HS x hx).1 (hb.trans h).size,(HS x hx).2⟩;have Ro:∀W,Fr (CkT P b) wr W->SameS S wr W:=λW h=>h.same λx hx=>⟨ltq (HS x hx).1 hb.size,(HS x hx).2⟩;have Mk:=hdq (MC P b N s w2 S Z A1 q1 (Fs.fr0 He) (Rn w2 He.any) (s1.imp λ_ _ hx=>ExR.keep (Ro w2 He.any) hx));have Rm:=hdq (λ(yp:Int×Int)(W:World)(hW:CkN W P b N kn yp)(h:Fr (CkT P b) wr W)=>MD P b N yp W S Z A2 q2 hW (Rn W h) (s2.imp λ_ _ hx=>CdR.keep (Ro W h) hx));have L5:=Fs.lt;have Mz:¬CkT P b wr.heap.size:=λe=>by rcases e with e|e<;>omega
   have Gi:=hdq (Ha.trans (zgT hd));have HB:=hdq hb.out;have Ki:=hdq HJ;have Kh:=hdq FK;have Hv:=hdq He;have J4:=hdq Mz;clear hd Hh Ha hb Gh s1 s2 r0 r1 Fs MC MD HJ He FK L5 Mz Rn Ro;go_wp2_with fail;rw[<-Ki.out];refine Mk.mono ?_;rintro _ w3 ⟨rfl,h3,Ga⟩;have FV:=Kh.fr Ga J4.out;have d3:=FV.cell 2;have Jx:=FV.lt;simp only[getsL]at d3;have Ge:=hdq ((Hv.any:Fr (CkT P b) wr w2).trans Ga);have HR:=hdq (Rm _ w3 h3 Ge.out);clear h3 Ga FV c0 c1 c2 c3;go_wp2_with fail;refine HR.mono ?_;rintro _ w4 ⟨rfl,h4,Hx⟩;have HN:=hdq (aiq h4 ((HB.trans Ge.out).trans Hx));clear h4 Hx d3;go_wp2_with fail;go_roundw;case rel=>exact⟨k+1,_,by omega,by go_num,HN.2,HN.1,Gi.out⟩
   case measure=>simp[intOf];omega
  ·have HE:=hdq (show F=s from by rw[Ha.out,Cds.drop_nil (by rw[<-HM.out];omega)];rfl);have HB:=hdq hb.out;have Ls:=hdq Fs.out;clear Ha hb Fs;go_wp2_with fail;go_end0;exact⟨rfl,HE.out▸Ls.out,HB.out⟩
theorem zgU (kn:Kn):∀xs:Cds,szC xs->CCI kn xs
 | .nil,_=>λi _ _ _ _ _ hd=>by cases i<;>simp[Cds.drop]at hd
 | .cons k0 k1 k2 k3 kr,Ht=>λi _ _ _ _ _ hd=>by
  cases i with
  |zero=>
   simp only[Cds.drop]at hd;injection hd with e0 e1 e2 e3 e4;subst e0 e1 e2 e3 e4;exact⟨zeK kn k1 Ht.1,zmR kn k2 (zgU kn k2 Ht.2.1)⟩
  |succ i=>
   simp only[Cds.drop]at hd;exact zgU kn kr Ht.2.2 i _ _ _ _ _ hd
theorem ziw (kn:Kn)(xs:Cds)(Ht:szC xs):CC kn xs:=zmR kn xs (zgU kn xs Ht)
def zgd (kn:Kn)(k:Int)(nm:List UInt8)(na:Int)(at_:Int)(st:Int×Int):Int×Int:=
 if k=2\/k=4 then useC kn st nm 1 at_ else if k=3 then useC kn st nm 2 at_ else if k=9 then askC (useC kn st nm 3 at_) (((kn nm).getD (0,0)).2 ==na) (at_,114)else st
def zay (kn:Kn):Sts->Int×Int->Int×Int
 | .nil,st=>st
 | .cons k nm args cond body els at_ r,st=>zay kn r (zay kn els (zay kn body (za5 kn cond (zaN kn args (zgd kn k nm.data.toList (args.len:Int) at_ st)))))
theorem zgV {kn:Kn}{xs:Sts}{i:Nat}{st:Int×Int}{k nm args cond body els at_ r}(hd:Sts.drop i xs= .cons k nm args cond body els at_ r):
  zay kn (Sts.drop i xs) st=zay kn (Sts.drop (i+1) xs) (zay kn els (zay kn body (za5 kn cond (zaN kn args (zgd kn k nm.data.toList (args.len:Int) at_ st))))):=by
 rw[Sts.drop_succ i xs hd,hd];rfl
structure WkAt (w:World)(P b B1 B2:Nat):Prop where
 p:Bk w B1 134 #[.pointer (some ⟨P,0,none⟩)]
 f:Bk w B2 145 #[.func (.func 101) #[] #[.pointer (some ⟨B1,0,none⟩),.pointer (some ⟨B2,0,none⟩)]]
 n1:¬CkT P b B1
 n2:¬CkT P b B2
theorem WkAt.fr {w w':World}{P b B1 B2:Nat}(h:WkAt w P b B1 B2)(hf:Fr (CkT P b) w w'):WkAt w' P b B1 B2:=⟨h.p.fr hf h.n1,h.f.fr hf h.n2,h.n1,h.n2⟩
def CS (kn:Kn)(xs:Sts):Prop:=∀(P b N B1 B2:Nat)(st:Int×Int)(W:World)(S:Nat->Prop)(Z:Prop)(A:Option Addr)(c:Nat),CkN W P b N kn st->WkAt W P b B1 B2->(∀x,S x->x < W.heap.size/\¬CkT P b x)->SlR (λb o=>StR W S Z xs b o) xs.len 128 A c->
 Calls Tryz.prog 101 #[.slice A xs.len c,.pointer (some ⟨B1,0,none⟩),.pointer (some ⟨B2,0,none⟩)] W (CkP P b N kn (zay kn xs st) W)
def CSI (kn:Kn)(xs:Sts):Prop:=∀(i:Nat)(a0:Int)(a1:ByteArray)(a2:Exs)(a3:Cds)(a4 a5:Sts)(a6:Int)(ar:Sts),Sts.drop i xs= .cons a0 a1 a2 a3 a4 a5 a6 ar->a1.size<=9223372036854775807/\CX kn a2/\CC kn a3/\CS kn a4/\CS kn a5
theorem zj1 (kn:Kn)(xs:Sts)(Fq:CSI kn xs):CS kn xs:=by
 intro P b N B1 B2 st w S Z A c hc gf hS hx;have hl:xs.len<=9223372036854775807:=leq9 hx.1 hx.2.1.1;have hent:Enters Tryz.prog 101:=enters_of Tryz.func101 (by kernel_rfl) rfl;have HA:=hdq Fq;have HX:=hdq hx;have HS:=hdq hS;have HC:=hdq hc;have kq:=hdq gf;obtain⟨m,hm⟩:=nmq xs.len;rw[<-hm]at hl ⊢;have HM:=hdq hm;obtain⟨F,hF⟩:=nmq (zay kn xs st);rw[<-hF];have HF:=hdq hF;clear Fq hx hS hm hc hF gf;unfold Enters at hent;go_enter Tryz.func101,Tryz.ntmps101;go_wp2_with fail;go_loopw [9] (λi wr=>∃(k:Nat)(s:Int×Int),k<=m/\i= .int .i64 k/\Hid (Fr (CkT P b) w wr)/\Hid (CkN wr P b N kn s)/\Hid (F=zay kn (Sts.drop k xs) s)) (λi _=>m - (intOf i).toNat);case atStart=>exact⟨0,st,Nat.zero_le _,rfl,Fr.refl _ _,HC.out,HF.out⟩
 case round=>
  obtain⟨k,s,hk,rfl,hb,Fs,Ha⟩:=hrel;by_cases Hl:k < m
  ·obtain⟨a0,a1,a2,a3,a4,a5,a6,ar,hd⟩:=Sts.drop_cons (show k < xs.len from by rw[<-HM.out];exact Hl);obtain⟨B,o,rfl,Hh⟩:=HX.2.2 (by rw[<-HM.out];omega);have Hm:=(StR.keep (hb.same λb hb=>HS b hb) Hh).drop k;rw[hd]at Hm;obtain⟨⟨Gh,_,r0,r1,c0,c1,c6⟩,⟨A2,q2,c2,s2⟩,⟨A3,q3,c3,s3⟩,⟨A4,q4,c4,s4⟩,⟨A5,q5,c5,s5⟩,_⟩:=Hm;have Jr:B < wr.heap.size:=ltq (HS _ Gh).1 hb.size;have GD:(k:Int) < (m:Int):=by omega
   have Fz:(0:Int)<=(k:Int):=by omega
   have KT:a2.len<=9223372036854775807:=leq9 s2.1 s2.2.1.1;obtain⟨Ht,MC,MD,Sk,Sl⟩:=HA k a0 a1 a2 a3 a4 a5 a6 ar hd;obtain⟨w2,HJ⟩:=nmq (wr.alloc (.cells #[.int .u8 a0,.string a1,.slice A2 a2.len q2,.slice A3 a3.len q3,.slice A4 a4.len q4,.slice A5 a5.len q5,.int .i64 a6] 51));have He:Fr NoT wr w2:=by rw[HJ];exact(Fr.refl _ _).alloc _
   have FK:Bk w2 wr.heap.size 51 #[.int .u8 a0,.string a1,.slice A2 a2.len q2,.slice A3 a3.len q3,.slice A4 a4.len q4,.slice A5 a5.len q5,.int .i64 a6]:=by rw[HJ];exact Bk.new _ _ _
   have Rn:∀W,Fr (CkT P b) wr W->∀x,S x->x < W.heap.size/\¬CkT P b x:=λW h x hx=>⟨ltq (HS x hx).1 (hb.trans h).size,(HS x hx).2⟩;have Ro:∀W,Fr (CkT P b) wr W->SameS S wr W:=λW h=>h.same λx hx=>⟨ltq (HS x hx).1 hb.size,(HS x hx).2⟩;have N5:=kq.fr hb.out;have HU:=hdq (λkk=>zgc P b N kn s a1 kk a6 w2 (Fs.fr0 He) Ht);have Mk:=hdq (λ(yp:Int×Int)(W:World)(hW:CkN W P b N kn yp)(h:Fr (CkT P b) wr W)=>MC P b N yp W S Z A2 q2 hW (Rn W h) (s2.imp λ_ _ hx=>ExR.keep (Ro W h) hx));have GB:=hdq (λ(yp:Int×Int)(W:World)(hW:CkN W P b N kn yp)(h:Fr (CkT P b) wr W)=>MD P b N yp W S Z A3 q3 hW (Rn W h) (s3.imp λ_ _ hx=>CdR.keep (Ro W h) hx));have G8:=hdq (λ(yp:Int×Int)(W:World)(hW:CkN W P b N kn yp)(h:Fr (CkT P b) wr W)=>Sk P b N B1 B2 yp W S Z A4 q4 hW (N5.fr h) (Rn W h) (s4.imp λ_ _ hx=>StR.keep (Ro W h) hx));have KH:=hdq (λ(yp:Int×Int)(W:World)(hW:CkN W P b N kn yp)(h:Fr (CkT P b) wr W)=>Sl P b N B1 B2 yp W S Z A5 q5 hW (N5.fr h) (Rn W h) (s5.imp λ_ _ hx=>StR.keep (Ro W h) hx));have L5:=Fs.lt;have Mz:¬CkT P b wr.heap.size:=λe=>by rcases e with e|e<;>omega
   have Gi:=hdq (Ha.trans (zgV hd));have F8:=N5.p.cell 0;have KZ:=N5.p.lt;simp only[getsL]at F8;have KD:=hdq N5;have HB:=hdq hb.out;have Ls:=hdq Fs.out;have Ki:=hdq HJ;have Kh:=hdq FK;have Hv:=hdq He;have J4:=hdq Mz;clear hd Hh Ha hb Gh s2 s3 s4 s5 r0 r1 Fs Ht MC MD Sk Sl HJ He FK L5 Mz Rn Ro N5;have K0:(a0=2\/a0=4\/a0=3)\/a0=9\/(a0≠2/\a0≠4/\a0≠3/\a0≠9):=by omega
   rcases K0 with h2|rfl|⟨n2,n4,n3,n9⟩
   ·have LF:∃kk,Hid (F=zay kn (Sts.drop (k+1) xs) (zay kn a5 (zay kn a4 (za5 kn a3 (zaN kn a2 (useC kn s a1.data.toList kk a6))))))/\kk=(if a0=3 then 2 else 1):=by
     rcases h2 with rfl|rfl|rfl;all_goals exact⟨_,Gi.out,rfl⟩
    obtain⟨kk,K1,Kz⟩:=LF;clear Gi;rcases h2 with rfl|rfl|rfl;all_goals
     simp at Kz;subst Kz;go_wp2_with fail;rw[<-Ki.out];refine(HU _).mono ?_;rintro _ w3 ⟨rfl,h3,Ga⟩;have Ge:=hdq ((Hv.any:Fr (CkT P b) wr w2).trans Ga);have FV:=Kh.fr Ga J4.out;have HR:=hdq (Mk _ w3 h3 Ge.out);have d2:=FV.cell 2;have Jx:=FV.lt;have GL:=KD.fr Ge.out;have g1:=GL.p.cell 0;have g2:=GL.p.lt;simp only[getsL]at d2 g1;have LP:=hdq FV;clear h3 Ga FV GL c0 c1 c2 c3 c4 c5 c6;go_wp2_with fail;refine HR.mono ?_;rintro _ w4 ⟨rfl,h4,Hx⟩;have GN:=hdq (Ge.trans Hx);have Ft:=LP.fr Hx J4.out;have HR:=hdq (GB _ w4 h4 GN.out);have d4:=Ft.cell 3;have Ku:=Ft.lt;have Fb:=KD.fr GN.out;have g4:=Fb.p.cell 0;have yX:=Fb.p.lt;simp only[getsL]at d4 g4;have Lr:=hdq Ft;clear h4 Hx Ft Fb d2 g1 g2;go_wp2_with fail;refine HR.mono ?_;rintro _ w5 ⟨rfl,h5,Hj⟩;have Gl:=hdq (GN.trans Hj);have Gb:=Lr.fr Hj J4.out;have HR:=hdq (G8 _ w5 h5 Gl.out);have d5:=Gb.cell 4;have Jf:=Gb.lt;have FY:=KD.fr Gl.out;have g5:=FY.f.cell 0;have yY:=FY.f.lt;simp only[getsL]at d5 g5;have JU:=hdq Gb;clear h5 Hj Gb FY d4 g4 yX;go_wp2_with fail;refine HR.mono ?_;rintro _ w6 ⟨rfl,h6,Gt⟩;have G1:=hdq (Gl.trans Gt);have G5:=JU.fr Gt J4.out;have HR:=hdq (KH _ w6 h6 G1.out);have d6:=G5.cell 5;have FU:=G5.lt;have Fx:=KD.fr G1.out;have g6:=Fx.f.cell 0;have yZ:=Fx.f.lt;simp only[getsL]at d6 g6;have JL:=hdq G5;clear h6 Gt G5 Fx d5 g5 yY;go_wp2_with fail;refine HR.mono ?_;rintro _ w7 ⟨rfl,h7,Hp⟩;have HN:=hdq (aiq h7 ((HB.trans G1.out).trans Hp));clear h7 Hp d6 g6 yZ;go_wp2_with fail;go_roundw
     case rel=>exact⟨k+1,_,by omega,by go_num,HN.2,HN.1,K1.out⟩
     case measure=>simp[intOf];omega
   ·obtain⟨⟨x1,x2⟩,hx⟩:=nmq ((kn a1.data.toList).getD (0,0));obtain⟨p9,Kp⟩:=nmq ((x2==(a2.len:Int)));have K1:=hdq (show F=zay kn (Sts.drop (k+1) xs) (zay kn a5 (zay kn a4 (za5 kn a3 (zaN kn a2 (askC (useC kn s a1.data.toList 3 a6) p9 (a6,114))))))from by
     rw[Gi.out,Kp,show x2=((kn a1.data.toList).getD (0,0)).2 from by rw[<-hx]];rfl)
    have hu:=HU 3;rw[<-hx]at hu;unfold thV at hu;simp only at hu;have ks:=hdq hu;have e9:=Kp.symm;clear Gi hu hx Kp;go_wp2_with fail;rw[<-Ki.out];refine ks.mono ?_;rintro _ w3 ⟨rfl,h3,Ga⟩;have Ge:=hdq ((Hv.any:Fr (CkT P b) wr w2).trans Ga);have FV:=Kh.fr Ga J4.out;obtain⟨w3a,Tc⟩:=nmq (w3.alloc (.cells #[.int .u8 x1,.int .i64 x2] 140));have Rp:Fr NoT w3 w3a:=by rw[Tc];exact(Fr.refl _ _).alloc _
    have Td:=hdq (zd6 P b N kn _ p9 a6 114 w3a (h3.fr0 Rp));have Yh:=hdq Tc;have Yi:=hdq (Ge.trans Rp.any);have d2:=FV.cell 2;have d6:=FV.cell 6;have Jx:=FV.lt;have GL:=KD.fr Ge.out;have g1:=GL.p.cell 0;have g2:=GL.p.lt;simp only[getsL]at d2 d6 g1;have Yj:=hdq (FV.fr0 Rp);clear h3 Ga FV GL c0 c1 c2 c3 c4 c5 c6 Tc Rp Ge;go_wp2_with fail;rw[<-Yh.out];refine Td.mono ?_;rintro _ w3b ⟨rfl,h3,Ga⟩;have Ge:=hdq (Yi.trans Ga);have FV:=Yj.fr Ga J4.out;have HR:=hdq (Mk _ w3b h3 Ge.out);have e2:=FV.cell 2;have kt:=FV.lt;have GL:=KD.fr Ge.out;have g1b:=GL.p.cell 0;have g2b:=GL.p.lt;simp only[getsL]at e2 g1b;have LP:=hdq FV;clear h3 Ga FV GL d2 d6 g1 g2 e9;go_wp2_with fail;refine HR.mono ?_;rintro _ w4 ⟨rfl,h4,Hx⟩;have GN:=hdq (Ge.trans Hx);have Ft:=LP.fr Hx J4.out;have HR:=hdq (GB _ w4 h4 GN.out);have d4:=Ft.cell 3;have Ku:=Ft.lt;have Fb:=KD.fr GN.out;have g4:=Fb.p.cell 0;have yX:=Fb.p.lt;simp only[getsL]at d4 g4;have Lr:=hdq Ft;clear h4 Hx Ft Fb e2 g1b g2b;go_wp2_with fail;refine HR.mono ?_;rintro _ w5 ⟨rfl,h5,Hj⟩;have Gl:=hdq (GN.trans Hj);have Gb:=Lr.fr Hj J4.out;have HR:=hdq (G8 _ w5 h5 Gl.out);have d5:=Gb.cell 4;have Jf:=Gb.lt;have FY:=KD.fr Gl.out;have g5:=FY.f.cell 0;have yY:=FY.f.lt;simp only[getsL]at d5 g5;have JU:=hdq Gb;clear h5 Hj Gb FY d4 g4 yX;go_wp2_with fail;refine HR.mono ?_;rintro _ w6 ⟨rfl,h6,Gt⟩;have G1:=hdq (Gl.trans Gt);have G5:=JU.fr Gt J4.out;have HR:=hdq (KH _ w6 h6 G1.out);have d6:=G5.cell 5;have FU:=G5.lt;have Fx:=KD.fr G1.out;have g6:=Fx.f.cell 0
    have yZ:=Fx.f.lt;simp only[getsL]at d6 g6;have JL:=hdq G5;clear h6 Gt G5 Fx d5 g5 yY;go_wp2_with fail;refine HR.mono ?_;rintro _ w7 ⟨rfl,h7,Hp⟩;have HN:=hdq (aiq h7 ((HB.trans G1.out).trans Hp));clear h7 Hp d6 g6 yZ;go_wp2_with fail;go_roundw;case rel=>exact⟨k+1,_,by omega,by go_num,HN.2,HN.1,K1.out⟩
    case measure=>simp[intOf];omega
   ·have e2:(a0==2)=false:=by simpa using n2
    have e4:(a0==4)=false:=by simpa using n4
    have e3:(a0==3)=false:=by simpa using n3
    have e9:(a0==9)=false:=by simpa using n9
    have K1:=hdq (show F=zay kn (Sts.drop (k+1) xs) (zay kn a5 (zay kn a4 (za5 kn a3 (zaN kn a2 s))))from by
     rw[Gi.out];unfold zgd;rw[if_neg (by simp[n2,n4]),if_neg n3,if_neg n9])
    have HR:=hdq (Mk _ w2 (Ls.fr0 Hv.out) Hv.any);have Ge:=hdq (Hv.any:Fr (CkT P b) wr w2);have LP:=Kh;clear n2 n4 n3 n9 Gi;go_wp2_with fail;rw[<-Ki.out];refine HR.mono ?_;rintro _ w4 ⟨rfl,h4,Hx⟩;have GN:=hdq (Ge.trans Hx);have Ft:=LP.fr Hx J4.out;have HR:=hdq (GB _ w4 h4 GN.out);have d4:=Ft.cell 3;have Ku:=Ft.lt;have Fb:=KD.fr GN.out;have g4:=Fb.p.cell 0;have yX:=Fb.p.lt;simp only[getsL]at d4 g4;have Lr:=hdq Ft;clear h4 Hx Ft Fb c0 c1 c2 c3 c4 c5 c6;go_wp2_with fail;refine HR.mono ?_;rintro _ w5 ⟨rfl,h5,Hj⟩;have Gl:=hdq (GN.trans Hj);have Gb:=Lr.fr Hj J4.out;have HR:=hdq (G8 _ w5 h5 Gl.out);have d5:=Gb.cell 4;have Jf:=Gb.lt;have FY:=KD.fr Gl.out;have g5:=FY.f.cell 0;have yY:=FY.f.lt;simp only[getsL]at d5 g5;have JU:=hdq Gb;clear h5 Hj Gb FY d4 g4 yX;go_wp2_with fail;refine HR.mono ?_;rintro _ w6 ⟨rfl,h6,Gt⟩;have G1:=hdq (Gl.trans Gt);have G5:=JU.fr Gt J4.out;have HR:=hdq (KH _ w6 h6 G1.out);have d6:=G5.cell 5;have FU:=G5.lt;have Fx:=KD.fr G1.out;have g6:=Fx.f.cell 0;have yZ:=Fx.f.lt;simp only[getsL]at d6 g6;have JL:=hdq G5;clear h6 Gt G5 Fx d5 g5 yY;go_wp2_with fail;refine HR.mono ?_;rintro _ w7 ⟨rfl,h7,Hp⟩;have HN:=hdq (aiq h7 ((HB.trans G1.out).trans Hp));clear h7 Hp d6 g6 yZ;go_wp2_with fail;go_roundw;case rel=>exact⟨k+1,_,by omega,by go_num,HN.2,HN.1,K1.out⟩
    case measure=>simp[intOf];omega
  ·have HE:=hdq (show F=s from by rw[Ha.out,Sts.drop_nil (by rw[<-HM.out];omega)];rfl);have HB:=hdq hb.out;have Ls:=hdq Fs.out;clear Ha hb Fs;go_wp2_with fail;go_end0;exact⟨rfl,HE.out▸Ls.out,HB.out⟩
theorem zft (kn:Kn):∀xs:Sts,szS xs->CSI kn xs
 | .nil,_=>λi _ _ _ _ _ _ _ _ hd=>by cases i<;>simp[Sts.drop]at hd
 | .cons k0 k1 k2 k3 k4 k5 k6 kr,Ht=>λi _ _ _ _ _ _ _ _ hd=>by
  cases i with
  |zero=>
   simp only[Sts.drop]at hd;injection hd with e0 e1 e2 e3 e4 e5 e6 e7;subst e0 e1 e2 e3 e4 e5 e6 e7;exact⟨Ht.1,zeK kn k2 Ht.2.1,ziw kn k3 Ht.2.2.1,zj1 kn k4 (zft kn k4 Ht.2.2.2.1),zj1 kn k5 (zft kn k5 Ht.2.2.2.2.1)⟩
  |succ i=>
   simp only[Sts.drop]at hd;exact zft kn kr Ht.2.2.2.2.2 i _ _ _ _ _ _ _ _ hd
theorem zeL (kn:Kn)(xs:Sts)(Ht:szS xs):CS kn xs:=zj1 kn xs (zft kn xs Ht)
abbrev Cks:=Kn×(Int×Int)
def zcv (s:Cks)(t:List UInt8)(at_:Int)(v:Int×Int):Cks:=(zlS s.1 t v,zgb s.1 s.2 t at_)
def zaZ (v:Int×Int):List Va->Cks->Cks
 | [],s=>s
 |x::r,s=>zaZ v r (zcv s x.nm.data.toList x.at_ v)
def zdx:List Va->Kn->Kn
 | [],kn=>kn
 |x::r,kn=>zdx r (kn.del x.nm.data.toList)
def zb4 (nm:List UInt8)(ps:List Va)(body:Sts)(at_:Int)(s:Cks):Cks:=
 let s2:=zaZ (1,0) ps (s.1,askC s.2 (decide ((ps.length:Int)<=4)) (at_,4))
 if s2.2.2=0 then((zdx ps s2.1).put nm (3,ps.length),zay s2.1 body s2.2)else s2
theorem zd7 {v:Int×Int}{xs:List Va}{i:Nat}{s:Cks}{a0 a1 ar}(hd:xs.drop i=(⟨a0,a1⟩:Va)::ar/\xs.drop (i+1)=ar):zaZ v (xs.drop i) s=zaZ v (xs.drop (i+1)) (zcv s a0.data.toList a1 v):=by
 rw[hd.1,hd.2];rfl
theorem zix {xs:List Va}{i:Nat}{kn:Kn}{a0 a1 ar}(hd:xs.drop i=(⟨a0,a1⟩:Va)::ar/\xs.drop (i+1)=ar):zdx (xs.drop i) kn=zdx (xs.drop (i+1)) (kn.del a0.data.toList):=by
 rw[hd.1,hd.2];rfl
theorem zj2 (P b:Nat)(w:World)(hP:P < w.heap.size)(hb:b < w.heap.size):Calls Tryz.prog 53 #[.pointer (some ⟨P,0,none⟩)] w λe w'=>
  e= .returned (.func (.func 101) #[] #[.pointer (some ⟨w.heap.size,0,none⟩),.pointer (some ⟨w.heap.size+1,0,none⟩)])/\WkAt w' P b w.heap.size (w.heap.size+1)/\Fr NoT w w':=by
 have Jt:= @makeF Tryz.prog;go_enter Tryz.func53,Tryz.ntmps53;go_wp2_with fail;go_ret;refine⟨rfl,⟨?_,?_,λe=>by rcases e with e|e<;>omega,λe=>by rcases e with e|e<;>omega⟩,?_⟩
 ·exact(Bk.new _ _ _).alloc _
 ·exact Bk.new_at _ _ _ (by simp)
 ·exact((Fr.refl _ _).alloc _).alloc _
