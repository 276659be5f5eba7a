/- check: the map of what has a name, as a function. -/
import Derived.Test.YtmopichdofgndaaGreatDoorJnCkC
import Derived.Test.YtmopichdofgndaaGreatDoorJgMpKey
import Derived.StillTail
set_option linter.all false
set_option maxHeartbeats 3200000
set_option maxRecDepth 100000
namespace Go.Proofs.YtmopichdofgndaaGreatDoor
open Go.RowKit Go.Shelf Go.Maps
abbrev Kn:=List UInt8->Option (Int×Int)
def thV (v:Int×Int):Value:= .agg #[.int .u8 v.1,.int .i64 v.2]
def Kn.put (kn:Kn)(t:List UInt8)(v:Int×Int):Kn:=λx=>if x=t then some v else kn x
def Kn.del (kn:Kn)(t:List UInt8):Kn:=λx=>if x=t then none else kn x
def KnM (w:World)(b n:Nat)(kn:Kn):Prop:=
 ∃D,w.ownsMap Tryz.prog 9 zfK b n D/\∀t:List UInt8,Maps.has D (.string t)=(kn t).isSome /\(∀v,kn t=some v->∀z,D.atKey (.string t) z= .held (thV v))/\(kn t=none->∀z,D.atKey (.string t) z=z)
theorem KnM.made (w:World):KnM (w.alloc (.map #[] 0)) w.heap.size 0 λ_=>none:=⟨_,World.ownsMap_made _ _ _ _,λt=>⟨rfl,λv h=>by simp at h,λ_ z=>rfl⟩⟩
theorem zkQ {s:ByteArray}(h:s.size<=9223372036854775807):keyOf Tryz.prog 9 (.string s)=some (.string s.data.toList):=
 WideMaps.keyOf_string_mk (P:=Tryz.prog) Tryz.underlying9 (s:=s) (by unfold maxLen;omega)
theorem KnM.lt {w:World}{b n:Nat}{kn:Kn}(h:KnM w b n kn):b < w.heap.size:=by
 obtain⟨D,Hg,_⟩:=h;exact Hg.lt
theorem KnM.put {w:World}{b n:Nat}{kn:Kn}(h:KnM w b n kn){s:ByteArray}(hs:s.size<=9223372036854775807)(v:Int×Int)(hn:n < maxLen):
  ∃w',(Instr.mapUpdate 145 (.map (some b)) (.string s) (thV v)).run Tryz.prog w= .ok () w'/\KnM w' b (n+1) (kn.put s.data.toList v)/\w.grownBy w' (some b):=by
 obtain⟨D,Hg,hD⟩:=h;obtain⟨w',JI,NB,hg⟩:=Hg.update strKey Tryz.underlying145 hn (zkQ hs) (val:=thV v) (d:= .held (thV v)) (ps:= []) rfl;refine⟨w',JI,⟨_,NB,λx=>?_⟩,hg⟩;have kx:WideAt.IsKeyLit (.string s.data.toList):=strKey.key (zkQ hs);unfold Kn.put;by_cases e:x=s.data.toList
 ·subst e;simp only[if_true];refine⟨by rw[has_put_same Hg.isMap kx];rfl,λu hu z=>?_,λhu=>by simp at hu⟩;rw[atKey_put_same Hg.isMap kx];simp at hu;rw[hu]
 ·have e2:(Lit.string x)≠ .string s.data.toList:=λh=>e (by simpa using h);simp only[if_neg e];refine⟨by rw[has_put_other e2,(hD x).1],λu hu z=>?_,λhu z=>?_⟩
  ·rw[atKey_put_other e2];exact(hD x).2.1 u hu z
  ·rw[atKey_put_other e2];exact(hD x).2.2 hu z
theorem zi2 (w:World):(zeroValue 150).run Tryz.prog w= .ok (.agg #[.int .u8 0,.int .i64 0]) w:=by kernel_rfl
theorem KnM.look {w:World}{b n:Nat}{kn:Kn}(h:KnM w b n kn){s:ByteArray}(hs:s.size<=9223372036854775807):
  (Instr.lookup 145 (.map (some b)) (.string s) true).run Tryz.prog w= .ok (.tuple #[thV ((kn s.data.toList).getD (0,0)),.bool (kn s.data.toList).isSome]) w:=by
 obtain⟨D,Hg,hD⟩:=h;obtain⟨v,ps,JI,hv⟩:=Hg.look_ok strKey Tryz.underlying145 (zi2 w) (zd:= .held _) (zp:= []) rfl (zkQ hs);rw[(hD s.data.toList).1]at JI;rw[JI];cases hl:kn s.data.toList with
 |none=>
  rw[(hD s.data.toList).2.2 hl]at hv;simp only[zfK,Option.some.injEq,Prod.mk.injEq,DataW.held.injEq]at hv;rw[hv.1];rfl
 |some u=>
  rw[(hD s.data.toList).2.1 u hl]at hv;simp only[zfK,Option.some.injEq,Prod.mk.injEq,DataW.held.injEq]at hv;rw[hv.1];rfl
theorem KnM.drop {w:World}{b n:Nat}{kn:Kn}(h:KnM w b n kn){s:ByteArray}(hs:s.size<=9223372036854775807)(ty:TypeId):
  ∃w',(Builtin.delete_ #[145,9] ty #[.map (some b),.string s]).run Tryz.prog w= .ok (.tuple #[]) w'/\KnM w' b n (kn.del s.data.toList)/\w.grownBy w' (some b):=by
 obtain⟨D,Hg,hD⟩:=h;obtain⟨w',JI,NB,hg⟩:=Hg.drop strKey Tryz.underlying145 (zkQ hs) ty;refine⟨w',JI,⟨_,NB,λx=>?_⟩,hg.grown⟩;unfold Kn.del;by_cases e:x=s.data.toList
 ·subst e;simp only[if_true];exact⟨has_del_same,λu hu=>by simp at hu,λ_ z=>atKey_del_same z⟩
 ·have e2:(Lit.string x)≠ .string s.data.toList:=λh=>e (by simpa using h);simp only[if_neg e];refine⟨by rw[has_del_other e2,(hD x).1],λu hu z=>?_,λhu z=>?_⟩
  ·rw[atKey_del_other e2];exact(hD x).2.1 u hu z
  ·rw[atKey_del_other e2];exact(hD x).2.2 hu z
structure CkAt (w:World)(P b n:Nat)(kn:Kn)(st:Int×Int):Prop where
 box:Bk w P 147 #[.map (some b),.int .i64 st.1,.int .i64 st.2]
 map:KnM w b n kn
 ne:P≠b
def CkT (P b:Nat):Nat->Prop:=λx=>x=P\/x=b
theorem KnM.fr {w w':World}{b n:Nat}{kn:Kn}{T:Nat->Prop}(h:KnM w b n kn)(hf:Fr T w w')(ht:¬T b):KnM w' b n kn:=by
 obtain⟨D,⟨es,clock,hb,F,hs,hd⟩,hD⟩:=h;exact⟨D,⟨es,clock,(hf.block b (Array.getElem?_eq_some_iff.1 hb).1 ht).trans hb,F,hs,hd⟩,hD⟩
theorem CkAt.fr {w w':World}{P b n:Nat}{kn:Kn}{st:Int×Int}{T:Nat->Prop}(h:CkAt w P b n kn st)(hf:Fr T w w')(h1:¬T P)(h2:¬T b):CkAt w' P b n kn st:=
 ⟨h.box.fr hf h1,h.map.fr hf h2,h.ne⟩
theorem CkAt.fr0 {w w':World}{P b n:Nat}{kn:Kn}{st:Int×Int}(h:CkAt w P b n kn st)(hf:Fr NoT w w'):CkAt w' P b n kn st:=h.fr hf id id
def zcw (st p:Int×Int):Int×Int:=if st.2=0 then p else st
def askC (st:Int×Int)(is:Bool)(p:Int×Int):Int×Int:=if is then st else zcw st p
def zlZ (P b n:Nat)(kn:Kn)(st:Int×Int)(W:World)(e:Ending)(w':World):Prop:=e= .returned (.tuple #[])/\CkAt w' P b n kn st/\Fr (CkT P b) W w'
theorem zi3 (P b n:Nat)(kn:Kn)(st:Int×Int)(at_ er:Int)(w:World)(h:CkAt w P b n kn st):
  Calls Tryz.prog 144 #[.pointer (some ⟨P,0,none⟩),.int .i64 at_,.int .i64 er] w (zlZ P b n kn (zcw st (at_,er)) w):=by
 obtain⟨a,e⟩:=st;have hb:=h.box;have c0:=hb.cell 0;have c1:=hb.cell 1;have c2:=hb.cell 2;have f1:=hb.frozen 1;have f2:=hb.frozen 2;have hl:=hb.lt;simp only[getsL]at c0 c1 c2;have H:=hdq h;clear h hb;by_cases he:e=0
 ·subst he;go_enter Tryz.func144,Tryz.ntmps144;go_wp2_with fail;go_end0;refine⟨rfl,⟨?_,?_,H.ne⟩,?_⟩
  ·have:=(H.box.set_ 1 (.int .i64 at_)).set_ 2 (.int .i64 er);simpa[zcw]using this
  ·exact H.map.fr (T:=λx=>x=P) (Fr.own (Fr.own (Fr.refl _ _) _ _) _ _) (λe=>H.ne e.symm)
  ·exact(Fr.own (Fr.own (Fr.refl _ _) _ _) _ _).mono λi _ h=> .inl h
 ·have e1:(e==0)=false:=by simpa using he
  have hf:zcw (a,e) (at_,er)=(a,e):=by unfold zcw;rw[if_neg he]
  rw[hf];clear he hf;go_enter Tryz.func144,Tryz.ntmps144;go_wp2_with fail;go_end0;exact⟨rfl,H.out,Fr.refl _ _⟩
theorem zc7 (P b n:Nat)(kn:Kn)(st:Int×Int)(is:Bool)(at_ er:Int)(w:World)(h:CkAt w P b n kn st):
  Calls Tryz.prog 78 #[.pointer (some ⟨P,0,none⟩),.bool is,.int .i64 at_,.int .i64 er] w (zlZ P b n kn (askC st is (at_,er)) w):=by
 have HC:=hdq (zi3 P b n kn st at_ er w h);have H:=hdq h;clear h;cases is
 ·go_enter Tryz.func78,Tryz.ntmps78;go_wp2_with fail;refine HC.mono ?_;rintro _ w1 ⟨rfl,h1,h2⟩;have HH:=hdq (aiq h1 h2);clear h1 h2;go_wp2_with fail;go_end0;exact⟨rfl,HH.out⟩
 ·go_enter Tryz.func78,Tryz.ntmps78;go_wp2_with fail;go_end0;exact⟨rfl,H.out,Fr.refl _ _⟩
def useC (kn:Kn)(st:Int×Int)(t:List UInt8)(k at_:Int):Int×Int:=askC (askC st ((kn t).isSome &&((kn t).getD (0,0)).1 != 4) (at_,110)) (((kn t).getD (0,0)).1 ==k) (at_,112)
theorem zkR (P b n:Nat)(kn:Kn)(st:Int×Int)(s:ByteArray)(k at_:Int)(w:World)(h:CkAt w P b n kn st)(hs:s.size<=9223372036854775807):
  Calls Tryz.prog 147 #[.pointer (some ⟨P,0,none⟩),.string s,.int .u8 k,.int .i64 at_] w λe w'=>
   e= .returned (thV ((kn s.data.toList).getD (0,0)))/\CkAt w' P b n kn (useC kn st s.data.toList k at_)/\Fr (CkT P b) w w':=by
 obtain⟨⟨x1,x2⟩,hx⟩:=nmq ((kn s.data.toList).getD (0,0));obtain⟨q,hq⟩:=nmq ((kn s.data.toList).isSome );unfold useC;rw[<-hx,<-hq];simp only;have Hi:Fr NoT w (w.alloc (.cells #[.int .u8 0,.int .i64 0] 150)):=(Fr.refl _ _).alloc _;have LR:=(h.map.fr Hi id).look hs;rw[<-hx,<-hq]at LR;unfold thV at LR ⊢;simp only at LR ⊢;obtain⟨w2,FU⟩:=nmq ((w.alloc (.cells #[.int .u8 0,.int .i64 0] 150)).alloc (.cells #[.int .u8 x1,.int .i64 x2] 150));have Gd:Fr NoT w w2:=by rw[FU];exact Hi.alloc _
 have F0:=h.box;have c0:=F0.cell 0;have hl:=F0.lt;simp only[getsL]at c0;have MQ:=h.map.lt;have JV:Bk w2 w.heap.size 150 #[.int .u8 0,.int .i64 0]:=by rw[FU];exact(Bk.new _ _ _).alloc _
 have vC:Bk w2 (w.heap.size+1) 150 #[.int .u8 x1,.int .i64 x2]:=by rw[FU];exact Bk.new_at _ _ _ (by simp)
 obtain⟨p4,Q4⟩:=nmq ((x1 != 4));obtain⟨p5,VH⟩:=nmq ((x1==k));rw[<-Q4,<-VH];have e4:=Q4.symm;have e5:=VH.symm;have H1:=hdq (λis=>zc7 P b n kn st is at_ 110 w2 (h.fr0 Gd));have Hy:=hdq Gd;have Fu:=hdq JV;have Tm:=hdq vC;have LJ:=hdq FU;have K5:¬CkT P b w.heap.size:=λe=>by rcases e with e|e<;>omega
 have Yc:¬CkT P b (w.heap.size+1):=λe=>by rcases e with e|e<;>omega
 have KF:=hdq (aiq K5 Yc);clear hx hq h Hi Gd FU JV vC F0 Q4 VH K5 Yc;cases q;all_goals
  go_enter Tryz.func147,Tryz.ntmps147;go_wp2_with fail;rw[<-LJ.out];refine(H1 _).mono ?_;rintro _ w3 ⟨rfl,h3,GQ⟩;have gy:=Tm.fr GQ KF.2;have d0:=gy.cell 0;have Gz:=gy.lt;simp only[getsL]at d0;have H3:=hdq (zc7 P b n kn _ p5 at_ 112 w3 h3);have Q5:=hdq gy;have Mw:=hdq (Fu.fr GQ KF.1);have Gc:=hdq ((Hy.mono λ_ _ h=>h.elim:Fr (CkT P b) w w2).trans GQ);clear h3 GQ gy;go_wp2_with fail;refine H3.mono ?_;rintro _ w4 ⟨rfl,h4,GB⟩;have gz:=Q5.fr GB KF.2;have KZ:=Mw.fr GB KF.1;have a0:=gz.cell 0;have a1:=gz.cell 1;have Gy:=gz.lt;have b0:=KZ.cell 0;have b1:=KZ.cell 1;have f0:=KZ.frozen 0;have f1:=KZ.frozen 1;have GN:=KZ.lt;simp only[getsL]at a0 a1 b0 b1;have H4:=hdq h4;have GL:=hdq (Gc.trans GB);have Lr:=(KZ.set_ 0 (.int .u8 x1)).set_ 1 (.int .i64 x2);have r0:=Lr.cell 0;have r1:=Lr.cell 1;have Jc:=Lr.lt;simp only[List.getElem?_toArray,List.getElem?_cons_succ,List.getElem?_cons_zero,List.setIfInBounds_toArray,List.set_cons_zero,List.set_cons_succ]at r0 r1;clear h4 GB gz KZ Lr;go_wp2_with fail;refine bodyPost_ret (v:= .agg #[.int .u8 x1,.int .i64 x2]) (by simp[results,Tryz.results147,go_sem,r0,r1,Jc]) rfl ⟨rfl,?_,?_⟩
  ·exact H4.fr (T:=λx=>x=w.heap.size) (Fr.own (Fr.own (Fr.refl _ _) _ _) _ _) (λe=>KF.1 (.inl e.symm)) (λe=>KF.1 (.inr e.symm))
  ·exact(GL.high (lrq _) 0 _).high (lrq _) 1 _
def CkN (w:World)(P b N:Nat)(kn:Kn)(st:Int×Int):Prop:=∃n,n<=N/\CkAt w P b n kn st
def zkS (kn:Kn)(t:List UInt8)(v:Int×Int):Kn:=if(kn t).isSome then kn else kn.put t v
def zcx (kn:Kn)(st:Int×Int)(t:List UInt8)(at_:Int):Int×Int:=askC st (!(kn t).isSome) (at_,111)
theorem zbv (P b N:Nat)(kn:Kn)(st:Int×Int)(s:ByteArray)(at_:Int)(v:Int×Int)(w:World)(h:CkN w P b N kn st)(hs:s.size<=9223372036854775807)(hN:N < maxLen):
  Calls Tryz.prog 77 #[.pointer (some ⟨P,0,none⟩),.string s,.int .i64 at_,thV v] w λe w'=>
   e= .returned (.tuple #[])/\CkN w' P b (N+1) (zkS kn s.data.toList v) (zcx kn st s.data.toList at_)/\Fr (CkT P b) w w':=by
 obtain⟨n,hn,h⟩:=h;obtain⟨v1,v2⟩:=v;obtain⟨⟨x1,x2⟩,hx⟩:=nmq ((kn s.data.toList).getD (0,0));obtain⟨q,hq⟩:=nmq ((kn s.data.toList).isSome );unfold zcx zkS;rw[<-hq];obtain⟨w1,Hc⟩:=nmq (w.alloc (.cells #[.int .u8 v1,.int .i64 v2] 150));have Hi:Fr NoT w w1:=by rw[Hc];exact(Fr.refl _ _).alloc _
 have LR:=(h.map.fr Hi id).look hs;rw[<-hx,<-hq,Hc]at LR;unfold thV at LR ⊢;simp only at LR ⊢;obtain⟨w2,FU⟩:=nmq ((w.alloc (.cells #[.int .u8 v1,.int .i64 v2] 150)).alloc (.cells #[.int .u8 x1,.int .i64 x2] 150));have Gd:Fr NoT w w2:=by rw[FU];exact((Fr.refl _ _).alloc _).alloc _
 have F0:=h.box;have c0:=F0.cell 0;have hl:=F0.lt;simp only[getsL]at c0;have MQ:=h.map.lt;have JZ:Bk w2 w.heap.size 150 #[.int .u8 v1,.int .i64 v2]:=by rw[FU];exact(Bk.new _ _ _).alloc _
 have H1:=hdq (λis=>zc7 P b n kn st is at_ 111 w2 (h.fr0 Gd));have Hy:=hdq Gd;have zA:=hdq JZ;have LJ:=hdq FU;have K5:¬CkT P b w.heap.size:=λe=>by rcases e with e|e<;>omega
 have KF:=hdq K5;have HN:=hdq (aiq hn hN);have HS:=hdq hs;clear hx hq h Hi Gd Hc FU JZ F0 K5 hn hN;cases q;all_goals
  go_enter Tryz.func77,Tryz.ntmps77;go_wp2_with fail;rw[<-LJ.out];refine(H1 _).mono ?_;rintro _ w3 ⟨rfl,h3,GQ⟩;have LK:=zA.fr GQ KF.out;have d0:=LK.cell 0;have d1:=LK.cell 1;have Gz:=LK.lt;have J0:=h3.box;have p0:=J0.cell 0;have Py:=J0.lt;simp only[getsL]at d0 d1 p0;obtain⟨w4,K6,h4,Q6⟩:=(h3.map.fr ((Fr.refl NoT w3).drew) id).put HS.out (v1,v2) (by have:=HN.out;omega);have H3:=hdq h3;have H4:=hdq h4;have vD:=hdq Q6;have Gc:=hdq ((Hy.mono λ_ _ h=>h.elim:Fr (CkT P b) w w2).trans GQ);unfold thV at K6;simp only at K6;clear h3 GQ LK J0 h4 Q6
 ·go_wp2_with fail;refine wp_region_still_tail 6 (by kernel_rfl) (by kernel_rfl) ?_;simp only[List.take_succ_cons,List.take_zero,List.drop_succ_cons,List.drop_zero]
  repeat still_step
  try refine wpStill_nil ?_
  go_wp2_with fail;go_end0;have GB:Fr (CkT P b) w3 w4:=((Fr.refl _ _).drew).trans (Fr.grown vD.out λg e _=> .inr (Option.some.inj e).symm);have LQ:=H3.box.fr (((Fr.refl (λx=>x=b) w3).drew).trans (Fr.grown vD.out λg e _=>(Option.some.inj e).symm)) H3.ne;exact⟨rfl,⟨n+1,by have:=HN.out;omega,LQ,H4.out,H3.ne⟩,Gc.trans GB⟩
 ·go_wp2_with fail;go_end0;exact⟨rfl,⟨n,by have:=HN.out;omega,H3.out⟩,Gc.out⟩
def CkP (P b N:Nat)(kn:Kn)(st:Int×Int)(W:World)(e:Ending)(w':World):Prop:=e= .returned (.tuple #[])/\CkN w' P b N kn st/\Fr (CkT P b) W w'
theorem CkN.fr0 {w w':World}{P b N:Nat}{kn:Kn}{st:Int×Int}(h:CkN w P b N kn st)(hf:Fr NoT w w'):CkN w' P b N kn st:=by
 obtain⟨n,hn,h⟩:=h;exact⟨n,hn,h.fr0 hf⟩
theorem CkN.lt {w:World}{P b N:Nat}{kn:Kn}{st:Int×Int}(h:CkN w P b N kn st):P < w.heap.size/\b < w.heap.size:=by
 obtain⟨n,hn,h⟩:=h;exact⟨h.box.lt,h.map.lt⟩
theorem zfL (P b N:Nat)(kn:Kn)(st:Int×Int)(s:ByteArray)(k at_:Int)(w:World)(h:CkN w P b N kn st)(hs:s.size<=9223372036854775807):
  Calls Tryz.prog 147 #[.pointer (some ⟨P,0,none⟩),.string s,.int .u8 k,.int .i64 at_] w λe w'=>
   e= .returned (thV ((kn s.data.toList).getD (0,0)))/\CkN w' P b N kn (useC kn st s.data.toList k at_)/\Fr (CkT P b) w w':=by
 obtain⟨n,hn,h⟩:=h;exact(zkR P b n kn st s k at_ w h hs).mono λ_ _ ⟨h1,h2,h3⟩=>⟨h1,⟨n,hn,h2⟩,h3⟩
theorem zdy (P b N:Nat)(kn:Kn)(st:Int×Int)(is:Bool)(at_ er:Int)(w:World)(h:CkN w P b N kn st):
  Calls Tryz.prog 78 #[.pointer (some ⟨P,0,none⟩),.bool is,.int .i64 at_,.int .i64 er] w (CkP P b N kn (askC st is (at_,er)) w):=by
 obtain⟨n,hn,h⟩:=h;exact(zc7 P b n kn st is at_ er w h).mono λ_ _ ⟨h1,h2,h3⟩=>⟨h1,⟨n,hn,h2⟩,h3⟩
def zax (kn:Kn):Exs->Int×Int->Int×Int
 | .nil,st=>st
 | .cons k nm _ args at_ r,st=>zax kn r (zax kn args (if k=2 then useC kn st nm.data.toList 1 at_ else if k=3 then useC kn st nm.data.toList 2 at_ else st))
theorem zgs {kn:Kn}{xs:Exs}{i:Nat}{st:Int×Int}{k nm n args at_ r}(hd:Exs.drop i xs= .cons k nm n args at_ r):
  zax kn (Exs.drop i xs) st=zax kn (Exs.drop (i+1) xs) (zax kn args (if k=2 then useC kn st nm.data.toList 1 at_ else if k=3 then useC kn st nm.data.toList 2 at_ else st)):=by
 rw[Exs.drop_succ i xs hd,hd];rfl
def CX (kn:Kn)(xs:Exs):Prop:=∀(P b N:Nat)(st:Int×Int)(W:World)(S:Nat->Prop)(Z:Prop)(A:Option Addr)(c:Nat),CkN W P b N kn st->(∀x,S x->x < W.heap.size/\¬CkT P b x)->SlR (λb o=>ExR W S Z xs b o) xs.len 64 A c->
 Calls Tryz.prog 148 #[.pointer (some ⟨P,0,none⟩),.slice A xs.len c] W (CkP P b N kn (zax kn xs st) W)
def CXI (kn:Kn)(xs:Exs):Prop:=∀(i:Nat)(a0:Int)(a1:ByteArray)(a2:Int)(a3:Exs)(a4:Int)(ar:Exs),Exs.drop i xs= .cons a0 a1 a2 a3 a4 ar->a1.size<=9223372036854775807/\CX kn a3
theorem zl1 (kn:Kn)(xs:Exs)(Ho:CXI kn xs):CX kn xs:=by
 intro P b N st w S Z A c hc hS hx;have hl:xs.len<=9223372036854775807:=leq9 hx.1 hx.2.1.1;have HA:=hdq Ho;have HX:=hdq hx;have HS:=hdq hS;have HC:=hdq hc;obtain⟨m,hm⟩:=nmq xs.len;rw[<-hm]at hl ⊢;have HM:=hdq hm;obtain⟨F,hF⟩:=nmq (zax kn xs st);rw[<-hF];have HF:=hdq hF;clear Ho hx hS hm hc hF;go_enter Tryz.func148,Tryz.ntmps148;go_wp2_with fail;go_loopw [8] (λi wr=>∃(k:Nat)(s:Int×Int),k<=m/\i= .int .i64 k/\Hid (Fr (CkT P b) w wr)/\Hid (CkN wr P b N kn s)/\Hid (F=zax kn (Exs.drop k xs) s)) (λi _=>m - (intOf i).toNat);case atStart=>exact⟨0,st,Nat.zero_le _,rfl,Fr.refl _ _,HC.out,HF.out⟩
 case round=>
  obtain⟨k,s,hk,rfl,hb,FE,Ha⟩:=hrel;by_cases Hr:k < m
  ·obtain⟨a0,a1,a2,a3,a4,ar,hd⟩:=Exs.drop_cons (show k < xs.len from by rw[<-HM.out];exact Hr);obtain⟨B,o,rfl,Hd⟩:=HX.2.2 (by rw[<-HM.out];omega);have Hb:=(ExR.keep (hb.same λb hb=>HS b hb) Hd).drop k;rw[hd]at Hb;obtain⟨⟨Hf,_,r0,r1,r2,c0,c1,c2,c4⟩,⟨A3,q3,c3,s3⟩,_⟩:=Hb;have Gf:B < wr.heap.size:=ltq (HS _ Hf).1 hb.size;have Hl:(k:Int) < (m:Int):=by omega
   have Fb:(0:Int)<=(k:Int):=by omega
   obtain⟨Ht,JS⟩:=HA k a0 a1 a2 a3 a4 ar hd;obtain⟨w2,FU⟩:=nmq (wr.alloc (.cells #[.int .u8 a0,.string a1,.int .i64 a2,.slice A3 a3.len q3,.int .i64 a4] 41));have Gd:Fr NoT wr w2:=by rw[FU];exact(Fr.refl _ _).alloc _
   have He:Bk w2 wr.heap.size 41 #[.int .u8 a0,.string a1,.int .i64 a2,.slice A3 a3.len q3,.int .i64 a4]:=by rw[FU];exact Bk.new _ _ _
   have HU:=hdq (λkk=>zfL P b N kn s a1 kk a4 w2 (FE.fr0 Gd) Ht);have Pz:=hdq (λ(st':Int×Int)(W:World)(hW:CkN W P b N kn st')(h:Fr (CkT P b) wr W)=>JS P b N st' W S Z A3 q3 hW (λx hx=>⟨ltq (HS x hx).1 (hb.trans h).size,(HS x hx).2⟩) (s3.imp λ_ _ hx=>ExR.keep (h.same λx hx=>⟨ltq (HS x hx).1 hb.size,(HS x hx).2⟩) hx));have LT:=FE.lt;have K5:¬CkT P b wr.heap.size:=λe=>by rcases e with e|e<;>omega
   have Hj:=hdq (Ha.trans (zgs hd));have HB:=hdq hb.out;have K0:=hdq FE.out;have LJ:=hdq FU;have FX:=hdq He;have Hy:=hdq Gd;have KF:=hdq K5;clear hd Hd Ha hb Hf s3 r0 r1 r2 FE Ht JS FU Gd He LT K5;by_cases h2:a0=2\/a0=3
   ·rcases h2 with rfl|rfl;all_goals
     go_wp2_with fail;rw[<-LJ.out];refine(HU _).mono ?_;rintro _ w3 ⟨rfl,h3,GQ⟩;have Hw:=FX.fr GQ KF.out;have d3:=Hw.cell 3;have Gz:=Hw.lt;simp only[getsL]at d3;have Gc:=hdq ((Hy.any:Fr (CkT P b) wr w2).trans GQ);have HR:=hdq (Pz _ w3 h3 Gc.out);clear h3 GQ Hw c0 c1 c2 c3 c4;go_wp2_with fail;refine HR.mono ?_;rintro _ w4 ⟨rfl,h4,GB⟩;have HN:=hdq (aiq h4 ((HB.trans Gc.out).trans GB));clear h4 GB d3;go_wp2_with fail;go_roundw;case rel=>exact⟨k+1,_,by omega,by go_num,HN.2,HN.1,Hj.out⟩
     case measure=>simp[intOf];omega
   ·have jr:a0≠2:=λe=>h2 (.inl e);have js:a0≠3:=λe=>h2 (.inr e);have e2:(a0==2)=false:=by simpa using jr
    have e3:(a0==3)=false:=by simpa using js
    have F7:=hdq (show F=zax kn (Exs.drop (k+1) xs) (zax kn a3 s)from by rw[Hj.out,if_neg jr,if_neg js]);have HR:=hdq (Pz _ w2 (K0.fr0 Hy.out) Hy.any);clear h2 jr js;go_wp2_with fail;rw[<-LJ.out];refine HR.mono ?_;rintro _ w4 ⟨rfl,h4,GB⟩;have HN:=hdq (aiq h4 ((HB.trans (Hy.any:Fr (CkT P b) wr w2)).trans GB));clear h4 GB c0 c1 c2 c3 c4;go_wp2_with fail;go_roundw;case rel=>exact⟨k+1,_,by omega,by go_num,HN.2,HN.1,F7.out⟩
    case measure=>simp[intOf];omega
  ·have HE:=hdq (show F=s from by rw[Ha.out,Exs.drop_nil (by rw[<-HM.out];omega)];rfl);have HB:=hdq hb.out;have K0:=hdq FE.out;clear Ha hb FE;go_wp2_with fail;go_end0;exact⟨rfl,HE.out▸K0.out,HB.out⟩
theorem zgt (kn:Kn):∀xs:Exs,szX xs->CXI kn xs
 | .nil,_=>λi _ _ _ _ _ _ hd=>by cases i<;>simp[Exs.drop]at hd
 | .cons k0 k1 k2 k3 k4 kr,Ht=>λi _ _ _ _ _ _ hd=>by
  cases i with
  |zero=>
   simp only[Exs.drop]at hd;injection hd with e0 e1 e2 e3 e4 e5;subst e0 e1 e2 e3 e4 e5;exact⟨Ht.1,zl1 kn k3 (zgt kn k3 Ht.2.1)⟩
  |succ i=>
   simp only[Exs.drop]at hd;exact zgt kn kr Ht.2.2 i _ _ _ _ _ _ hd
theorem zel (kn:Kn)(xs:Exs)(Ht:szX xs):CX kn xs:=zl1 kn xs (zgt kn xs Ht)
def zaK (kn:Kn):Cds->Int×Int->Int×Int
 | .nil,st=>st
 | .cons _ args of_ _ r,st=>zaK kn r (zaK kn of_ (zax kn args st))
theorem zgu {kn:Kn}{xs:Cds}{i:Nat}{st:Int×Int}{k args of_ at_ r}(hd:Cds.drop i xs= .cons k args of_ at_ r):
  zaK kn (Cds.drop i xs) st=zaK kn (Cds.drop (i+1) xs) (zaK kn of_ (zax kn args st)):=by
 rw[Cds.drop_succ i xs hd,hd];rfl
def CC (kn:Kn)(xs:Cds):Prop:=∀(P b N:Nat)(st:Int×Int)(W:World)(S:Nat->Prop)(Z:Prop)(A:Option Addr)(c:Nat),CkN W P b N kn st->(∀x,S x->x < W.heap.size/\¬CkT P b x)->SlR (λb o=>CdR W S Z xs b o) xs.len 64 A c->
 Calls Tryz.prog 149 #[.pointer (some ⟨P,0,none⟩),.slice A xs.len c] W (CkP P b N kn (zaK kn xs st) W)
def CCI (kn:Kn)(xs:Cds):Prop:=∀(i:Nat)(a0:Int)(a1:Exs)(a2:Cds)(a3:Int)(ar:Cds),Cds.drop i xs= .cons a0 a1 a2 a3 ar->CX kn a1/\CC kn a2
theorem zl2 (kn:Kn)(xs:Cds)(Ho:CCI kn xs):CC kn xs:=by
 intro P b N st w S Z A c hc hS hx;have hl:xs.len<=9223372036854775807:=leq9 hx.1 hx.2.1.1;have HA:=hdq Ho;have HX:=hdq hx;have HS:=hdq hS;have HC:=hdq hc;obtain⟨m,hm⟩:=nmq xs.len;rw[<-hm]at hl ⊢;have HM:=hdq hm;obtain⟨F,hF⟩:=nmq (zaK kn xs st);rw[<-hF];have HF:=hdq hF;clear Ho hx hS hm hc hF;go_enter Tryz.func149,Tryz.ntmps149;go_wp2_with fail;go_loopw [8] (λi wr=>∃(k:Nat)(s:Int×Int),k<=m/\i= .int .i64 k/\Hid (Fr (CkT P b) w wr)/\Hid (CkN wr P b N kn s)/\Hid (F=zaK kn (Cds.drop k xs) s)) (λi _=>m - (intOf i).toNat);case atStart=>exact⟨0,st,Nat.zero_le _,rfl,Fr.refl _ _,HC.out,HF.out⟩
 case round=>
  obtain⟨k,s,hk,rfl,hb,FE,Ha⟩:=hrel;by_cases Hr:k < m
  ·obtain⟨a0,a1,a2,a3,ar,hd⟩:=Cds.drop_cons (show k < xs.len from by rw[<-HM.out];exact Hr);obtain⟨B,o,rfl,Hd⟩:=HX.2.2 (by rw[<-HM.out];omega);have Hb:=(CdR.keep (hb.same λb hb=>HS b hb) Hd).drop k;rw[hd]at Hb;obtain⟨⟨Hf,_,r0,r1,c0,c3⟩,⟨A1,q1,c1,s1⟩,⟨A2,q2,c2,s2⟩,_⟩:=Hb;have Gf:B < wr.heap.size:=ltq (HS _ Hf).1 hb.size;have Hl:(k:Int) < (m:Int):=by omega
   have Fb:(0:Int)<=(k:Int):=by omega
   obtain⟨NC,ND⟩:=HA k a0 a1 a2 a3 ar hd;obtain⟨w2,FU⟩:=nmq (wr.alloc (.cells #[.int .u8 a0,.slice A1 a1.len q1,.slice A2 a2.len q2,.int .i64 a3] 160));have Gd:Fr NoT wr w2:=by rw[FU];exact(Fr.refl _ _).alloc _
   have He:Bk w2 wr.heap.size 160 #[.int .u8 a0,.slice A1 a1.len q1,.slice A2 a2.len q2,.int .i64 a3]:=by rw[FU];exact Bk.new _ _ _
   have Tn:∀W,Fr (CkT P b) wr W->∀x,S x->x < W.heap.size/\¬CkT P b x:=λW h x hx=>⟨ltq (HS x hx).1 (hb.trans h).size,(HS x hx).2⟩;have To:∀W,Fr (CkT P b) wr W->SameS S wr W:=λW h=>h.same λx hx=>⟨ltq (HS x hx).1 hb.size,(HS x hx).2⟩;have Nm:=hdq (NC P b N s w2 S Z A1 q1 (FE.fr0 Gd) (Tn w2 Gd.any) (s1.imp λ_ _ hx=>ExR.keep (To w2 Gd.any) hx));have Pz:=hdq (λ(st':Int×Int)(W:World)(hW:CkN W P b N kn st')(h:Fr (CkT P b) wr W)=>ND P b N st' W S Z A2 q2 hW (Tn W h) (s2.imp λ_ _ hx=>CdR.keep (To W h) hx));have LT:=FE.lt;have K5:¬CkT P b wr.heap.size:=λe=>by rcases e with e|e<;>omega
   have Hj:=hdq (Ha.trans (zgu hd));have HB:=hdq hb.out;have LJ:=hdq FU;have FX:=hdq He;have Hy:=hdq Gd;have KF:=hdq K5;clear hd Hd Ha hb Hf s1 s2 r0 r1 FE NC ND FU Gd He LT K5 Tn To;go_wp2_with fail;rw[<-LJ.out];refine Nm.mono ?_;rintro _ w3 ⟨rfl,h3,GQ⟩;have Hw:=FX.fr GQ KF.out;have d3:=Hw.cell 2;have Gz:=Hw.lt;simp only[getsL]at d3;have Gc:=hdq ((Hy.any:Fr (CkT P b) wr w2).trans GQ);have HR:=hdq (Pz _ w3 h3 Gc.out);clear h3 GQ Hw c0 c1 c2 c3;go_wp2_with fail;refine HR.mono ?_;rintro _ w4 ⟨rfl,h4,GB⟩;have HN:=hdq (aiq h4 ((HB.trans Gc.out).trans GB));clear h4 GB d3;go_wp2_with fail;go_roundw;case rel=>exact⟨k+1,_,by omega,by go_num,HN.2,HN.1,Hj.out⟩
   case measure=>simp[intOf];omega
  ·have HE:=hdq (show F=s from by rw[Ha.out,Cds.drop_nil (by rw[<-HM.out];omega)];rfl);have HB:=hdq hb.out;have K0:=hdq FE.out;clear Ha hb FE;go_wp2_with fail;go_end0;exact⟨rfl,HE.out▸K0.out,HB.out⟩
theorem zgv (kn:Kn):∀xs:Cds,szC xs->CCI kn xs
 | .nil,_=>λi _ _ _ _ _ hd=>by cases i<;>simp[Cds.drop]at hd
 | .cons k0 k1 k2 k3 kr,Ht=>λi _ _ _ _ _ hd=>by
  cases i with
  |zero=>
   simp only[Cds.drop]at hd;injection hd with e0 e1 e2 e3 e4;subst e0 e1 e2 e3 e4;exact⟨zel kn k1 Ht.1,zl2 kn k2 (zgv kn k2 Ht.2.1)⟩
  |succ i=>
   simp only[Cds.drop]at hd;exact zgv kn kr Ht.2.2 i _ _ _ _ _ hd
theorem zhU (kn:Kn)(xs:Cds)(Ht:szC xs):CC kn xs:=zl2 kn xs (zgv kn xs Ht)
def zcN (kn:Kn)(k:Int)(nm:List UInt8)(na:Int)(at_:Int)(st:Int×Int):Int×Int:=
 if k=2\/k=4 then useC kn st nm 1 at_ else if k=3 then useC kn st nm 2 at_ else if k=9 then askC (useC kn st nm 3 at_) (((kn nm).getD (0,0)).2 ==na) (at_,114)else st
def zan (kn:Kn):Sts->Int×Int->Int×Int
 | .nil,st=>st
 | .cons k nm args cond body els at_ r,st=>zan kn r (zan kn els (zan kn body (zaK kn cond (zax kn args (zcN kn k nm.data.toList (args.len:Int) at_ st)))))
theorem zgw {kn:Kn}{xs:Sts}{i:Nat}{st:Int×Int}{k nm args cond body els at_ r}(hd:Sts.drop i xs= .cons k nm args cond body els at_ r):
  zan kn (Sts.drop i xs) st=zan kn (Sts.drop (i+1) xs) (zan kn els (zan kn body (zaK kn cond (zax kn args (zcN kn k nm.data.toList (args.len:Int) at_ st))))):=by
 rw[Sts.drop_succ i xs hd,hd];rfl
structure WkAt (w:World)(P b B1 B2:Nat):Prop where
 p:Bk w B1 144 #[.pointer (some ⟨P,0,none⟩)]
 f:Bk w B2 101 #[.func (.func 146) #[] #[.pointer (some ⟨B1,0,none⟩),.pointer (some ⟨B2,0,none⟩)]]
 n1:¬CkT P b B1
 n2:¬CkT P b B2
theorem WkAt.fr {w w':World}{P b B1 B2:Nat}(h:WkAt w P b B1 B2)(hf:Fr (CkT P b) w w'):WkAt w' P b B1 B2:=⟨h.p.fr hf h.n1,h.f.fr hf h.n2,h.n1,h.n2⟩
def CS (kn:Kn)(xs:Sts):Prop:=∀(P b N B1 B2:Nat)(st:Int×Int)(W:World)(S:Nat->Prop)(Z:Prop)(A:Option Addr)(c:Nat),CkN W P b N kn st->WkAt W P b B1 B2->(∀x,S x->x < W.heap.size/\¬CkT P b x)->SlR (λb o=>StR W S Z xs b o) xs.len 128 A c->
 Calls Tryz.prog 146 #[.slice A xs.len c,.pointer (some ⟨B1,0,none⟩),.pointer (some ⟨B2,0,none⟩)] W (CkP P b N kn (zan kn xs st) W)
def CSI (kn:Kn)(xs:Sts):Prop:=∀(i:Nat)(a0:Int)(a1:ByteArray)(a2:Exs)(a3:Cds)(a4 a5:Sts)(a6:Int)(ar:Sts),Sts.drop i xs= .cons a0 a1 a2 a3 a4 a5 a6 ar->a1.size<=9223372036854775807/\CX kn a2/\CC kn a3/\CS kn a4/\CS kn a5
theorem zi4 (kn:Kn)(xs:Sts)(Ho:CSI kn xs):CS kn xs:=by
 intro P b N B1 B2 st w S Z A c hc vE hS hx;have hl:xs.len<=9223372036854775807:=leq9 hx.1 hx.2.1.1;have hent:Enters Tryz.prog 146:=enters_of Tryz.func146 (by kernel_rfl) rfl;have HA:=hdq Ho;have HX:=hdq hx;have HS:=hdq hS;have HC:=hdq hc;have zB:=hdq vE;obtain⟨m,hm⟩:=nmq xs.len;rw[<-hm]at hl ⊢;have HM:=hdq hm;obtain⟨F,hF⟩:=nmq (zan kn xs st);rw[<-hF];have HF:=hdq hF;clear Ho hx hS hm hc hF vE;unfold Enters at hent;go_enter Tryz.func146,Tryz.ntmps146;go_wp2_with fail;go_loopw [9] (λi wr=>∃(k:Nat)(s:Int×Int),k<=m/\i= .int .i64 k/\Hid (Fr (CkT P b) w wr)/\Hid (CkN wr P b N kn s)/\Hid (F=zan kn (Sts.drop k xs) s)) (λi _=>m - (intOf i).toNat);case atStart=>exact⟨0,st,Nat.zero_le _,rfl,Fr.refl _ _,HC.out,HF.out⟩
 case round=>
  obtain⟨k,s,hk,rfl,hb,FE,Ha⟩:=hrel;by_cases Hr:k < m
  ·obtain⟨a0,a1,a2,a3,a4,a5,a6,ar,hd⟩:=Sts.drop_cons (show k < xs.len from by rw[<-HM.out];exact Hr);obtain⟨B,o,rfl,Hd⟩:=HX.2.2 (by rw[<-HM.out];omega);have Hb:=(StR.keep (hb.same λb hb=>HS b hb) Hd).drop k;rw[hd]at Hb;obtain⟨⟨Hf,_,r0,r1,c0,c1,c6⟩,⟨A2,q2,c2,s2⟩,⟨A3,q3,c3,s3⟩,⟨A4,q4,c4,s4⟩,⟨A5,q5,c5,s5⟩,_⟩:=Hb;have Gf:B < wr.heap.size:=ltq (HS _ Hf).1 hb.size;have Hl:(k:Int) < (m:Int):=by omega
   have Fb:(0:Int)<=(k:Int):=by omega
   have Jh:a2.len<=9223372036854775807:=leq9 s2.1 s2.2.1.1;obtain⟨Ht,NC,ND,Uw,Ux⟩:=HA k a0 a1 a2 a3 a4 a5 a6 ar hd;obtain⟨w2,FU⟩:=nmq (wr.alloc (.cells #[.int .u8 a0,.string a1,.slice A2 a2.len q2,.slice A3 a3.len q3,.slice A4 a4.len q4,.slice A5 a5.len q5,.int .i64 a6] 39));have Gd:Fr NoT wr w2:=by rw[FU];exact(Fr.refl _ _).alloc _
   have He:Bk w2 wr.heap.size 39 #[.int .u8 a0,.string a1,.slice A2 a2.len q2,.slice A3 a3.len q3,.slice A4 a4.len q4,.slice A5 a5.len q5,.int .i64 a6]:=by rw[FU];exact Bk.new _ _ _
   have Tn:∀W,Fr (CkT P b) wr W->∀x,S x->x < W.heap.size/\¬CkT P b x:=λW h x hx=>⟨ltq (HS x hx).1 (hb.trans h).size,(HS x hx).2⟩;have To:∀W,Fr (CkT P b) wr W->SameS S wr W:=λW h=>h.same λx hx=>⟨ltq (HS x hx).1 hb.size,(HS x hx).2⟩;have Qo:=zB.fr hb.out;have HU:=hdq (λkk=>zfL P b N kn s a1 kk a6 w2 (FE.fr0 Gd) Ht);have Nm:=hdq (λ(st':Int×Int)(W:World)(hW:CkN W P b N kn st')(h:Fr (CkT P b) wr W)=>NC P b N st' W S Z A2 q2 hW (Tn W h) (s2.imp λ_ _ hx=>ExR.keep (To W h) hx));have Fu:=hdq (λ(st':Int×Int)(W:World)(hW:CkN W P b N kn st')(h:Fr (CkT P b) wr W)=>ND P b N st' W S Z A3 q3 hW (Tn W h) (s3.imp λ_ _ hx=>CdR.keep (To W h) hx));have Mw:=hdq (λ(st':Int×Int)(W:World)(hW:CkN W P b N kn st')(h:Fr (CkT P b) wr W)=>Uw P b N B1 B2 st' W S Z A4 q4 hW (Qo.fr h) (Tn W h) (s4.imp λ_ _ hx=>StR.keep (To W h) hx));have Q2:=hdq (λ(st':Int×Int)(W:World)(hW:CkN W P b N kn st')(h:Fr (CkT P b) wr W)=>Ux P b N B1 B2 st' W S Z A5 q5 hW (Qo.fr h) (Tn W h) (s5.imp λ_ _ hx=>StR.keep (To W h) hx));have LT:=FE.lt;have K5:¬CkT P b wr.heap.size:=λe=>by rcases e with e|e<;>omega
   have Hj:=hdq (Ha.trans (zgw hd));have Tp:=Qo.p.cell 0;have gA:=Qo.p.lt;simp only[getsL]at Tp;have Lu:=hdq Qo;have HB:=hdq hb.out;have K0:=hdq FE.out;have LJ:=hdq FU;have FX:=hdq He;have Hy:=hdq Gd;have KF:=hdq K5;clear hd Hd Ha hb Hf s2 s3 s4 s5 r0 r1 FE Ht NC ND Uw Ux FU Gd He LT K5 Tn To Qo;have JC:(a0=2\/a0=4\/a0=3)\/a0=9\/(a0≠2/\a0≠4/\a0≠3/\a0≠9):=by omega
   rcases JC with h2|rfl|⟨n2,n4,n3,n9⟩
   ·have F7:∃kk,Hid (F=zan kn (Sts.drop (k+1) xs) (zan kn a5 (zan kn a4 (zaK kn a3 (zax kn a2 (useC kn s a1.data.toList kk a6))))))/\kk=(if a0=3 then 2 else 1):=by
     rcases h2 with rfl|rfl|rfl;all_goals exact⟨_,Hj.out,rfl⟩
    obtain⟨kk,Ro,FR⟩:=F7;clear Hj;rcases h2 with rfl|rfl|rfl;all_goals
     simp at FR;subst FR;go_wp2_with fail;rw[<-LJ.out];refine(HU _).mono ?_;rintro _ w3 ⟨rfl,h3,GQ⟩;have Gc:=hdq ((Hy.any:Fr (CkT P b) wr w2).trans GQ);have Hw:=FX.fr GQ KF.out;have HR:=hdq (Nm _ w3 h3 Gc.out);have d2:=Hw.cell 2;have Gz:=Hw.lt;have F3:=Lu.fr Gc.out;have g1:=F3.p.cell 0;have g2:=F3.p.lt;simp only[getsL]at d2 g1;have F5:=hdq Hw;clear h3 GQ Hw F3 c0 c1 c2 c3 c4 c5 c6;go_wp2_with fail;refine HR.mono ?_;rintro _ w4 ⟨rfl,h4,GB⟩;have GL:=hdq (Gc.trans GB);have GX:=F5.fr GB KF.out;have HR:=hdq (Fu _ w4 h4 GL.out);have d4:=GX.cell 3;have Gy:=GX.lt;have G7:=Lu.fr GL.out;have g4:=G7.p.cell 0;have gl4:=G7.p.lt;simp only[getsL]at d4 g4;have KO:=hdq GX;clear h4 GB GX G7 d2 g1 g2;go_wp2_with fail;refine HR.mono ?_;rintro _ w5 ⟨rfl,h5,Hs⟩;have Hx:=hdq (GL.trans Hs);have Hm:=KO.fr Hs KF.out;have HR:=hdq (Mw _ w5 h5 Hx.out);have d5:=Hm.cell 4;have GN:=Hm.lt;have GE:=Lu.fr Hx.out;have g5:=GE.f.cell 0;have gl5:=GE.f.lt;simp only[getsL]at d5 g5;have GO:=hdq Hm;clear h5 Hs Hm GE d4 g4 gl4;go_wp2_with fail;refine HR.mono ?_;rintro _ w6 ⟨rfl,h6,Fk⟩;have GF:=hdq (Hx.trans Fk);have Fy:=GO.fr Fk KF.out;have HR:=hdq (Q2 _ w6 h6 GF.out);have d6:=Fy.cell 5;have Jc:=Fy.lt;have GM:=Lu.fr GF.out;have g6:=GM.f.cell 0;have gl6:=GM.f.lt;simp only[getsL]at d6 g6;have Lw:=hdq Fy;clear h6 Fk Fy GM d5 g5 gl5;go_wp2_with fail;refine HR.mono ?_;rintro _ w7 ⟨rfl,h7,Gw⟩;have HN:=hdq (aiq h7 ((HB.trans GF.out).trans Gw));clear h7 Gw d6 g6 gl6;go_wp2_with fail;go_roundw
     case rel=>exact⟨k+1,_,by omega,by go_num,HN.2,HN.1,Ro.out⟩
     case measure=>simp[intOf];omega
   ·obtain⟨⟨x1,x2⟩,hx⟩:=nmq ((kn a1.data.toList).getD (0,0));obtain⟨p9,jt⟩:=nmq ((x2==(a2.len:Int)));have Ro:=hdq (show F=zan kn (Sts.drop (k+1) xs) (zan kn a5 (zan kn a4 (zaK kn a3 (zax kn a2 (askC (useC kn s a1.data.toList 3 a6) p9 (a6,114))))))from by
     rw[Hj.out,jt,show x2=((kn a1.data.toList).getD (0,0)).2 from by rw[<-hx]];rfl)
    have hu:=HU 3;rw[<-hx]at hu;unfold thV at hu;simp only at hu;have MR:=hdq hu;have e9:=jt.symm;clear Hj hu hx jt;go_wp2_with fail;rw[<-LJ.out];refine MR.mono ?_;rintro _ w3 ⟨rfl,h3,GQ⟩;have Gc:=hdq ((Hy.any:Fr (CkT P b) wr w2).trans GQ);have Hw:=FX.fr GQ KF.out;obtain⟨w3a,VI⟩:=nmq (w3.alloc (.cells #[.int .u8 x1,.int .i64 x2] 150));have NE:Fr NoT w3 w3a:=by rw[VI];exact(Fr.refl _ _).alloc _
    have VJ:=hdq (zdy P b N kn _ p9 a6 114 w3a (h3.fr0 NE));have ju:=hdq VI;have VK:=hdq (Gc.trans NE.any);have d2:=Hw.cell 2;have d6:=Hw.cell 6;have Gz:=Hw.lt;have F3:=Lu.fr Gc.out;have g1:=F3.p.cell 0;have g2:=F3.p.lt;simp only[getsL]at d2 d6 g1;have jv:=hdq (Hw.fr0 NE);clear h3 GQ Hw F3 c0 c1 c2 c3 c4 c5 c6 VI NE Gc;go_wp2_with fail;rw[<-ju.out];refine VJ.mono ?_;rintro _ w3b ⟨rfl,h3,GQ⟩;have Gc:=hdq (VK.trans GQ);have Hw:=jv.fr GQ KF.out;have HR:=hdq (Nm _ w3b h3 Gc.out);have e2:=Hw.cell 2;have zC:=Hw.lt;have F3:=Lu.fr Gc.out;have g1b:=F3.p.cell 0;have g2b:=F3.p.lt;simp only[getsL]at e2 g1b;have F5:=hdq Hw;clear h3 GQ Hw F3 d2 d6 g1 g2 e9;go_wp2_with fail;refine HR.mono ?_;rintro _ w4 ⟨rfl,h4,GB⟩;have GL:=hdq (Gc.trans GB);have GX:=F5.fr GB KF.out;have HR:=hdq (Fu _ w4 h4 GL.out);have d4:=GX.cell 3;have Gy:=GX.lt;have G7:=Lu.fr GL.out;have g4:=G7.p.cell 0;have gl4:=G7.p.lt;simp only[getsL]at d4 g4;have KO:=hdq GX;clear h4 GB GX G7 e2 g1b g2b;go_wp2_with fail;refine HR.mono ?_;rintro _ w5 ⟨rfl,h5,Hs⟩;have Hx:=hdq (GL.trans Hs);have Hm:=KO.fr Hs KF.out;have HR:=hdq (Mw _ w5 h5 Hx.out);have d5:=Hm.cell 4;have GN:=Hm.lt;have GE:=Lu.fr Hx.out;have g5:=GE.f.cell 0;have gl5:=GE.f.lt;simp only[getsL]at d5 g5;have GO:=hdq Hm;clear h5 Hs Hm GE d4 g4 gl4;go_wp2_with fail;refine HR.mono ?_;rintro _ w6 ⟨rfl,h6,Fk⟩;have GF:=hdq (Hx.trans Fk);have Fy:=GO.fr Fk KF.out;have HR:=hdq (Q2 _ w6 h6 GF.out);have d6:=Fy.cell 5;have Jc:=Fy.lt;have GM:=Lu.fr GF.out;have g6:=GM.f.cell 0
    have gl6:=GM.f.lt;simp only[getsL]at d6 g6;have Lw:=hdq Fy;clear h6 Fk Fy GM d5 g5 gl5;go_wp2_with fail;refine HR.mono ?_;rintro _ w7 ⟨rfl,h7,Gw⟩;have HN:=hdq (aiq h7 ((HB.trans GF.out).trans Gw));clear h7 Gw d6 g6 gl6;go_wp2_with fail;go_roundw;case rel=>exact⟨k+1,_,by omega,by go_num,HN.2,HN.1,Ro.out⟩
    case measure=>simp[intOf];omega
   ·have e2:(a0==2)=false:=by simpa using n2
    have e4:(a0==4)=false:=by simpa using n4
    have e3:(a0==3)=false:=by simpa using n3
    have e9:(a0==9)=false:=by simpa using n9
    have Ro:=hdq (show F=zan kn (Sts.drop (k+1) xs) (zan kn a5 (zan kn a4 (zaK kn a3 (zax kn a2 s))))from by
     rw[Hj.out];unfold zcN;rw[if_neg (by simp[n2,n4]),if_neg n3,if_neg n9])
    have HR:=hdq (Nm _ w2 (K0.fr0 Hy.out) Hy.any);have Gc:=hdq (Hy.any:Fr (CkT P b) wr w2);have F5:=FX;clear n2 n4 n3 n9 Hj;go_wp2_with fail;rw[<-LJ.out];refine HR.mono ?_;rintro _ w4 ⟨rfl,h4,GB⟩;have GL:=hdq (Gc.trans GB);have GX:=F5.fr GB KF.out;have HR:=hdq (Fu _ w4 h4 GL.out);have d4:=GX.cell 3;have Gy:=GX.lt;have G7:=Lu.fr GL.out;have g4:=G7.p.cell 0;have gl4:=G7.p.lt;simp only[getsL]at d4 g4;have KO:=hdq GX;clear h4 GB GX G7 c0 c1 c2 c3 c4 c5 c6;go_wp2_with fail;refine HR.mono ?_;rintro _ w5 ⟨rfl,h5,Hs⟩;have Hx:=hdq (GL.trans Hs);have Hm:=KO.fr Hs KF.out;have HR:=hdq (Mw _ w5 h5 Hx.out);have d5:=Hm.cell 4;have GN:=Hm.lt;have GE:=Lu.fr Hx.out;have g5:=GE.f.cell 0;have gl5:=GE.f.lt;simp only[getsL]at d5 g5;have GO:=hdq Hm;clear h5 Hs Hm GE d4 g4 gl4;go_wp2_with fail;refine HR.mono ?_;rintro _ w6 ⟨rfl,h6,Fk⟩;have GF:=hdq (Hx.trans Fk);have Fy:=GO.fr Fk KF.out;have HR:=hdq (Q2 _ w6 h6 GF.out);have d6:=Fy.cell 5;have Jc:=Fy.lt;have GM:=Lu.fr GF.out;have g6:=GM.f.cell 0;have gl6:=GM.f.lt;simp only[getsL]at d6 g6;have Lw:=hdq Fy;clear h6 Fk Fy GM d5 g5 gl5;go_wp2_with fail;refine HR.mono ?_;rintro _ w7 ⟨rfl,h7,Gw⟩;have HN:=hdq (aiq h7 ((HB.trans GF.out).trans Gw));clear h7 Gw d6 g6 gl6;go_wp2_with fail;go_roundw;case rel=>exact⟨k+1,_,by omega,by go_num,HN.2,HN.1,Ro.out⟩
    case measure=>simp[intOf];omega
  ·have HE:=hdq (show F=s from by rw[Ha.out,Sts.drop_nil (by rw[<-HM.out];omega)];rfl);have HB:=hdq hb.out;have K0:=hdq FE.out;clear Ha hb FE;go_wp2_with fail;go_end0;exact⟨rfl,HE.out▸K0.out,HB.out⟩
theorem zeV (kn:Kn):∀xs:Sts,szS xs->CSI kn xs
 | .nil,_=>λi _ _ _ _ _ _ _ _ hd=>by cases i<;>simp[Sts.drop]at hd
 | .cons k0 k1 k2 k3 k4 k5 k6 kr,Ht=>λi _ _ _ _ _ _ _ _ hd=>by
  cases i with
  |zero=>
   simp only[Sts.drop]at hd;injection hd with e0 e1 e2 e3 e4 e5 e6 e7;subst e0 e1 e2 e3 e4 e5 e6 e7;exact⟨Ht.1,zel kn k2 Ht.2.1,zhU kn k3 Ht.2.2.1,zi4 kn k4 (zeV kn k4 Ht.2.2.2.1),zi4 kn k5 (zeV kn k5 Ht.2.2.2.2.1)⟩
  |succ i=>
   simp only[Sts.drop]at hd;exact zeV kn kr Ht.2.2.2.2.2 i _ _ _ _ _ _ _ _ hd
theorem zem (kn:Kn)(xs:Sts)(Ht:szS xs):CS kn xs:=zi4 kn xs (zeV kn xs Ht)
abbrev Cks:=Kn×(Int×Int)
def zbM (s:Cks)(t:List UInt8)(at_:Int)(v:Int×Int):Cks:=(zkS s.1 t v,zcx s.1 s.2 t at_)
def zaF (v:Int×Int):List Va->Cks->Cks
 | [],s=>s
 |x::r,s=>zaF v r (zbM s x.nm.data.toList x.at_ v)
def zc3:List Va->Kn->Kn
 | [],kn=>kn
 |x::r,kn=>zc3 r (kn.del x.nm.data.toList)
def zbt (nm:List UInt8)(ps:List Va)(body:Sts)(at_:Int)(s:Cks):Cks:=
 let s2:=zaF (1,0) ps (s.1,askC s.2 (decide ((ps.length:Int)<=4)) (at_,4))
 if s2.2.2=0 then((zc3 ps s2.1).put nm (3,ps.length),zan s2.1 body s2.2)else s2
theorem zdz {v:Int×Int}{xs:List Va}{i:Nat}{s:Cks}{a0 a1 ar}(hd:xs.drop i=(⟨a0,a1⟩:Va)::ar/\xs.drop (i+1)=ar):zaF v (xs.drop i) s=zaF v (xs.drop (i+1)) (zbM s a0.data.toList a1 v):=by
 rw[hd.1,hd.2];rfl
theorem zhV {xs:List Va}{i:Nat}{kn:Kn}{a0 a1 ar}(hd:xs.drop i=(⟨a0,a1⟩:Va)::ar/\xs.drop (i+1)=ar):zc3 (xs.drop i) kn=zc3 (xs.drop (i+1)) (kn.del a0.data.toList):=by
 rw[hd.1,hd.2];rfl
theorem zi5 (P b:Nat)(w:World)(hP:P < w.heap.size)(hb:b < w.heap.size):Calls Tryz.prog 82 #[.pointer (some ⟨P,0,none⟩)] w λe w'=>
  e= .returned (.func (.func 146) #[] #[.pointer (some ⟨w.heap.size,0,none⟩),.pointer (some ⟨w.heap.size+1,0,none⟩)])/\WkAt w' P b w.heap.size (w.heap.size+1)/\Fr NoT w w':=by
 have Ut:= @makeF Tryz.prog;go_enter Tryz.func82,Tryz.ntmps82;go_wp2_with fail;go_ret;refine⟨rfl,⟨?_,?_,λe=>by rcases e with e|e<;>omega,λe=>by rcases e with e|e<;>omega⟩,?_⟩
 ·exact(Bk.new _ _ _).alloc _
 ·exact Bk.new_at _ _ _ (by simp)
 ·exact((Fr.refl _ _).alloc _).alloc _
