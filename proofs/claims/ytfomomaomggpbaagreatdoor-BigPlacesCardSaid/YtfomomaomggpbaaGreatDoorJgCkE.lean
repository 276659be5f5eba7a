/- check. -/
import Derived.Test.YtfomomaomggpbaaGreatDoorJnCkC
import Derived.StillTailTactics
set_option linter.all false
set_option maxHeartbeats 3200000
set_option maxRecDepth 100000
namespace Go.Proofs.YtfomomaomggpbaaGreatDoor
open Go.RowKit Go.Shelf Go.Maps
abbrev Kn:=List UInt8->Option (Int×Int)
def thV (v:Int×Int):Value:= .agg #[.int .u8 v.1,.int .i64 v.2]
def Kn.put (kn:Kn)(t:List UInt8)(v:Int×Int):Kn:=λx=>if x=t then some v else kn x
def Kn.del (kn:Kn)(t:List UInt8):Kn:=λx=>if x=t then none else kn x
def KnM (w:World)(b n:Nat)(kn:Kn):Prop:=
 ∃D,w.ownsMap Tryz.prog 9 zdI b n D/\∀t:List UInt8,Maps.has D (.string t)=(kn t).isSome /\(∀v,kn t=some v->∀z,D.atKey (.string t) z= .held (thV v))/\(kn t=none->∀z,D.atKey (.string t) z=z)
theorem KnM.made (w:World):KnM (w.alloc (.map #[] 0)) w.heap.size 0 λ_=>none:=⟨_,World.ownsMap_made _ _ _ _,λt=>⟨rfl,λv h=>by simp at h,λ_ z=>rfl⟩⟩
theorem znh {s:ByteArray}(h:s.size<=9223372036854775807):keyOf Tryz.prog 9 (.string s)=some (.string s.data.toList):=
 WideMaps.keyOf_string_mk (P:=Tryz.prog) Tryz.underlying9 (s:=s) (by unfold maxLen;omega)
theorem KnM.lt {w:World}{b n:Nat}{kn:Kn}(h:KnM w b n kn):b < w.heap.size:=by
 obtain⟨D,Ha,_⟩:=h;exact Ha.lt
theorem KnM.put {w:World}{b n:Nat}{kn:Kn}(h:KnM w b n kn){s:ByteArray}(hs:s.size<=9223372036854775807)(v:Int×Int)(hn:n < maxLen):
  ∃w',(Instr.mapUpdate 135 (.map (some b)) (.string s) (thV v)).run Tryz.prog w= .ok () w'/\KnM w' b (n+1) (kn.put s.data.toList v)/\w.grownBy w' (some b):=by
 obtain⟨D,Ha,hD⟩:=h;obtain⟨w',GL,Ls,hg⟩:=Ha.update strKey Tryz.underlying135 hn (znh hs) (val:=thV v) (d:= .held (thV v)) (ps:= []) rfl;refine⟨w',GL,⟨_,Ls,λx=>?_⟩,hg⟩;have kx:WideAt.IsKeyLit (.string s.data.toList):=strKey.key (znh hs);unfold Kn.put;by_cases e:x=s.data.toList
 ·subst e;simp only[if_true];refine⟨by rw[has_put_same Ha.isMap kx];rfl,λu hu z=>?_,λhu=>by simp at hu⟩;rw[atKey_put_same Ha.isMap kx];simp at hu;rw[hu]
 ·have e2:(Lit.string x)≠ .string s.data.toList:=λh=>e (by simpa using h);simp only[if_neg e];refine⟨by rw[has_put_other e2,(hD x).1],λu hu z=>?_,λhu z=>?_⟩
  ·rw[atKey_put_other e2];exact(hD x).2.1 u hu z
  ·rw[atKey_put_other e2];exact(hD x).2.2 hu z
theorem zld (w:World):(zeroValue 140).run Tryz.prog w= .ok (.agg #[.int .u8 0,.int .i64 0]) w:=by kernel_rfl
theorem KnM.look {w:World}{b n:Nat}{kn:Kn}(h:KnM w b n kn){s:ByteArray}(hs:s.size<=9223372036854775807):
  (Instr.lookup 135 (.map (some b)) (.string s) true).run Tryz.prog w= .ok (.tuple #[thV ((kn s.data.toList).getD (0,0)),.bool (kn s.data.toList).isSome]) w:=by
 obtain⟨D,Ha,hD⟩:=h;obtain⟨v,ps,GL,hv⟩:=Ha.look_ok strKey Tryz.underlying135 (zld w) (zd:= .held _) (zp:= []) rfl (znh hs);rw[(hD s.data.toList).1]at GL;rw[GL];cases hl:kn s.data.toList with
 |none=>
  rw[(hD s.data.toList).2.2 hl]at hv;simp only[zdI,Option.some.injEq,Prod.mk.injEq,DataW.held.injEq]at hv;rw[hv.1];rfl
 |some u=>
  rw[(hD s.data.toList).2.1 u hl]at hv;simp only[zdI,Option.some.injEq,Prod.mk.injEq,DataW.held.injEq]at hv;rw[hv.1];rfl
theorem KnM.drop {w:World}{b n:Nat}{kn:Kn}(h:KnM w b n kn){s:ByteArray}(hs:s.size<=9223372036854775807)(ty:TypeId):
  ∃w',(Builtin.delete_ #[135,9] ty #[.map (some b),.string s]).run Tryz.prog w= .ok (.tuple #[]) w'/\KnM w' b n (kn.del s.data.toList)/\w.grownBy w' (some b):=by
 obtain⟨D,Ha,hD⟩:=h;obtain⟨w',GL,Ls,hg⟩:=Ha.drop strKey Tryz.underlying135 (znh hs) ty;refine⟨w',GL,⟨_,Ls,λx=>?_⟩,hg.grown⟩;unfold Kn.del;by_cases e:x=s.data.toList
 ·subst e;simp only[if_true];exact⟨has_del_same,λu hu=>by simp at hu,λ_ z=>atKey_del_same z⟩
 ·have e2:(Lit.string x)≠ .string s.data.toList:=λh=>e (by simpa using h);simp only[if_neg e];refine⟨by rw[has_del_other e2,(hD x).1],λu hu z=>?_,λhu z=>?_⟩
  ·rw[atKey_del_other e2];exact(hD x).2.1 u hu z
  ·rw[atKey_del_other e2];exact(hD x).2.2 hu z
structure CkAt (w:World)(P b n:Nat)(kn:Kn)(st:Int×Int):Prop where
 box:Bk w P 137 #[.map (some b),.int .i64 st.1,.int .i64 st.2]
 map:KnM w b n kn
 ne:P≠b
def CkT (P b:Nat):Nat->Prop:=λx=>x=P\/x=b
theorem KnM.fr {w w':World}{b n:Nat}{kn:Kn}{T:Nat->Prop}(h:KnM w b n kn)(hf:Fr T w w')(ht:¬T b):KnM w' b n kn:=by
 obtain⟨D,⟨es,clock,hb,F,hs,hd⟩,hD⟩:=h;exact⟨D,⟨es,clock,(hf.block b (Array.getElem?_eq_some_iff.1 hb).1 ht).trans hb,F,hs,hd⟩,hD⟩
theorem CkAt.fr {w w':World}{P b n:Nat}{kn:Kn}{st:Int×Int}{T:Nat->Prop}(h:CkAt w P b n kn st)(hf:Fr T w w')(h1:¬T P)(h2:¬T b):CkAt w' P b n kn st:=
 ⟨h.box.fr hf h1,h.map.fr hf h2,h.ne⟩
theorem CkAt.fr0 {w w':World}{P b n:Nat}{kn:Kn}{st:Int×Int}(h:CkAt w P b n kn st)(hf:Fr NoT w w'):CkAt w' P b n kn st:=h.fr hf id id
def zdM (st p:Int×Int):Int×Int:=if st.2=0 then p else st
def askC (st:Int×Int)(is:Bool)(p:Int×Int):Int×Int:=if is then st else zdM st p
def zob (P b n:Nat)(kn:Kn)(st:Int×Int)(W:World)(e:Ending)(w':World):Prop:=e= .returned (.tuple #[])/\CkAt w' P b n kn st/\Fr (CkT P b) W w'
theorem zle (P b n:Nat)(kn:Kn)(st:Int×Int)(at_ er:Int)(w:World)(h:CkAt w P b n kn st):
  Calls Tryz.prog 99 #[.pointer (some ⟨P,0,none⟩),.int .i64 at_,.int .i64 er] w (zob P b n kn (zdM st (at_,er)) w):=by
 obtain⟨a,e⟩:=st;have hb:=h.box;have c0:=hb.cell 0;have c1:=hb.cell 1;have c2:=hb.cell 2;have f1:=hb.frozen 1;have f2:=hb.frozen 2;have hl:=hb.lt;simp only[aD]at c0 c1 c2;have H:=aA h;clear h hb;by_cases he:e=0
 ·subst he;go_enter Tryz.func99,Tryz.ntmps99;go_wp2_with fail;go_end0;refine⟨rfl,⟨?_,?_,H.ne⟩,?_⟩
  ·have:=(H.box.set_ 1 (.int .i64 at_)).set_ 2 (.int .i64 er);simpa[zdM]using this
  ·exact H.map.fr (T:=λx=>x=P) (aJ (aJ aH)) (λe=>H.ne e.symm)
  ·exact(aJ (aJ aH)).mono λi _ h=> .inl h
 ·have e1:(e==0)=false:=by simpa using he
  have hf:zdM (a,e) (at_,er)=(a,e):=by unfold zdM;rw[if_neg he]
  rw[hf];clear he hf;go_enter Tryz.func99,Tryz.ntmps99;go_wp2_with fail;go_end0;exact⟨rfl,H.out,aH⟩
theorem zdQ (P b n:Nat)(kn:Kn)(st:Int×Int)(is:Bool)(at_ er:Int)(w:World)(h:CkAt w P b n kn st):
  Calls Tryz.prog 49 #[.pointer (some ⟨P,0,none⟩),.bool is,.int .i64 at_,.int .i64 er] w (zob P b n kn (askC st is (at_,er)) w):=by
 have HC:=aA (zle P b n kn st at_ er w h);have H:=aA h;clear h;cases is
 ·go_enter Tryz.func49,Tryz.ntmps49;go_wp2_with fail;refine HC.mono ?_;rintro _ w1 ⟨rfl,h1,h2⟩;have HH:=aA (aG h1 h2);clear h1 h2;go_wp2_with fail;go_end0;exact⟨rfl,HH.out⟩
 ·go_enter Tryz.func49,Tryz.ntmps49;go_wp2_with fail;go_end0;exact⟨rfl,H.out,aH⟩
def useC (kn:Kn)(st:Int×Int)(t:List UInt8)(k at_:Int):Int×Int:=askC (askC st ((kn t).isSome &&((kn t).getD (0,0)).1 != 4) (at_,110)) (((kn t).getD (0,0)).1 ==k) (at_,112)
theorem zni (P b n:Nat)(kn:Kn)(st:Int×Int)(s:ByteArray)(k at_:Int)(w:World)(h:CkAt w P b n kn st)(hs:s.size<=9223372036854775807):
  Calls Tryz.prog 102 #[.pointer (some ⟨P,0,none⟩),.string s,.int .u8 k,.int .i64 at_] w λe w'=>
   e= .returned (thV ((kn s.data.toList).getD (0,0)))/\CkAt w' P b n kn (useC kn st s.data.toList k at_)/\Fr (CkT P b) w w':=by
 obtain⟨⟨x1,x2⟩,hx⟩:=aF ((kn s.data.toList).getD (0,0));obtain⟨q,hq⟩:=aF ((kn s.data.toList).isSome );unfold useC;rw[<-hx,<-hq];simp only;have Hd:Fr NoT w (w.alloc (.cells #[.int .u8 0,.int .i64 0] 140)):=aH.alloc _;have J5:=(h.map.fr Hd id).look hs;rw[<-hx,<-hq]at J5;unfold thV at J5 ⊢;simp only at J5 ⊢;obtain⟨w2,Gc⟩:=aF ((w.alloc (.cells #[.int .u8 0,.int .i64 0] 140)).alloc (.cells #[.int .u8 x1,.int .i64 x2] 140));have He:Fr NoT w w2:=by rw[Gc];exact Hd.alloc _
 have Gd:=h.box;have c0:=Gd.cell 0;have hl:=Gd.lt;simp only[aD]at c0;have JS:=h.map.lt;have GT:Bk w2 w.heap.size 140 #[.int .u8 0,.int .i64 0]:=by rw[Gc];exact(Bk.new _ _ _).alloc _
 have jN:Bk w2 (w.heap.size+1) 140 #[.int .u8 x1,.int .i64 x2]:=by rw[Gc];exact Bk.new_at _ _ _ (by simp)
 obtain⟨p4,LX⟩:=aF ((x1 != 4));obtain⟨p5,RV⟩:=aF ((x1==k));rw[<-LX,<-RV];have e4:=LX.symm;have e5:=RV.symm;have H1:=aA (λis=>zdQ P b n kn st is at_ 110 w2 (h.fr0 He));have Hu:=aA He;have GF:=aA GT;have GU:=aA jN;have Kz:=aA Gc;have MX:¬CkT P b w.heap.size:=λe=>by rcases e with e|e<;>omega
 have WE:¬CkT P b (w.heap.size+1):=λe=>by rcases e with e|e<;>omega
 have Ko:=aA (aG MX WE);clear hx hq h Hd He Gc GT jN Gd LX RV MX WE;cases q;all_goals
  go_enter Tryz.func102,Tryz.ntmps102;go_wp2_with fail;rw[<-Kz.out];refine(H1 _).mono ?_;rintro _ w3 ⟨rfl,h3,Gg⟩;have Yg:=GU.fr Gg Ko.2;have d0:=Yg.cell 0;have JP:=Yg.lt;simp only[aD]at d0;have H3:=aA (zdQ P b n kn _ p5 at_ 112 w3 h3);have Vs:=aA Yg;have Fe:=aA (GF.fr Gg Ko.1);have Gi:=aA ((Hu.mono λ_ _ h=>h.elim:Fr (CkT P b) w w2).trans Gg);clear h3 Gg Yg;go_wp2_with fail;refine H3.mono ?_;rintro _ w4 ⟨rfl,h4,HJ⟩;have Yh:=Vs.fr HJ Ko.2;have Pa:=Fe.fr HJ Ko.1;have a0:=Yh.cell 0;have a1:=Yh.cell 1;have KP:=Yh.lt;have b0:=Pa.cell 0;have b1:=Pa.cell 1;have f0:=Pa.frozen 0;have f1:=Pa.frozen 1;have Jr:=Pa.lt;simp only[aD]at a0 a1 b0 b1;have H4:=aA h4;have GG:=aA (Gi.trans HJ);have Np:=(Pa.set_ 0 (.int .u8 x1)).set_ 1 (.int .i64 x2);have r0:=Np.cell 0;have r1:=Np.cell 1;have Jb:=Np.lt;simp only[List.getElem?_toArray,List.getElem?_cons_succ,List.getElem?_cons_zero,List.setIfInBounds_toArray,List.set_cons_zero,List.set_cons_succ]at r0 r1;clear h4 HJ Yh Pa Np;go_wp2_with fail;refine bodyPost_ret (v:= .agg #[.int .u8 x1,.int .i64 x2]) (by simp[results,Tryz.results102,go_sem,r0,r1,Jb]) rfl ⟨rfl,?_,?_⟩
  ·exact H4.fr (T:=λx=>x=w.heap.size) (aJ (aJ aH)) (λe=>Ko.1 (.inl e.symm)) (λe=>Ko.1 (.inr e.symm))
  ·exact(GG.high (aL _) 0 _).high (aL _) 1 _
def CkN (w:World)(P b N:Nat)(kn:Kn)(st:Int×Int):Prop:=∃n,n<=N/\CkAt w P b n kn st
def zlf (kn:Kn)(t:List UInt8)(v:Int×Int):Kn:=if(kn t).isSome then kn else kn.put t v
def zfY (kn:Kn)(st:Int×Int)(t:List UInt8)(at_:Int):Int×Int:=askC st (!(kn t).isSome) (at_,111)
theorem zbz (P b N:Nat)(kn:Kn)(st:Int×Int)(s:ByteArray)(at_:Int)(v:Int×Int)(w:World)(h:CkN w P b N kn st)(hs:s.size<=9223372036854775807)(hN:N < maxLen):
  Calls Tryz.prog 48 #[.pointer (some ⟨P,0,none⟩),.string s,.int .i64 at_,thV v] w λe w'=>
   e= .returned (.tuple #[])/\CkN w' P b (N+1) (zlf kn s.data.toList v) (zfY kn st s.data.toList at_)/\Fr (CkT P b) w w':=by
 obtain⟨n,hn,h⟩:=h;obtain⟨v1,v2⟩:=v;obtain⟨⟨x1,x2⟩,hx⟩:=aF ((kn s.data.toList).getD (0,0));obtain⟨q,hq⟩:=aF ((kn s.data.toList).isSome );unfold zfY zlf;rw[<-hq];obtain⟨w1,Hc⟩:=aF (w.alloc (.cells #[.int .u8 v1,.int .i64 v2] 140));have Hd:Fr NoT w w1:=by rw[Hc];exact aH.alloc _
 have J5:=(h.map.fr Hd id).look hs;rw[<-hx,<-hq,Hc]at J5;unfold thV at J5 ⊢;simp only at J5 ⊢;obtain⟨w2,Gc⟩:=aF ((w.alloc (.cells #[.int .u8 v1,.int .i64 v2] 140)).alloc (.cells #[.int .u8 x1,.int .i64 x2] 140));have He:Fr NoT w w2:=by rw[Gc];exact(aH.alloc _).alloc _
 have Gd:=h.box;have c0:=Gd.cell 0;have hl:=Gd.lt;simp only[aD]at c0;have JS:=h.map.lt;have Kv:Bk w2 w.heap.size 140 #[.int .u8 v1,.int .i64 v2]:=by rw[Gc];exact(Bk.new _ _ _).alloc _
 have H1:=aA (λis=>zdQ P b n kn st is at_ 111 w2 (h.fr0 He));have Hu:=aA He;have V7:=aA Kv;have Kz:=aA Gc;have MX:¬CkT P b w.heap.size:=λe=>by rcases e with e|e<;>omega
 have Ko:=aA MX;have HN:=aA (aG hn hN);have HS:=aA hs;clear hx hq h Hd He Hc Gc Kv Gd MX hn hN;cases q;all_goals
  go_enter Tryz.func48,Tryz.ntmps48;go_wp2_with fail;rw[<-Kz.out];refine(H1 _).mono ?_;rintro _ w3 ⟨rfl,h3,Gg⟩;have KL:=V7.fr Gg Ko.out;have d0:=KL.cell 0;have d1:=KL.cell 1;have JP:=KL.lt;have FL:=h3.box;have p0:=FL.cell 0;have KQ:=FL.lt;simp only[aD]at d0 d1 p0;obtain⟨w4,K1,h4,QZ⟩:=(h3.map.fr ((Fr.refl NoT w3).drew) id).put HS.out (v1,v2) (by have:=HN.out;omega);have H3:=aA h3;have H4:=aA h4;have WF:=aA QZ;have Gi:=aA ((Hu.mono λ_ _ h=>h.elim:Fr (CkT P b) w w2).trans Gg);unfold thV at K1;simp only at K1;clear h3 Gg KL FL h4 QZ
 ·go_wp2_with fail;refine wp_region_still_tail 6 (by kernel_rfl) (by kernel_rfl) ?_;simp only[List.take_succ_cons,List.take_zero,List.drop_succ_cons,List.drop_zero]
  repeat still_step
  try refine wpStill_nil ?_
  go_wp2_with fail;go_end0;have HJ:Fr (CkT P b) w3 w4:=(aH.drew).trans (Fr.grown WF.out λg e _=> .inr (Option.some.inj e).symm);have QW:=H3.box.fr (((Fr.refl (λx=>x=b) w3).drew).trans (Fr.grown WF.out λg e _=>(Option.some.inj e).symm)) H3.ne;exact⟨rfl,⟨n+1,by have:=HN.out;omega,QW,H4.out,H3.ne⟩,Gi.trans HJ⟩
 ·go_wp2_with fail;go_end0;exact⟨rfl,⟨n,by have:=HN.out;omega,H3.out⟩,Gi.out⟩
def CkP (P b N:Nat)(kn:Kn)(st:Int×Int)(W:World)(e:Ending)(w':World):Prop:=e= .returned (.tuple #[])/\CkN w' P b N kn st/\Fr (CkT P b) W w'
theorem CkN.fr0 {w w':World}{P b N:Nat}{kn:Kn}{st:Int×Int}(h:CkN w P b N kn st)(hf:Fr NoT w w'):CkN w' P b N kn st:=by
 obtain⟨n,hn,h⟩:=h;exact⟨n,hn,h.fr0 hf⟩
theorem CkN.lt {w:World}{P b N:Nat}{kn:Kn}{st:Int×Int}(h:CkN w P b N kn st):P < w.heap.size/\b < w.heap.size:=by
 obtain⟨n,hn,h⟩:=h;exact⟨h.box.lt,h.map.lt⟩
theorem zgV (P b N:Nat)(kn:Kn)(st:Int×Int)(s:ByteArray)(k at_:Int)(w:World)(h:CkN w P b N kn st)(hs:s.size<=9223372036854775807):
  Calls Tryz.prog 102 #[.pointer (some ⟨P,0,none⟩),.string s,.int .u8 k,.int .i64 at_] w λe w'=>
   e= .returned (thV ((kn s.data.toList).getD (0,0)))/\CkN w' P b N kn (useC kn st s.data.toList k at_)/\Fr (CkT P b) w w':=by
 obtain⟨n,hn,h⟩:=h;exact(zni P b n kn st s k at_ w h hs).mono λ_ _ ⟨h1,h2,h3⟩=>⟨h1,⟨n,hn,h2⟩,h3⟩
theorem zew (P b N:Nat)(kn:Kn)(st:Int×Int)(is:Bool)(at_ er:Int)(w:World)(h:CkN w P b N kn st):
  Calls Tryz.prog 49 #[.pointer (some ⟨P,0,none⟩),.bool is,.int .i64 at_,.int .i64 er] w (CkP P b N kn (askC st is (at_,er)) w):=by
 obtain⟨n,hn,h⟩:=h;exact(zdQ P b n kn st is at_ er w h).mono λ_ _ ⟨h1,h2,h3⟩=>⟨h1,⟨n,hn,h2⟩,h3⟩
def zaI (kn:Kn):Exs->Int×Int->Int×Int
 | .nil,st=>st
 | .cons k nm _ args at_ r,st=>zaI kn r (zaI kn args (if k=2 then useC kn st nm.data.toList 1 at_ else if k=3 then useC kn st nm.data.toList 2 at_ else st))
theorem zhA {kn:Kn}{xs:Exs}{i:Nat}{st:Int×Int}{k nm n args at_ r}(hd:Exs.drop i xs= .cons k nm n args at_ r):
  zaI kn (Exs.drop i xs) st=zaI kn (Exs.drop (i+1) xs) (zaI kn args (if k=2 then useC kn st nm.data.toList 1 at_ else if k=3 then useC kn st nm.data.toList 2 at_ else st)):=by
 rw[Exs.drop_succ i xs hd,hd];rfl
def CX (kn:Kn)(xs:Exs):Prop:=∀(P b N:Nat)(st:Int×Int)(W:World)(S:Nat->Prop)(Z:Prop)(A:Option Addr)(c:Nat),CkN W P b N kn st->(∀x,S x->x < W.heap.size/\¬CkT P b x)->SlR (λb o=>ExR W S Z xs b o) xs.len 64 A c->
 Calls Tryz.prog 103 #[.pointer (some ⟨P,0,none⟩),.slice A xs.len c] W (CkP P b N kn (zaI kn xs st) W)
def CXI (kn:Kn)(xs:Exs):Prop:=∀(i:Nat)(a0:Int)(a1:ByteArray)(a2:Int)(a3:Exs)(a4:Int)(ar:Exs),Exs.drop i xs= .cons a0 a1 a2 a3 a4 ar->a1.size<=9223372036854775807/\CX kn a3
theorem zoc (kn:Kn)(xs:Exs)(FI:CXI kn xs):CX kn xs:=by
 intro P b N st w S Z A c hc hS hx;have hl:xs.len<=9223372036854775807:=aK hx.1 hx.2.1.1;have HA:=aA FI;have HX:=aA hx;have HS:=aA hS;have HC:=aA hc;obtain⟨m,hm⟩:=aF xs.len;rw[<-hm]at hl ⊢;have HM:=aA hm;obtain⟨F,hF⟩:=aF (zaI kn xs st);rw[<-hF];have HF:=aA hF;clear FI hx hS hm hc hF;go_enter Tryz.func103,Tryz.ntmps103;go_wp2_with fail;go_loopw [8] (λi wr=>∃(k:Nat)(s:Int×Int),k<=m/\i= .int .i64 k/\Hid (Fr (CkT P b) w wr)/\Hid (CkN wr P b N kn s)/\Hid (F=zaI kn (Exs.drop k xs) s)) (λi _=>m - (intOf i).toNat);case atStart=>exact⟨0,st,Nat.zero_le _,rfl,aH,HC.out,HF.out⟩
 case round=>
  obtain⟨k,s,hk,rfl,hb,FJ,Hb⟩:=hrel;by_cases Hk:k < m
  ·obtain⟨a0,a1,a2,a3,a4,ar,hd⟩:=Exs.drop_cons (show k < xs.len from by rw[<-HM.out];exact Hk);obtain⟨B,o,rfl,Hg⟩:=HX.2.2 (by rw[<-HM.out];omega);have Hq:=(ExR.keep (hb.same λb hb=>HS b hb) Hg).drop k;rw[hd]at Hq;obtain⟨⟨Gn,_,r0,r1,r2,c0,c1,c2,c4⟩,⟨A3,q3,c3,s3⟩,_⟩:=Hq;have JC:B < wr.heap.size:=aM (HS _ Gn).1 hb.size;have Gj:(k:Int) < (m:Int):=by omega
   have G9:(0:Int)<=(k:Int):=by omega
   obtain⟨Hx,MY⟩:=HA k a0 a1 a2 a3 a4 ar hd;obtain⟨w2,Gc⟩:=aF (wr.alloc (.cells #[.int .u8 a0,.string a1,.int .i64 a2,.slice A3 a3.len q3,.int .i64 a4] 175));have He:Fr NoT wr w2:=by rw[Gc];exact aH.alloc _
   have GS:Bk w2 wr.heap.size 175 #[.int .u8 a0,.string a1,.int .i64 a2,.slice A3 a3.len q3,.int .i64 a4]:=by rw[Gc];exact Bk.new _ _ _
   have HU:=aA (λkk=>zgV P b N kn s a1 kk a4 w2 (FJ.fr0 He) Hx);have Sd:=aA (λ(xk:Int×Int)(W:World)(hW:CkN W P b N kn xk)(h:Fr (CkT P b) wr W)=>MY P b N xk W S Z A3 q3 hW (λx hx=>⟨aM (HS x hx).1 (hb.trans h).size,(HS x hx).2⟩) (s3.imp λ_ _ hx=>ExR.keep (h.same λx hx=>⟨aM (HS x hx).1 hb.size,(HS x hx).2⟩) hx));have Mo:=FJ.lt;have MX:¬CkT P b wr.heap.size:=λe=>by rcases e with e|e<;>omega
   have Gb:=aA (Hb.trans (zhA hd));have HB:=aA hb.out;have LP:=aA FJ.out;have Kz:=aA Gc;have JE:=aA GS;have Hu:=aA He;have Ko:=aA MX;clear hd Hg Hb hb Gn s3 r0 r1 r2 FJ Hx MY Gc He GS Mo MX;by_cases h2:a0=2\/a0=3
   ·rcases h2 with rfl|rfl;all_goals
     go_wp2_with fail;rw[<-Kz.out];refine(HU _).mono ?_;rintro _ w3 ⟨rfl,h3,Gg⟩;have Jc:=JE.fr Gg Ko.out;have d3:=Jc.cell 3;have JP:=Jc.lt;simp only[aD]at d3;have Gi:=aA ((Hu.any:Fr (CkT P b) wr w2).trans Gg);have HR:=aA (Sd _ w3 h3 Gi.out);clear h3 Gg Jc c0 c1 c2 c3 c4;go_wp2_with fail;refine HR.mono ?_;rintro _ w4 ⟨rfl,h4,HJ⟩;have HN:=aA (aG h4 ((HB.trans Gi.out).trans HJ));clear h4 HJ d3;go_wp2_with fail;go_roundw;case rel=>exact⟨k+1,_,by omega,by go_num,HN.2,HN.1,Gb.out⟩
     case measure=>simp[intOf];omega
   ·have ZR:a0≠2:=λe=>h2 (.inl e);have ZS:a0≠3:=λe=>h2 (.inr e);have e2:(a0==2)=false:=by simpa using ZR
    have e3:(a0==3)=false:=by simpa using ZS
    have LZ:=aA (show F=zaI kn (Exs.drop (k+1) xs) (zaI kn a3 s)from by rw[Gb.out,if_neg ZR,if_neg ZS]);have HR:=aA (Sd _ w2 (LP.fr0 Hu.out) Hu.any);clear h2 ZR ZS;go_wp2_with fail;rw[<-Kz.out];refine HR.mono ?_;rintro _ w4 ⟨rfl,h4,HJ⟩;have HN:=aA (aG h4 ((HB.trans (Hu.any:Fr (CkT P b) wr w2)).trans HJ));clear h4 HJ c0 c1 c2 c3 c4;go_wp2_with fail;go_roundw;case rel=>exact⟨k+1,_,by omega,by go_num,HN.2,HN.1,LZ.out⟩
    case measure=>simp[intOf];omega
  ·have HE:=aA (show F=s from by rw[Hb.out,Exs.drop_nil (by rw[<-HM.out];omega)];rfl);have HB:=aA hb.out;have LP:=aA FJ.out;clear Hb hb FJ;go_wp2_with fail;go_end0;exact⟨rfl,HE.out▸LP.out,HB.out⟩
theorem zhB (kn:Kn):∀xs:Exs,szX xs->CXI kn xs
 | .nil,_=>λi _ _ _ _ _ _ hd=>by cases i<;>simp[Exs.drop]at hd
 | .cons k0 k1 k2 k3 k4 kr,Hx=>λi _ _ _ _ _ _ hd=>by
  cases i with
  |zero=>
   simp only[Exs.drop]at hd;injection hd with e0 e1 e2 e3 e4 e5;subst e0 e1 e2 e3 e4 e5;exact⟨Hx.1,zoc kn k3 (zhB kn k3 Hx.2.1)⟩
  |succ i=>
   simp only[Exs.drop]at hd;exact zhB kn kr Hx.2.2 i _ _ _ _ _ _ hd
theorem zfl (kn:Kn)(xs:Exs)(Hx:szX xs):CX kn xs:=zoc kn xs (zhB kn xs Hx)
def zaV (kn:Kn):Cds->Int×Int->Int×Int
 | .nil,st=>st
 | .cons _ args of_ _ r,st=>zaV kn r (zaV kn of_ (zaI kn args st))
theorem zhC {kn:Kn}{xs:Cds}{i:Nat}{st:Int×Int}{k args of_ at_ r}(hd:Cds.drop i xs= .cons k args of_ at_ r):
  zaV kn (Cds.drop i xs) st=zaV kn (Cds.drop (i+1) xs) (zaV kn of_ (zaI kn args st)):=by
 rw[Cds.drop_succ i xs hd,hd];rfl
def CC (kn:Kn)(xs:Cds):Prop:=∀(P b N:Nat)(st:Int×Int)(W:World)(S:Nat->Prop)(Z:Prop)(A:Option Addr)(c:Nat),CkN W P b N kn st->(∀x,S x->x < W.heap.size/\¬CkT P b x)->SlR (λb o=>CdR W S Z xs b o) xs.len 64 A c->
 Calls Tryz.prog 104 #[.pointer (some ⟨P,0,none⟩),.slice A xs.len c] W (CkP P b N kn (zaV kn xs st) W)
def CCI (kn:Kn)(xs:Cds):Prop:=∀(i:Nat)(a0:Int)(a1:Exs)(a2:Cds)(a3:Int)(ar:Cds),Cds.drop i xs= .cons a0 a1 a2 a3 ar->CX kn a1/\CC kn a2
theorem zod (kn:Kn)(xs:Cds)(FI:CCI kn xs):CC kn xs:=by
 intro P b N st w S Z A c hc hS hx;have hl:xs.len<=9223372036854775807:=aK hx.1 hx.2.1.1;have HA:=aA FI;have HX:=aA hx;have HS:=aA hS;have HC:=aA hc;obtain⟨m,hm⟩:=aF xs.len;rw[<-hm]at hl ⊢;have HM:=aA hm;obtain⟨F,hF⟩:=aF (zaV kn xs st);rw[<-hF];have HF:=aA hF;clear FI hx hS hm hc hF;go_enter Tryz.func104,Tryz.ntmps104;go_wp2_with fail;go_loopw [8] (λi wr=>∃(k:Nat)(s:Int×Int),k<=m/\i= .int .i64 k/\Hid (Fr (CkT P b) w wr)/\Hid (CkN wr P b N kn s)/\Hid (F=zaV kn (Cds.drop k xs) s)) (λi _=>m - (intOf i).toNat);case atStart=>exact⟨0,st,Nat.zero_le _,rfl,aH,HC.out,HF.out⟩
 case round=>
  obtain⟨k,s,hk,rfl,hb,FJ,Hb⟩:=hrel;by_cases Hk:k < m
  ·obtain⟨a0,a1,a2,a3,ar,hd⟩:=Cds.drop_cons (show k < xs.len from by rw[<-HM.out];exact Hk);obtain⟨B,o,rfl,Hg⟩:=HX.2.2 (by rw[<-HM.out];omega);have Hq:=(CdR.keep (hb.same λb hb=>HS b hb) Hg).drop k;rw[hd]at Hq;obtain⟨⟨Gn,_,r0,r1,c0,c3⟩,⟨A1,q1,c1,s1⟩,⟨A2,q2,c2,s2⟩,_⟩:=Hq;have JC:B < wr.heap.size:=aM (HS _ Gn).1 hb.size;have Gj:(k:Int) < (m:Int):=by omega
   have G9:(0:Int)<=(k:Int):=by omega
   obtain⟨MZ,M0⟩:=HA k a0 a1 a2 a3 ar hd;obtain⟨w2,Gc⟩:=aF (wr.alloc (.cells #[.int .u8 a0,.slice A1 a1.len q1,.slice A2 a2.len q2,.int .i64 a3] 179));have He:Fr NoT wr w2:=by rw[Gc];exact aH.alloc _
   have GS:Bk w2 wr.heap.size 179 #[.int .u8 a0,.slice A1 a1.len q1,.slice A2 a2.len q2,.int .i64 a3]:=by rw[Gc];exact Bk.new _ _ _
   have Se:∀W,Fr (CkT P b) wr W->∀x,S x->x < W.heap.size/\¬CkT P b x:=λW h x hx=>⟨aM (HS x hx).1 (hb.trans h).size,(HS x hx).2⟩;have Sf:∀W,Fr (CkT P b) wr W->SameS S wr W:=λW h=>h.same λx hx=>⟨aM (HS x hx).1 hb.size,(HS x hx).2⟩;have L0:=aA (MZ P b N s w2 S Z A1 q1 (FJ.fr0 He) (Se w2 He.any) (s1.imp λ_ _ hx=>ExR.keep (Sf w2 He.any) hx));have Sd:=aA (λ(xk:Int×Int)(W:World)(hW:CkN W P b N kn xk)(h:Fr (CkT P b) wr W)=>M0 P b N xk W S Z A2 q2 hW (Se W h) (s2.imp λ_ _ hx=>CdR.keep (Sf W h) hx));have Mo:=FJ.lt;have MX:¬CkT P b wr.heap.size:=λe=>by rcases e with e|e<;>omega
   have Gb:=aA (Hb.trans (zhC hd));have HB:=aA hb.out;have Kz:=aA Gc;have JE:=aA GS;have Hu:=aA He;have Ko:=aA MX;clear hd Hg Hb hb Gn s1 s2 r0 r1 FJ MZ M0 Gc He GS Mo MX Se Sf;go_wp2_with fail;rw[<-Kz.out];refine L0.mono ?_;rintro _ w3 ⟨rfl,h3,Gg⟩;have Jc:=JE.fr Gg Ko.out;have d3:=Jc.cell 2;have JP:=Jc.lt;simp only[aD]at d3;have Gi:=aA ((Hu.any:Fr (CkT P b) wr w2).trans Gg);have HR:=aA (Sd _ w3 h3 Gi.out);clear h3 Gg Jc c0 c1 c2 c3;go_wp2_with fail;refine HR.mono ?_;rintro _ w4 ⟨rfl,h4,HJ⟩;have HN:=aA (aG h4 ((HB.trans Gi.out).trans HJ));clear h4 HJ d3;go_wp2_with fail;go_roundw;case rel=>exact⟨k+1,_,by omega,by go_num,HN.2,HN.1,Gb.out⟩
   case measure=>simp[intOf];omega
  ·have HE:=aA (show F=s from by rw[Hb.out,Cds.drop_nil (by rw[<-HM.out];omega)];rfl);have HB:=aA hb.out;have LP:=aA FJ.out;clear Hb hb FJ;go_wp2_with fail;go_end0;exact⟨rfl,HE.out▸LP.out,HB.out⟩
theorem zhD (kn:Kn):∀xs:Cds,szC xs->CCI kn xs
 | .nil,_=>λi _ _ _ _ _ hd=>by cases i<;>simp[Cds.drop]at hd
 | .cons k0 k1 k2 k3 kr,Hx=>λi _ _ _ _ _ hd=>by
  cases i with
  |zero=>
   simp only[Cds.drop]at hd;injection hd with e0 e1 e2 e3 e4;subst e0 e1 e2 e3 e4;exact⟨zfl kn k1 Hx.1,zod kn k2 (zhD kn k2 Hx.2.1)⟩
  |succ i=>
   simp only[Cds.drop]at hd;exact zhD kn kr Hx.2.2 i _ _ _ _ _ hd
theorem zjq (kn:Kn)(xs:Cds)(Hx:szC xs):CC kn xs:=zod kn xs (zhD kn xs Hx)
def zex (kn:Kn)(k:Int)(nm:List UInt8)(na:Int)(at_:Int)(st:Int×Int):Int×Int:=
 if k=2\/k=4 then useC kn st nm 1 at_ else if k=3 then useC kn st nm 2 at_ else if k=9 then askC (useC kn st nm 3 at_) (((kn nm).getD (0,0)).2 ==na) (at_,114)else st
def zaq (kn:Kn):Sts->Int×Int->Int×Int
 | .nil,st=>st
 | .cons k nm args cond body els at_ r,st=>zaq kn r (zaq kn els (zaq kn body (zaV kn cond (zaI kn args (zex kn k nm.data.toList (args.len:Int) at_ st)))))
theorem zhE {kn:Kn}{xs:Sts}{i:Nat}{st:Int×Int}{k nm args cond body els at_ r}(hd:Sts.drop i xs= .cons k nm args cond body els at_ r):
  zaq kn (Sts.drop i xs) st=zaq kn (Sts.drop (i+1) xs) (zaq kn els (zaq kn body (zaV kn cond (zaI kn args (zex kn k nm.data.toList (args.len:Int) at_ st))))):=by
 rw[Sts.drop_succ i xs hd,hd];rfl
structure WkAt (w:World)(P b B1 B2:Nat):Prop where
 p:Bk w B1 134 #[.pointer (some ⟨P,0,none⟩)]
 f:Bk w B2 145 #[.func (.func 101) #[] #[.pointer (some ⟨B1,0,none⟩),.pointer (some ⟨B2,0,none⟩)]]
 n1:¬CkT P b B1
 n2:¬CkT P b B2
theorem WkAt.fr {w w':World}{P b B1 B2:Nat}(h:WkAt w P b B1 B2)(hf:Fr (CkT P b) w w'):WkAt w' P b B1 B2:=⟨h.p.fr hf h.n1,h.f.fr hf h.n2,h.n1,h.n2⟩
def CS (kn:Kn)(xs:Sts):Prop:=∀(P b N B1 B2:Nat)(st:Int×Int)(W:World)(S:Nat->Prop)(Z:Prop)(A:Option Addr)(c:Nat),CkN W P b N kn st->WkAt W P b B1 B2->(∀x,S x->x < W.heap.size/\¬CkT P b x)->SlR (λb o=>StR W S Z xs b o) xs.len 128 A c->
 Calls Tryz.prog 101 #[.slice A xs.len c,.pointer (some ⟨B1,0,none⟩),.pointer (some ⟨B2,0,none⟩)] W (CkP P b N kn (zaq kn xs st) W)
def CSI (kn:Kn)(xs:Sts):Prop:=∀(i:Nat)(a0:Int)(a1:ByteArray)(a2:Exs)(a3:Cds)(a4 a5:Sts)(a6:Int)(ar:Sts),Sts.drop i xs= .cons a0 a1 a2 a3 a4 a5 a6 ar->a1.size<=9223372036854775807/\CX kn a2/\CC kn a3/\CS kn a4/\CS kn a5
theorem zlg (kn:Kn)(xs:Sts)(FI:CSI kn xs):CS kn xs:=by
 intro P b N B1 B2 st w S Z A c hc jO hS hx;have hl:xs.len<=9223372036854775807:=aK hx.1 hx.2.1.1;have hent:Enters Tryz.prog 101:=enters_of Tryz.func101 (by kernel_rfl) rfl;have HA:=aA FI;have HX:=aA hx;have HS:=aA hS;have HC:=aA hc;have vL:=aA jO;obtain⟨m,hm⟩:=aF xs.len;rw[<-hm]at hl ⊢;have HM:=aA hm;obtain⟨F,hF⟩:=aF (zaq kn xs st);rw[<-hF];have HF:=aA hF;clear FI hx hS hm hc hF jO;unfold Enters at hent;go_enter Tryz.func101,Tryz.ntmps101;go_wp2_with fail;go_loopw [9] (λi wr=>∃(k:Nat)(s:Int×Int),k<=m/\i= .int .i64 k/\Hid (Fr (CkT P b) w wr)/\Hid (CkN wr P b N kn s)/\Hid (F=zaq kn (Sts.drop k xs) s)) (λi _=>m - (intOf i).toNat);case atStart=>exact⟨0,st,Nat.zero_le _,rfl,aH,HC.out,HF.out⟩
 case round=>
  obtain⟨k,s,hk,rfl,hb,FJ,Hb⟩:=hrel;by_cases Hk:k < m
  ·obtain⟨a0,a1,a2,a3,a4,a5,a6,ar,hd⟩:=Sts.drop_cons (show k < xs.len from by rw[<-HM.out];exact Hk);obtain⟨B,o,rfl,Hg⟩:=HX.2.2 (by rw[<-HM.out];omega);have Hq:=(StR.keep (hb.same λb hb=>HS b hb) Hg).drop k;rw[hd]at Hq;obtain⟨⟨Gn,_,r0,r1,c0,c1,c6⟩,⟨A2,q2,c2,s2⟩,⟨A3,q3,c3,s3⟩,⟨A4,q4,c4,s4⟩,⟨A5,q5,c5,s5⟩,_⟩:=Hq;have JC:B < wr.heap.size:=aM (HS _ Gn).1 hb.size;have Gj:(k:Int) < (m:Int):=by omega
   have G9:(0:Int)<=(k:Int):=by omega
   have Lh:a2.len<=9223372036854775807:=aK s2.1 s2.2.1.1;obtain⟨Hx,MZ,M0,S6,S7⟩:=HA k a0 a1 a2 a3 a4 a5 a6 ar hd;obtain⟨w2,Gc⟩:=aF (wr.alloc (.cells #[.int .u8 a0,.string a1,.slice A2 a2.len q2,.slice A3 a3.len q3,.slice A4 a4.len q4,.slice A5 a5.len q5,.int .i64 a6] 51));have He:Fr NoT wr w2:=by rw[Gc];exact aH.alloc _
   have GS:Bk w2 wr.heap.size 51 #[.int .u8 a0,.string a1,.slice A2 a2.len q2,.slice A3 a3.len q3,.slice A4 a4.len q4,.slice A5 a5.len q5,.int .i64 a6]:=by rw[Gc];exact Bk.new _ _ _
   have Se:∀W,Fr (CkT P b) wr W->∀x,S x->x < W.heap.size/\¬CkT P b x:=λW h x hx=>⟨aM (HS x hx).1 (hb.trans h).size,(HS x hx).2⟩;have Sf:∀W,Fr (CkT P b) wr W->SameS S wr W:=λW h=>h.same λx hx=>⟨aM (HS x hx).1 hb.size,(HS x hx).2⟩;have PA:=vL.fr hb.out;have HU:=aA (λkk=>zgV P b N kn s a1 kk a6 w2 (FJ.fr0 He) Hx);have L0:=aA (λ(xk:Int×Int)(W:World)(hW:CkN W P b N kn xk)(h:Fr (CkT P b) wr W)=>MZ P b N xk W S Z A2 q2 hW (Se W h) (s2.imp λ_ _ hx=>ExR.keep (Sf W h) hx));have GF:=aA (λ(xk:Int×Int)(W:World)(hW:CkN W P b N kn xk)(h:Fr (CkT P b) wr W)=>M0 P b N xk W S Z A3 q3 hW (Se W h) (s3.imp λ_ _ hx=>CdR.keep (Sf W h) hx));have Fe:=aA (λ(xk:Int×Int)(W:World)(hW:CkN W P b N kn xk)(h:Fr (CkT P b) wr W)=>S6 P b N B1 B2 xk W S Z A4 q4 hW (PA.fr h) (Se W h) (s4.imp λ_ _ hx=>StR.keep (Sf W h) hx));have K6:=aA (λ(xk:Int×Int)(W:World)(hW:CkN W P b N kn xk)(h:Fr (CkT P b) wr W)=>S7 P b N B1 B2 xk W S Z A5 q5 hW (PA.fr h) (Se W h) (s5.imp λ_ _ hx=>StR.keep (Sf W h) hx));have Mo:=FJ.lt;have MX:¬CkT P b wr.heap.size:=λe=>by rcases e with e|e<;>omega
   have Gb:=aA (Hb.trans (zhE hd));have Jk:=PA.p.cell 0;have Lz:=PA.p.lt;simp only[aD]at Jk;have K2:=aA PA;have HB:=aA hb.out;have LP:=aA FJ.out;have Kz:=aA Gc;have JE:=aA GS;have Hu:=aA He;have Ko:=aA MX;clear hd Hg Hb hb Gn s2 s3 s4 s5 r0 r1 FJ Hx MZ M0 S6 S7 Gc He GS Mo MX Se Sf PA;have LA:(a0=2\/a0=4\/a0=3)\/a0=9\/(a0≠2/\a0≠4/\a0≠3/\a0≠9):=by omega
   rcases LA with h2|rfl|⟨n2,n4,n3,n9⟩
   ·have LZ:∃kk,Hid (F=zaq kn (Sts.drop (k+1) xs) (zaq kn a5 (zaq kn a4 (zaV kn a3 (zaI kn a2 (useC kn s a1.data.toList kk a6))))))/\kk=(if a0=3 then 2 else 1):=by
     rcases h2 with rfl|rfl|rfl;all_goals exact⟨_,Gb.out,rfl⟩
    obtain⟨kk,Lr,KV⟩:=LZ;clear Gb;rcases h2 with rfl|rfl|rfl;all_goals
     simp at KV;subst KV;go_wp2_with fail;rw[<-Kz.out];refine(HU _).mono ?_;rintro _ w3 ⟨rfl,h3,Gg⟩;have Gi:=aA ((Hu.any:Fr (CkT P b) wr w2).trans Gg);have Jc:=JE.fr Gg Ko.out;have HR:=aA (L0 _ w3 h3 Gi.out);have d2:=Jc.cell 2;have JP:=Jc.lt;have GR:=K2.fr Gi.out;have g1:=GR.p.cell 0;have g2:=GR.p.lt;simp only[aD]at d2 g1;have Ly:=aA Jc;clear h3 Gg Jc GR c0 c1 c2 c3 c4 c5 c6;go_wp2_with fail;refine HR.mono ?_;rintro _ w4 ⟨rfl,h4,HJ⟩;have GG:=aA (Gi.trans HJ);have Fq:=Ly.fr HJ Ko.out;have HR:=aA (GF _ w4 h4 GG.out);have d4:=Fq.cell 3;have KP:=Fq.lt;have Fv:=K2.fr GG.out;have g4:=Fv.p.cell 0;have ua:=Fv.p.lt;simp only[aD]at d4 g4;have LO:=aA Fq;clear h4 HJ Fq Fv d2 g1 g2;go_wp2_with fail;refine HR.mono ?_;rintro _ w5 ⟨rfl,h5,Hm⟩;have Gk:=aA (GG.trans Hm);have Hz:=LO.fr Hm Ko.out;have HR:=aA (Fe _ w5 h5 Gk.out);have d5:=Hz.cell 4;have Jr:=Hz.lt;have Jd:=K2.fr Gk.out;have g5:=Jd.f.cell 0;have ub:=Jd.f.lt;simp only[aD]at d5 g5;have JF:=aA Hz;clear h5 Hm Hz Jd d4 g4 ua;go_wp2_with fail;refine HR.mono ?_;rintro _ w6 ⟨rfl,h6,GA⟩;have G1:=aA (Gk.trans GA);have Fj:=JF.fr GA Ko.out;have HR:=aA (K6 _ w6 h6 G1.out);have d6:=Fj.cell 5;have Jb:=Fj.lt;have FO:=K2.fr G1.out;have g6:=FO.f.cell 0;have uc:=FO.f.lt;simp only[aD]at d6 g6;have J6:=aA Fj;clear h6 GA Fj FO d5 g5 ub;go_wp2_with fail;refine HR.mono ?_;rintro _ w7 ⟨rfl,h7,Hs⟩;have HN:=aA (aG h7 ((HB.trans G1.out).trans Hs));clear h7 Hs d6 g6 uc;go_wp2_with fail;go_roundw
     case rel=>exact⟨k+1,_,by omega,by go_num,HN.2,HN.1,Lr.out⟩
     case measure=>simp[intOf];omega
   ·obtain⟨⟨x1,x2⟩,hx⟩:=aF ((kn a1.data.toList).getD (0,0));obtain⟨p9,KF⟩:=aF ((x2==(a2.len:Int)));have Lr:=aA (show F=zaq kn (Sts.drop (k+1) xs) (zaq kn a5 (zaq kn a4 (zaV kn a3 (zaI kn a2 (askC (useC kn s a1.data.toList 3 a6) p9 (a6,114))))))from by
     rw[Gb.out,KF,show x2=((kn a1.data.toList).getD (0,0)).2 from by rw[<-hx]];rfl)
    have hu:=HU 3;rw[<-hx]at hu;unfold thV at hu;simp only at hu;have vM:=aA hu;have e9:=KF.symm;clear Gb hu hx KF;go_wp2_with fail;rw[<-Kz.out];refine vM.mono ?_;rintro _ w3 ⟨rfl,h3,Gg⟩;have Gi:=aA ((Hu.any:Fr (CkT P b) wr w2).trans Gg);have Jc:=JE.fr Gg Ko.out;obtain⟨w3a,Ug⟩:=aF (w3.alloc (.cells #[.int .u8 x1,.int .i64 x2] 140));have Sg:Fr NoT w3 w3a:=by rw[Ug];exact aH.alloc _
    have Uh:=aA (zew P b N kn _ p9 a6 114 w3a (h3.fr0 Sg));have ZT:=aA Ug;have ZU:=aA (Gi.trans Sg.any);have d2:=Jc.cell 2;have d6:=Jc.cell 6;have JP:=Jc.lt;have GR:=K2.fr Gi.out;have g1:=GR.p.cell 0;have g2:=GR.p.lt;simp only[aD]at d2 d6 g1;have ZV:=aA (Jc.fr0 Sg);clear h3 Gg Jc GR c0 c1 c2 c3 c4 c5 c6 Ug Sg Gi;go_wp2_with fail;rw[<-ZT.out];refine Uh.mono ?_;rintro _ w3b ⟨rfl,h3,Gg⟩;have Gi:=aA (ZU.trans Gg);have Jc:=ZV.fr Gg Ko.out;have HR:=aA (L0 _ w3b h3 Gi.out);have e2:=Jc.cell 2;have vN:=Jc.lt;have GR:=K2.fr Gi.out;have g1b:=GR.p.cell 0;have g2b:=GR.p.lt;simp only[aD]at e2 g1b;have Ly:=aA Jc;clear h3 Gg Jc GR d2 d6 g1 g2 e9;go_wp2_with fail;refine HR.mono ?_;rintro _ w4 ⟨rfl,h4,HJ⟩;have GG:=aA (Gi.trans HJ);have Fq:=Ly.fr HJ Ko.out;have HR:=aA (GF _ w4 h4 GG.out);have d4:=Fq.cell 3;have KP:=Fq.lt;have Fv:=K2.fr GG.out;have g4:=Fv.p.cell 0;have ua:=Fv.p.lt;simp only[aD]at d4 g4;have LO:=aA Fq;clear h4 HJ Fq Fv e2 g1b g2b;go_wp2_with fail;refine HR.mono ?_;rintro _ w5 ⟨rfl,h5,Hm⟩;have Gk:=aA (GG.trans Hm);have Hz:=LO.fr Hm Ko.out;have HR:=aA (Fe _ w5 h5 Gk.out);have d5:=Hz.cell 4;have Jr:=Hz.lt;have Jd:=K2.fr Gk.out;have g5:=Jd.f.cell 0;have ub:=Jd.f.lt;simp only[aD]at d5 g5;have JF:=aA Hz;clear h5 Hm Hz Jd d4 g4 ua;go_wp2_with fail;refine HR.mono ?_;rintro _ w6 ⟨rfl,h6,GA⟩;have G1:=aA (Gk.trans GA);have Fj:=JF.fr GA Ko.out;have HR:=aA (K6 _ w6 h6 G1.out);have d6:=Fj.cell 5;have Jb:=Fj.lt;have FO:=K2.fr G1.out;have g6:=FO.f.cell 0
    have uc:=FO.f.lt;simp only[aD]at d6 g6;have J6:=aA Fj;clear h6 GA Fj FO d5 g5 ub;go_wp2_with fail;refine HR.mono ?_;rintro _ w7 ⟨rfl,h7,Hs⟩;have HN:=aA (aG h7 ((HB.trans G1.out).trans Hs));clear h7 Hs d6 g6 uc;go_wp2_with fail;go_roundw;case rel=>exact⟨k+1,_,by omega,by go_num,HN.2,HN.1,Lr.out⟩
    case measure=>simp[intOf];omega
   ·have e2:(a0==2)=false:=by simpa using n2
    have e4:(a0==4)=false:=by simpa using n4
    have e3:(a0==3)=false:=by simpa using n3
    have e9:(a0==9)=false:=by simpa using n9
    have Lr:=aA (show F=zaq kn (Sts.drop (k+1) xs) (zaq kn a5 (zaq kn a4 (zaV kn a3 (zaI kn a2 s))))from by
     rw[Gb.out];unfold zex;rw[if_neg (by simp[n2,n4]),if_neg n3,if_neg n9])
    have HR:=aA (L0 _ w2 (LP.fr0 Hu.out) Hu.any);have Gi:=aA (Hu.any:Fr (CkT P b) wr w2);have Ly:=JE;clear n2 n4 n3 n9 Gb;go_wp2_with fail;rw[<-Kz.out];refine HR.mono ?_;rintro _ w4 ⟨rfl,h4,HJ⟩;have GG:=aA (Gi.trans HJ);have Fq:=Ly.fr HJ Ko.out;have HR:=aA (GF _ w4 h4 GG.out);have d4:=Fq.cell 3;have KP:=Fq.lt;have Fv:=K2.fr GG.out;have g4:=Fv.p.cell 0;have ua:=Fv.p.lt;simp only[aD]at d4 g4;have LO:=aA Fq;clear h4 HJ Fq Fv c0 c1 c2 c3 c4 c5 c6;go_wp2_with fail;refine HR.mono ?_;rintro _ w5 ⟨rfl,h5,Hm⟩;have Gk:=aA (GG.trans Hm);have Hz:=LO.fr Hm Ko.out;have HR:=aA (Fe _ w5 h5 Gk.out);have d5:=Hz.cell 4;have Jr:=Hz.lt;have Jd:=K2.fr Gk.out;have g5:=Jd.f.cell 0;have ub:=Jd.f.lt;simp only[aD]at d5 g5;have JF:=aA Hz;clear h5 Hm Hz Jd d4 g4 ua;go_wp2_with fail;refine HR.mono ?_;rintro _ w6 ⟨rfl,h6,GA⟩;have G1:=aA (Gk.trans GA);have Fj:=JF.fr GA Ko.out;have HR:=aA (K6 _ w6 h6 G1.out);have d6:=Fj.cell 5;have Jb:=Fj.lt;have FO:=K2.fr G1.out;have g6:=FO.f.cell 0;have uc:=FO.f.lt;simp only[aD]at d6 g6;have J6:=aA Fj;clear h6 GA Fj FO d5 g5 ub;go_wp2_with fail;refine HR.mono ?_;rintro _ w7 ⟨rfl,h7,Hs⟩;have HN:=aA (aG h7 ((HB.trans G1.out).trans Hs));clear h7 Hs d6 g6 uc;go_wp2_with fail;go_roundw;case rel=>exact⟨k+1,_,by omega,by go_num,HN.2,HN.1,Lr.out⟩
    case measure=>simp[intOf];omega
  ·have HE:=aA (show F=s from by rw[Hb.out,Sts.drop_nil (by rw[<-HM.out];omega)];rfl);have HB:=aA hb.out;have LP:=aA FJ.out;clear Hb hb FJ;go_wp2_with fail;go_end0;exact⟨rfl,HE.out▸LP.out,HB.out⟩
theorem zfZ (kn:Kn):∀xs:Sts,szS xs->CSI kn xs
 | .nil,_=>λi _ _ _ _ _ _ _ _ hd=>by cases i<;>simp[Sts.drop]at hd
 | .cons k0 k1 k2 k3 k4 k5 k6 kr,Hx=>λi _ _ _ _ _ _ _ _ hd=>by
  cases i with
  |zero=>
   simp only[Sts.drop]at hd;injection hd with e0 e1 e2 e3 e4 e5 e6 e7;subst e0 e1 e2 e3 e4 e5 e6 e7;exact⟨Hx.1,zfl kn k2 Hx.2.1,zjq kn k3 Hx.2.2.1,zlg kn k4 (zfZ kn k4 Hx.2.2.2.1),zlg kn k5 (zfZ kn k5 Hx.2.2.2.2.1)⟩
  |succ i=>
   simp only[Sts.drop]at hd;exact zfZ kn kr Hx.2.2.2.2.2 i _ _ _ _ _ _ _ _ hd
theorem zfm (kn:Kn)(xs:Sts)(Hx:szS xs):CS kn xs:=zlg kn xs (zfZ kn xs Hx)
abbrev Cks:=Kn×(Int×Int)
def zbM (s:Cks)(t:List UInt8)(at_:Int)(v:Int×Int):Cks:=(zlf s.1 t v,zfY s.1 s.2 t at_)
def zaJ (v:Int×Int):List Va->Cks->Cks
 | [],s=>s
 |x::r,s=>zaJ v r (zbM s x.nm.data.toList x.at_ v)
def zcs:List Va->Kn->Kn
 | [],kn=>kn
 |x::r,kn=>zcs r (kn.del x.nm.data.toList)
def zbB (nm:List UInt8)(ps:List Va)(body:Sts)(at_:Int)(s:Cks):Cks:=
 let s2:=zaJ (1,0) ps (s.1,askC s.2 (decide ((ps.length:Int)<=4)) (at_,4))
 if s2.2.2=0 then((zcs ps s2.1).put nm (3,ps.length),zaq s2.1 body s2.2)else s2
theorem zey {v:Int×Int}{xs:List Va}{i:Nat}{s:Cks}{a0 a1 ar}(hd:xs.drop i=(⟨a0,a1⟩:Va)::ar/\xs.drop (i+1)=ar):zaJ v (xs.drop i) s=zaJ v (xs.drop (i+1)) (zbM s a0.data.toList a1 v):=by
 rw[hd.1,hd.2];rfl
theorem zjr {xs:List Va}{i:Nat}{kn:Kn}{a0 a1 ar}(hd:xs.drop i=(⟨a0,a1⟩:Va)::ar/\xs.drop (i+1)=ar):zcs (xs.drop i) kn=zcs (xs.drop (i+1)) (kn.del a0.data.toList):=by
 rw[hd.1,hd.2];rfl
theorem zlh (P b:Nat)(w:World)(hP:P < w.heap.size)(hb:b < w.heap.size):Calls Tryz.prog 53 #[.pointer (some ⟨P,0,none⟩)] w λe w'=>
  e= .returned (.func (.func 101) #[] #[.pointer (some ⟨w.heap.size,0,none⟩),.pointer (some ⟨w.heap.size+1,0,none⟩)])/\WkAt w' P b w.heap.size (w.heap.size+1)/\Fr NoT w w':=by
 have JI:= @makeF Tryz.prog;go_enter Tryz.func53,Tryz.ntmps53;go_wp2_with fail;go_ret;refine⟨rfl,⟨?_,?_,λe=>by rcases e with e|e<;>omega,λe=>by rcases e with e|e<;>omega⟩,?_⟩
 ·exact(Bk.new _ _ _).alloc _
 ·exact Bk.new_at _ _ _ (by simp)
 ·exact(aH.alloc _).alloc _
