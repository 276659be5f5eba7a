/- check: a procedure's check. -/
import Derived.Test.YtmopichdofgndaaGreatDoorJgCkD
import Derived.Test.YtmopichdofgndaaGreatDoorJgRmT
set_option linter.all false
set_option maxHeartbeats 8000000
set_option maxRecDepth 100000
namespace Go.Proofs.YtmopichdofgndaaGreatDoor
open Go.RowKit Go.Shelf Go.Maps
theorem CkN.del {w3:World}{P b N:Nat}{kn:Kn}{st:Int×Int}(h:CkN w3 P b N kn st){s:ByteArray}(hs:s.size<=9223372036854775807)(ty:TypeId):
  ∃w4,(Builtin.delete_ #[145,9] ty #[.map (some b),.string s]).run Tryz.prog w3.drew= .ok (.tuple #[]) w4/\CkN w4 P b N (kn.del s.data.toList) st/\Fr (CkT P b) w3 w4:=by
 obtain⟨n,hn,h⟩:=h;obtain⟨w4,JI,h4,Q6⟩:=(h.map.fr ((Fr.refl NoT w3).drew) id).drop hs ty;have GB:Fr (CkT P b) w3 w4:=((Fr.refl _ _).drew).trans (Fr.grown Q6 λg e _=> .inr (Option.some.inj e).symm);have LQ:=h.box.fr (((Fr.refl (λx=>x=b) w3).drew).trans (Fr.grown Q6 λg e _=>(Option.some.inj e).symm)) h.ne;exact⟨w4,JI,⟨n,hn,LQ,h4,h.ne⟩,GB⟩
theorem CkN.put {w3:World}{P b N:Nat}{kn:Kn}{st:Int×Int}(h:CkN w3 P b N kn st){s:ByteArray}(hs:s.size<=9223372036854775807)(v:Int×Int)(hN:N < maxLen):
  ∃w4,(Instr.mapUpdate 145 (.map (some b)) (.string s) (thV v)).run Tryz.prog w3.drew= .ok () w4/\CkN w4 P b (N+1) (kn.put s.data.toList v) st/\Fr (CkT P b) w3 w4:=by
 obtain⟨n,hn,h⟩:=h;obtain⟨w4,JI,h4,Q6⟩:=(h.map.fr ((Fr.refl NoT w3).drew) id).put hs v (by omega);have GB:Fr (CkT P b) w3 w4:=((Fr.refl _ _).drew).trans (Fr.grown Q6 λg e _=> .inr (Option.some.inj e).symm);have LQ:=h.box.fr (((Fr.refl (λx=>x=b) w3).drew).trans (Fr.grown Q6 λg e _=>(Option.some.inj e).symm)) h.ne;exact⟨w4,JI,⟨n+1,by omega,LQ,h4,h.ne⟩,GB⟩
theorem CkN.box {w:World}{P b N:Nat}{kn:Kn}{st:Int×Int}(h:CkN w P b N kn st):Bk w P 147 #[.map (some b),.int .i64 st.1,.int .i64 st.2]:=by
 obtain⟨n,hn,h⟩:=h;exact h.box
theorem CkN.mono {w:World}{P b N N':Nat}{kn:Kn}{st:Int×Int}(h:CkN w P b N kn st)(hN:N<=N'):CkN w P b N' kn st:=by
 obtain⟨n,hn,h⟩:=h;exact⟨n,by omega,h⟩
theorem zep (P b:Nat)(w:World)(hP:P < w.heap.size)(hb:b < w.heap.size):Calls Tryz.prog 82 #[.pointer (some ⟨P,0,none⟩)] w λe w'=>
  ∃B1 B2,e= .returned (.func (.func 146) #[] #[.pointer (some ⟨B1,0,none⟩),.pointer (some ⟨B2,0,none⟩)])/\WkAt w' P b B1 B2/\Fr NoT w w':=
 (zi5 P b w hP hb).mono λ_ _ ⟨h1,h2,h3⟩=>⟨_,_,h1,h2,h3⟩
theorem zi7 (P b N:Nat)(kn:Kn)(st:Int×Int)(nm:ByteArray)(ps:List Va)(body:Sts)(at_:Int)(A1 A2:Option Addr)(q1 q2:Nat)(w:World)(S:Nat->Prop)(Z:Prop)(hc:CkN w P b N kn st)(Fi:nm.size<=9223372036854775807)(Qd:∀y∈ps,y.nm.size<=9223372036854775807)(vG:szS body)
  (hS:∀x,S x->x < w.heap.size/\¬CkT P b x) (hN:N+ps.length+1 < maxLen) (s1:SlR (λb o=>VaR w S Z ps b o) ps.length 24 A1 q1) (s2:SlR (λb o=>StR w S Z body b o) body.len 128 A2 q2):
  Calls Tryz.prog 81 #[.pointer (some ⟨P,0,none⟩),.agg #[.string nm,.slice A1 ps.length q1,.slice A2 body.len q2,.int .i64 at_]] w
   (CkP P b (N+ps.length+1) (zbt nm.data.toList ps body at_ (kn,st)).1 (zbt nm.data.toList ps body at_ (kn,st)).2 w):=by
 obtain⟨F,hF⟩:=nmq (zbt nm.data.toList ps body at_ (kn,st));rw[<-hF];unfold zbt at hF;simp only at hF;have hl:ps.length<=9223372036854775807:=leq9 s1.1 s1.2.1.1;obtain⟨w1,Hc⟩:=nmq (w.alloc (.cells #[.string nm,.slice A1 ps.length q1,.slice A2 body.len q2,.int .i64 at_] 68));have Hi:Fr NoT w w1:=by rw[Hc];exact(Fr.refl _ _).alloc _
 have Hp:Bk w1 w.heap.size 68 #[.string nm,.slice A1 ps.length q1,.slice A2 body.len q2,.int .i64 at_]:=by rw[Hc];exact Bk.new _ _ _
 obtain⟨p4,Q4⟩:=nmq (decide ((ps.length:Int)<=4));rw[<-Q4]at hF;have Hr:=hc.lt;have K5:¬CkT P b w.heap.size:=λe=>by rcases e with e|e<;>omega
 have H1:=hdq (zdy P b N kn st p4 at_ 4 w1 (hc.fr0 Hi));have VL:=hdq (λ(W:World)(h:Fr (CkT P b) w W)=>(show ∀x,S x->x < W.heap.size/\¬CkT P b x from λx hx=>⟨ltq (hS x hx).1 h.size,(hS x hx).2⟩));have jx:=hdq (λ(W:World)(h:Fr (CkT P b) w W)=>(show SameS S w W from h.same λx hx=>hS x hx));obtain⟨m,hm⟩:=nmq ps.length;rw[<-hm]at hl Q4 hF hN Hc Hp ⊢;have e4:=Q4.symm;have HM:=hdq hm;have Ga:=hdq Hc;have Hn:=hdq Hi;have Gv:=hdq Hp;have KF:=hdq K5;have HF:=hdq hF;have F4:=hdq Fi;have gD:=hdq Qd;have Ye:=hdq vG;have HN:=hdq hN;have HX:=hdq s1;have HY:=hdq s2;have HS:=hdq hS;clear hc Hi Hc Hp Q4 Hr K5 hF hm Fi Qd vG hN s1 s2 hS;go_enter Tryz.func81,Tryz.ntmps81;go_wp2_with fail;rw[<-Ga.out];refine H1.mono ?_;rintro _ w2 ⟨rfl,h2,Gd⟩;have He:=Gv.fr Gd KF.out;have d1:=He.cell 1;have Gl:=He.lt;simp only[getsL]at d1;have Hy:=hdq ((Hn.any:Fr (CkT P b) w w1).trans Gd);have FX:=hdq He;have H2:=hdq h2;clear h2 Gd He;go_wp2_with fail;go_loopw [19] (λi wr=>∃(k:Nat)(s:Cks),k<=m/\i= .int .i64 k/\Hid (Fr (CkT P b) w wr)/\Hid (Bk wr w.heap.size 68 #[.string nm,.slice A1 m q1,.slice A2 body.len q2,.int .i64 at_])/\Hid (CkN wr P b (N+k) s.1 s.2)/\Hid (zaF (1,0) ps (kn,askC st p4 (at_,4))=zaF (1,0) (ps.drop k) s)) (λi _=>m - (intOf i).toNat);case atStart=>exact⟨0,(kn,askC st p4 (at_,4)),Nat.zero_le _,rfl,Hy.out,FX.out,H2.out,rfl⟩
 case round=>
  obtain⟨k,s,hk,rfl,hb,MP,FE,Ha⟩:=hrel;by_cases Hr:k < m
  ·obtain⟨⟨a0,a1⟩,ar,hd⟩:=zac (show k < ps.length from by rw[<-HM.out];exact Hr);obtain⟨B,o,rfl,Hd⟩:=HX.2.2 (by rw[<-HM.out];omega);have Hb:=(VaR.keep (jx _ hb.out) Hd).drop k;rw[hd.1]at Hb;obtain⟨⟨Hf,_,r1,c0,c1⟩,_⟩:=Hb;have Gf:B < wr.heap.size:=(VL _ hb.out _ Hf).1;have Hl:(k:Int) < (m:Int):=by omega
   have Fb:(0:Int)<=(k:Int):=by omega
   simp only at c0 c1;have Gd:Fr NoT wr (wr.alloc (.cells #[.string a0,.int .i64 a1] 43)):=(Fr.refl _ _).alloc _;have Kt:=zbv P b (N+k) s.1 s.2 a0 a1 (1,0) _ (FE.fr0 Gd) (gD _ (zaN hd.1)) (by have:=HN.out;omega);unfold thV at Kt;simp only at Kt;have HD:=hdq Kt;have Hj:=hdq (Ha.trans (zdz hd));have HB:=hdq (hb.trans (Gd.any:Fr (CkT P b) wr _));have Tq:=hdq (MP.fr0 Gd);clear hd Hd Ha hb Hf MP FE Gd Kt d1 Gl;go_wp2_with fail;refine HD.mono ?_;rintro _ w3 ⟨rfl,h3,GQ⟩;have JO:=hdq (aiq h3 (aiq (HB.trans GQ) (Tq.fr GQ KF.out)));clear h3 GQ c0 c1;go_wp2_with fail;go_roundw;case rel=>exact⟨k+1,zbM s a0.data.toList a1 (1,0),by omega,by go_num,JO.2.1,JO.2.2,JO.1,Hj.out⟩
   case measure=>simp[intOf];omega
  ·obtain rfl:k=m:=by omega
   obtain⟨EP,a2,e2⟩:=s;have Ju:zaF (1,0) ps (kn,askC st p4 (at_,4))=(EP,a2,e2):=by rw[Ha.out,List.drop_eq_nil_of_le (by rw[<-HM.out];omega)];rfl
   have GZ:=FE.box;have MQ:=FE.lt;have p0:=GZ.cell 0;have p2:=GZ.cell 2;have He:=MP.cell 2;have Xx:=MP.lt;simp only[getsL]at p0 p2 He;have hF:=HF.out;rw[Ju]at hF;have HB:=hdq hb.out;have Tq:=hdq MP.out;have K0:=hdq FE.out;have Yf:=MQ.1;have Hl:¬(k:Int) < (k:Int):=by omega
   clear Ha Ju hb MP FE GZ MQ d1 Gl;by_cases he:e2=0
   rotate_left
   ·have e9:(e2 != 0)=true:=by simpa using he
    have FT:=hdq (show F=(EP,a2,e2)from by rw[hF];simp only;rw[if_neg he]);clear hF he;go_wp2_with fail;go_end0;exact⟨rfl,by rw[FT.out];exact K0.mono (by omega),HB.out⟩
   subst he;have FT:=hdq (show F=((zc3 ps EP).put nm.data.toList (3,k),zan EP body (a2,0))from by rw[hF,if_pos rfl]);have Gd:Fr NoT wr wr.drew:=(Fr.refl _ _).drew;have Rt:=hdq (zep P b wr.drew (K0.fr0 Gd).lt.1 (K0.fr0 Gd).lt.2);have Tr:=hdq (λ(B1 B2:Nat)(W:World)(h:Fr NoT wr.drew W)(hw:WkAt W P b B1 B2)=>zem EP body Ye.out P b (N+k) B1 B2 (a2,0) W S Z A2 q2 ((K0.fr0 Gd).fr0 h) hw (VL W (HB.trans ((Gd.trans h).any))) (HY.imp λ_ _ hx=>StR.keep (jx W (HB.trans ((Gd.trans h).any))) hx));have Yg:=hdq Gd;have hent:Enters Tryz.prog 146:=enters_of Tryz.func146 (by kernel_rfl) rfl;unfold Enters at hent;clear hF Gd;go_wp2_with fail
   go_region_law
    (first
     |(go_simp
       go_at_call 82
       with_reducible refine Rt.out.mono ?_
       rintro _ w5 ⟨B1,B2,rfl,GE,Hs⟩;have LL:=(Tq.fr0 Yg.out).fr0 Hs;have g2:=LL.cell 2;have gl:=LL.lt;simp only[getsL]at g2;have Ru:=hdq (Tr B1 B2 w5 Hs GE);have Hx:=hdq (Yg.trans Hs);have GO:=hdq LL;clear GE Hs LL;dsimp only)
     |(go_simp
       go_at_call 146
       with_reducible refine Ru.out.mono ?_
       rintro _ w6 ⟨rfl,h6,Fk⟩;have Yh:=hdq h6;have GF:=hdq (HB.trans ((Hx.any:Fr (CkT P b) wr _).trans Fk));have Lw:=hdq (GO.fr Fk KF.out);clear h6 Fk;dsimp only))
   all_goals
    have k1:=Lw.cell 1;have kl:=Lw.lt;simp only[getsL]at k1;clear He Xx p0 p2 Yf;try clear g2 gl
    go_wp2_with fail;go_loopw [44] (λi wr=>∃(j:Nat)(kj:Kn),j<=k/\i= .int .i64 j/\Hid (Fr (CkT P b) w wr)/\Hid (Bk wr w.heap.size 68 #[.string nm,.slice A1 k q1,.slice A2 body.len q2,.int .i64 at_])/\Hid (CkN wr P b (N+k) kj (zan EP body (a2,0)))/\Hid (zc3 ps EP=zc3 (ps.drop j) kj)) (λi _=>k - (intOf i).toNat);case atStart=>exact⟨0,EP,Nat.zero_le _,rfl,GF.out,Lw.out,Yh.out,rfl⟩
    case round=>
     obtain⟨j,kj,hj,rfl,hb,MP,FE,Ha⟩:=hrel;by_cases Hr:j < k
     ·obtain⟨⟨a0,a1⟩,ar,hd⟩:=zac (show j < ps.length from by rw[<-HM.out];exact Hr);obtain⟨B,o,rfl,Hd⟩:=HX.2.2 (by rw[<-HM.out];omega);have Hb:=(VaR.keep (jx _ hb.out) Hd).drop j;rw[hd.1]at Hb;obtain⟨⟨Hf,_,r1,c0,c1⟩,_⟩:=Hb;have Gf:B < wr.heap.size:=(VL _ hb.out _ Hf).1;have Hl:(j:Int) < (k:Int):=by omega
      have Fb:(0:Int)<=(j:Int):=by omega
      simp only at c0 c1;obtain⟨wa,Pr⟩:=nmq (wr.alloc (.cells #[.string a0,.int .i64 a1] 43));have Gd:Fr NoT wr wa:=by rw[Pr];exact(Fr.refl _ _).alloc _
      have SX:Bk wa wr.heap.size 43 #[.string a0,.int .i64 a1]:=by rw[Pr];exact Bk.new _ _ _
      have KG:=FE.fr0 Gd;have GZ:=KG.box;have p0:=GZ.cell 0;have Yf:=GZ.lt;have v0:=SX.cell 0;have Pl:=SX.lt;simp only[getsL]at p0 v0;have Ht:=gD _ (zaN hd.1);simp only at Ht;obtain⟨w9,zE,h9,Gm⟩:=KG.del Ht 0;have Hj:=hdq (Ha.trans (zhV hd));have Xy:=hdq (aiq h9 (aiq ((hb.trans (Gd.any:Fr (CkT P b) wr _)).trans Gm) ((MP.fr0 Gd).fr Gm KF.out)));have Vy:=hdq Pr;clear hd Hd Ha hb Hf MP FE Gd KG GZ h9 Gm k1 kl Ht SX Pr;go_wp2_with fail;rw[<-Vy.out];clear c0 c1;refine wp_region_still_tail 6 (by kernel_rfl) (by kernel_rfl) ?_;simp only[List.take_succ_cons,List.take_zero,List.drop_succ_cons,List.drop_zero]
      repeat still_step
      try refine wpStill_nil ?_
      go_wp2_with fail;go_roundw;case rel=>exact⟨j+1,kj.del a0.data.toList,by omega,by go_num,Xy.2.1,Xy.2.2,Xy.1,Hj.out⟩
      case measure=>simp[intOf];omega
     ·obtain rfl:j=k:=by omega
      have Ju:zc3 ps EP=kj:=by rw[Ha.out,List.drop_eq_nil_of_le (by rw[<-HM.out];omega)];rfl
      have GZ:=FE.box;have p0:=GZ.cell 0;have Yf:=GZ.lt;have kk0:=MP.cell 0;have kk1:=MP.cell 1;have kl:=MP.lt;simp only[getsL]at p0 kk0 kk1;obtain⟨w9,K6,h9,Gm⟩:=FE.put F4.out (3,j) (by have:=HN.out;omega);unfold thV at K6;simp only at K6;have Xz:=hdq (show F=(kj.put nm.data.toList (3,j),zan EP body (a2,0))from by rw[FT.out,Ju]);have Xy:=hdq (aiq h9 (hb.trans Gm));clear Ha Ju hb MP FE GZ h9 Gm k1;go_wp2_with fail;refine wp_region_still_tail 10 (by kernel_rfl) (by kernel_rfl) ?_;simp only[List.take_succ_cons,List.take_zero,List.drop_succ_cons,List.drop_zero]
      repeat still_step
      try refine wpStill_nil ?_
      go_wp2_with fail;go_end0;exact⟨rfl,by rw[Xz.out];exact Xy.1,Xy.2⟩
def zcy (s:Cks)(x:Arr):Cks:=
 ((zbM s x.nm.data.toList x.at_ (2,0)).1,askC (zbM s x.nm.data.toList x.at_ (2,0)).2 (decide ((1:Int)<=x.size)&&decide (x.size<=(16:Int))) (x.at_,113))
def za1:List Arr->Cks->Cks
 | [],s=>s
 |x::r,s=>za1 r (zcy s x)
def za2:List Prc->Cks->Cks
 | [],s=>s
 |x::r,s=>za2 r (zbM s x.nm.data.toList x.at_ (4,0))
def zap:List Prc->Cks->Cks×Bool
 | [],s=>(s,false)
 |x::r,s=>if(zbt x.nm.data.toList x.params x.body x.at_ s).2.2 =0 then zap r (zbt x.nm.data.toList x.params x.body x.at_ s)else(zbt x.nm.data.toList x.params x.body x.at_ s,true)
def zbc (t:Tre):Cks:=za2 t.procs (za1 t.arrays (zaF (1,0) t.vars (λ_=>none,(0,0))))
def fewT (t:Tre):Bool:=decide ((t.vars.length:Int)<=12)&&decide ((t.arrays.length:Int)<=4)&&decide ((t.procs.length:Int)<=8)
def zbE (t:Tre):Int×Int:=
 if okTr t then
  if fewT t then
   if(zap t.procs (zbc t)).2 then(zap t.procs (zbc t)).1.2 else zan (zap t.procs (zbc t)).1.1 t.main (zap t.procs (zbc t)).1.2
  else(0,4)
 else(0,8)
theorem zeX {t:Tre}(h:fewT t=true):t.vars.length<=12/\t.arrays.length<=4/\t.procs.length<=8:=by
 unfold fewT at h;simp only[Bool.and_eq_true,decide_eq_true_eq]at h;omega
theorem zfM {xs:List Arr}{i:Nat}{s:Cks}{a0 a1 a2 ar}(hd:xs.drop i=(⟨a0,a1,a2⟩:Arr)::ar/\xs.drop (i+1)=ar):za1 (xs.drop i) s=za1 (xs.drop (i+1)) (zcy s ⟨a0,a1,a2⟩):=by
 rw[hd.1,hd.2];rfl
theorem zfN {xs:List Prc}{i:Nat}{s:Cks}{a0 a1 a2 a3 ar}(hd:xs.drop i=(⟨a0,a1,a2,a3⟩:Prc)::ar/\xs.drop (i+1)=ar):za2 (xs.drop i) s=za2 (xs.drop (i+1)) (zbM s a0.data.toList a3 (4,0)):=by
 rw[hd.1,hd.2];rfl
def npP:List Prc->Nat
 | []=>0
 |x::r=>x.params.length+1+npP r
theorem zkV {xs:List Prc}{i:Nat}{a0 a1 a2 a3 ar}(hd:xs.drop i=(⟨a0,a1,a2,a3⟩:Prc)::ar/\xs.drop (i+1)=ar):npP (xs.drop i)=a1.length+1+npP (xs.drop (i+1)):=by
 rw[hd.1,hd.2];rfl
theorem zl3 {w:World}{S:Nat->Prop}{Z:Prop}:∀ {xs:List Prc} {b o:Nat},PrR w S Z xs b o->npP xs<=xs.length*140737488355329
 | [],_,_,_=>Nat.zero_le _
 |x::r,b,o,⟨_,⟨A,c,_,h⟩,_,hr⟩=>by
  have h1:=zl3 hr;have h2:=h.2.1.2;simp only[npP,List.length_cons];omega
abbrev prcS (x:Prc)(s:Cks):Cks:=zbt x.nm.data.toList x.params x.body x.at_ s
theorem zi8 {xs:List Prc}{i:Nat}{s:Cks}{a0 a1 a2 a3 ar}(hd:xs.drop i=(⟨a0,a1,a2,a3⟩:Prc)::ar/\xs.drop (i+1)=ar)(h:(prcS ⟨a0,a1,a2,a3⟩ s).2.2 =0):zap (xs.drop i) s=zap (xs.drop (i+1)) (prcS ⟨a0,a1,a2,a3⟩ s):=by
 rw[hd.1,hd.2];show(if _ then _ else _)=_
 rw[if_pos h]
theorem zhW {xs:List Prc}{i:Nat}{s:Cks}{a0 a1 a2 a3 ar}(hd:xs.drop i=(⟨a0,a1,a2,a3⟩:Prc)::ar/\xs.drop (i+1)=ar)(h:¬(prcS ⟨a0,a1,a2,a3⟩ s).2.2 =0):zap (xs.drop i) s=(prcS ⟨a0,a1,a2,a3⟩ s,true):=by
 rw[hd.1];show(if _ then _ else _)=_
 rw[if_neg h]
def SzP (x:Prc):Prop:=x.nm.size<=9223372036854775807/\(∀y∈x.params,y.nm.size<=9223372036854775807)/\szS x.body
def CkQ (P b N:Nat)(q:Bool)(s:Cks)(W:World)(e:Ending)(w':World):Prop:=e= .returned (.bool q)/\CkN w' P b N s.1 s.2/\Fr (CkT P b) W w'
theorem zhX (P b N C:Nat)(s:Cks)(x:Prc)(A1 A2:Option Addr)(q1 q2:Nat)(w:World)(S:Nat->Prop)(Z:Prop)(hc:CkN w P b N s.1 s.2)(hk:Bk w C 144 #[.pointer (some ⟨P,0,none⟩)])(hC:¬CkT P b C)(Ht:SzP x)
  (hS:∀x,S x->x < w.heap.size/\¬CkT P b x) (hN:N+x.params.length+1 < maxLen) (s1:SlR (λb o=>VaR w S Z x.params b o) x.params.length 24 A1 q1) (s2:SlR (λb o=>StR w S Z x.body b o) x.body.len 128 A2 q2):
  Calls Tryz.prog 80 (#[.agg #[.string x.nm,.slice A1 x.params.length q1,.slice A2 x.body.len q2,.int .i64 x.at_]]++ #[.pointer (some ⟨C,0,none⟩)]) w
   (CkQ P b (N+x.params.length+1) ((prcS x s).2.2 != 0) (prcS x s) w):=by
 obtain⟨x0,x1,x2,x3⟩:=x;simp only at hN s1 s2 ⊢;have K3:Fr NoT w (w.alloc (.cells #[.string x0,.slice A1 x1.length q1,.slice A2 x2.len q2,.int .i64 x3] 68)):=(Fr.refl _ _).alloc _;have HC:=hdq (zi7 P b N s.1 s.2 x0 x1 x2 x3 A1 A2 q1 q2 _ S Z (hc.fr0 K3) Ht.1 Ht.2.1 Ht.2.2 (λx hx=>⟨ltq (hS x hx).1 K3.size,(hS x hx).2⟩) hN (s1.imp λ_ _ hx=>VaR.keep (K3.same λx hx=>⟨(hS x hx).1,id⟩) hx) (s2.imp λ_ _ hx=>StR.keep (K3.same λx hx=>⟨(hS x hx).1,id⟩) hx));obtain⟨⟨kn',at',e'⟩,hF⟩:=nmq (prcS ⟨x0,x1,x2,x3⟩ s);rw[<-hF];have UB:zbt x0.data.toList x1 x2 x3 (s.1,s.2)=(kn',at',e'):=hF.symm;rw[UB]at HC;have c0:=hk.cell 0;have hl:=hk.lt;simp only[getsL]at c0;have HK:=hdq (hk.fr0 K3);have SY:=hdq (K3.any:Fr (CkT P b) w _);have Qq:=hdq hC;obtain⟨p,hp⟩:=nmq ((e' != 0));have Ts:=hp.symm;simp only;rw[Ts];clear hF UB hk hC hc Ht hS hN s1 s2 K3 hp;go_enter Tryz.func80,Tryz.ntmps80;go_wp2_with fail;refine HC.mono ?_;rintro _ w2 ⟨rfl,h2,Gd⟩;have He:=HK.fr Gd Qq.out;have d0:=He.cell 0;have Gl:=He.lt;have GZ:=h2.box;have p2:=GZ.cell 2;have pl:=GZ.lt;simp only[getsL]at d0 p2;have HN:=hdq (aiq h2 (SY.trans Gd));clear h2 Gd He GZ c0;go_wp2_with fail;go_ret;exact⟨rfl,HN.1,HN.2⟩
theorem zi9 (P b N C:Nat)(s0:Cks)(xs:List Prc)(A:Option Addr)(c:Nat)(w:World)(S:Nat->Prop)(Z:Prop)(hc:CkN w P b N s0.1 s0.2)(hk:Bk w C 144 #[.pointer (some ⟨P,0,none⟩)])(hC:¬CkT P b C)(Ht:∀x∈xs,SzP x)
  (hS:∀x,S x->x < w.heap.size/\¬CkT P b x) (hN:N+npP xs < maxLen) (hx:SlR (λb o=>PrR w S Z xs b o) xs.length 72 A c):
  Calls Tryz.prog 145 #[.slice A xs.length c,.func (.func 80) #[] #[.pointer (some ⟨C,0,none⟩)]] w λe w'=>
   ∃n:Int,decide (0<=n)=(zap xs s0).2 /\e= .returned (.int .i64 n)/\CkN w' P b (N+npP xs) (zap xs s0).1.1 (zap xs s0).1.2 /\Fr (CkT P b) w w':=by
 have hl:xs.length<=9223372036854775807:=leq9 hx.1 hx.2.1.1;have hent:Enters Tryz.prog 80:=enters_of Tryz.func80 (by kernel_rfl) rfl;obtain⟨⟨F1,F2⟩,hF⟩:=nmq (zap xs s0);rw[<-hF];simp only;have HF:=hdq hF;have HX:=hdq hx;have HS:=hdq hS;have HC:=hdq hc;have HK:=hdq hk;have Qq:=hdq hC;have VM:=hdq Ht;have HN:=hdq hN;obtain⟨m,hm⟩:=nmq xs.length;rw[<-hm]at hl ⊢;have HM:=hdq hm;clear hF hx hS hc hk hC Ht hN hm;unfold Enters at hent;go_enter Tryz.func145,Tryz.ntmps145;go_wp2_with fail;go_loopw [8] (λi wr=>∃(k N':Nat)(s:Cks),k<=m/\i= .int .i64 k/\Hid (Fr (CkT P b) w wr)/\Hid (CkN wr P b N' s.1 s.2)/\Hid (N'+npP (xs.drop k)=N+npP xs)/\Hid ((F1,F2)=zap (xs.drop k) s)) (λi _=>m - (intOf i).toNat);case atStart=>exact⟨0,N,s0,Nat.zero_le _,rfl,Fr.refl _ _,HC.out,rfl,HF.out⟩
 case round=>
  obtain⟨k,N',s,hk,rfl,hb,FE,hn,Ha⟩:=hrel;by_cases Hr:k < m
  ·obtain⟨⟨a0,a1,a2,a3⟩,ar,hd⟩:=zac (show k < xs.length from by rw[<-HM.out];exact Hr);obtain⟨B,o,rfl,Hd⟩:=HX.2.2 (by rw[<-HM.out];omega);have Hb:=(PrR.keep (hb.same λb hb=>HS b hb) Hd).drop k;rw[hd.1]at Hb;obtain⟨⟨Hf,_,_,c0,c3⟩,⟨A1,q1,c1,s1⟩,⟨A2,q2,c2,s2⟩,_⟩:=Hb;have Gf:B < wr.heap.size:=ltq (HS _ Hf).1 hb.size;have Hl:(k:Int) < (m:Int):=by omega
   have Fb:(0:Int)<=(k:Int):=by omega
   simp only at c0 c1 c2 c3 s1 s2;have zF:=zkV hd;have PA:=hn.out;have zG:=HN.out;have Ke:=hdq (zhX P b N' C s ⟨a0,a1,a2,a3⟩ A1 A2 q1 q2 wr S Z FE.out (HK.fr hb.out Qq.out) Qq.out (VM _ (zaN hd.1)) (λx hx=>⟨ltq (HS x hx).1 hb.size,(HS x hx).2⟩) (by simp only;omega) s1 s2);have vH:N'+a1.length+1+npP (xs.drop (k+1))=N+npP xs:=by omega
   have Le:=hdq vH;obtain⟨s',Tt⟩:=nmq (prcS ⟨a0,a1,a2,a3⟩ s);rw[<-Tt]at Ke;have vI:=hdq (λ(h:s'.2.2=0)=>Ha.trans ((zi8 hd (Tt▸h)).trans (by rw[<-Tt])));have NF:=hdq (λ(h:¬s'.2.2=0)=>Ha.trans ((zhW hd (Tt▸h)).trans (by rw[<-Tt])));have HB:=hdq hb.out;simp only at Ke;clear hd Hd Ha hb Hf s1 s2 FE hn PA zG zF Tt vH;obtain⟨kn',at',e'⟩:=s';simp only at Ke vI NF;obtain⟨p,hp⟩:=nmq ((e' != 0));rw[<-hp]at Ke;have HP:=hdq hp;clear hp;go_wp2_with fail;refine Ke.mono ?_;rintro _ w1 ⟨rfl,h1,Hi⟩;have Hu:=hdq (HB.trans Hi);have H1:=hdq h1;clear h1 Hi c0 c1 c2 c3;cases p
   ·have he:e'=0:=by have:=HP.out;simpa using this
    have Hj:=hdq (vI he);clear he;go_wp2_with fail;go_roundw;case rel=>exact⟨k+1,N'+a1.length+1,(kn',at',e'),by omega,by go_num,Hu.out,H1.out,Le.out,Hj.out⟩
    case measure=>simp[intOf];omega
   ·have he:¬e'=0:=by have:=HP.out;simpa using this
    have Hj:=hdq (NF he);clear he;go_wp2_with fail;go_ret;obtain⟨f1,f2⟩:=Prod.mk.inj Hj.out;refine⟨k,by rw[f2];simp,rfl,?_,Hu.out⟩;rw[f1];exact H1.mono (by have:=Le.out;omega)
  ·have hz:zap (xs.drop k) s=(s,false):=by rw[List.drop_eq_nil_of_le (by rw[<-HM.out];omega)];rfl
   have Hj:=hdq (Ha.trans hz);have HB:=hdq hb.out;have K0:=hdq FE.out;have PB:=hdq hn.out;clear Ha hb FE hn hz;go_wp2_with fail;go_ret;obtain⟨f1,f2⟩:=Prod.mk.inj Hj.out;refine⟨-1,by rw[f2];simp,rfl,?_,HB.out⟩;rw[f1];exact K0.mono (by have:=PB.out;omega)
theorem zja (P b N C:Nat)(s0:Cks)(xs:List Prc)(A:Option Addr)(c:Nat)(w:World)(S:Nat->Prop)(Z:Prop)(hc:CkN w P b N s0.1 s0.2)(hk:Bk w C 144 #[.pointer (some ⟨P,0,none⟩)])(hC:¬CkT P b C)(Ht:∀x∈xs,SzP x)
  (hS:∀x,S x->x < w.heap.size/\¬CkT P b x) (hN:N+npP xs < maxLen) (hx:SlR (λb o=>PrR w S Z xs b o) xs.length 72 A c):
  Calls Tryz.prog 79 #[.slice A xs.length c,.func (.func 80) #[] #[.pointer (some ⟨C,0,none⟩)]] w
   (CkQ P b (N+npP xs) (zap xs s0).2 (zap xs s0).1 w):=by
 have HC:=hdq (zi9 P b N C s0 xs A c w S Z hc hk hC Ht hS hN hx);clear hc hk hC Ht hS hN hx;go_enter Tryz.func79,Tryz.ntmps79;go_wp2_with fail;refine HC.mono ?_;rintro e w1 ⟨n,hn,rfl,h1,Hi⟩;have HN:=hdq hn;have H1:=hdq (aiq h1 Hi);clear hn h1 Hi;go_wp2_with fail;go_ret;exact⟨by rw[<-HN.out];rfl,H1.out⟩
def AtE (p:Int×Int)(W:World)(e:Ending)(w':World):Prop:=e= .returned (.tuple #[.int .i64 p.1,.int .i64 p.2])/\Fr NoT W w'
theorem zjb (t:Tre)(w:World)(S:Nat->Prop)(Z:Prop)(Av Aa Ap Am:Option Addr)(cv ca cp cm:Nat)(he:SpEnv w)(hS:∀b,S b->b < w.heap.size)(Ht:SzT t)(hx:TrR w S Z t Av Aa Ap Am cv ca cp cm)(ht:okTr t=false):
  Calls Tryz.prog 26 #[trV t Av Aa Ap Am cv ca cp cm] w (AtE (0,8) w):=by
 have Hi:Fr NoT w (w.alloc (.cells #[.slice Av t.vars.length cv,.slice Aa t.arrays.length ca,.slice Ap t.procs.length cp,.slice Am t.main.len cm] 27)):=(Fr.refl _ _).alloc _;have h1:=zcM t _ S Z Av Aa Ap Am cv ca cp cm (he.keep Hi.plain) (λb hb=>ltq (hS b hb) Hi.size) Ht (hx.keep (Hi.same λb hb=>⟨hS b hb,id⟩));rw[ht]at h1;have H1:=hdq h1;have Hn:=hdq Hi;unfold trV at H1 ⊢;clear Hi h1 hx Ht hS he ht;go_enter Tryz.func26,Tryz.ntmps26;go_wp2_with fail;refine H1.mono ?_;rintro _ w1 ⟨rfl,hb⟩;have HB:=hdq (Hn.trans hb);clear hb;simp only[Bool.false_eq_true,if_false];go_wp2_with fail
 go_ret2
 exact⟨rfl,HB.out⟩
theorem zhY (t:Tre)(w:World)(S:Nat->Prop)(Z:Prop)(Av Aa Ap Am:Option Addr)(cv ca cp cm:Nat)(he:SpEnv w)(hS:∀b,S b->b < w.heap.size)(Ht:SzT t)(hx:TrR w S Z t Av Aa Ap Am cv ca cp cm)(ht:okTr t=true)(hf:fewT t=false):
  Calls Tryz.prog 26 #[trV t Av Aa Ap Am cv ca cp cm] w (AtE (0,4) w):=by
 have Hi:Fr NoT w (w.alloc (.cells #[.slice Av t.vars.length cv,.slice Aa t.arrays.length ca,.slice Ap t.procs.length cp,.slice Am t.main.len cm] 27)):=(Fr.refl _ _).alloc _;have h1:=zcM t _ S Z Av Aa Ap Am cv ca cp cm (he.keep Hi.plain) (λb hb=>ltq (hS b hb) Hi.size) Ht (hx.keep (Hi.same λb hb=>⟨hS b hb,id⟩));rw[ht]at h1;have H1:=hdq h1;have Hn:=hdq Hi;have Gv:=hdq (Bk.new w 27 #[.slice Av t.vars.length cv,.slice Aa t.arrays.length ca,.slice Ap t.procs.length cp,.slice Am t.main.len cm]);have l1:t.vars.length<=9223372036854775807:=leq9 hx.vars.1 hx.vars.2.1.1;have l2:t.arrays.length<=9223372036854775807:=leq9 hx.arrays.1 hx.arrays.2.1.1;have l3:t.procs.length<=9223372036854775807:=leq9 hx.procs.1 hx.procs.2.1.1;unfold fewT at hf;unfold trV at H1 ⊢;obtain⟨n1,Gk⟩:=nmq t.vars.length;obtain⟨n2,Gu⟩:=nmq t.arrays.length;obtain⟨n3,GJ⟩:=nmq t.procs.length;rw[<-Gk]at hf l1 H1 Hn Gv ⊢;rw[<-Gu]at hf l2 H1 Hn Gv ⊢;rw[<-GJ]at hf l3 H1 Hn Gv ⊢;have JC:12 < n1\/(n1<=12/\4 < n2)\/(n1<=12/\n2<=4/\8 < n3):=by
  simp only[Bool.and_eq_false_iff,decide_eq_false_iff_not]at hf;omega
 clear Hi h1 hx Ht hS he ht hf Gk Gu GJ;have PC:(decide ((12:Int) < n1)=true)\/(decide ((12:Int) < n1)=false/\decide ((4:Int) < n2)=true)\/(decide ((12:Int) < n1)=false/\decide ((4:Int) < n2)=false/\decide ((8:Int) < n3)=true):=by
  simp only[decide_eq_true_eq,decide_eq_false_iff_not];omega
 clear JC;rcases PC with e1|⟨e1,e2⟩|⟨e1,e2,e3⟩;all_goals
  go_enter Tryz.func26,Tryz.ntmps26;go_wp2_with fail;refine H1.mono ?_;rintro _ w1 ⟨rfl,hb⟩;have HB:=hdq (Hn.trans hb);obtain⟨x0,x1,x2,x3,Hv⟩:=bk4 (Gv.fr0 hb);clear hb;simp only[if_true];go_wp2_with fail
  go_ret2
  exact⟨rfl,HB.out⟩
theorem CkN.made (w:World):CkN (((w.alloc (.map #[] 0)).alloc (.cells #[.map (some w.heap.size),.int .i64 0,.int .i64 0] 147)).alloc (.cells #[.pointer (some ⟨w.heap.size+1,0,none⟩)] 144)) (w.heap.size+1) w.heap.size 0 (λ_=>none) (0,0):=by
 have h1:=KnM.made w;have hf:Fr NoT (w.alloc (.map #[] 0)) (((w.alloc (.map #[] 0)).alloc (.cells #[.map (some w.heap.size),.int .i64 0,.int .i64 0] 147)).alloc (.cells #[.pointer (some ⟨w.heap.size+1,0,none⟩)] 144)):=((Fr.refl _ _).alloc _).alloc _;exact⟨0,lrq _,⟨(Bk.new_at _ _ _ (by simp)).alloc _,h1.fr hf id,by omega⟩⟩
def ConPr (xs:List Prc):Prop:=∀(P b N C:Nat)(s0:Cks)(A:Option Addr)(c:Nat)(w:World)(S:Nat->Prop)(Z:Prop),CkN w P b N s0.1 s0.2->Bk w C 144 #[.pointer (some ⟨P,0,none⟩)]->¬CkT P b C->(∀x∈xs,SzP x)->
  (∀x,S x->x < w.heap.size/\¬CkT P b x)->N+npP xs < maxLen->SlR (λb o=>PrR w S Z xs b o) xs.length 72 A c->
  Calls Tryz.prog 79 #[.slice A xs.length c,.func (.func 80) #[] #[.pointer (some ⟨C,0,none⟩)]] w (CkQ P b (N+npP xs) (zap xs s0).2 (zap xs s0).1 w)
theorem zjc (t:Tre)(w:World)(S:Nat->Prop)(Z:Prop)(Av Aa Ap Am:Option Addr)(cv ca cp cm:Nat)(hS:∀b,S b->b < w.heap.size)(Ht:SzT t)(hx:TrR w S Z t Av Aa Ap Am cv ca cp cm)(ht:okTr t=true)(hf:fewT t=true)(vJ:∀W,Fr NoT w W->Calls Tryz.prog 15 #[trV t Av Aa Ap Am cv ca cp cm] W (ErrI 0 W))(Yi:ConPr t.procs):
  Calls Tryz.prog 26 #[trV t Av Aa Ap Am cv ca cp cm] w (AtE (zbE t) w):=by
 have hT:zbE t=if(zap t.procs (zbc t)).2 then(zap t.procs (zbc t)).1.2 else zan (zap t.procs (zbc t)).1.1 t.main (zap t.procs (zbc t)).1.2 :=by
  unfold zbE;rw[if_pos ht,if_pos hf]
 unfold zbc at hT;obtain⟨⟨F1,F2⟩,hF⟩:=nmq (zbE t);rw[<-hF]at hT ⊢;have Hi:Fr NoT w (w.alloc (.cells #[.slice Av t.vars.length cv,.slice Aa t.arrays.length ca,.slice Ap t.procs.length cp,.slice Am t.main.len cm] 27)):=(Fr.refl _ _).alloc _;have h1:=vJ _ Hi;have H1:=hdq h1;have Hn:=hdq Hi;have Gv:=hdq (Bk.new w 27 #[.slice Av t.vars.length cv,.slice Aa t.arrays.length ca,.slice Ap t.procs.length cp,.slice Am t.main.len cm]);have Li:=zeX hf;have zH:npP t.procs<=1125899906842632:=by
  by_cases h0:t.procs.length=0
  ·have:t.procs= []:=List.eq_nil_of_length_eq_zero h0;rw[this];exact Nat.zero_le _
  ·obtain⟨b,o,_,h2⟩:=hx.procs.2.2 (by omega);exact leq9 (zl3 h2) (Nat.mul_le_mul_right _ Li.2.2)
 unfold trV at H1 ⊢;have HX:=hdq hx;have HS:=hdq hS;have VM:=hdq Ht;have HT:=hdq hT;have zI:=hdq Yi;obtain⟨n1,Gk⟩:=nmq t.vars.length;obtain⟨n2,Gu⟩:=nmq t.arrays.length;obtain⟨n3,GJ⟩:=nmq t.procs.length;obtain⟨n4,GV⟩:=nmq t.main.len;obtain⟨np,VN⟩:=nmq (npP t.procs);rw[<-VN]at zH;rw[<-Gk]at Li H1 Hn Gv ⊢;rw[<-Gu]at Li H1 Hn Gv ⊢;rw[<-GJ]at Li H1 Hn Gv ⊢;rw[<-GV]at H1 Hn Gv ⊢;have VO:=hdq Gk;have Le:=hdq Gu;have JO:=hdq GJ;have zJ:=hdq GV;have zK:=hdq VN;obtain⟨q1,q2,q3⟩:=Li;have e1:decide ((12:Int) < n1)=false:=by simp;omega
 have e2:decide ((4:Int) < n2)=false:=by simp;omega
 have e3:decide ((8:Int) < n3)=false:=by simp;omega
 have Pj:= @run_makeMap Tryz.prog;have Ut:= @makeF Tryz.prog;have hent:Enters Tryz.prog 146:=enters_of Tryz.func146 (by kernel_rfl) rfl;unfold Enters at hent;have jy:=hdq (rfl:w.heap.size=w.heap.size);clear Hi h1 hx Ht hS ht hf vJ Yi Gk Gu GJ GV VN hT hF;go_enter Tryz.func26,Tryz.ntmps26;go_wp2_with fail;refine H1.mono ?_;rintro _ w1 ⟨rfl,hb⟩;have Hp:=Gv.fr0 hb;obtain⟨b,LI⟩:=nmq w1.heap.size;obtain⟨w4,G7⟩:=nmq (((w1.alloc (.map #[] 0)).alloc (.cells #[.map (some w1.heap.size),.int .i64 0,.int .i64 0] 147)).alloc (.cells #[.pointer (some ⟨w1.heap.size+1,0,none⟩)] 144));have GB:Fr NoT w1 w4:=by rw[G7];exact(((Fr.refl _ _).alloc _).alloc _).alloc _
 have UC:CkN w4 (w1.heap.size+1) w1.heap.size 0 (λ_=>none) (0,0):=by rw[G7];exact CkN.made w1
 have vK:Bk w4 (w1.heap.size+1+1) 144 #[.pointer (some ⟨w1.heap.size+1,0,none⟩)]:=by rw[G7];exact Bk.new_at _ _ _ (by simp)
 obtain⟨x0,x1,x2,x3,Hv⟩:=bk4 Hp;have GL:=hdq ((Hn.trans hb).trans GB);have KO:=hdq (Hp.fr0 GB);have LU:=hdq G7;have S4:=hdq UC;have Ks:=hdq vK;have gE:=hdq (HX.keep (GL.same λb hb=>⟨HS b hb,id⟩));have Lj:=hdq (show ∀x,S x->x < w4.heap.size/\¬CkT (w1.heap.size+1) w1.heap.size x from λx hx=>⟨ltq (HS x hx) GL.size,λe=>by
  have h1:=HS x hx;have h2:=(Hn.trans hb).size;rcases e with e|e<;>omega⟩)
 have Q1:=hdq (show ¬CkT (w1.heap.size+1) w1.heap.size w.heap.size from λe=>by rcases e with e|e<;>omega);have Qq:=hdq (show ¬CkT (w1.heap.size+1) w1.heap.size (w1.heap.size+1+1)from λe=>by rcases e with e|e<;>omega);have jz:=hdq (show ∀W,Fr (CkT (w1.heap.size+1) w1.heap.size) w4 W->Fr NoT w W from λW h=>by
  have h2:=(Hn.trans hb).size;exact⟨h.os.trans GL.os,h.tape.trans GL.tape,h.output.trans GL.output,leq9 GL.size h.size,λi hi _=>(h.block i (ltq hi GL.size) (λe=>by rcases e with e|e<;>omega)).trans (GL.block i hi id)⟩)
 have m0:=KO.cell 0;rw[G7]at m0;simp only[getsL]at m0;clear hb Hp G7 GB UC vK;have KP:=hdq LI;clear LI;simp only[if_true];go_wp2_with fail;rw[<-LU.out];have LI:=KP.out;rw[<-LI]at S4 Ks Lj Q1 Qq jz ⊢;clear LI;clear m0 x0 x1 x2 x3 Hv H1 Hn Gv KP;go_loopw [38] (λi wr=>∃(k:Nat)(s:Cks),k<=n1/\i= .int .i64 k/\Hid (Fr (CkT (b+1) b) w4 wr)/\Hid (CkN wr (b+1) b k s.1 s.2)/\Hid (zaF (1,0) t.vars (λ_=>none,(0,0))=zaF (1,0) (t.vars.drop k) s)) (λi _=>n1 - (intOf i).toNat);case atStart=>exact⟨0,(λ_=>none,(0,0)),Nat.zero_le _,rfl,Fr.refl _ _,S4.out,rfl⟩
 case round=>
  obtain⟨k,s,hk,rfl,hb,FE,Ha⟩:=hrel;have LL:=Ks.fr hb.out Qq.out;have d0:=LL.cell 0;have dl:=LL.lt;simp only[getsL]at d0;clear LL;by_cases Hr:k < n1
  ·obtain⟨⟨a0,a1⟩,ar,hd⟩:=zac (show k < t.vars.length from by rw[<-VO.out];exact Hr);obtain⟨B,o,rfl,Hd⟩:=gE.vars.2.2 (by rw[<-VO.out];omega);have Hb:=(VaR.keep (hb.same λx hx=>Lj x hx) Hd).drop k;rw[hd.1]at Hb;obtain⟨⟨Hf,_,r1,c0,c1⟩,_⟩:=Hb;have Gf:B < wr.heap.size:=ltq (Lj _ Hf).1 hb.size;have Hl:(k:Int) < (n1:Int):=by omega
   have Fb:(0:Int)<=(k:Int):=by omega
   simp only at c0 c1;have Gd:Fr NoT wr (wr.alloc (.cells #[.string a0,.int .i64 a1] 43)):=(Fr.refl _ _).alloc _;have Kt:=zbv (b+1) b k s.1 s.2 a0 a1 (1,0) _ (FE.fr0 Gd) (VM.vars _ (zaN hd.1)) (by unfold maxLen;omega);unfold thV at Kt;simp only at Kt;have HD:=hdq Kt;have Hj:=hdq (Ha.trans (zdz hd));have HB:=hdq (hb.trans (Gd.any:Fr (CkT (b+1) b) wr _));clear hd Hd Ha hb Hf FE Gd Kt;go_wp2_with fail;refine HD.mono ?_;rintro _ w3 ⟨rfl,h3,GQ⟩;have JO:=hdq (aiq h3 (HB.trans GQ));clear h3 GQ c0 c1;go_wp2_with fail;go_roundw;case rel=>exact⟨k+1,zbM s a0.data.toList a1 (1,0),by omega,by go_num,JO.2,JO.1,Hj.out⟩
   case measure=>simp[intOf];omega
  ·obtain rfl:k=n1:=by omega
   have Ju:zaF (1,0) t.vars (λ_=>none,(0,0))=s:=by rw[Ha.out,List.drop_eq_nil_of_le (by rw[<-VO.out];omega)];rfl
   have Ny:=hdq Ju;have Hl:¬(k:Int) < (k:Int):=by omega
   obtain⟨x0,x1,x2,x3,Hv⟩:=bk4 (KO.fr hb.out Q1.out);have HB:=hdq hb.out;have K0:=hdq FE.out;clear Ha Ju hb FE d0 dl;go_wp2_with fail;clear x0 x1 x2 x3 Hv;obtain⟨wo,rfl⟩:∃wo:World,wo=wr:=⟨_,rfl⟩;go_loopw [53] (λi wr=>∃(j:Nat)(sj:Cks),j<=n2/\i= .int .i64 j/\Hid (Fr (CkT (b+1) b) w4 wr)/\Hid (CkN wr (b+1) b (k+j) sj.1 sj.2)/\Hid (za1 t.arrays s=za1 (t.arrays.drop j) sj)) (λi _=>n2 - (intOf i).toNat);case atStart=>exact⟨0,s,Nat.zero_le _,rfl,HB.out,K0.out,rfl⟩
   case round=>
    clear HB K0;obtain⟨j,sj,hj,rfl,hb,FE,Ha⟩:=hrel;have LL:=Ks.fr hb.out Qq.out;have d0:=LL.cell 0;have dl:=LL.lt;simp only[getsL]at d0;clear LL;by_cases Hr:j < n2
    ·obtain⟨⟨a0,a1,a2⟩,ar,hd⟩:=zac (show j < t.arrays.length from by rw[<-Le.out];exact Hr);obtain⟨B,o,rfl,Hd⟩:=gE.arrays.2.2 (by rw[<-Le.out];omega);have Hb:=(ArR.keep (hb.same λx hx=>Lj x hx) Hd).drop j;rw[hd.1]at Hb;obtain⟨⟨Hf,_,r1,r2,c0,c1,c2⟩,_⟩:=Hb;have Gf:B < wr.heap.size:=ltq (Lj _ Hf).1 hb.size;have Nz:(j:Int) < (n2:Int):=by omega
     have X6:(0:Int)<=(j:Int):=by omega
     simp only at c0 c1 c2;obtain⟨w2,FU⟩:=nmq (wr.alloc (.cells #[.string a0,.int .i64 a1,.int .i64 a2] 66));have Gd:Fr NoT wr w2:=by rw[FU];exact(Fr.refl _ _).alloc _
     have He:Bk w2 wr.heap.size 66 #[.string a0,.int .i64 a1,.int .i64 a2]:=by rw[FU];exact Bk.new _ _ _
     have Kt:=zbv (b+1) b (k+j) sj.1 sj.2 a0 a2 (2,0) w2 (FE.fr0 Gd) (VM.arrays _ (zaN hd.1)) (by unfold maxLen;omega);unfold thV at Kt;simp only at Kt;have MD:=FE.lt;have Qf:=hdq (show ¬CkT (b+1) b wr.heap.size from λe=>by rcases e with e|e<;>omega);have HD:=hdq Kt;have Hj:=hdq (Ha.trans (zfM hd));have HB:=hdq (hb.trans (Gd.any:Fr (CkT (b+1) b) wr _));have FX:=hdq He;have LJ:=hdq FU;obtain⟨p1,UD⟩:=nmq (decide ((1:Int)<=a1));obtain⟨p2,Ts⟩:=nmq (decide (a1<=(16:Int)));have HP:=hdq (show zcy sj ⟨a0,a1,a2⟩=((zbM sj a0.data.toList a2 (2,0)).1,askC (zbM sj a0.data.toList a2 (2,0)).2 (p1&&p2) (a2,113))from by rw[UD,Ts];rfl);have g1:=UD.symm;have g2:=Ts.symm;clear hd Hd Ha hb Hf FE Gd Kt He FU UD Ts MD;cases p1;all_goals cases p2
     all_goals
      go_wp2_with fail;rw[<-LJ.out];refine HD.mono ?_;rintro _ w3 ⟨rfl,h3,GQ⟩;have Hw:=FX.fr GQ Qf.out;have y1:=Hw.cell 1;have y2:=Hw.cell 2;have yl:=Hw.lt;have LL:=Ks.fr (HB.trans GQ) Qq.out;have d3:=LL.cell 0;have dl3:=LL.lt;simp only[getsL]at y1 y2 d3;have VJ:=hdq (λis=>zdy (b+1) b _ _ _ is a2 113 w3 h3);have Kd:=hdq (HB.trans GQ);clear h3 GQ Hw LL c0 c1 c2 d0 dl Gf;go_wp2_with fail;refine(VJ _).mono ?_;rintro _ w5 ⟨rfl,h5,Hs⟩;have gF:=hdq (aiq h5 (Kd.trans Hs));clear h5 Hs y1 y2 d3;go_wp2_with fail;go_roundw;case rel=>exact⟨j+1,zcy sj ⟨a0,a1,a2⟩,by omega,by go_num,gF.2,by rw[HP.out];exact gF.1,Hj.out⟩
      case measure=>simp[intOf];omega
    ·obtain rfl:j=n2:=by omega
     have Ju:za1 t.arrays s=sj:=by rw[Ha.out,List.drop_eq_nil_of_le (by rw[<-Le.out];omega)];rfl
     have Mx:=hdq Ju;have Nz:¬(j:Int) < (j:Int):=by omega
     obtain⟨x0,x1,x2,x3,Hv⟩:=bk4 (KO.fr hb.out Q1.out);have HB:=hdq hb.out;have K0:=hdq FE.out;clear Ha Ju hb FE d0 dl;go_wp2_with fail;clear x0 x1 x2 x3 Hv;obtain⟨wq,rfl⟩:∃wq:World,wq=wr:=⟨_,rfl⟩;go_loopw [80] (λi wr=>∃(l:Nat)(sl:Cks),l<=n3/\i= .int .i64 l/\Hid (Fr (CkT (b+1) b) w4 wr)/\Hid (CkN wr (b+1) b (k+j+l) sl.1 sl.2)/\Hid (za2 t.procs sj=za2 (t.procs.drop l) sl)) (λi _=>n3 - (intOf i).toNat);case atStart=>exact⟨0,sj,Nat.zero_le _,rfl,HB.out,K0.out,rfl⟩
     case round=>
      clear HB K0;obtain⟨l,sl,hl,rfl,hb,FE,Ha⟩:=hrel;have LL:=Ks.fr hb.out Qq.out;have d0:=LL.cell 0;have dl:=LL.lt;simp only[getsL]at d0;have VP:=hdq LL;clear LL;by_cases Hr:l < n3
      ·obtain⟨⟨a0,a1,a2,a3⟩,ar,hd⟩:=zac (show l < t.procs.length from by rw[<-JO.out];exact Hr);obtain⟨B,o,rfl,Hd⟩:=gE.procs.2.2 (by rw[<-JO.out];omega);have Hb:=(PrR.keep (hb.same λx hx=>Lj x hx) Hd).drop l;rw[hd.1]at Hb;obtain⟨⟨Hf,_,r1,c0,c3⟩,⟨A1,q1,c1,_⟩,⟨A2,q2,c2,_⟩,_⟩:=Hb;have Gf:B < wr.heap.size:=ltq (Lj _ Hf).1 hb.size;have Yj:(l:Int) < (n3:Int):=by omega
       have jA:(0:Int)<=(l:Int):=by omega
       simp only at c0 c1 c2 c3;have Gd:Fr NoT wr (wr.alloc (.cells #[.string a0,.slice A1 a1.length q1,.slice A2 a2.len q2,.int .i64 a3] 68)):=(Fr.refl _ _).alloc _;have Kt:=zbv (b+1) b (k+j+l) sl.1 sl.2 a0 a3 (4,0) _ (FE.fr0 Gd) (VM.procs _ (zaN hd.1)).1 (by unfold maxLen;omega);unfold thV at Kt;simp only at Kt;have HD:=hdq Kt;have Hj:=hdq (Ha.trans (zfN hd));have HB:=hdq (hb.trans (Gd.any:Fr (CkT (b+1) b) wr _));clear hd Hd Ha hb Hf FE Gd Kt;go_wp2_with fail;refine HD.mono ?_;rintro _ w3 ⟨rfl,h3,GQ⟩;have Yk:=hdq (aiq h3 (HB.trans GQ));clear h3 GQ c0 c1 c2 c3;go_wp2_with fail;go_roundw;case rel=>exact⟨l+1,zbM sl a0.data.toList a3 (4,0),by omega,by go_num,Yk.2,Yk.1,Hj.out⟩
       case measure=>simp[intOf];omega
      ·obtain rfl:l=n3:=by omega
       have Ju:za2 t.procs sj=sl:=by rw[Ha.out,List.drop_eq_nil_of_le (by rw[<-JO.out];omega)];rfl
       have Yj:¬(l:Int) < (l:Int):=by omega
       obtain⟨x0,x1,x2,x3,Hv⟩:=bk4 (KO.fr hb.out Q1.out);have Nn:∀W,Fr (CkT (b+1) b) w4 W->∀x,S x->x < W.heap.size/\¬CkT (b+1) b x:=λW h x hx=>⟨ltq (Lj x hx).1 h.size,(Lj x hx).2⟩;have Uy:∀W,Fr (CkT (b+1) b) w4 W->TrR W S Z t Av Aa Ap Am cv ca cp cm:=λW h=>gE.keep (h.same λx hx=>Lj x hx);have Tu:=hdq (zI (b+1) b (k+j+l) (b+1+1) sl Ap cp wr S Z FE.out VP.out Qq.out (λx hx=>VM.procs x hx) (Nn _ hb.out) (by have:=zK.out;unfold maxLen;omega) (Uy _ hb.out).procs);rw[<-JO.out]at Tu;have Tm:=HT.out;rw[Ny.out,Mx.out,Ju]at Tm;obtain⟨⟨⟨kz,az,ez⟩,q⟩,vM⟩:=nmq (zap t.procs sl);rw[<-vM]at Tm Tu;simp only at Tm;have vN:=hdq Tm;have Yd:=hdq Nn;have gB:=hdq Uy;have HB:=hdq hb.out;obtain⟨NN,vO⟩:=nmq (k+j+l+npP t.procs);rw[<-vO]at Tu;clear Ha Ju hb FE Tm vM Nn Uy VP vO;go_wp2_with fail;refine Tu.mono ?_;rintro _ w5 ⟨rfl,h5,Hs⟩;have Tv:=HB.trans Hs;have LL:=Ks.fr Tv Qq.out;have VQ:=KO.fr Tv Q1.out;have Tw:=hdq Tv;have H5:=hdq h5;have VP:=hdq LL;have S5:=hdq VQ;clear Tv LL VQ h5 Hs x0 x1 x2 x3 Hv d0 dl;cases q
       ·have VR:=vN.out;simp only[Bool.false_eq_true,if_false]at VR;have Gd:Fr NoT w5 w5.drew:=(Fr.refl _ _).drew;have Rt:=hdq (zep (b+1) b w5.drew (H5.fr0 Gd).lt.1 (H5.fr0 Gd).lt.2);have Hq:=λ(B1 B2:Nat)(W:World)(h:Fr NoT w5.drew W)(hw:WkAt W (b+1) b B1 B2)=>zem kz t.main VM.main (b+1) b NN B1 B2 (az,ez) W S Z Am cm ((H5.fr0 Gd).fr0 h) hw (Yd W (Tw.trans ((Gd.trans h).any))) (gB W (Tw.trans ((Gd.trans h).any))).main;rw[<-VR,<-zJ.out]at Hq;have Tr:=hdq Hq;have Yg:=hdq Gd;have d5:=VP.cell 0;have dl5:=VP.lt;simp only[getsL]at d5;obtain⟨x0,x1,x2,x3,Hv⟩:=bk4 S5.out;clear VR Hq Gd;go_wp2_with fail
        go_region_law
         (first
          |(go_simp
            go_at_call 82
            with_reducible refine Rt.out.mono ?_
            rintro _ w6 ⟨B1,B2,rfl,GM,Fk⟩;have VS:=(S5.fr0 Yg.out).fr0 Fk;have g3:=VS.cell 3;have gl:=VS.lt;simp only[getsL]at g3;have Yh:=hdq (Tr B1 B2 w6 Fk GM);have GF:=hdq (Yg.trans Fk);clear GM Fk VS;dsimp only)
          |(go_simp
            go_at_call 146
            with_reducible refine Yh.out.mono ?_
            rintro _ w7 ⟨rfl,h7,Gw⟩;have zL:=hdq h7;have JG:=hdq (Tw.trans ((GF.any:Fr (CkT (b+1) b) w5 _).trans Gw));clear h7 Gw;dsimp only))
        all_goals
         have VT:=Ks.fr JG.out Qq.out;have d7:=VT.cell 0;have dl7:=VT.lt;have GZ:=zL.box;have p1:=GZ.cell 1;have p2:=GZ.cell 2;have pl:=GZ.lt;simp only[getsL]at d7 p1 p2;clear VT GZ d5 dl5 x0 x1 x2 x3 Hv;try clear g3 gl
         go_wp2_with fail
         go_quiet (fail)
         go_wp2_with fail
         go_ret2
         exact⟨rfl,(jz _ JG.out).drewN _⟩
       ·have VR:=vN.out;simp only[if_true]at VR;obtain⟨rfl,rfl⟩:=Prod.mk.inj VR;have d5:=VP.cell 0;have dl5:=VP.lt;have GZ:=H5.box;have p1:=GZ.cell 1;have p2:=GZ.cell 2;have pl:=GZ.lt;simp only[getsL]at d5 p1 p2;clear VR GZ;go_wp2_with fail
        go_quiet (fail)
        go_wp2_with fail
        go_ret2
        exact⟨rfl,(jz _ Tw.out).drewN _⟩
theorem zjd (t:Tre)(w:World)(S:Nat->Prop)(Z:Prop)(Av Aa Ap Am:Option Addr)(cv ca cp cm:Nat)(he:SpEnv w)(hS:∀b,S b->b < w.heap.size)(Ht:SzT t)(hx:TrR w S Z t Av Aa Ap Am cv ca cp cm):
  Calls Tryz.prog 26 #[trV t Av Aa Ap Am cv ca cp cm] w (AtE (zbE t) w):=by
 cases h1:okTr t with
 |false=>
  have h:=zjb t w S Z Av Aa Ap Am cv ca cp cm he hS Ht hx h1;have e:zbE t=(0,8):=by unfold zbE;rw[if_neg (by simp[h1])]
  rw[e];exact h
 |true=>
  cases h2:fewT t with
  |false=>
   have h:=zhY t w S Z Av Aa Ap Am cv ca cp cm he hS Ht hx h1 h2;have e:zbE t=(0,4):=by unfold zbE;rw[if_pos h1,if_neg (by simp[h2])]
   rw[e];exact h
  |true=>
   refine zjc t w S Z Av Aa Ap Am cv ca cp cm hS Ht hx h1 h2 (λW hf=>?_) λP b N C s0 A c w S Z k0 k1 k2 k3 k4 k5 k6=>zja P b N C s0 t.procs A c w S Z k0 k1 k2 k3 k4 k5 k6;have h:=zcM t W S Z Av Aa Ap Am cv ca cp cm (he.keep hf.plain) (λb hb=>ltq (hS b hb) hf.size) Ht (hx.keep (hf.same λb hb=>⟨hS b hb,id⟩));rw[h1]at h;exact h
open Go.RowKit Go.Shelf
def exsI (ws:Wl):Exs->Int×Int
  | .nil =>(0,0)
  | .cons k nm n args at_ r=>
    if(if k=2 then(at_,isI nm 1 ws)else if k=3/\isI nm 2 ws≠0 then(at_,isI nm 2 ws)else exsI ws args).2 =0 then exsI ws r
    else(if k=2 then(at_,isI nm 1 ws)else if k=3/\isI nm 2 ws≠0 then(at_,isI nm 2 ws)else exsI ws args)
def exI (ws:Wl)(k:Int)(nm:ByteArray)(args:Exs)(at_:Int):Int×Int:=if k=2 then(at_,isI nm 1 ws)else if k=3/\isI nm 2 ws≠0 then(at_,isI nm 2 ws)else exsI ws args
theorem zje {ws:Wl}{xs:Exs}{i:Nat}{a0 a1 a2 a3 a4 ar}(hd:Exs.drop i xs= .cons a0 a1 a2 a3 a4 ar):exsI ws (Exs.drop i xs)=if(exI ws a0 a1 a3 a4).2 =0 then exsI ws (Exs.drop (i+1) xs)else exI ws a0 a1 a3 a4:=by
  rw[Exs.drop_succ i xs hd,hd];rfl
theorem zmA (ws:Wl)(k:Int)(nm:ByteArray)(n:Int)(args:Exs)(at_:Int)(A:Option Addr)(l c:Nat)(w:World)(An Ak Am:Option Addr)(cn ck cm:Nat)(hw:WdR w ws An Ak Am cn ck cm)
    (hc:∀W,Fr NoT w W->Calls Tryz.prog 156 #[wdV ws An Ak Am cn ck cm,.slice A l c] W (AtE (exsI ws args) W)):
    Calls Tryz.prog 193 #[wdV ws An Ak Am cn ck cm,.agg #[.int .u8 k,.string nm,.int .i64 n,.slice A l c,.int .i64 at_]] w (AtE (exI ws k nm args at_) w):=by
  have h1:=λ(W:World)(kind:Int)(hf:Fr NoT w W)=>zcO ws nm kind W An Ak Am cn ck cm (hw.keep hf);obtain⟨R,hR⟩:=nmq (exI ws k nm args at_);rw[<-hR];unfold exI at hR;obtain⟨E,hE⟩:=nmq (exsI ws args);rw[<-hE]at hR hc;unfold wdV at hc h1 ⊢;obtain⟨m,hm⟩:=nmq ws.length;rw[<-hm]at hc h1 ⊢;obtain⟨w1,Hc⟩:=nmq ((w.alloc (.cells #[.slice An m cn,.slice Ak m ck,.slice Am m cm] 164)).alloc (.cells #[.int .u8 k,.string nm,.int .i64 n,.slice A l c,.int .i64 at_] 41));have Gv:=hdq (show Bk w1 w.heap.size 164 #[.slice An m cn,.slice Ak m ck,.slice Am m cm]from by rw[Hc];exact(Bk.new _ _ _).fr0 ((Fr.refl _ _).alloc _));have FX:=hdq (show Bk w1 (w.heap.size+1) 41 #[.int .u8 k,.string nm,.int .i64 n,.slice A l c,.int .i64 at_]from by rw[Hc];have:=Bk.new (w.alloc (.cells #[.slice An m cn,.slice Ak m ck,.slice Am m cm] 164)) 41 #[.int .u8 k,.string nm,.int .i64 n,.slice A l c,.int .i64 at_];simpa using this);have Hn:=hdq (show Fr NoT w w1 from by rw[Hc];exact((Fr.refl _ _).alloc _).alloc _);have Ga:=hdq Hc;have H1:=hdq h1;have HC:=hdq hc;clear hw hc h1 hm Hc hE;by_cases hk:k=2
  · subst hk;rw[if_pos rfl]at hR;obtain⟨v,hv⟩:=nmq (isI nm 1 ws);have h:=λW (hf:Fr NoT w W)=>H1 W 1 hf;rw[<-hv]at h hR;have HI:=hdq h;have HR:=hdq hR;clear h hv H1 hR;go_enter Tryz.func193,Tryz.ntmps193;go_wp2_with fail;rw[<-Ga.out];have a0:=Gv.cell 0;have a1:=Gv.cell 1;have a2:=Gv.cell 2;have b0:=FX.cell 0;have b1:=FX.cell 1;have b3:=FX.cell 3;have b4:=FX.cell 4;have l1:=Gv.lt;have l2:=FX.lt;simp only[getsL]at a0 a1 a2 b0 b1 b3 b4
    go_region_law
      (go_simp
       go_at_call 192
       with_reducible refine(HI.out _ (by exact Hn.out.drew)).mono ?_
       rintro _ w5 ⟨rfl,hb⟩;have Hx:=hdq (Hn.drew.trans hb);have b4':=(FX.fr0 ((Fr.refl NoT w1).drew.trans hb)).cell 4;have l2':=(FX.fr0 ((Fr.refl NoT w1).drew.trans hb)).lt;simp only[getsL]at b4';clear hb;dsimp only)
    all_goals
      go_wp2_with fail
      go_ret2
      exact⟨by rw[HR.out];rfl,Hx.out⟩
  rw[if_neg hk]at hR;have g2:(k==2)=false:=by simpa using hk
  by_cases Hw:k=3
  · subst Hw;obtain⟨v,hv⟩:=nmq (isI nm 2 ws);have h:=λW (hf:Fr NoT w W)=>H1 W 2 hf;rw[<-hv]at h hR;have HI:=hdq h;clear h hv H1 hk g2;by_cases KH:v=0
    · rw[if_neg (λh=>h.2 KH)]at hR;subst KH;obtain⟨e1,e2⟩:=E;have HR:=hdq hR;clear hR;go_enter Tryz.func193,Tryz.ntmps193;go_wp2_with fail;rw[<-Ga.out];refine(HI _ Hn.out).mono ?_;rintro _ w2 ⟨rfl,hb⟩;have Hp:=Gv.fr0 hb;have He:=FX.fr0 hb;have Hy:=hdq (Hn.trans hb);have a0:=Hp.cell 0;have a1:=Hp.cell 1;have a2:=Hp.cell 2;have b0:=He.cell 0;have b1:=He.cell 1;have b3:=He.cell 3;have b4:=He.cell 4;have l1:=Hp.lt;have l2:=He.lt;simp only[getsL]at a0 a1 a2 b0 b1 b3 b4;clear hb Hp He;go_wp2_with fail;refine(HC _ Hy.out).mono ?_;rintro _ w3 ⟨rfl,hb⟩;have Gc:=hdq (Hy.trans hb);clear hb;go_wp2_with fail
      go_ret2
      exact⟨by rw[HR.out];rfl,Gc.out⟩
    · rw[if_pos ⟨rfl,KH⟩]at hR;have HR:=hdq hR;have e1:(v != 0)=true:=by simpa using KH
      clear hR KH;go_enter Tryz.func193,Tryz.ntmps193;go_wp2_with fail;rw[<-Ga.out];refine(HI _ Hn.out).mono ?_;rintro _ w2 ⟨rfl,hb⟩;have He:=FX.fr0 hb;have Hy:=hdq (Hn.trans hb);have b4:=He.cell 4;have l2:=He.lt;simp only[getsL]at b4;clear hb He;go_wp2_with fail
      go_ret2
      exact⟨by rw[HR.out];rfl,Hy.out⟩
  · rw[if_neg (λh=>Hw h.1)]at hR;have g3:(k==3)=false:=by simpa using Hw
    obtain⟨e1,e2⟩:=E;have HR:=hdq hR;clear hR hk Hw H1;go_enter Tryz.func193,Tryz.ntmps193;go_wp2_with fail;rw[<-Ga.out];refine(HC _ Hn.out).mono ?_;rintro _ w3 ⟨rfl,hb⟩;have Gc:=hdq (Hn.trans hb);clear hb;go_wp2_with fail
    go_ret2
    exact⟨by rw[HR.out];rfl,Gc.out⟩
def RxC (ws:Wl)(An Ak Am:Option Addr)(cn ck cm:Nat)(xs:Exs):Prop:=∀(W:World)(S:Nat->Prop)(Z:Prop)(A:Option Addr)(c:Nat),WdR W ws An Ak Am cn ck cm->(∀b,S b->b < W.heap.size)->SlR (λb o=>ExR W S Z xs b o) xs.len 64 A c->
  Calls Tryz.prog 156 #[wdV ws An Ak Am cn ck cm,.slice A xs.len c] W (AtE (exsI ws xs) W)
def RxI (ws:Wl)(An Ak Am:Option Addr)(cn ck cm:Nat)(xs:Exs):Prop:=∀(i:Nat)(a0:Int)(a1:ByteArray)(a2:Int)(a3:Exs)(a4:Int)(ar:Exs),Exs.drop i xs= .cons a0 a1 a2 a3 a4 ar->RxC ws An Ak Am cn ck cm a3
theorem zl4 (ws:Wl)(An Ak Am:Option Addr)(cn ck cm:Nat)(xs:Exs)(Ho:RxI ws An Ak Am cn ck cm xs):RxC ws An Ak Am cn ck cm xs:=by
  intro w S Z A c hw hS hx;have hl:xs.len<=9223372036854775807:=leq9 hx.1 hx.2.1.1;have HA:=hdq Ho;have HX:=hdq hx;have HS:=hdq hS;have HW:=hdq hw;obtain⟨m,hm⟩:=nmq xs.len;rw[<-hm]at hl ⊢;have HM:=hdq hm;obtain⟨F,hF⟩:=nmq (exsI ws xs);rw[<-hF];have HF:=hdq hF;have Ge:=λ(k:Int)(nm:ByteArray)(n:Int)(args:Exs)(at_:Int)(A:Option Addr)(l c:Nat)(W:World)(hf:Fr NoT w W)=>zmA ws k nm n args at_ A l c W An Ak Am cn ck cm (hw.keep hf);unfold wdV at Ge ⊢;obtain⟨nw,KI⟩:=nmq ws.length;rw[<-KI]at Ge ⊢;have HO:=hdq Ge;have ME:=hdq KI;obtain⟨w1,Hc⟩:=nmq (w.alloc (.cells #[.slice An nw cn,.slice Ak nw ck,.slice Am nw cm] 164));have Gv:=hdq (show Bk w1 w.heap.size 164 #[.slice An nw cn,.slice Ak nw ck,.slice Am nw cm]from by rw[Hc];exact Bk.new _ _ _);have Hn:=hdq (show Fr NoT w w1 from by rw[Hc];exact(Fr.refl _ _).alloc _);have Ga:=hdq Hc;clear Ho hx hS hm hF hw Ge KI Hc;go_enter Tryz.func156,Tryz.ntmps156;go_wp2_with fail;rw[<-Ga.out];go_loopw [6] (λi wr=>∃k:Nat,k<=m/\i= .int .i64 k/\Hid (Fr NoT w1 wr)/\Hid (F=exsI ws (Exs.drop k xs))) (λi _=>m - (intOf i).toNat);case atStart=>exact⟨0,Nat.zero_le _,rfl,Fr.refl _ _,HF.out⟩
  case round=>
    clear HF;obtain⟨k,hk,rfl,Gi,Ha⟩:=hrel;have FR:=Gv.fr0 Gi.out;have x0:=FR.cell 0;have x1:=FR.cell 1;have x2:=FR.cell 2;have Hv:=FR.lt;simp only[getsL]at x0 x1 x2;have hb:Fr NoT w wr:=Hn.trans Gi.out;have Hu:=hdq Gi.out;clear FR Gi;by_cases Hr:k < m
    · obtain⟨a0,a1,a2,a3,a4,ar,hd⟩:=Exs.drop_cons (show k < xs.len from by rw[<-HM.out];exact Hr);obtain⟨b,o,rfl,Hd⟩:=HX.2.2 (by rw[<-HM.out];omega);have Hb:=(ExR.keep (hb.same λb hb=>⟨HS b hb,id⟩) Hd).drop k;rw[hd]at Hb;obtain⟨⟨Hf,_,r0,r1,_,c0,c1,c2,c4⟩,⟨A3,q3,c3,s3⟩,_⟩:=Hb;have Gf:b < wr.heap.size:=ltq (HS _ Hf) hb.size;have Hl:(k:Int) < (m:Int):=by omega
      have Fb:(0:Int)<=(k:Int):=by omega
      have Jr:∀b,S b->b < wr.heap.size:=λb h=>ltq (HS b h) hb.size;have GR:=HO a0 a1 a2 a3 a4 A3 a3.len q3 wr.drew (hb.trans (Fr.refl NoT wr).drew) (λW hf=>by
        have Li:=(Fr.refl NoT wr).drew.trans hf;have:=HA k a0 a1 a2 a3 a4 ar hd W S Z A3 q3 (HW.keep (hb.trans Li)) (λb h=>ltq (Jr b h) Li.size) (s3.imp λ_ _ hx=>ExR.keep (Li.same λb hb=>⟨Jr b hb,id⟩) hx);unfold wdV at this;rw[<-ME.out]at this;exact this)
      have Hq:=Ha.trans (zje hd);obtain⟨⟨v1,v2⟩,hv⟩:=nmq (exI ws a0 a1 a3 a4);rw[<-hv]at Hq GR;simp only at Hq;obtain⟨l3,Gz⟩:=nmq a3.len;rw[<-Gz]at GR c3;have H1:=hdq GR;have Hj:=hdq Hq;have HB:=hdq hb;clear hd Hd Ha hb Hf s3 r0 r1 GR Hq hv Jr Gz;go_wp2_with fail
      go_region_law
        (go_simp
         go_at_call 193
         with_reducible refine H1.out.mono ?_
         rintro _ w5 ⟨rfl,hb⟩;have Hx:=hdq ((Fr.refl NoT wr).drew.trans hb);clear hb;dsimp only)
      all_goals
        clear x0 x1 x2 Hv c0 c1 c2 c3 c4 Gf;by_cases KH:v2=0
        · subst KH;have HN:=hdq (show F=exsI ws (Exs.drop (k+1) xs)from by rw[Hj.out,if_pos rfl]);clear Hj;go_wp2_with fail;go_roundw;case rel=>exact⟨k+1,by omega,by go_num,Hu.trans Hx.out,HN.out⟩
          case measure=>simp[intOf];omega
        · have HN:=hdq (show F=(v1,v2)from by rw[Hj.out,if_neg KH]);have e1:(v2 != 0)=true:=by simpa using KH
          clear Hj KH;go_wp2_with fail
          go_ret2
          exact⟨by rw[HN.out];rfl,HB.trans Hx.out⟩
    · have HN:=hdq (show F=(0,0)from by rw[Ha.out,Exs.drop_nil (by rw[<-HM.out];omega)];rfl);have Hl:¬(k:Int) < (m:Int):=by omega
      have HB:=hdq hb;clear Ha hb;go_wp2_with fail
      go_ret2
      exact⟨by rw[HN.out];rfl,HB.out⟩
theorem zgx (ws:Wl)(An Ak Am:Option Addr)(cn ck cm:Nat):∀xs:Exs,RxI ws An Ak Am cn ck cm xs
  | .nil =>λi _ _ _ _ _ _ hd=>by cases i<;>simp[Exs.drop]at hd
  | .cons k nm n args at_ r=>λi _ _ _ _ _ _ hd=>by
    cases i with
    |zero=>
      simp only[Exs.drop]at hd;injection hd with e0 e1 e2 e3 e4 e5;subst e0 e1 e2 e3 e4 e5;exact zl4 ws An Ak Am cn ck cm args (zgx ws An Ak Am cn ck cm args)
    |succ i=>
      simp only[Exs.drop]at hd;exact zgx ws An Ak Am cn ck cm r i _ _ _ _ _ _ hd
theorem zeq (ws:Wl)(An Ak Am:Option Addr)(cn ck cm:Nat)(xs:Exs):RxC ws An Ak Am cn ck cm xs:=zl4 ws An Ak Am cn ck cm xs (zgx ws An Ak Am cn ck cm xs)
def cdsI (ws:Wl):Cds->Int×Int
  | .nil =>(0,0)
  | .cons _ args of_ _ r=>if(exsI ws args).2 =0 then(if(cdsI ws of_).2 =0 then cdsI ws r else cdsI ws of_)else exsI ws args
theorem zjf {ws:Wl}{xs:Cds}{i:Nat}{a0 a1 a2 a3 ar}(hd:Cds.drop i xs= .cons a0 a1 a2 a3 ar):cdsI ws (Cds.drop i xs)=if(exsI ws a1).2 =0 then(if(cdsI ws a2).2 =0 then cdsI ws (Cds.drop (i+1) xs)else cdsI ws a2)else exsI ws a1:=by
  rw[Cds.drop_succ i xs hd,hd];rfl
def RcC (ws:Wl)(An Ak Am:Option Addr)(cn ck cm:Nat)(xs:Cds):Prop:=∀(W:World)(S:Nat->Prop)(Z:Prop)(A:Option Addr)(c:Nat),WdR W ws An Ak Am cn ck cm->(∀b,S b->b < W.heap.size)->SlR (λb o=>CdR W S Z xs b o) xs.len 64 A c->
  Calls Tryz.prog 157 #[wdV ws An Ak Am cn ck cm,.slice A xs.len c] W (AtE (cdsI ws xs) W)
def RcI (ws:Wl)(An Ak Am:Option Addr)(cn ck cm:Nat)(xs:Cds):Prop:=∀(i:Nat)(a0:Int)(a1:Exs)(a2:Cds)(a3:Int)(ar:Cds),Cds.drop i xs= .cons a0 a1 a2 a3 ar->RcC ws An Ak Am cn ck cm a2
theorem zl5 (ws:Wl)(An Ak Am:Option Addr)(cn ck cm:Nat)(xs:Cds)(Ho:RcI ws An Ak Am cn ck cm xs):RcC ws An Ak Am cn ck cm xs:=by
  intro w S Z A c hw hS hx;have hl:xs.len<=9223372036854775807:=leq9 hx.1 hx.2.1.1;have HA:=hdq Ho;have HX:=hdq hx;have HS:=hdq hS;have HW:=hdq hw;obtain⟨m,hm⟩:=nmq xs.len;rw[<-hm]at hl ⊢;have HM:=hdq hm;obtain⟨F,hF⟩:=nmq (cdsI ws xs);rw[<-hF];have HF:=hdq hF;unfold wdV;obtain⟨nw,KI⟩:=nmq ws.length;rw[<-KI];have ME:=hdq KI;obtain⟨w1,Hc⟩:=nmq (w.alloc (.cells #[.slice An nw cn,.slice Ak nw ck,.slice Am nw cm] 164));have Gv:=hdq (show Bk w1 w.heap.size 164 #[.slice An nw cn,.slice Ak nw ck,.slice Am nw cm]from by rw[Hc];exact Bk.new _ _ _);have Hn:=hdq (show Fr NoT w w1 from by rw[Hc];exact(Fr.refl _ _).alloc _);have Ga:=hdq Hc;clear Ho hx hS hm hF hw KI Hc;go_enter Tryz.func157,Tryz.ntmps157;go_wp2_with fail;rw[<-Ga.out];go_loopw [6] (λi wr=>∃k:Nat,k<=m/\i= .int .i64 k/\Hid (Fr NoT w1 wr)/\Hid (F=cdsI ws (Cds.drop k xs))) (λi _=>m - (intOf i).toNat);case atStart=>exact⟨0,Nat.zero_le _,rfl,Fr.refl _ _,HF.out⟩
  case round=>
    clear HF;obtain⟨k,hk,rfl,Gi,Ha⟩:=hrel;have FR:=Gv.fr0 Gi.out;have x0:=FR.cell 0;have x1:=FR.cell 1;have x2:=FR.cell 2;have Hv:=FR.lt;simp only[getsL]at x0 x1 x2;have hb:Fr NoT w wr:=Hn.trans Gi.out;have Hu:=hdq Gi.out;clear FR Gi;by_cases Hr:k < m
    · obtain⟨a0,a1,a2,a3,ar,hd⟩:=Cds.drop_cons (show k < xs.len from by rw[<-HM.out];exact Hr);obtain⟨b,o,rfl,Hd⟩:=HX.2.2 (by rw[<-HM.out];omega);have Hb:=(CdR.keep (hb.same λb hb=>⟨HS b hb,id⟩) Hd).drop k;rw[hd]at Hb;obtain⟨⟨Hf,_,r0,r1,c0,c3⟩,⟨A1,q1,c1,s1⟩,⟨A2,q2,c2,s2⟩,_⟩:=Hb;have Gf:b < wr.heap.size:=ltq (HS _ Hf) hb.size;have Hl:(k:Int) < (m:Int):=by omega
      have Fb:(0:Int)<=(k:Int):=by omega
      have Jr:∀b,S b->b < wr.heap.size:=λb h=>ltq (HS b h) hb.size;have UE:=λ(W:World)(hf:Fr NoT wr W)=>zeq ws An Ak Am cn ck cm a1 W S Z A1 q1 (HW.keep (hb.trans hf)) (λb h=>ltq (Jr b h) hf.size) (s1.imp λ_ _ hx=>ExR.keep (hf.same λb hb=>⟨Jr b hb,id⟩) hx);have KG:=λ(W:World)(hf:Fr NoT wr W)=>HA k a0 a1 a2 a3 ar hd W S Z A2 q2 (HW.keep (hb.trans hf)) (λb h=>ltq (Jr b h) hf.size) (s2.imp λ_ _ hx=>CdR.keep (hf.same λb hb=>⟨Jr b hb,id⟩) hx);have Hq:=Ha.trans (zjf hd);obtain⟨⟨u1,u2⟩,hu⟩:=nmq (exsI ws a1);obtain⟨⟨v1,v2⟩,hv⟩:=nmq (cdsI ws a2);rw[<-hu]at Hq UE;rw[<-hv]at Hq KG;simp only at Hq;obtain⟨l1,Rr⟩:=nmq a1.len;obtain⟨l2,Rs⟩:=nmq a2.len;rw[<-Rr]at UE c1;rw[<-Rs]at KG c2;unfold wdV at UE KG;rw[<-ME.out]at UE KG;have H1:=hdq UE;have H2:=hdq KG;have Hj:=hdq Hq;have HB:=hdq hb;have FZ:=hdq (aiq Gf c2);clear hd Hd Ha hb Hf s1 s2 r0 r1 UE KG Hq hv hu Jr Rr Rs;go_wp2_with fail
      go_region_law
        (go_simp
         go_at_call 156
         with_reducible refine(H1.out _ (by exact(Fr.refl NoT wr).drew)).mono ?_
         rintro _ w5 ⟨rfl,hb⟩;have Hx:=hdq ((Fr.refl NoT wr).drew.trans hb);clear hb;dsimp only)
      all_goals
        clear x0 x1 x2 Hv c0 c1 c2 c3 Gf;have Hm:=Gv.fr0 (Hu.trans Hx.out);have x0:=Hm.cell 0;have x1:=Hm.cell 1;have x2:=Hm.cell 2;have Hv:=Hm.lt;have c2:=(Hx.cell (p:=⟨b,o+k*4+2,none⟩) FZ.1 id).trans FZ.2;have Gf:=ltq FZ.1 Hx.size;simp only[getsL]at x0 x1 x2;clear Hm;by_cases My:u2=0
        rotate_left
        · have HN:=hdq (show F=(u1,u2)from by rw[Hj.out,if_neg My]);have e1:(u2 != 0)=true:=by simpa using My
          clear Hj My;go_wp2_with fail
          go_ret2
          exact⟨by rw[HN.out];rfl,HB.trans Hx.out⟩
        subst My;have F7:=hdq (Hj.trans (if_pos rfl));clear Hj;go_wp2_with fail
        go_region_law
          (go_simp
           go_at_call 157
           with_reducible refine(H2.out _ (by exact Hx.out.drew)).mono ?_
           rintro _ w6 ⟨rfl,hb⟩;have GF:=hdq (Hx.drew.trans hb);clear hb;dsimp only)
        all_goals
          clear x0 x1 x2 Hv c2 Gf;by_cases KH:v2=0
          · subst KH;have HN:=hdq (show F=cdsI ws (Cds.drop (k+1) xs)from by rw[F7.out,if_pos rfl]);clear F7;go_wp2_with fail;go_roundw;case rel=>exact⟨k+1,by omega,by go_num,Hu.trans GF.out,HN.out⟩
            case measure=>simp[intOf];omega
          · have HN:=hdq (show F=(v1,v2)from by rw[F7.out,if_neg KH]);have e1:(v2 != 0)=true:=by simpa using KH
            clear F7 KH;go_wp2_with fail
            go_ret2
            exact⟨by rw[HN.out];rfl,HB.trans GF.out⟩
    · have HN:=hdq (show F=(0,0)from by rw[Ha.out,Cds.drop_nil (by rw[<-HM.out];omega)];rfl);have Hl:¬(k:Int) < (m:Int):=by omega
      have HB:=hdq hb;clear Ha hb;go_wp2_with fail
      go_ret2
      exact⟨by rw[HN.out];rfl,HB.out⟩
theorem zgy (ws:Wl)(An Ak Am:Option Addr)(cn ck cm:Nat):∀xs:Cds,RcI ws An Ak Am cn ck cm xs
  | .nil =>λi _ _ _ _ _ hd=>by cases i<;>simp[Cds.drop]at hd
  | .cons k args of_ at_ r=>λi _ _ _ _ _ hd=>by
    cases i with
    |zero=>
      simp only[Cds.drop]at hd;injection hd with e0 e1 e2 e3 e4;subst e0 e1 e2 e3 e4;exact zl5 ws An Ak Am cn ck cm of_ (zgy ws An Ak Am cn ck cm of_)
    |succ i=>
      simp only[Cds.drop]at hd;exact zgy ws An Ak Am cn ck cm r i _ _ _ _ _ hd
theorem zhZ (ws:Wl)(An Ak Am:Option Addr)(cn ck cm:Nat)(xs:Cds):RcC ws An Ak Am cn ck cm xs:=zl5 ws An Ak Am cn ck cm xs (zgy ws An Ak Am cn ck cm xs)
