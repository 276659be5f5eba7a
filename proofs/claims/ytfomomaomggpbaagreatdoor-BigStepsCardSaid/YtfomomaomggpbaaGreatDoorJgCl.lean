/- check: a procedure's check. -/
import Derived.Test.YtfomomaomggpbaaGreatDoorJgCkE
set_option linter.all false
set_option maxHeartbeats 8000000
set_option maxRecDepth 100000
namespace Go.Proofs.YtfomomaomggpbaaGreatDoor
open Go.RowKit Go.Shelf Go.Maps
theorem CkN.del {w3:World}{P b N:Nat}{kn:Kn}{st:Int×Int}(h:CkN w3 P b N kn st){s:ByteArray}(hs:s.size<=9223372036854775807)(ty:TypeId):
  ∃w4,(Builtin.delete_ #[135,9] ty #[.map (some b),.string s]).run Tryz.prog w3.drew= .ok (.tuple #[]) w4/\CkN w4 P b N (kn.del s.data.toList) st/\Fr (CkT P b) w3 w4:=by
 obtain⟨n,hn,h⟩:=h;obtain⟨w4,GH,h4,Sj⟩:=(h.map.fr ((Fr.refl NoT w3).drew) id).drop hs ty;have Hx:Fr (CkT P b) w3 w4:=((Fr.refl _ _).drew).trans (Fr.grown Sj λg e _=> .inr (Option.some.inj e).symm);have P0:=h.box.fr (((Fr.refl (λx=>x=b) w3).drew).trans (Fr.grown Sj λg e _=>(Option.some.inj e).symm)) h.ne;exact⟨w4,GH,⟨n,hn,P0,h4,h.ne⟩,Hx⟩
theorem CkN.put {w3:World}{P b N:Nat}{kn:Kn}{st:Int×Int}(h:CkN w3 P b N kn st){s:ByteArray}(hs:s.size<=9223372036854775807)(v:Int×Int)(hN:N < maxLen):
  ∃w4,(Instr.mapUpdate 135 (.map (some b)) (.string s) (thV v)).run Tryz.prog w3.drew= .ok () w4/\CkN w4 P b (N+1) (kn.put s.data.toList v) st/\Fr (CkT P b) w3 w4:=by
 obtain⟨n,hn,h⟩:=h;obtain⟨w4,GH,h4,Sj⟩:=(h.map.fr ((Fr.refl NoT w3).drew) id).put hs v (by omega);have Hx:Fr (CkT P b) w3 w4:=((Fr.refl _ _).drew).trans (Fr.grown Sj λg e _=> .inr (Option.some.inj e).symm);have P0:=h.box.fr (((Fr.refl (λx=>x=b) w3).drew).trans (Fr.grown Sj λg e _=>(Option.some.inj e).symm)) h.ne;exact⟨w4,GH,⟨n+1,by omega,P0,h4,h.ne⟩,Hx⟩
theorem CkN.box {w:World}{P b N:Nat}{kn:Kn}{st:Int×Int}(h:CkN w P b N kn st):Bk w P 137 #[.map (some b),.int .i64 st.1,.int .i64 st.2]:=by
 obtain⟨n,hn,h⟩:=h;exact h.box
theorem CkN.mono {w:World}{P b N N':Nat}{kn:Kn}{st:Int×Int}(h:CkN w P b N kn st)(hN:N<=N'):CkN w P b N' kn st:=by
 obtain⟨n,hn,h⟩:=h;exact⟨n,by omega,h⟩
theorem zeM (P b:Nat)(w:World)(hP:P < w.heap.size)(hb:b < w.heap.size):Calls Tryz.prog 53 #[.pointer (some ⟨P,0,none⟩)] w λe w'=>
  ∃B1 B2,e= .returned (.func (.func 101) #[] #[.pointer (some ⟨B1,0,none⟩),.pointer (some ⟨B2,0,none⟩)])/\WkAt w' P b B1 B2/\Fr NoT w w':=
 (zj2 P b w hP hb).mono λ_ _ ⟨h1,h2,h3⟩=>⟨_,_,h1,h2,h3⟩
theorem zj3 (P b N:Nat)(kn:Kn)(st:Int×Int)(nm:ByteArray)(ps:List Va)(body:Sts)(at_:Int)(A1 A2:Option Addr)(q1 q2:Nat)(w:World)(S:Nat->Prop)(Z:Prop)(hc:CkN w P b N kn st)(Jp:nm.size<=9223372036854775807)(Js:∀y∈ps,y.nm.size<=9223372036854775807)(gh:szS body)
  (hS:∀x,S x->x < w.heap.size/\¬CkT P b x) (hN:N+ps.length+1 < maxLen) (s1:SlR (λb o=>VaR w S Z ps b o) ps.length 24 A1 q1) (s2:SlR (λb o=>StR w S Z body b o) body.len 128 A2 q2):
  Calls Tryz.prog 52 #[.pointer (some ⟨P,0,none⟩),.agg #[.string nm,.slice A1 ps.length q1,.slice A2 body.len q2,.int .i64 at_]] w
   (CkP P b (N+ps.length+1) (zb4 nm.data.toList ps body at_ (kn,st)).1 (zb4 nm.data.toList ps body at_ (kn,st)).2 w):=by
 obtain⟨F,hF⟩:=nmq (zb4 nm.data.toList ps body at_ (kn,st));rw[<-hF];unfold zb4 at hF;simp only at hF;have hl:ps.length<=9223372036854775807:=leq9 s1.1 s1.2.1.1;obtain⟨w1,Hc⟩:=nmq (w.alloc (.cells #[.string nm,.slice A1 ps.length q1,.slice A2 body.len q2,.int .i64 at_] 63));have Hg:Fr NoT w w1:=by rw[Hc];exact(Fr.refl _ _).alloc _
 have F0:Bk w1 w.heap.size 63 #[.string nm,.slice A1 ps.length q1,.slice A2 body.len q2,.int .i64 at_]:=by rw[Hc];exact Bk.new _ _ _
 obtain⟨p4,LA⟩:=nmq (decide ((ps.length:Int)<=4));rw[<-LA]at hF;have Hl:=hc.lt;have Mz:¬CkT P b w.heap.size:=λe=>by rcases e with e|e<;>omega
 have H1:=hdq (zd6 P b N kn st p4 at_ 4 w1 (hc.fr0 Hg));have Vq:=hdq (λ(W:World)(h:Fr (CkT P b) w W)=>(show ∀x,S x->x < W.heap.size/\¬CkT P b x from λx hx=>⟨ltq (hS x hx).1 h.size,(hS x hx).2⟩));have ME:=hdq (λ(W:World)(h:Fr (CkT P b) w W)=>(show SameS S w W from h.same λx hx=>hS x hx));obtain⟨m,hm⟩:=nmq ps.length;rw[<-hm]at hl LA hF hN Hc F0 ⊢;have e4:=LA.symm;have HM:=hdq hm;have Gg:=hdq Hc;have Hs:=hdq Hg;have Lq:=hdq F0;have J4:=hdq Mz;have HF:=hdq hF;have LO:=hdq Jp;have Mg:=hdq Js;have ku:=hdq gh;have HN:=hdq hN;have HX:=hdq s1;have HY:=hdq s2;have HS:=hdq hS;clear hc Hg Hc F0 LA Hl Mz hF hm Jp Js gh hN s1 s2 hS;go_enter Tryz.func52,Tryz.ntmps52;go_wp2_with fail;rw[<-Gg.out];refine H1.mono ?_;rintro _ w2 ⟨rfl,h2,He⟩;have FK:=Lq.fr He J4.out;have d1:=FK.cell 1;have Fp:=FK.lt;simp only[getsL]at d1;have Hv:=hdq ((Hs.any:Fr (CkT P b) w w1).trans He);have Kh:=hdq FK;have H2:=hdq h2;clear h2 He FK;go_wp2_with fail;go_loopw [19] (λi wr=>∃(k:Nat)(s:Cks),k<=m/\i= .int .i64 k/\Hid (Fr (CkT P b) w wr)/\Hid (Bk wr w.heap.size 63 #[.string nm,.slice A1 m q1,.slice A2 body.len q2,.int .i64 at_])/\Hid (CkN wr P b (N+k) s.1 s.2)/\Hid (zaZ (1,0) ps (kn,askC st p4 (at_,4))=zaZ (1,0) (ps.drop k) s)) (λi _=>m - (intOf i).toNat);case atStart=>exact⟨0,(kn,askC st p4 (at_,4)),Nat.zero_le _,rfl,Hv.out,Kh.out,H2.out,rfl⟩
 case round=>
  obtain⟨k,s,hk,rfl,hb,Km,Fs,Ha⟩:=hrel;by_cases Hl:k < m
  ·obtain⟨⟨a0,a1⟩,ar,hd⟩:=zaB (show k < ps.length from by rw[<-HM.out];exact Hl);obtain⟨B,o,rfl,Hh⟩:=HX.2.2 (by rw[<-HM.out];omega);have Hm:=(VaR.keep (ME _ hb.out) Hh).drop k;rw[hd.1]at Hm;obtain⟨⟨Gh,_,r1,c0,c1⟩,_⟩:=Hm;have Jr:B < wr.heap.size:=(Vq _ hb.out _ Gh).1;have GD:(k:Int) < (m:Int):=by omega
   have Fz:(0:Int)<=(k:Int):=by omega
   simp only at c0 c1;have He:Fr NoT wr (wr.alloc (.cells #[.string a0,.int .i64 a1] 77)):=(Fr.refl _ _).alloc _;have JO:=zbv P b (N+k) s.1 s.2 a0 a1 (1,0) _ (Fs.fr0 He) (Mg _ (zaY hd.1)) (by have:=HN.out;omega);unfold thV at JO;simp only at JO;have HD:=hdq JO;have Gi:=hdq (Ha.trans (zd7 hd));have HB:=hdq (hb.trans (He.any:Fr (CkT P b) wr _));have Yk:=hdq (Km.fr0 He);clear hd Hh Ha hb Gh Km Fs He JO d1 Fp;go_wp2_with fail;refine HD.mono ?_;rintro _ w3 ⟨rfl,h3,Ga⟩;have Ml:=hdq (aiq h3 (aiq (HB.trans Ga) (Yk.fr Ga J4.out)));clear h3 Ga c0 c1;go_wp2_with fail;go_roundw;case rel=>exact⟨k+1,zcv s a0.data.toList a1 (1,0),by omega,by go_num,Ml.2.1,Ml.2.2,Ml.1,Gi.out⟩
   case measure=>simp[intOf];omega
  ·obtain rfl:k=m:=by omega
   obtain⟨yx,a2,e2⟩:=s;have FP:zaZ (1,0) ps (kn,askC st p4 (at_,4))=(yx,a2,e2):=by rw[Ha.out,List.drop_eq_nil_of_le (by rw[<-HM.out];omega)];rfl
   have hbx:=Fs.box;have Ll:=Fs.lt;have p0:=hbx.cell 0;have p2:=hbx.cell 2;have FK:=Km.cell 2;have Uy:=Km.lt;simp only[getsL]at p0 p2 FK;have hF:=HF.out;rw[FP]at hF;have HB:=hdq hb.out;have Yk:=hdq Km.out;have Ls:=hdq Fs.out;have Up:=Ll.1;have GD:¬(k:Int) < (k:Int):=by omega
   clear Ha FP hb Km Fs hbx Ll d1 Fp;by_cases he:e2=0
   rotate_left
   ·have e9:(e2 != 0)=true:=by simpa using he
    have KV:=hdq (show F=(yx,a2,e2)from by rw[hF];simp only;rw[if_neg he]);clear hF he;go_wp2_with fail;go_end0;exact⟨rfl,by rw[KV.out];exact Ls.mono (by omega),HB.out⟩
   subst he;have KV:=hdq (show F=((zdx ps yx).put nm.data.toList (3,k),zay yx body (a2,0))from by rw[hF,if_pos rfl]);have He:Fr NoT wr wr.drew:=(Fr.refl _ _).drew;have Yl:=hdq (zeM P b wr.drew (Ls.fr0 He).lt.1 (Ls.fr0 He).lt.2);have Ym:=hdq (λ(B1 B2:Nat)(W:World)(h:Fr NoT wr.drew W)(hw:WkAt W P b B1 B2)=>zeL yx body ku.out P b (N+k) B1 B2 (a2,0) W S Z A2 q2 ((Ls.fr0 He).fr0 h) hw (Vq W (HB.trans ((He.trans h).any))) (HY.imp λ_ _ hx=>StR.keep (ME W (HB.trans ((He.trans h).any))) hx));have Vr:=hdq He;have hent:Enters Tryz.prog 101:=enters_of Tryz.func101 (by kernel_rfl) rfl;unfold Enters at hent;clear hF He;go_wp2_with fail
   go_region_law
    (first
     |(go_simp
       go_at_call 53
       with_reducible refine Yl.out.mono ?_
       rintro _ w5 ⟨B1,B2,rfl,FY,Hj⟩;have KI:=(Yk.fr0 Vr.out).fr0 Hj;have g2:=KI.cell 2;have gl:=KI.lt;simp only[getsL]at g2;have kw:=hdq (Ym B1 B2 w5 Hj FY);have Gl:=hdq (Vr.trans Hj);have JU:=hdq KI;clear FY Hj KI;dsimp only)
     |(go_simp
       go_at_call 101
       with_reducible refine kw.out.mono ?_
       rintro _ w6 ⟨rfl,h6,Gt⟩;have Yn:=hdq h6;have G1:=hdq (HB.trans ((Gl.any:Fr (CkT P b) wr _).trans Gt));have JL:=hdq (JU.fr Gt J4.out);clear h6 Gt;dsimp only))
   all_goals
    have k1:=JL.cell 1;have kl:=JL.lt;simp only[getsL]at k1;clear FK Uy p0 p2 Up;try clear g2 gl
    go_wp2_with fail;go_loopw [44] (λi wr=>∃(j:Nat)(kj:Kn),j<=k/\i= .int .i64 j/\Hid (Fr (CkT P b) w wr)/\Hid (Bk wr w.heap.size 63 #[.string nm,.slice A1 k q1,.slice A2 body.len q2,.int .i64 at_])/\Hid (CkN wr P b (N+k) kj (zay yx body (a2,0)))/\Hid (zdx ps yx=zdx (ps.drop j) kj)) (λi _=>k - (intOf i).toNat);case atStart=>exact⟨0,yx,Nat.zero_le _,rfl,G1.out,JL.out,Yn.out,rfl⟩
    case round=>
     obtain⟨j,kj,hj,rfl,hb,Km,Fs,Ha⟩:=hrel;by_cases Hl:j < k
     ·obtain⟨⟨a0,a1⟩,ar,hd⟩:=zaB (show j < ps.length from by rw[<-HM.out];exact Hl);obtain⟨B,o,rfl,Hh⟩:=HX.2.2 (by rw[<-HM.out];omega);have Hm:=(VaR.keep (ME _ hb.out) Hh).drop j;rw[hd.1]at Hm;obtain⟨⟨Gh,_,r1,c0,c1⟩,_⟩:=Hm;have Jr:B < wr.heap.size:=(Vq _ hb.out _ Gh).1;have GD:(j:Int) < (k:Int):=by omega
      have Fz:(0:Int)<=(j:Int):=by omega
      simp only at c0 c1;obtain⟨wa,Lt⟩:=nmq (wr.alloc (.cells #[.string a0,.int .i64 a1] 77));have He:Fr NoT wr wa:=by rw[Lt];exact(Fr.refl _ _).alloc _
      have Te:Bk wa wr.heap.size 77 #[.string a0,.int .i64 a1]:=by rw[Lt];exact Bk.new _ _ _
      have Uk:=Fs.fr0 He;have hbx:=Uk.box;have p0:=hbx.cell 0;have Up:=hbx.lt;have v0:=Te.cell 0;have Jl:=Te.lt;simp only[getsL]at p0 v0;have Ht:=Mg _ (zaY hd.1);simp only at Ht;obtain⟨w9,ky,h9,Gk⟩:=Uk.del Ht 0;have Gi:=hdq (Ha.trans (zix hd));have Uz:=hdq (aiq h9 (aiq ((hb.trans (He.any:Fr (CkT P b) wr _)).trans Gk) ((Km.fr0 He).fr Gk J4.out)));have Yo:=hdq Lt;clear hd Hh Ha hb Gh Km Fs He Uk hbx h9 Gk k1 kl Ht Te Lt;go_wp2_with fail;rw[<-Yo.out];clear c0 c1;refine wp_region_still_tail 6 (by kernel_rfl) (by kernel_rfl) ?_;simp only[List.take_succ_cons,List.take_zero,List.drop_succ_cons,List.drop_zero]
      repeat still_step
      try refine wpStill_nil ?_
      go_wp2_with fail;go_roundw;case rel=>exact⟨j+1,kj.del a0.data.toList,by omega,by go_num,Uz.2.1,Uz.2.2,Uz.1,Gi.out⟩
      case measure=>simp[intOf];omega
     ·obtain rfl:j=k:=by omega
      have FP:zdx ps yx=kj:=by rw[Ha.out,List.drop_eq_nil_of_le (by rw[<-HM.out];omega)];rfl
      have hbx:=Fs.box;have p0:=hbx.cell 0;have Up:=hbx.lt;have zi:=Km.cell 0;have xb:=Km.cell 1;have kl:=Km.lt;simp only[getsL]at p0 zi xb;obtain⟨w9,KC,h9,Gk⟩:=Fs.put LO.out (3,j) (by have:=HN.out;omega);unfold thV at KC;simp only at KC;have N6:=hdq (show F=(kj.put nm.data.toList (3,j),zay yx body (a2,0))from by rw[KV.out,FP]);have Uz:=hdq (aiq h9 (hb.trans Gk));clear Ha FP hb Km Fs hbx h9 Gk k1;go_wp2_with fail;refine wp_region_still_tail 10 (by kernel_rfl) (by kernel_rfl) ?_;simp only[List.take_succ_cons,List.take_zero,List.drop_succ_cons,List.drop_zero]
      repeat still_step
      try refine wpStill_nil ?_
      go_wp2_with fail;go_end0;exact⟨rfl,by rw[N6.out];exact Uz.1,Uz.2⟩
def ziy (s:Cks)(x:Arr):Cks:=
 ((zcv s x.nm.data.toList x.at_ (2,0)).1,askC (zcv s x.nm.data.toList x.at_ (2,0)).2 (decide ((1:Int)<=x.size)&&decide (x.size<=(16:Int))) (x.at_,113))
def zbe:List Arr->Cks->Cks
 | [],s=>s
 |x::r,s=>zbe r (ziy s x)
def zbf:List Prc->Cks->Cks
 | [],s=>s
 |x::r,s=>zbf r (zcv s x.nm.data.toList x.at_ (4,0))
def zat:List Prc->Cks->Cks×Bool
 | [],s=>(s,false)
 |x::r,s=>if(zb4 x.nm.data.toList x.params x.body x.at_ s).2.2 =0 then zat r (zb4 x.nm.data.toList x.params x.body x.at_ s)else(zb4 x.nm.data.toList x.params x.body x.at_ s,true)
def zcm (t:Tre):Cks:=zbf t.procs (zbe t.arrays (zaZ (1,0) t.vars (λ_=>none,(0,0))))
def fewT (t:Tre):Bool:=decide ((t.vars.length:Int)<=12)&&decide ((t.arrays.length:Int)<=4)&&decide ((t.procs.length:Int)<=8)
def zcn (t:Tre):Int×Int:=
 if okTr t then
  if fewT t then
   if(zat t.procs (zcm t)).2 then(zat t.procs (zcm t)).1.2 else zay (zat t.procs (zcm t)).1.1 t.main (zat t.procs (zcm t)).1.2
  else(0,4)
 else(0,8)
theorem zlT {t:Tre}(h:fewT t=true):t.vars.length<=12/\t.arrays.length<=4/\t.procs.length<=8:=by
 unfold fewT at h;simp only[Bool.and_eq_true,decide_eq_true_eq]at h;omega
theorem zge {xs:List Arr}{i:Nat}{s:Cks}{a0 a1 a2 ar}(hd:xs.drop i=(⟨a0,a1,a2⟩:Arr)::ar/\xs.drop (i+1)=ar):zbe (xs.drop i) s=zbe (xs.drop (i+1)) (ziy s ⟨a0,a1,a2⟩):=by
 rw[hd.1,hd.2];rfl
theorem zgf {xs:List Prc}{i:Nat}{s:Cks}{a0 a1 a2 a3 ar}(hd:xs.drop i=(⟨a0,a1,a2,a3⟩:Prc)::ar/\xs.drop (i+1)=ar):zbf (xs.drop i) s=zbf (xs.drop (i+1)) (zcv s a0.data.toList a3 (4,0)):=by
 rw[hd.1,hd.2];rfl
def npP:List Prc->Nat
 | []=>0
 |x::r=>x.params.length+1+npP r
theorem zlU {xs:List Prc}{i:Nat}{a0 a1 a2 a3 ar}(hd:xs.drop i=(⟨a0,a1,a2,a3⟩:Prc)::ar/\xs.drop (i+1)=ar):npP (xs.drop i)=a1.length+1+npP (xs.drop (i+1)):=by
 rw[hd.1,hd.2];rfl
theorem zmS {w:World}{S:Nat->Prop}{Z:Prop}:∀ {xs:List Prc} {b o:Nat},PrR w S Z xs b o->npP xs<=xs.length*140737488355329
 | [],_,_,_=>Nat.zero_le _
 |x::r,b,o,⟨_,⟨A,c,_,h⟩,_,hr⟩=>by
  have h1:=zmS hr;have h2:=h.2.1.2;simp only[npP,List.length_cons];omega
abbrev prcS (x:Prc)(s:Cks):Cks:=zb4 x.nm.data.toList x.params x.body x.at_ s
theorem zj4 {xs:List Prc}{i:Nat}{s:Cks}{a0 a1 a2 a3 ar}(hd:xs.drop i=(⟨a0,a1,a2,a3⟩:Prc)::ar/\xs.drop (i+1)=ar)(h:(prcS ⟨a0,a1,a2,a3⟩ s).2.2 =0):zat (xs.drop i) s=zat (xs.drop (i+1)) (prcS ⟨a0,a1,a2,a3⟩ s):=by
 rw[hd.1,hd.2];show(if _ then _ else _)=_
 rw[if_pos h]
theorem ziz {xs:List Prc}{i:Nat}{s:Cks}{a0 a1 a2 a3 ar}(hd:xs.drop i=(⟨a0,a1,a2,a3⟩:Prc)::ar/\xs.drop (i+1)=ar)(h:¬(prcS ⟨a0,a1,a2,a3⟩ s).2.2 =0):zat (xs.drop i) s=(prcS ⟨a0,a1,a2,a3⟩ s,true):=by
 rw[hd.1];show(if _ then _ else _)=_
 rw[if_neg h]
def SzP (x:Prc):Prop:=x.nm.size<=9223372036854775807/\(∀y∈x.params,y.nm.size<=9223372036854775807)/\szS x.body
def CkQ (P b N:Nat)(q:Bool)(s:Cks)(W:World)(e:Ending)(w':World):Prop:=e= .returned (.bool q)/\CkN w' P b N s.1 s.2/\Fr (CkT P b) W w'
theorem ziA (P b N C:Nat)(s:Cks)(x:Prc)(A1 A2:Option Addr)(q1 q2:Nat)(w:World)(S:Nat->Prop)(Z:Prop)(hc:CkN w P b N s.1 s.2)(hk:Bk w C 134 #[.pointer (some ⟨P,0,none⟩)])(hC:¬CkT P b C)(Ht:SzP x)
  (hS:∀x,S x->x < w.heap.size/\¬CkT P b x) (hN:N+x.params.length+1 < maxLen) (s1:SlR (λb o=>VaR w S Z x.params b o) x.params.length 24 A1 q1) (s2:SlR (λb o=>StR w S Z x.body b o) x.body.len 128 A2 q2):
  Calls Tryz.prog 51 (#[.agg #[.string x.nm,.slice A1 x.params.length q1,.slice A2 x.body.len q2,.int .i64 x.at_]]++ #[.pointer (some ⟨C,0,none⟩)]) w
   (CkQ P b (N+x.params.length+1) ((prcS x s).2.2 != 0) (prcS x s) w):=by
 obtain⟨x0,x1,x2,x3⟩:=x;simp only at hN s1 s2 ⊢;have FX:Fr NoT w (w.alloc (.cells #[.string x0,.slice A1 x1.length q1,.slice A2 x2.len q2,.int .i64 x3] 63)):=(Fr.refl _ _).alloc _;have HC:=hdq (zj3 P b N s.1 s.2 x0 x1 x2 x3 A1 A2 q1 q2 _ S Z (hc.fr0 FX) Ht.1 Ht.2.1 Ht.2.2 (λx hx=>⟨ltq (hS x hx).1 FX.size,(hS x hx).2⟩) hN (s1.imp λ_ _ hx=>VaR.keep (FX.same λx hx=>⟨(hS x hx).1,id⟩) hx) (s2.imp λ_ _ hx=>StR.keep (FX.same λx hx=>⟨(hS x hx).1,id⟩) hx));obtain⟨⟨zm,at',e'⟩,hF⟩:=nmq (prcS ⟨x0,x1,x2,x3⟩ s);rw[<-hF];have Pt:zb4 x0.data.toList x1 x2 x3 (s.1,s.2)=(zm,at',e'):=hF.symm;rw[Pt]at HC;have c0:=hk.cell 0;have hl:=hk.lt;simp only[getsL]at c0;have HK:=hdq (hk.fr0 FX);have GO:=hdq (FX.any:Fr (CkT P b) w _);have Nk:=hdq hC;obtain⟨p,hp⟩:=nmq ((e' != 0));have JG:=hp.symm;simp only;rw[JG];clear hF Pt hk hC hc Ht hS hN s1 s2 FX hp;go_enter Tryz.func51,Tryz.ntmps51;go_wp2_with fail;refine HC.mono ?_;rintro _ w2 ⟨rfl,h2,He⟩;have FK:=HK.fr He Nk.out;have d0:=FK.cell 0;have Fp:=FK.lt;have hbx:=h2.box;have p2:=hbx.cell 2;have pl:=hbx.lt;simp only[getsL]at d0 p2;have HN:=hdq (aiq h2 (GO.trans He));clear h2 He FK hbx c0;go_wp2_with fail;go_ret;exact⟨rfl,HN.1,HN.2⟩
theorem zj5 (P b N C:Nat)(s0:Cks)(xs:List Prc)(A:Option Addr)(c:Nat)(w:World)(S:Nat->Prop)(Z:Prop)(hc:CkN w P b N s0.1 s0.2)(hk:Bk w C 134 #[.pointer (some ⟨P,0,none⟩)])(hC:¬CkT P b C)(Ht:∀x∈xs,SzP x)
  (hS:∀x,S x->x < w.heap.size/\¬CkT P b x) (hN:N+npP xs < maxLen) (hx:SlR (λb o=>PrR w S Z xs b o) xs.length 72 A c):
  Calls Tryz.prog 100 #[.slice A xs.length c,.func (.func 51) #[] #[.pointer (some ⟨C,0,none⟩)]] w λe w'=>
   ∃n:Int,decide (0<=n)=(zat xs s0).2 /\e= .returned (.int .i64 n)/\CkN w' P b (N+npP xs) (zat xs s0).1.1 (zat xs s0).1.2 /\Fr (CkT P b) w w':=by
 have hl:xs.length<=9223372036854775807:=leq9 hx.1 hx.2.1.1;have hent:Enters Tryz.prog 51:=enters_of Tryz.func51 (by kernel_rfl) rfl;obtain⟨⟨F1,F2⟩,hF⟩:=nmq (zat xs s0);rw[<-hF];simp only;have HF:=hdq hF;have HX:=hdq hx;have HS:=hdq hS;have HC:=hdq hc;have HK:=hdq hk;have Nk:=hdq hC;have LR:=hdq Ht;have HN:=hdq hN;obtain⟨m,hm⟩:=nmq xs.length;rw[<-hm]at hl ⊢;have HM:=hdq hm;clear hF hx hS hc hk hC Ht hN hm;unfold Enters at hent;go_enter Tryz.func100,Tryz.ntmps100;go_wp2_with fail;go_loopw [8] (λi wr=>∃(k N':Nat)(s:Cks),k<=m/\i= .int .i64 k/\Hid (Fr (CkT P b) w wr)/\Hid (CkN wr P b N' s.1 s.2)/\Hid (N'+npP (xs.drop k)=N+npP xs)/\Hid ((F1,F2)=zat (xs.drop k) s)) (λi _=>m - (intOf i).toNat);case atStart=>exact⟨0,N,s0,Nat.zero_le _,rfl,Fr.refl _ _,HC.out,rfl,HF.out⟩
 case round=>
  obtain⟨k,N',s,hk,rfl,hb,Fs,hn,Ha⟩:=hrel;by_cases Hl:k < m
  ·obtain⟨⟨a0,a1,a2,a3⟩,ar,hd⟩:=zaB (show k < xs.length from by rw[<-HM.out];exact Hl);obtain⟨B,o,rfl,Hh⟩:=HX.2.2 (by rw[<-HM.out];omega);have Hm:=(PrR.keep (hb.same λb hb=>HS b hb) Hh).drop k;rw[hd.1]at Hm;obtain⟨⟨Gh,_,_,c0,c3⟩,⟨A1,q1,c1,s1⟩,⟨A2,q2,c2,s2⟩,_⟩:=Hm;have Jr:B < wr.heap.size:=ltq (HS _ Gh).1 hb.size;have GD:(k:Int) < (m:Int):=by omega
   have Fz:(0:Int)<=(k:Int):=by omega
   simp only at c0 c1 c2 c3 s1 s2;have NC:=zlU hd;have N7:=hn.out;have kC:=HN.out;have Mh:=hdq (ziA P b N' C s ⟨a0,a1,a2,a3⟩ A1 A2 q1 q2 wr S Z Fs.out (HK.fr hb.out Nk.out) Nk.out (LR _ (zaY hd.1)) (λx hx=>⟨ltq (HS x hx).1 hb.size,(HS x hx).2⟩) (by simp only;omega) s1 s2);have gi:N'+a1.length+1+npP (xs.drop (k+1))=N+npP xs:=by omega
   have Rq:=hdq gi;obtain⟨s',Sm⟩:=nmq (prcS ⟨a0,a1,a2,a3⟩ s);rw[<-Sm]at Mh;have Vs:=hdq (λ(h:s'.2.2=0)=>Ha.trans ((zj4 hd (Sm▸h)).trans (by rw[<-Sm])));have Nl:=hdq (λ(h:¬s'.2.2=0)=>Ha.trans ((ziz hd (Sm▸h)).trans (by rw[<-Sm])));have HB:=hdq hb.out;simp only at Mh;clear hd Hh Ha hb Gh s1 s2 Fs hn N7 kC NC Sm gi;obtain⟨zm,at',e'⟩:=s';simp only at Mh Vs Nl;obtain⟨p,hp⟩:=nmq ((e' != 0));rw[<-hp]at Mh;have HP:=hdq hp;clear hp;go_wp2_with fail;refine Mh.mono ?_;rintro _ w1 ⟨rfl,h1,Hg⟩;have Gs:=hdq (HB.trans Hg);have H1:=hdq h1;clear h1 Hg c0 c1 c2 c3;cases p
   ·have he:e'=0:=by have:=HP.out;simpa using this
    have Gi:=hdq (Vs he);clear he;go_wp2_with fail;go_roundw;case rel=>exact⟨k+1,N'+a1.length+1,(zm,at',e'),by omega,by go_num,Gs.out,H1.out,Rq.out,Gi.out⟩
    case measure=>simp[intOf];omega
   ·have he:¬e'=0:=by have:=HP.out;simpa using this
    have Gi:=hdq (Nl he);clear he;go_wp2_with fail;go_ret;obtain⟨f1,f2⟩:=Prod.mk.inj Gi.out;refine⟨k,by rw[f2];simp,rfl,?_,Gs.out⟩;rw[f1];exact H1.mono (by have:=Rq.out;omega)
  ·have hz:zat (xs.drop k) s=(s,false):=by rw[List.drop_eq_nil_of_le (by rw[<-HM.out];omega)];rfl
   have Gi:=hdq (Ha.trans hz);have HB:=hdq hb.out;have Ls:=hdq Fs.out;have Yp:=hdq hn.out;clear Ha hb Fs hn hz;go_wp2_with fail;go_ret;obtain⟨f1,f2⟩:=Prod.mk.inj Gi.out;refine⟨-1,by rw[f2];simp,rfl,?_,HB.out⟩;rw[f1];exact Ls.mono (by have:=Yp.out;omega)
theorem zj6 (P b N C:Nat)(s0:Cks)(xs:List Prc)(A:Option Addr)(c:Nat)(w:World)(S:Nat->Prop)(Z:Prop)(hc:CkN w P b N s0.1 s0.2)(hk:Bk w C 134 #[.pointer (some ⟨P,0,none⟩)])(hC:¬CkT P b C)(Ht:∀x∈xs,SzP x)
  (hS:∀x,S x->x < w.heap.size/\¬CkT P b x) (hN:N+npP xs < maxLen) (hx:SlR (λb o=>PrR w S Z xs b o) xs.length 72 A c):
  Calls Tryz.prog 50 #[.slice A xs.length c,.func (.func 51) #[] #[.pointer (some ⟨C,0,none⟩)]] w
   (CkQ P b (N+npP xs) (zat xs s0).2 (zat xs s0).1 w):=by
 have HC:=hdq (zj5 P b N C s0 xs A c w S Z hc hk hC Ht hS hN hx);clear hc hk hC Ht hS hN hx;go_enter Tryz.func50,Tryz.ntmps50;go_wp2_with fail;refine HC.mono ?_;rintro e w1 ⟨n,hn,rfl,h1,Hg⟩;have HN:=hdq hn;have H1:=hdq (aiq h1 Hg);clear hn h1 Hg;go_wp2_with fail;go_ret;exact⟨by rw[<-HN.out];rfl,H1.out⟩
def AtE (p:Int×Int)(W:World)(e:Ending)(w':World):Prop:=e= .returned (.tuple #[.int .i64 p.1,.int .i64 p.2])/\Fr NoT W w'
theorem zj7 (t:Tre)(w:World)(S:Nat->Prop)(Z:Prop)(Av Aa Ap Am:Option Addr)(cv ca cp cm:Nat)(he:SpEnv w)(hS:∀b,S b->b < w.heap.size)(Ht:SzT t)(hx:TrR w S Z t Av Aa Ap Am cv ca cp cm)(ht:okTr t=false):
  Calls Tryz.prog 22 #[trV t Av Aa Ap Am cv ca cp cm] w (AtE (0,8) w):=by
 have Hg:Fr NoT w (w.alloc (.cells #[.slice Av t.vars.length cv,.slice Aa t.arrays.length ca,.slice Ap t.procs.length cp,.slice Am t.main.len cm] 27)):=(Fr.refl _ _).alloc _;have h1:=zc6 t _ S Z Av Aa Ap Am cv ca cp cm (he.keep Hg.plain) (λb hb=>ltq (hS b hb) Hg.size) Ht (hx.keep (Hg.same λb hb=>⟨hS b hb,id⟩));rw[ht]at h1;have H1:=hdq h1;have Hs:=hdq Hg;unfold trV at H1 ⊢;clear Hg h1 hx Ht hS he ht;go_enter Tryz.func22,Tryz.ntmps22;go_wp2_with fail;refine H1.mono ?_;rintro _ w1 ⟨rfl,hb⟩;have HB:=hdq (Hs.trans hb);clear hb;simp only[Bool.false_eq_true,if_false];go_wp2_with fail
 go_ret2
 exact⟨rfl,HB.out⟩
theorem ziB (t:Tre)(w:World)(S:Nat->Prop)(Z:Prop)(Av Aa Ap Am:Option Addr)(cv ca cp cm:Nat)(he:SpEnv w)(hS:∀b,S b->b < w.heap.size)(Ht:SzT t)(hx:TrR w S Z t Av Aa Ap Am cv ca cp cm)(ht:okTr t=true)(hf:fewT t=false):
  Calls Tryz.prog 22 #[trV t Av Aa Ap Am cv ca cp cm] w (AtE (0,4) w):=by
 have Hg:Fr NoT w (w.alloc (.cells #[.slice Av t.vars.length cv,.slice Aa t.arrays.length ca,.slice Ap t.procs.length cp,.slice Am t.main.len cm] 27)):=(Fr.refl _ _).alloc _;have h1:=zc6 t _ S Z Av Aa Ap Am cv ca cp cm (he.keep Hg.plain) (λb hb=>ltq (hS b hb) Hg.size) Ht (hx.keep (Hg.same λb hb=>⟨hS b hb,id⟩));rw[ht]at h1;have H1:=hdq h1;have Hs:=hdq Hg;have Lq:=hdq (Bk.new w 27 #[.slice Av t.vars.length cv,.slice Aa t.arrays.length ca,.slice Ap t.procs.length cp,.slice Am t.main.len cm]);have l1:t.vars.length<=9223372036854775807:=leq9 hx.vars.1 hx.vars.2.1.1;have l2:t.arrays.length<=9223372036854775807:=leq9 hx.arrays.1 hx.arrays.2.1.1;have l3:t.procs.length<=9223372036854775807:=leq9 hx.procs.1 hx.procs.2.1.1;unfold fewT at hf;unfold trV at H1 ⊢;obtain⟨n1,J3⟩:=nmq t.vars.length;obtain⟨n2,Mr⟩:=nmq t.arrays.length;obtain⟨n3,P6⟩:=nmq t.procs.length;rw[<-J3]at hf l1 H1 Hs Lq ⊢;rw[<-Mr]at hf l2 H1 Hs Lq ⊢;rw[<-P6]at hf l3 H1 Hs Lq ⊢;have K0:12 < n1\/(n1<=12/\4 < n2)\/(n1<=12/\n2<=4/\8 < n3):=by
  simp only[Bool.and_eq_false_iff,decide_eq_false_iff_not]at hf;omega
 clear Hg h1 hx Ht hS he ht hf J3 Mr P6;have Tf:(decide ((12:Int) < n1)=true)\/(decide ((12:Int) < n1)=false/\decide ((4:Int) < n2)=true)\/(decide ((12:Int) < n1)=false/\decide ((4:Int) < n2)=false/\decide ((8:Int) < n3)=true):=by
  simp only[decide_eq_true_eq,decide_eq_false_iff_not];omega
 clear K0;rcases Tf with e1|⟨e1,e2⟩|⟨e1,e2,e3⟩;all_goals
  go_enter Tryz.func22,Tryz.ntmps22;go_wp2_with fail;refine H1.mono ?_;rintro _ w1 ⟨rfl,hb⟩;have HB:=hdq (Hs.trans hb);obtain⟨x0,x1,x2,x3,Fo⟩:=bk4 (Lq.fr0 hb);clear hb;simp only[if_true];go_wp2_with fail
  go_ret2
  exact⟨rfl,HB.out⟩
theorem CkN.made (w:World):CkN (((w.alloc (.map #[] 0)).alloc (.cells #[.map (some w.heap.size),.int .i64 0,.int .i64 0] 137)).alloc (.cells #[.pointer (some ⟨w.heap.size+1,0,none⟩)] 134)) (w.heap.size+1) w.heap.size 0 (λ_=>none) (0,0):=by
 have h1:=KnM.made w;have hf:Fr NoT (w.alloc (.map #[] 0)) (((w.alloc (.map #[] 0)).alloc (.cells #[.map (some w.heap.size),.int .i64 0,.int .i64 0] 137)).alloc (.cells #[.pointer (some ⟨w.heap.size+1,0,none⟩)] 134)):=((Fr.refl _ _).alloc _).alloc _;exact⟨0,lrq _,⟨(Bk.new_at _ _ _ (by simp)).alloc _,h1.fr hf id,by omega⟩⟩
def ConPr (xs:List Prc):Prop:=∀(P b N C:Nat)(s0:Cks)(A:Option Addr)(c:Nat)(w:World)(S:Nat->Prop)(Z:Prop),CkN w P b N s0.1 s0.2->Bk w C 134 #[.pointer (some ⟨P,0,none⟩)]->¬CkT P b C->(∀x∈xs,SzP x)->
  (∀x,S x->x < w.heap.size/\¬CkT P b x)->N+npP xs < maxLen->SlR (λb o=>PrR w S Z xs b o) xs.length 72 A c->
  Calls Tryz.prog 50 #[.slice A xs.length c,.func (.func 51) #[] #[.pointer (some ⟨C,0,none⟩)]] w (CkQ P b (N+npP xs) (zat xs s0).2 (zat xs s0).1 w)
theorem zj8 (t:Tre)(w:World)(S:Nat->Prop)(Z:Prop)(Av Aa Ap Am:Option Addr)(cv ca cp cm:Nat)(hS:∀b,S b->b < w.heap.size)(Ht:SzT t)(hx:TrR w S Z t Av Aa Ap Am cv ca cp cm)(ht:okTr t=true)(hf:fewT t=true)(S3:∀W,Fr NoT w W->Calls Tryz.prog 47 #[trV t Av Aa Ap Am cv ca cp cm] W (ErrI 0 W))(Vt:ConPr t.procs):
  Calls Tryz.prog 22 #[trV t Av Aa Ap Am cv ca cp cm] w (AtE (zcn t) w):=by
 have hT:zcn t=if(zat t.procs (zcm t)).2 then(zat t.procs (zcm t)).1.2 else zay (zat t.procs (zcm t)).1.1 t.main (zat t.procs (zcm t)).1.2 :=by
  unfold zcn;rw[if_pos ht,if_pos hf]
 unfold zcm at hT;obtain⟨⟨F1,F2⟩,hF⟩:=nmq (zcn t);rw[<-hF]at hT ⊢;have Hg:Fr NoT w (w.alloc (.cells #[.slice Av t.vars.length cv,.slice Aa t.arrays.length ca,.slice Ap t.procs.length cp,.slice Am t.main.len cm] 27)):=(Fr.refl _ _).alloc _;have h1:=S3 _ Hg;have H1:=hdq h1;have Hs:=hdq Hg;have Lq:=hdq (Bk.new w 27 #[.slice Av t.vars.length cv,.slice Aa t.arrays.length ca,.slice Ap t.procs.length cp,.slice Am t.main.len cm]);have G6:=zlT hf;have MF:npP t.procs<=1125899906842632:=by
  by_cases h0:t.procs.length=0
  ·have:t.procs= []:=List.eq_nil_of_length_eq_zero h0;rw[this];exact Nat.zero_le _
  ·obtain⟨b,o,_,h2⟩:=hx.procs.2.2 (by omega);exact leq9 (zmS h2) (Nat.mul_le_mul_right _ G6.2.2)
 unfold trV at H1 ⊢;have HX:=hdq hx;have HS:=hdq hS;have LR:=hdq Ht;have HT:=hdq hT;have Tg:=hdq Vt;obtain⟨n1,J3⟩:=nmq t.vars.length;obtain⟨n2,Mr⟩:=nmq t.arrays.length;obtain⟨n3,P6⟩:=nmq t.procs.length;obtain⟨n4,Th⟩:=nmq t.main.len;obtain⟨np,Ti⟩:=nmq (npP t.procs);rw[<-Ti]at MF;rw[<-J3]at G6 H1 Hs Lq ⊢;rw[<-Mr]at G6 H1 Hs Lq ⊢;rw[<-P6]at G6 H1 Hs Lq ⊢;rw[<-Th]at H1 Hs Lq ⊢;have Yq:=hdq J3;have Rq:=hdq Mr;have Ml:=hdq P6;have kD:=hdq Th;have Rr:=hdq Ti;obtain⟨q1,q2,q3⟩:=G6;have e1:decide ((12:Int) < n1)=false:=by simp;omega
 have e2:decide ((4:Int) < n2)=false:=by simp;omega
 have e3:decide ((8:Int) < n3)=false:=by simp;omega
 have LS:= @run_makeMap Tryz.prog;have Jt:= @makeF Tryz.prog;have hent:Enters Tryz.prog 101:=enters_of Tryz.func101 (by kernel_rfl) rfl;unfold Enters at hent;have gj:=hdq (rfl:w.heap.size=w.heap.size);clear Hg h1 hx Ht hS ht hf S3 Vt J3 Mr P6 Th Ti hT hF;go_enter Tryz.func22,Tryz.ntmps22;go_wp2_with fail;refine H1.mono ?_;rintro _ w1 ⟨rfl,hb⟩;have F0:=Lq.fr0 hb;obtain⟨b,FM⟩:=nmq w1.heap.size;obtain⟨w4,Fb⟩:=nmq (((w1.alloc (.map #[] 0)).alloc (.cells #[.map (some w1.heap.size),.int .i64 0,.int .i64 0] 137)).alloc (.cells #[.pointer (some ⟨w1.heap.size+1,0,none⟩)] 134));have Hx:Fr NoT w1 w4:=by rw[Fb];exact(((Fr.refl _ _).alloc _).alloc _).alloc _
 have gk:CkN w4 (w1.heap.size+1) w1.heap.size 0 (λ_=>none) (0,0):=by rw[Fb];exact CkN.made w1
 have gm:Bk w4 (w1.heap.size+1+1) 134 #[.pointer (some ⟨w1.heap.size+1,0,none⟩)]:=by rw[Fb];exact Bk.new_at _ _ _ (by simp)
 obtain⟨x0,x1,x2,x3,Fo⟩:=bk4 F0;have GN:=hdq ((Hs.trans hb).trans Hx);have Lr:=hdq (F0.fr0 Hx);have Nm:=hdq Fb;have P7:=hdq gk;have ND:=hdq gm;have Mm:=hdq (HX.keep (GN.same λb hb=>⟨HS b hb,id⟩));have J5:=hdq (show ∀x,S x->x < w4.heap.size/\¬CkT (w1.heap.size+1) w1.heap.size x from λx hx=>⟨ltq (HS x hx) GN.size,λe=>by
  have h1:=HS x hx;have h2:=(Hs.trans hb).size;rcases e with e|e<;>omega⟩)
 have J1:=hdq (show ¬CkT (w1.heap.size+1) w1.heap.size w.heap.size from λe=>by rcases e with e|e<;>omega);have Nk:=hdq (show ¬CkT (w1.heap.size+1) w1.heap.size (w1.heap.size+1+1)from λe=>by rcases e with e|e<;>omega);have Yr:=hdq (show ∀W,Fr (CkT (w1.heap.size+1) w1.heap.size) w4 W->Fr NoT w W from λW h=>by
  have h2:=(Hs.trans hb).size;exact⟨h.os.trans GN.os,h.tape.trans GN.tape,h.output.trans GN.output,leq9 GN.size h.size,λi hi _=>(h.block i (ltq hi GN.size) (λe=>by rcases e with e|e<;>omega)).trans (GN.block i hi id)⟩)
 have m0:=Lr.cell 0;rw[Fb]at m0;simp only[getsL]at m0;clear hb F0 Fb Hx gk gm;have QZ:=hdq FM;clear FM;simp only[if_true];go_wp2_with fail;rw[<-Nm.out];have FM:=QZ.out;rw[<-FM]at P7 ND J5 J1 Nk Yr ⊢;clear FM;clear m0 x0 x1 x2 x3 Fo H1 Hs Lq QZ;go_loopw [38] (λi wr=>∃(k:Nat)(s:Cks),k<=n1/\i= .int .i64 k/\Hid (Fr (CkT (b+1) b) w4 wr)/\Hid (CkN wr (b+1) b k s.1 s.2)/\Hid (zaZ (1,0) t.vars (λ_=>none,(0,0))=zaZ (1,0) (t.vars.drop k) s)) (λi _=>n1 - (intOf i).toNat);case atStart=>exact⟨0,(λ_=>none,(0,0)),Nat.zero_le _,rfl,Fr.refl _ _,P7.out,rfl⟩
 case round=>
  obtain⟨k,s,hk,rfl,hb,Fs,Ha⟩:=hrel;have KI:=ND.fr hb.out Nk.out;have d0:=KI.cell 0;have dl:=KI.lt;simp only[getsL]at d0;clear KI;by_cases Hl:k < n1
  ·obtain⟨⟨a0,a1⟩,ar,hd⟩:=zaB (show k < t.vars.length from by rw[<-Yq.out];exact Hl);obtain⟨B,o,rfl,Hh⟩:=Mm.vars.2.2 (by rw[<-Yq.out];omega);have Hm:=(VaR.keep (hb.same λx hx=>J5 x hx) Hh).drop k;rw[hd.1]at Hm;obtain⟨⟨Gh,_,r1,c0,c1⟩,_⟩:=Hm;have Jr:B < wr.heap.size:=ltq (J5 _ Gh).1 hb.size;have GD:(k:Int) < (n1:Int):=by omega
   have Fz:(0:Int)<=(k:Int):=by omega
   simp only at c0 c1;have He:Fr NoT wr (wr.alloc (.cells #[.string a0,.int .i64 a1] 77)):=(Fr.refl _ _).alloc _;have JO:=zbv (b+1) b k s.1 s.2 a0 a1 (1,0) _ (Fs.fr0 He) (LR.vars _ (zaY hd.1)) (by unfold maxLen;omega);unfold thV at JO;simp only at JO;have HD:=hdq JO;have Gi:=hdq (Ha.trans (zd7 hd));have HB:=hdq (hb.trans (He.any:Fr (CkT (b+1) b) wr _));clear hd Hh Ha hb Gh Fs He JO;go_wp2_with fail;refine HD.mono ?_;rintro _ w3 ⟨rfl,h3,Ga⟩;have Ml:=hdq (aiq h3 (HB.trans Ga));clear h3 Ga c0 c1;go_wp2_with fail;go_roundw;case rel=>exact⟨k+1,zcv s a0.data.toList a1 (1,0),by omega,by go_num,Ml.2,Ml.1,Gi.out⟩
   case measure=>simp[intOf];omega
  ·obtain rfl:k=n1:=by omega
   have FP:zaZ (1,0) t.vars (λ_=>none,(0,0))=s:=by rw[Ha.out,List.drop_eq_nil_of_le (by rw[<-Yq.out];omega)];rfl
   have Nn:=hdq FP;have GD:¬(k:Int) < (k:Int):=by omega
   obtain⟨x0,x1,x2,x3,Fo⟩:=bk4 (Lr.fr hb.out J1.out);have HB:=hdq hb.out;have Ls:=hdq Fs.out;clear Ha FP hb Fs d0 dl;go_wp2_with fail;clear x0 x1 x2 x3 Fo;obtain⟨wo,rfl⟩:∃wo:World,wo=wr:=⟨_,rfl⟩;go_loopw [53] (λi wr=>∃(j:Nat)(sj:Cks),j<=n2/\i= .int .i64 j/\Hid (Fr (CkT (b+1) b) w4 wr)/\Hid (CkN wr (b+1) b (k+j) sj.1 sj.2)/\Hid (zbe t.arrays s=zbe (t.arrays.drop j) sj)) (λi _=>n2 - (intOf i).toNat);case atStart=>exact⟨0,s,Nat.zero_le _,rfl,HB.out,Ls.out,rfl⟩
   case round=>
    clear HB Ls;obtain⟨j,sj,hj,rfl,hb,Fs,Ha⟩:=hrel;have KI:=ND.fr hb.out Nk.out;have d0:=KI.cell 0;have dl:=KI.lt;simp only[getsL]at d0;clear KI;by_cases Hl:j < n2
    ·obtain⟨⟨a0,a1,a2⟩,ar,hd⟩:=zaB (show j < t.arrays.length from by rw[<-Rq.out];exact Hl);obtain⟨B,o,rfl,Hh⟩:=Mm.arrays.2.2 (by rw[<-Rq.out];omega);have Hm:=(ArR.keep (hb.same λx hx=>J5 x hx) Hh).drop j;rw[hd.1]at Hm;obtain⟨⟨Gh,_,r1,r2,c0,c1,c2⟩,_⟩:=Hm;have Jr:B < wr.heap.size:=ltq (J5 _ Gh).1 hb.size;have Rs:(j:Int) < (n2:Int):=by omega
     have Ys:(0:Int)<=(j:Int):=by omega
     simp only at c0 c1 c2;obtain⟨w2,HJ⟩:=nmq (wr.alloc (.cells #[.string a0,.int .i64 a1,.int .i64 a2] 61));have He:Fr NoT wr w2:=by rw[HJ];exact(Fr.refl _ _).alloc _
     have FK:Bk w2 wr.heap.size 61 #[.string a0,.int .i64 a1,.int .i64 a2]:=by rw[HJ];exact Bk.new _ _ _
     have JO:=zbv (b+1) b (k+j) sj.1 sj.2 a0 a2 (2,0) w2 (Fs.fr0 He) (LR.arrays _ (zaY hd.1)) (by unfold maxLen;omega);unfold thV at JO;simp only at JO;have Un:=Fs.lt;have XT:=hdq (show ¬CkT (b+1) b wr.heap.size from λe=>by rcases e with e|e<;>omega);have HD:=hdq JO;have Gi:=hdq (Ha.trans (zge hd));have HB:=hdq (hb.trans (He.any:Fr (CkT (b+1) b) wr _));have Kh:=hdq FK;have Ki:=hdq HJ;obtain⟨p1,Kb⟩:=nmq (decide ((1:Int)<=a1));obtain⟨p2,JG⟩:=nmq (decide (a1<=(16:Int)));have HP:=hdq (show ziy sj ⟨a0,a1,a2⟩=((zcv sj a0.data.toList a2 (2,0)).1,askC (zcv sj a0.data.toList a2 (2,0)).2 (p1&&p2) (a2,113))from by rw[Kb,JG];rfl);have g1:=Kb.symm;have g2:=JG.symm;clear hd Hh Ha hb Gh Fs He JO FK HJ Kb JG Un;cases p1;all_goals cases p2
     all_goals
      go_wp2_with fail;rw[<-Ki.out];refine HD.mono ?_;rintro _ w3 ⟨rfl,h3,Ga⟩;have FV:=Kh.fr Ga XT.out;have y1:=FV.cell 1;have y2:=FV.cell 2;have yl:=FV.lt;have KI:=ND.fr (HB.trans Ga) Nk.out;have d3:=KI.cell 0;have xv:=KI.lt;simp only[getsL]at y1 y2 d3;have Td:=hdq (λis=>zd6 (b+1) b _ _ _ is a2 113 w3 h3);have PZ:=hdq (HB.trans Ga);clear h3 Ga FV KI c0 c1 c2 d0 dl Jr;go_wp2_with fail;refine(Td _).mono ?_;rintro _ w5 ⟨rfl,h5,Hj⟩;have gn:=hdq (aiq h5 (PZ.trans Hj));clear h5 Hj y1 y2 d3;go_wp2_with fail;go_roundw;case rel=>exact⟨j+1,ziy sj ⟨a0,a1,a2⟩,by omega,by go_num,gn.2,by rw[HP.out];exact gn.1,Gi.out⟩
      case measure=>simp[intOf];omega
    ·obtain rfl:j=n2:=by omega
     have FP:zbe t.arrays s=sj:=by rw[Ha.out,List.drop_eq_nil_of_le (by rw[<-Rq.out];omega)];rfl
     have JV:=hdq FP;have Rs:¬(j:Int) < (j:Int):=by omega
     obtain⟨x0,x1,x2,x3,Fo⟩:=bk4 (Lr.fr hb.out J1.out);have HB:=hdq hb.out;have Ls:=hdq Fs.out;clear Ha FP hb Fs d0 dl;go_wp2_with fail;clear x0 x1 x2 x3 Fo;obtain⟨wq,rfl⟩:∃wq:World,wq=wr:=⟨_,rfl⟩;go_loopw [80] (λi wr=>∃(l:Nat)(sl:Cks),l<=n3/\i= .int .i64 l/\Hid (Fr (CkT (b+1) b) w4 wr)/\Hid (CkN wr (b+1) b (k+j+l) sl.1 sl.2)/\Hid (zbf t.procs sj=zbf (t.procs.drop l) sl)) (λi _=>n3 - (intOf i).toNat);case atStart=>exact⟨0,sj,Nat.zero_le _,rfl,HB.out,Ls.out,rfl⟩
     case round=>
      clear HB Ls;obtain⟨l,sl,hl,rfl,hb,Fs,Ha⟩:=hrel;have KI:=ND.fr hb.out Nk.out;have d0:=KI.cell 0;have dl:=KI.lt;simp only[getsL]at d0;have Tj:=hdq KI;clear KI;by_cases Hl:l < n3
      ·obtain⟨⟨a0,a1,a2,a3⟩,ar,hd⟩:=zaB (show l < t.procs.length from by rw[<-Ml.out];exact Hl);obtain⟨B,o,rfl,Hh⟩:=Mm.procs.2.2 (by rw[<-Ml.out];omega);have Hm:=(PrR.keep (hb.same λx hx=>J5 x hx) Hh).drop l;rw[hd.1]at Hm;obtain⟨⟨Gh,_,r1,c0,c3⟩,⟨A1,q1,c1,_⟩,⟨A2,q2,c2,_⟩,_⟩:=Hm;have Jr:B < wr.heap.size:=ltq (J5 _ Gh).1 hb.size;have Yt:(l:Int) < (n3:Int):=by omega
       have kE:(0:Int)<=(l:Int):=by omega
       simp only at c0 c1 c2 c3;have He:Fr NoT wr (wr.alloc (.cells #[.string a0,.slice A1 a1.length q1,.slice A2 a2.len q2,.int .i64 a3] 63)):=(Fr.refl _ _).alloc _;have JO:=zbv (b+1) b (k+j+l) sl.1 sl.2 a0 a3 (4,0) _ (Fs.fr0 He) (LR.procs _ (zaY hd.1)).1 (by unfold maxLen;omega);unfold thV at JO;simp only at JO;have HD:=hdq JO;have Gi:=hdq (Ha.trans (zgf hd));have HB:=hdq (hb.trans (He.any:Fr (CkT (b+1) b) wr _));clear hd Hh Ha hb Gh Fs He JO;go_wp2_with fail;refine HD.mono ?_;rintro _ w3 ⟨rfl,h3,Ga⟩;have Vu:=hdq (aiq h3 (HB.trans Ga));clear h3 Ga c0 c1 c2 c3;go_wp2_with fail;go_roundw;case rel=>exact⟨l+1,zcv sl a0.data.toList a3 (4,0),by omega,by go_num,Vu.2,Vu.1,Gi.out⟩
       case measure=>simp[intOf];omega
      ·obtain rfl:l=n3:=by omega
       have FP:zbf t.procs sj=sl:=by rw[Ha.out,List.drop_eq_nil_of_le (by rw[<-Ml.out];omega)];rfl
       have Yt:¬(l:Int) < (l:Int):=by omega
       obtain⟨x0,x1,x2,x3,Fo⟩:=bk4 (Lr.fr hb.out J1.out);have Mx:∀W,Fr (CkT (b+1) b) w4 W->∀x,S x->x < W.heap.size/\¬CkT (b+1) b x:=λW h x hx=>⟨ltq (J5 x hx).1 h.size,(J5 x hx).2⟩;have Yu:∀W,Fr (CkT (b+1) b) w4 W->TrR W S Z t Av Aa Ap Am cv ca cp cm:=λW h=>Mm.keep (h.same λx hx=>J5 x hx);have Rt:=hdq (Tg (b+1) b (k+j+l) (b+1+1) sl Ap cp wr S Z Fs.out Tj.out Nk.out (λx hx=>LR.procs x hx) (Mx _ hb.out) (by have:=Rr.out;unfold maxLen;omega) (Yu _ hb.out).procs);rw[<-Ml.out]at Rt;have GJ:=HT.out;rw[Nn.out,JV.out,FP]at GJ;obtain⟨⟨⟨kz,az,ez⟩,q⟩,go⟩:=nmq (zat t.procs sl);rw[<-go]at GJ Rt;simp only at GJ;have gp:=hdq GJ;have Yv:=hdq Mx;have kF:=hdq Yu;have HB:=hdq hb.out;obtain⟨NN,gq⟩:=nmq (k+j+l+npP t.procs);rw[<-gq]at Rt;clear Ha FP hb Fs GJ go Mx Yu Tj gq;go_wp2_with fail;refine Rt.mono ?_;rintro _ w5 ⟨rfl,h5,Hj⟩;have Ru:=HB.trans Hj;have KI:=ND.fr Ru Nk.out;have gr:=Lr.fr Ru J1.out;have L6:=hdq Ru;have H5:=hdq h5;have Tj:=hdq KI;have gt:=hdq gr;clear Ru KI gr h5 Hj x0 x1 x2 x3 Fo d0 dl;cases q
       ·have Tl:=gp.out;simp only[Bool.false_eq_true,if_false]at Tl;have He:Fr NoT w5 w5.drew:=(Fr.refl _ _).drew;have Yl:=hdq (zeM (b+1) b w5.drew (H5.fr0 He).lt.1 (H5.fr0 He).lt.2);have Gu:=λ(B1 B2:Nat)(W:World)(h:Fr NoT w5.drew W)(hw:WkAt W (b+1) b B1 B2)=>zeL kz t.main LR.main (b+1) b NN B1 B2 (az,ez) W S Z Am cm ((H5.fr0 He).fr0 h) hw (Yv W (L6.trans ((He.trans h).any))) (kF W (L6.trans ((He.trans h).any))).main;rw[<-Tl,<-kD.out]at Gu;have Ym:=hdq Gu;have Vr:=hdq He;have d5:=Tj.cell 0;have zE:=Tj.lt;simp only[getsL]at d5;obtain⟨x0,x1,x2,x3,Fo⟩:=bk4 gt.out;clear Tl Gu He;go_wp2_with fail
        go_region_law
         (first
          |(go_simp
            go_at_call 53
            with_reducible refine Yl.out.mono ?_
            rintro _ w6 ⟨B1,B2,rfl,Fx,Gt⟩;have Tm:=(gt.fr0 Vr.out).fr0 Gt;have g3:=Tm.cell 3;have gl:=Tm.lt;simp only[getsL]at g3;have Yn:=hdq (Ym B1 B2 w6 Gt Fx);have G1:=hdq (Vr.trans Gt);clear Fx Gt Tm;dsimp only)
          |(go_simp
            go_at_call 101
            with_reducible refine Yn.out.mono ?_
            rintro _ w7 ⟨rfl,h7,Hp⟩;have kG:=hdq h7;have GV:=hdq (L6.trans ((G1.any:Fr (CkT (b+1) b) w5 _).trans Hp));clear h7 Hp;dsimp only))
        all_goals
         have Tn:=ND.fr GV.out Nk.out;have d7:=Tn.cell 0;have xw:=Tn.lt;have hbx:=kG.box;have p1:=hbx.cell 1;have p2:=hbx.cell 2;have pl:=hbx.lt;simp only[getsL]at d7 p1 p2;clear Tn hbx d5 zE x0 x1 x2 x3 Fo;try clear g3 gl
         go_wp2_with fail
         go_quiet (fail)
         go_wp2_with fail
         go_ret2
         exact⟨rfl,(Yr _ GV.out).drewN _⟩
       ·have Tl:=gp.out;simp only[if_true]at Tl;obtain⟨rfl,rfl⟩:=Prod.mk.inj Tl;have d5:=Tj.cell 0;have zE:=Tj.lt;have hbx:=H5.box;have p1:=hbx.cell 1;have p2:=hbx.cell 2;have pl:=hbx.lt;simp only[getsL]at d5 p1 p2;clear Tl hbx;go_wp2_with fail
        go_quiet (fail)
        go_wp2_with fail
        go_ret2
        exact⟨rfl,(Yr _ L6.out).drewN _⟩
theorem zj9 (t:Tre)(w:World)(S:Nat->Prop)(Z:Prop)(Av Aa Ap Am:Option Addr)(cv ca cp cm:Nat)(he:SpEnv w)(hS:∀b,S b->b < w.heap.size)(Ht:SzT t)(hx:TrR w S Z t Av Aa Ap Am cv ca cp cm):
  Calls Tryz.prog 22 #[trV t Av Aa Ap Am cv ca cp cm] w (AtE (zcn t) w):=by
 cases h1:okTr t with
 |false=>
  have h:=zj7 t w S Z Av Aa Ap Am cv ca cp cm he hS Ht hx h1;have e:zcn t=(0,8):=by unfold zcn;rw[if_neg (by simp[h1])]
  rw[e];exact h
 |true=>
  cases h2:fewT t with
  |false=>
   have h:=ziB t w S Z Av Aa Ap Am cv ca cp cm he hS Ht hx h1 h2;have e:zcn t=(0,4):=by unfold zcn;rw[if_pos h1,if_neg (by simp[h2])]
   rw[e];exact h
  |true=>
   refine zj8 t w S Z Av Aa Ap Am cv ca cp cm hS Ht hx h1 h2 (λW hf=>?_) λP b N C s0 A c w S Z k0 k1 k2 k3 k4 k5 k6=>zj6 P b N C s0 t.procs A c w S Z k0 k1 k2 k3 k4 k5 k6;have h:=zc6 t W S Z Av Aa Ap Am cv ca cp cm (he.keep hf.plain) (λb hb=>ltq (hS b hb) hf.size) Ht (hx.keep (hf.same λb hb=>⟨hS b hb,id⟩));rw[h1]at h;exact h
theorem zka (st p:Int×Int):askC st true p=st:=rfl
theorem zdb {st:Int×Int}{is:Bool}{p:Int×Int}(hp:p.2≠0)(h:(askC st is p).2 =0):is=true/\askC st is p=st:=by
 cases is with
 |true=>exact⟨rfl,rfl⟩
 |false=>
  exfalso
  have h:(zfs st p).2 =0:=h;unfold zfs at h;by_cases e:st.2=0
  ·rw[if_pos e]at h;exact hp h
  ·rw[if_neg e]at h;exact e h
def isK (kn:Kn)(t:List UInt8)(k:Int):Prop:=∃v,kn t=some (k,v)
theorem zd8 {kn:Kn}{st:Int×Int}{t:List UInt8}{k at_:Int}(h:(useC kn st t k at_).2 =0):isK kn t k/\useC kn st t k at_=st:=by
 unfold useC at h ⊢;obtain⟨h1,h2⟩:=zdb (by simp) h;rw[h2]at h;obtain⟨h3,h4⟩:=zdb (by simp) h;refine⟨?_,h2.trans h4⟩;simp only[Bool.and_eq_true]at h3;obtain⟨⟨a,b⟩,hv⟩:=Option.isSome_iff_exists.1 h3.1;rw[hv]at h1;have h1:a=k:=by simpa using h1
 exact⟨b,by rw[hv,h1]⟩
theorem zd9 {kn:Kn}{st:Int×Int}{t:List UInt8}{k at_:Int}(h:isK kn t k)(hk:k≠4):useC kn st t k at_=st:=by
 obtain⟨v,hv⟩:=h;unfold useC;rw[hv];simp[askC,hk]
def okUX (kn:Kn):Exs->Prop
 | .nil =>True
 | .cons k nm _ args _ r=>(k=2->isK kn nm.data.toList 1)/\(k=3->isK kn nm.data.toList 2)/\okUX kn args/\okUX kn r
theorem zcP {kn:Kn}:∀(xs:Exs)(st:Int×Int),okUX kn xs->zaN kn xs st=st
 | .nil,st,_=>rfl
 | .cons k nm n args at_ r,st,h=>by
  obtain⟨h1,h2,h3,h4⟩:=h;unfold zaN;have e:(if k=2 then useC kn st nm.data.toList 1 at_ else if k=3 then useC kn st nm.data.toList 2 at_ else st)=st:=by
   by_cases e2:k=2
   ·rw[if_pos e2,zd9 (h1 e2) (by decide)]
   ·rw[if_neg e2];by_cases e3:k=3
    ·rw[if_pos e3,zd9 (h2 e3) (by decide)]
    ·rw[if_neg e3]
  rw[e,zcP args st h3,zcP r st h4]
theorem zcQ {kn:Kn}:∀(xs:Exs)(st:Int×Int),(zaN kn xs st).2 =0->okUX kn xs/\zaN kn xs st=st
 | .nil,st,_=>⟨trivial,rfl⟩
 | .cons k nm n args at_ r,st,h=>by
  unfold zaN at h ⊢;obtain⟨h4,e4⟩:=zcQ r _ h;rw[e4]at h ⊢;obtain⟨h3,e3⟩:=zcQ args _ h;rw[e3]at h ⊢;by_cases e2:k=2
  ·subst e2;rw[if_pos rfl]at h ⊢;obtain⟨h1,e1⟩:=zd8 h;exact⟨⟨λ_=>h1,λe=>absurd e (by decide),h3,h4⟩,e1⟩
  ·rw[if_neg e2]at h ⊢;by_cases e3:k=3
   ·subst e3;rw[if_pos rfl]at h ⊢;obtain⟨h1,e1⟩:=zd8 h;exact⟨⟨λe=>absurd e (by decide),λ_=>h1,h3,h4⟩,e1⟩
   ·rw[if_neg e3];exact⟨⟨λe=>absurd e e2,λe=>absurd e e3,h3,h4⟩,rfl⟩
def okUC (kn:Kn):Cds->Prop
 | .nil =>True
 | .cons _ args of_ _ r=>okUX kn args/\okUC kn of_/\okUC kn r
theorem zea {kn:Kn}:∀(xs:Cds)(st:Int×Int),okUC kn xs->za5 kn xs st=st
 | .nil,st,_=>rfl
 | .cons k args of_ at_ r,st,h=>by
  obtain⟨h1,h2,h3⟩:=h;unfold za5;rw[zcP args st h1,zea of_ st h2,zea r st h3]
theorem zeb {kn:Kn}:∀(xs:Cds)(st:Int×Int),(za5 kn xs st).2 =0->okUC kn xs/\za5 kn xs st=st
 | .nil,st,_=>⟨trivial,rfl⟩
 | .cons k args of_ at_ r,st,h=>by
  unfold za5 at h ⊢;obtain⟨h3,e3⟩:=zeb r _ h;rw[e3]at h ⊢;obtain⟨h2,e2⟩:=zeb of_ _ h;rw[e2]at h ⊢;obtain⟨h1,e1⟩:=zcQ args _ h;exact⟨⟨h1,h2,h3⟩,e1⟩
def okUH (kn:Kn)(k:Int)(t:List UInt8)(na:Int):Prop:=(k=2\/k=4->isK kn t 1)/\(k=3->isK kn t 2)/\(k=9->kn t=some (3,na))
theorem zlV {kn:Kn}{k:Int}{t:List UInt8}{na at_:Int}{st:Int×Int}(h:okUH kn k t na):zgd kn k t na at_ st=st:=by
 obtain⟨h1,h2,h3⟩:=h;unfold zgd;by_cases e1:k=2\/k=4
 ·rw[if_pos e1,zd9 (h1 e1) (by decide)]
 ·rw[if_neg e1];by_cases e2:k=3
  ·rw[if_pos e2,zd9 (h2 e2) (by decide)]
  ·rw[if_neg e2];by_cases e3:k=9
   ·rw[if_pos e3,zd9 ⟨_,h3 e3⟩ (by decide),h3 e3];simp[askC]
   ·rw[if_neg e3]
theorem zlW {kn:Kn}{k:Int}{t:List UInt8}{na at_:Int}{st:Int×Int}(h:(zgd kn k t na at_ st).2 =0):okUH kn k t na/\zgd kn k t na at_ st=st:=by
 unfold zgd at h ⊢;by_cases e1:k=2\/k=4
 ·rw[if_pos e1]at h ⊢;obtain⟨h1,h2⟩:=zd8 h;exact⟨⟨λ_=>h1,λe=>by omega,λe=>by omega⟩,h2⟩
 ·rw[if_neg e1]at h ⊢;by_cases e2:k=3
  ·rw[if_pos e2]at h ⊢;obtain⟨h1,h2⟩:=zd8 h;exact⟨⟨λe=>absurd e e1,λ_=>h1,λe=>by omega⟩,h2⟩
  ·rw[if_neg e2]at h ⊢;by_cases e3:k=9
   ·rw[if_pos e3]at h ⊢;obtain⟨h1,h2⟩:=zdb (by simp) h;rw[h2]at h ⊢;obtain⟨⟨v,hv⟩,h4⟩:=zd8 h;rw[hv]at h1;have h1:v=na:=by simpa using h1
    exact⟨⟨λe=>absurd e e1,λe=>absurd e e2,λ_=>by rw[hv,h1]⟩,h4⟩
   ·rw[if_neg e3];exact⟨⟨λe=>absurd e e1,λe=>absurd e e2,λe=>absurd e e3⟩,rfl⟩
def okUS (kn:Kn):Sts->Prop
 | .nil =>True
 | .cons k nm args cond body els _ r=>okUH kn k nm.data.toList (args.len:Int)/\okUX kn args/\okUC kn cond/\okUS kn body/\okUS kn els/\okUS kn r
theorem zcR {kn:Kn}:∀(xs:Sts)(st:Int×Int),okUS kn xs->zay kn xs st=st
 | .nil,st,_=>rfl
 | .cons k nm args cond body els at_ r,st,h=>by
  obtain⟨h0,h1,h2,h3,h4,h5⟩:=h;unfold zay;rw[zlV h0,zcP args st h1,zea cond st h2,zcR body st h3,zcR els st h4,zcR r st h5]
theorem zb5 {kn:Kn}:∀(xs:Sts)(st:Int×Int),(zay kn xs st).2 =0->okUS kn xs/\zay kn xs st=st
 | .nil,st,_=>⟨trivial,rfl⟩
 | .cons k nm args cond body els at_ r,st,h=>by
  unfold zay at h ⊢;obtain⟨h5,e5⟩:=zb5 r _ h;rw[e5]at h ⊢;obtain⟨h4,e4⟩:=zb5 els _ h;rw[e4]at h ⊢;obtain⟨h3,e3⟩:=zb5 body _ h;rw[e3]at h ⊢;obtain⟨h2,e2⟩:=zeb cond _ h;rw[e2]at h ⊢;obtain⟨h1,e1⟩:=zcQ args _ h;rw[e1]at h ⊢;obtain⟨h0,e0⟩:=zlW h;exact⟨⟨h0,h1,h2,h3,h4,h5⟩,e0⟩
def zaO (kn:Kn):List (List UInt8)->Prop
 | []=>True
 |t::r=>kn t=none/\t∉r/\zaO kn r
theorem freshL_iff {kn:Kn}:∀ {l:List (List UInt8)},zaO kn l↔(∀t∈l,kn t=none)/\l.Nodup
 | []=>by simp[zaO]
 |t::r=>by
  unfold zaO;rw[freshL_iff (l:=r),List.nodup_cons];simp only[List.mem_cons,forall_eq_or_imp];constructor
  ·rintro⟨a,b,c,d⟩;exact⟨⟨a,c⟩,b,d⟩
  ·rintro⟨⟨a,c⟩,b,d⟩;exact⟨a,b,c,d⟩
def putL (v:Int×Int)(l:List (List UInt8))(kn:Kn):Kn:=λy=>if y∈l then some v else kn y
theorem zfu (v:Int×Int)(kn:Kn):putL v [] kn=kn:=by funext y;simp[putL]
theorem zec (v:Int×Int)(t:List UInt8)(r:List (List UInt8))(kn:Kn):putL v r (kn.put t v)=putL v (t::r) kn:=by
 funext y
 unfold putL Kn.put;by_cases h1:y∈r
 ·simp[h1]
 ·by_cases h2:y=t
  ·simp[h2]
  ·simp[h1,h2]
theorem zdC {s:Cks}{t:List UInt8}{at_:Int}{v:Int×Int}(h:s.1 t=none):zcv s t at_ v=(s.1.put t v,s.2):=by
 unfold zcv zlS zgb;rw[h];simp[askC]
theorem zfv {s:Cks}{t:List UInt8}{at_:Int}{v:Int×Int}(h:(zcv s t at_ v).2.2 =0):s.1 t=none/\zcv s t at_ v=(s.1.put t v,s.2):=by
 have h:(zgb s.1 s.2 t at_).2 =0:=h;unfold zgb at h;have h1:=(zdb (by simp) h).1;have h2:s.1 t=none:=by
  cases e:s.1 t with
  |none=>rfl
  |some x=>rw[e]at h1;simp at h1
 exact⟨h2,zdC h2⟩
abbrev nmV (xs:List Va):List (List UInt8):=xs.map λx=>x.nm.data.toList
abbrev nmA (xs:List Arr):List (List UInt8):=xs.map λx=>x.nm.data.toList
abbrev nmP (xs:List Prc):List (List UInt8):=xs.map λx=>x.nm.data.toList
theorem zed {kn:Kn}{t:List UInt8}{v:Int×Int}{l:List (List UInt8)}(h:zaO (kn.put t v) l):t∉l/\zaO kn l:=by
 rw[freshL_iff]at h ⊢;have h1:t∉l:=λhm=>by have:=h.1 t hm;simp[Kn.put]at this
 refine⟨h1,λx hx=>?_,h.2⟩;have:=h.1 x hx;unfold Kn.put at this;rw[if_neg (λe:x=t=>h1 (e▸hx))]at this;exact this
theorem zdc {kn:Kn}{t:List UInt8}{v:Int×Int}{l:List (List UInt8)}(h1:t∉l)(h:zaO kn l):zaO (kn.put t v) l:=by
 rw[freshL_iff]at h ⊢;refine⟨λx hx=>?_,h.2⟩;unfold Kn.put;rw[if_neg (λe:x=t=>h1 (e▸hx))];exact h.1 x hx
theorem zbC {v:Int×Int}:∀(xs:List Va)(s:Cks),zaO s.1 (nmV xs)->zaZ v xs s=(putL v (nmV xs) s.1,s.2)
 | [],s,_=>by simp[zaZ,zfu]
 |x::r,s,h=>by
  obtain⟨h1,h2,h3⟩:=h;unfold zaZ;rw[zdC h1,zbC r _ (zdc h2 h3),zec];rfl
theorem zee {v:Int×Int}:∀(xs:List Va)(s:Cks),(zaZ v xs s).2.2 =0->zaO s.1 (nmV xs)
 | [],s,_=>trivial
 |x::r,s,h=>by
  unfold zaZ at h;have h3:=zee r _ h;rw[zbC r _ h3]at h;obtain⟨h1,e1⟩:=zfv h;rw[e1]at h3;have h4:=zed h3;exact⟨h1,h4.1,h4.2⟩
def zhz (xs:List Arr):Prop:=∀x∈xs,1<=x.size/\x.size<=16
theorem zch:∀(xs:List Arr)(s:Cks),zaO s.1 (nmA xs)->zhz xs->zbe xs s=(putL (2,0) (nmA xs) s.1,s.2)
 | [],s,_,_=>by simp[zbe,zfu]
 |x::r,s,h,hz=>by
  obtain⟨h1,h2,h3⟩:=h;have hx:=hz x (by simp);unfold zbe ziy;rw[zdC h1];have e:(decide ((1:Int)<=x.size)&&decide (x.size<=(16:Int)))=true:=by simpa using hx
  rw[e,zka,zch r _ (zdc h2 h3) (λy hy=>hz y (by simp[hy])),zec];rfl
theorem zeN:∀(xs:List Arr)(s:Cks),(zbe xs s).2.2 =0->zaO s.1 (nmA xs)/\zhz xs
 | [],s,_=>⟨trivial,λx hx=>by simp at hx⟩
 |x::r,s,h=>by
  unfold zbe at h;obtain⟨h3,hz⟩:=zeN r _ h;rw[zch r _ h3 hz]at h;unfold ziy at h h3;simp only at h h3;obtain⟨hq,e0⟩:=zdb (by simp) h;rw[e0]at h;obtain⟨h1,e1⟩:=zfv h;rw[e1]at h3;have h4:=zed h3;have hq:1<=x.size/\x.size<=16:=by simpa using hq
  exact⟨⟨h1,h4.1,h4.2⟩,λy hy=>by
   rcases List.mem_cons.1 hy with rfl|hy
   ·exact hq
   ·exact hz y hy⟩
theorem zci:∀(xs:List Prc)(s:Cks),zaO s.1 (nmP xs)->zbf xs s=(putL (4,0) (nmP xs) s.1,s.2)
 | [],s,_=>by simp[zbf,zfu]
 |x::r,s,h=>by
  obtain⟨h1,h2,h3⟩:=h;unfold zbf;rw[zdC h1,zci r _ (zdc h2 h3),zec];rfl
theorem zeO:∀(xs:List Prc)(s:Cks),(zbf xs s).2.2 =0->zaO s.1 (nmP xs)
 | [],s,_=>trivial
 |x::r,s,h=>by
  unfold zbf at h;have h3:=zeO r _ h;rw[zci r _ h3]at h;obtain⟨h1,e1⟩:=zfv h;rw[e1]at h3;have h4:=zed h3;exact⟨h1,h4.1,h4.2⟩
theorem zhA:∀(xs:List Va)(kn:Kn)(y:List UInt8),zdx xs kn y=if y∈nmV xs then none else kn y
 | [],kn,y=>by simp[zdx]
 |x::r,kn,y=>by
  unfold zdx;rw[zhA r];unfold Kn.del nmV;by_cases h1:y∈nmV r
  ·unfold nmV at h1;simp only[List.map_cons,List.mem_cons,h1,or_true,if_true]
  ·unfold nmV at h1;by_cases h2:y=x.nm.data.toList
   ·simp[h2]
   ·simp only[List.map_cons,List.mem_cons,h1,h2,or_false,if_false]
theorem zkb {xs:List Va}{kn:Kn}{v:Int×Int}(h:zaO kn (nmV xs)):zdx xs (putL v (nmV xs) kn)=kn:=by
 funext y
 rw[zhA];unfold putL;by_cases e:y∈nmV xs
 ·rw[if_pos e,(freshL_iff.1 h).1 y e]
 ·rw[if_neg e,if_neg e]
def okP (x:Prc)(kn:Kn):Prop:=x.params.length<=4/\zaO kn (nmV x.params)/\okUS (putL (1,0) (nmV x.params) kn) x.body
theorem zhB {x:Prc}{s:Cks}(h:okP x s.1)(he:s.2.2=0):zb4 x.nm.data.toList x.params x.body x.at_ s=(s.1.put x.nm.data.toList (3,x.params.length),s.2):=by
 obtain⟨h1,h2,h3⟩:=h;unfold zb4;have e:decide ((x.params.length:Int)<=4)=true:=by simp;omega
 rw[e,zka,zbC _ _ h2];simp only;rw[if_pos he,zcR _ _ h3,zkb h2]
theorem zlX {x:Prc}{s:Cks}(h:(zb4 x.nm.data.toList x.params x.body x.at_ s).2.2 =0):okP x s.1:=by
 unfold zb4 at h;simp only at h;by_cases e:(zaZ (1,0) x.params (s.1,askC s.2 (decide ((x.params.length:Int)<=4)) (x.at_,4))).2.2 =0
 ·rw[if_pos e]at h;have h2:=zee _ _ e;rw[zbC _ _ h2]at e h;simp only at e h;have h1:=(zdb (by simp) e).1;have h3:=(zb5 _ _ h).1;exact⟨by simp at h1;omega,h2,h3⟩
 ·rw[if_neg e]at h;exact absurd h e
def zkc:List Prc->Kn->Prop
 | [],_=>True
 |x::r,kn=>okP x kn/\zkc r (kn.put x.nm.data.toList (3,x.params.length))
def ziC:List Prc->Kn->Kn
 | [],kn=>kn
 |x::r,kn=>ziC r (kn.put x.nm.data.toList (3,x.params.length))
theorem zgg:∀(xs:List Prc)(s:Cks),zkc xs s.1->s.2.2=0->zat xs s=((ziC xs s.1,s.2),false)
 | [],s,_,_=>rfl
 |x::r,s,h,he=>by
  unfold zat;rw[zhB h.1 he,if_pos he,zgg r (s.1.put x.nm.data.toList (3,x.params.length),s.2) h.2 he];rfl
theorem zgh:∀(xs:List Prc)(s:Cks),(zat xs s).1.2.2 =0->s.2.2=0->zkc xs s.1
 | [],s,_,_=>trivial
 |x::r,s,h,he=>by
  unfold zat at h;by_cases e:(zb4 x.nm.data.toList x.params x.body x.at_ s).2.2 =0
  ·have h1:=zlX e;rw[zhB h1 he]at h;rw[if_pos he]at h;exact⟨h1,zgh r _ h he⟩
  ·rw[if_neg e]at h;exact absurd h e
theorem zeP:∀(xs:List Prc)(s:Cks),(zat xs s).2 =true->(zat xs s).1.2.2 ≠0
 | [],s,h=>by simp[zat]at h
 |x::r,s,h=>by
  unfold zat at h ⊢;by_cases e:(zb4 x.nm.data.toList x.params x.body x.at_ s).2.2 =0
  ·rw[if_pos e]at h ⊢;exact zeP r _ h
  ·rw[if_neg e];exact e
theorem zgW {st p:Int×Int}(h:st.2≠0):zfs st p=st:=by unfold zfs;rw[if_neg h]
theorem zeQ {st p:Int×Int}{is:Bool}(h:st.2≠0):askC st is p=st:=by cases is<;>simp[askC,zgW h]
theorem zgX {nm:List UInt8}{ps:List Va}{body:Sts}{at_:Int}{s:Cks}(h:s.2.2≠0):(zb4 nm ps body at_ s).2.2 ≠0:=by
 have hd:∀(xs:List Va)(s:Cks),s.2.2≠0->(zaZ (1,0) xs s).2.2 ≠0:=by
  intro xs
  induction xs with
  |nil=>exact λs h=>h
  |cons x r ih=>
   intro s h;unfold zaZ;refine ih _ ?_;show(zgb s.1 s.2 _ _).2 ≠0
   unfold zgb;rw[zeQ h];exact h
 unfold zb4;simp only;have h2:=hd ps (s.1,askC s.2 (decide ((ps.length:Int)<=4)) (at_,4)) (by rw[zeQ h];exact h);rw[if_neg h2];exact h2
def knT (t:Tre):Kn:=putL (4,0) (nmP t.procs) (putL (2,0) (nmA t.arrays) (putL (1,0) (nmV t.vars) λ_=>none))
structure OkT (t:Tre):Prop where
 tree:okTr t=true
 few:fewT t=true
 vars:zaO (λ_=>none) (nmV t.vars)
 arrays:zaO (putL (1,0) (nmV t.vars) λ_=>none) (nmA t.arrays)
 sizes:zhz t.arrays
 procs:zaO (putL (2,0) (nmA t.arrays) (putL (1,0) (nmV t.vars) λ_=>none)) (nmP t.procs)
 each:zkc t.procs (knT t)
 main:okUS (ziC t.procs (knT t)) t.main
theorem zlY {t:Tre}(h1:zaO (λ_=>none) (nmV t.vars))(h2:zaO (putL (1,0) (nmV t.vars) λ_=>none) (nmA t.arrays))(h3:zhz t.arrays)(h4:zaO (putL (2,0) (nmA t.arrays) (putL (1,0) (nmV t.vars) λ_=>none)) (nmP t.procs)):
  zcm t=(knT t,(0,0)):=by
 unfold zcm;rw[zbC _ _ h1,zch _ _ h2 h3,zci _ _ h4];rfl
theorem zfw {t:Tre}(h:(zcn t).2 =0):OkT t:=by
 unfold zcn at h;by_cases h1:okTr t=true
 rotate_left
 ·rw[if_neg h1]at h;exact absurd h (by decide)
 rw[if_pos h1]at h;by_cases h2:fewT t=true
 rotate_left
 ·rw[if_neg h2]at h;exact absurd h (by decide)
 rw[if_pos h2]at h;have h3:(zat t.procs (zcm t)).2 =false:=by
  cases e:(zat t.procs (zcm t)).2 with
  |false=>rfl
  |true=>
   rw[e,if_pos rfl]at h;exact absurd h (zeP _ _ e)
 rw[h3]at h;simp only[Bool.false_eq_true,if_false]at h;obtain⟨h4,e4⟩:=zb5 _ _ h;rw[e4]at h;have h5:(zcm t).2.2 =0:=by
  by_cases e:(zcm t).2.2 =0
  ·exact e
  exfalso
  cases hp:t.procs with
  |nil=>rw[hp]at h;exact e h
  |cons x r=>
   rw[hp]at h3;unfold zat at h3;rw[if_neg (zgX e)]at h3;exact absurd h3 (by simp)
 have hd:=h5;unfold zcm at hd;have q3:=zeO _ _ hd;rw[zci _ _ q3]at hd;obtain⟨q2,q4⟩:=zeN _ _ hd;rw[zch _ _ q2 q4]at hd q3;have q1:=zee _ _ hd;rw[zbC _ _ q1]at q2 q3;have kH:=zlY q1 q2 q4 q3;rw[kH]at h h4;have h6:=zgh _ _ h rfl;rw[zgg _ _ h6 rfl]at h4;exact⟨h1,h2,q1,q2,q4,q3,h6,h4⟩
theorem fewT_iff {t:Tre}:fewT t=true↔t.vars.length<=12/\t.arrays.length<=4/\t.procs.length<=8:=by
 unfold fewT;simp only[Bool.and_eq_true,decide_eq_true_eq];omega
def zbr:List Prc->List UInt8->Option Prc
 | [],_=>none
 |x::r,y=>match zbr r y with
  |some z=>some z
  |none=>if y=x.nm.data.toList then some x else none
theorem zdo:∀ {xs:List Prc} {y:List UInt8},y∉nmP xs->zbr xs y=none
 | [],_,_=>rfl
 |x::r,y,h=>by
  simp only[nmP,List.map_cons,List.mem_cons,not_or]at h;unfold zbr;rw[zdo h.2,if_neg h.1]
theorem zcw:∀ {xs:List Prc},(nmP xs).Nodup ->∀ {x:Prc},x∈xs->zbr xs x.nm.data.toList=some x
 | [],_,_,h=>by simp at h
 |p::r,hn,x,h=>by
  have hn:=List.nodup_cons.1 hn;unfold zbr;rcases List.mem_cons.1 h with rfl|h
  ·rw[zdo hn.1,if_pos rfl]
  ·rw[zcw hn.2 h]
theorem zeR:∀ {xs:List Prc} {y:List UInt8} {x:Prc},zbr xs y=some x->x∈xs/\x.nm.data.toList=y
 | [],_,_,h=>by simp[zbr]at h
 |p::r,y,x,h=>by
  unfold zbr at h;cases e:zbr r y with
  |some z=>
   rw[e]at h;have h:=Option.some.inj h;subst h;have:=zeR e;exact⟨by simp[this.1],this.2⟩
  |none=>
   rw[e]at h;simp only at h;by_cases e2:y=p.nm.data.toList
   ·rw[if_pos e2]at h;have h:=Option.some.inj h;subst h;exact⟨by simp,e2.symm⟩
   ·rw[if_neg e2]at h;simp at h
