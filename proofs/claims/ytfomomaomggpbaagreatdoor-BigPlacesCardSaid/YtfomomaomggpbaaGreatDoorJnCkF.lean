/- check. -/
import Derived.Test.YtfomomaomggpbaaGreatDoorJgCkE
set_option linter.all false
set_option maxHeartbeats 8000000
set_option maxRecDepth 100000
namespace Go.Proofs.YtfomomaomggpbaaGreatDoor
open Go.RowKit Go.Shelf Go.Maps
theorem CkN.del {w3:World}{P b N:Nat}{kn:Kn}{st:Int×Int}(h:CkN w3 P b N kn st){s:ByteArray}(hs:s.size<=9223372036854775807)(ty:TypeId):
  ∃w4,(Builtin.delete_ #[135,9] ty #[.map (some b),.string s]).run Tryz.prog w3.drew= .ok (.tuple #[]) w4/\CkN w4 P b N (kn.del s.data.toList) st/\Fr (CkT P b) w3 w4:=by
 obtain⟨n,hn,h⟩:=h;obtain⟨w4,GL,h4,QZ⟩:=(h.map.fr ((Fr.refl NoT w3).drew) id).drop hs ty;have HJ:Fr (CkT P b) w3 w4:=(aH.drew).trans (Fr.grown QZ λg e _=> .inr (Option.some.inj e).symm);have QW:=h.box.fr (((Fr.refl (λx=>x=b) w3).drew).trans (Fr.grown QZ λg e _=>(Option.some.inj e).symm)) h.ne;exact⟨w4,GL,⟨n,hn,QW,h4,h.ne⟩,HJ⟩
theorem CkN.put {w3:World}{P b N:Nat}{kn:Kn}{st:Int×Int}(h:CkN w3 P b N kn st){s:ByteArray}(hs:s.size<=9223372036854775807)(v:Int×Int)(hN:N < maxLen):
  ∃w4,(Instr.mapUpdate 135 (.map (some b)) (.string s) (thV v)).run Tryz.prog w3.drew= .ok () w4/\CkN w4 P b (N+1) (kn.put s.data.toList v) st/\Fr (CkT P b) w3 w4:=by
 obtain⟨n,hn,h⟩:=h;obtain⟨w4,GL,h4,QZ⟩:=(h.map.fr ((Fr.refl NoT w3).drew) id).put hs v (by omega);have HJ:Fr (CkT P b) w3 w4:=(aH.drew).trans (Fr.grown QZ λg e _=> .inr (Option.some.inj e).symm);have QW:=h.box.fr (((Fr.refl (λx=>x=b) w3).drew).trans (Fr.grown QZ λg e _=>(Option.some.inj e).symm)) h.ne;exact⟨w4,GL,⟨n+1,by omega,QW,h4,h.ne⟩,HJ⟩
theorem CkN.box {w:World}{P b N:Nat}{kn:Kn}{st:Int×Int}(h:CkN w P b N kn st):Bk w P 137 #[.map (some b),.int .i64 st.1,.int .i64 st.2]:=by
 obtain⟨n,hn,h⟩:=h;exact h.box
theorem CkN.mono {w:World}{P b N N':Nat}{kn:Kn}{st:Int×Int}(h:CkN w P b N kn st)(hN:N<=N'):CkN w P b N' kn st:=by
 obtain⟨n,hn,h⟩:=h;exact⟨n,by omega,h⟩
theorem zfn (P b:Nat)(w:World)(hP:P < w.heap.size)(hb:b < w.heap.size):Calls Tryz.prog 53 #[.pointer (some ⟨P,0,none⟩)] w λe w'=>
  ∃B1 B2,e= .returned (.func (.func 101) #[] #[.pointer (some ⟨B1,0,none⟩),.pointer (some ⟨B2,0,none⟩)])/\WkAt w' P b B1 B2/\Fr NoT w w':=
 (zlh P b w hP hb).mono λ_ _ ⟨h1,h2,h3⟩=>⟨_,_,h1,h2,h3⟩
theorem zli (P b N:Nat)(kn:Kn)(st:Int×Int)(nm:ByteArray)(ps:List Va)(body:Sts)(at_:Int)(A1 A2:Option Addr)(q1 q2:Nat)(w:World)(S:Nat->Prop)(Z:Prop)(hc:CkN w P b N kn st)(Jt:nm.size<=9223372036854775807)(JG:∀y∈ps,y.nm.size<=9223372036854775807)(S8:szS body)
  (hS:∀x,S x->x < w.heap.size/\¬CkT P b x) (hN:N+ps.length+1 < maxLen) (s1:SlR (λb o=>VaR w S Z ps b o) ps.length 24 A1 q1) (s2:SlR (λb o=>StR w S Z body b o) body.len 128 A2 q2):
  Calls Tryz.prog 52 #[.pointer (some ⟨P,0,none⟩),.agg #[.string nm,.slice A1 ps.length q1,.slice A2 body.len q2,.int .i64 at_]] w
   (CkP P b (N+ps.length+1) (zbB nm.data.toList ps body at_ (kn,st)).1 (zbB nm.data.toList ps body at_ (kn,st)).2 w):=by
 obtain⟨F,hF⟩:=aF (zbB nm.data.toList ps body at_ (kn,st));rw[<-hF];unfold zbB at hF;simp only at hF;have hl:ps.length<=9223372036854775807:=aK s1.1 s1.2.1.1;obtain⟨w1,Hc⟩:=aF (w.alloc (.cells #[.string nm,.slice A1 ps.length q1,.slice A2 body.len q2,.int .i64 at_] 63));have Hd:Fr NoT w w1:=by rw[Hc];exact aH.alloc _
 have Fo:Bk w1 w.heap.size 63 #[.string nm,.slice A1 ps.length q1,.slice A2 body.len q2,.int .i64 at_]:=by rw[Hc];exact Bk.new _ _ _
 obtain⟨p4,LX⟩:=aF (decide ((ps.length:Int)<=4));rw[<-LX]at hF;have Hk:=hc.lt;have MX:¬CkT P b w.heap.size:=λe=>by rcases e with e|e<;>omega
 have H1:=aA (zew P b N kn st p4 at_ 4 w1 (hc.fr0 Hd));have Wd:=aA (λ(W:World)(h:Fr (CkT P b) w W)=>(show ∀x,S x->x < W.heap.size/\¬CkT P b x from λx hx=>⟨aM (hS x hx).1 h.size,(hS x hx).2⟩));have MS:=aA (λ(W:World)(h:Fr (CkT P b) w W)=>(show SameS S w W from h.same λx hx=>hS x hx));obtain⟨m,hm⟩:=aF ps.length;rw[<-hm]at hl LX hF hN Hc Fo ⊢;have e4:=LX.symm;have HM:=aA hm;have Ge:=aA Hc;have Hl:=aA Hd;have K0:=aA Fo;have Ko:=aA MX;have HF:=aA hF;have Ma:=aA Jt;have Mw:=aA JG;have vO:=aA S8;have HN:=aA hN;have HX:=aA s1;have HY:=aA s2;have HS:=aA hS;clear hc Hd Hc Fo LX Hk MX hF hm Jt JG S8 hN s1 s2 hS;go_enter Tryz.func52,Tryz.ntmps52;go_wp2_with fail;rw[<-Ge.out];refine H1.mono ?_;rintro _ w2 ⟨rfl,h2,He⟩;have GS:=K0.fr He Ko.out;have d1:=GS.cell 1;have FM:=GS.lt;simp only[aD]at d1;have Hu:=aA ((Hl.any:Fr (CkT P b) w w1).trans He);have JE:=aA GS;have H2:=aA h2;clear h2 He GS;go_wp2_with fail;go_loopw [19] (λi wr=>∃(k:Nat)(s:Cks),k<=m/\i= .int .i64 k/\Hid (Fr (CkT P b) w wr)/\Hid (Bk wr w.heap.size 63 #[.string nm,.slice A1 m q1,.slice A2 body.len q2,.int .i64 at_])/\Hid (CkN wr P b (N+k) s.1 s.2)/\Hid (zaJ (1,0) ps (kn,askC st p4 (at_,4))=zaJ (1,0) (ps.drop k) s)) (λi _=>m - (intOf i).toNat);case atStart=>exact⟨0,(kn,askC st p4 (at_,4)),Nat.zero_le _,rfl,Hu.out,JE.out,H2.out,rfl⟩
 case round=>
  obtain⟨k,s,hk,rfl,hb,KD,FJ,Hb⟩:=hrel;by_cases Hk:k < m
  ·obtain⟨⟨a0,a1⟩,ar,hd⟩:=zao (show k < ps.length from by rw[<-HM.out];exact Hk);obtain⟨B,o,rfl,Hg⟩:=HX.2.2 (by rw[<-HM.out];omega);have Hq:=(VaR.keep (MS _ hb.out) Hg).drop k;rw[hd.1]at Hq;obtain⟨⟨Gn,_,r1,c0,c1⟩,_⟩:=Hq;have JC:B < wr.heap.size:=(Wd _ hb.out _ Gn).1;have Gj:(k:Int) < (m:Int):=by omega
   have G9:(0:Int)<=(k:Int):=by omega
   simp only at c0 c1;have He:Fr NoT wr (wr.alloc (.cells #[.string a0,.int .i64 a1] 77)):=aH.alloc _;have J9:=zbz P b (N+k) s.1 s.2 a0 a1 (1,0) _ (FJ.fr0 He) (Mw _ (za4 hd.1)) (by have:=HN.out;omega);unfold thV at J9;simp only at J9;have HD:=aA J9;have Gb:=aA (Hb.trans (zey hd));have HB:=aA (hb.trans (He.any:Fr (CkT P b) wr _));have ZW:=aA (KD.fr0 He);clear hd Hg Hb hb Gn KD FJ He J9 d1 FM;go_wp2_with fail;refine HD.mono ?_;rintro _ w3 ⟨rfl,h3,Gg⟩;have ME:=aA (aG h3 (aG (HB.trans Gg) (ZW.fr Gg Ko.out)));clear h3 Gg c0 c1;go_wp2_with fail;go_roundw;case rel=>exact⟨k+1,zbM s a0.data.toList a1 (1,0),by omega,by go_num,ME.2.1,ME.2.2,ME.1,Gb.out⟩
   case measure=>simp[intOf];omega
  ·obtain rfl:k=m:=by omega
   obtain⟨xG,a2,e2⟩:=s;have F7:zaJ (1,0) ps (kn,askC st p4 (at_,4))=(xG,a2,e2):=by rw[Hb.out,List.drop_eq_nil_of_le (by rw[<-HM.out];omega)];rfl
   have hbx:=FJ.box;have JS:=FJ.lt;have p0:=hbx.cell 0;have p2:=hbx.cell 2;have GS:=KD.cell 2;have Vt:=KD.lt;simp only[aD]at p0 p2 GS;have hF:=HF.out;rw[F7]at hF;have HB:=aA hb.out;have ZW:=aA KD.out;have LP:=aA FJ.out;have U5:=JS.1;have Gj:¬(k:Int) < (k:Int):=by omega
   clear Hb F7 hb KD FJ hbx JS d1 FM;by_cases he:e2=0
   rotate_left
   ·have e9:(e2 != 0)=true:=by simpa using he
    have Lj:=aA (show F=(xG,a2,e2)from by rw[hF];simp only;rw[if_neg he]);clear hF he;go_wp2_with fail;go_end0;exact⟨rfl,by rw[Lj.out];exact LP.mono (by omega),HB.out⟩
   subst he;have Lj:=aA (show F=((zcs ps xG).put nm.data.toList (3,k),zaq xG body (a2,0))from by rw[hF,if_pos rfl]);have He:Fr NoT wr wr.drew:=aH.drew;have ZX:=aA (zfn P b wr.drew (LP.fr0 He).lt.1 (LP.fr0 He).lt.2);have ZY:=aA (λ(B1 B2:Nat)(W:World)(h:Fr NoT wr.drew W)(hw:WkAt W P b B1 B2)=>zfm xG body vO.out P b (N+k) B1 B2 (a2,0) W S Z A2 q2 ((LP.fr0 He).fr0 h) hw (Wd W (HB.trans ((He.trans h).any))) (HY.imp λ_ _ hx=>StR.keep (MS W (HB.trans ((He.trans h).any))) hx));have WG:=aA He;have hent:Enters Tryz.prog 101:=enters_of Tryz.func101 (by kernel_rfl) rfl;unfold Enters at hent;clear hF He;go_wp2_with fail
   go_region_law
    (first
     |(go_simp
       go_at_call 53
       with_reducible refine ZX.out.mono ?_
       rintro _ w5 ⟨B1,B2,rfl,Jd,Hm⟩;have K8:=(ZW.fr0 WG.out).fr0 Hm;have g2:=K8.cell 2;have gl:=K8.lt;simp only[aD]at g2;have vQ:=aA (ZY B1 B2 w5 Hm Jd);have Gk:=aA (WG.trans Hm);have JF:=aA K8;clear Jd Hm K8;dsimp only)
     |(go_simp
       go_at_call 101
       with_reducible refine vQ.out.mono ?_
       rintro _ w6 ⟨rfl,h6,GA⟩;have ZZ:=aA h6;have G1:=aA (HB.trans ((Gk.any:Fr (CkT P b) wr _).trans GA));have J6:=aA (JF.fr GA Ko.out);clear h6 GA;dsimp only))
   all_goals
    have k1:=J6.cell 1;have kl:=J6.lt;simp only[aD]at k1;clear GS Vt p0 p2 U5;try clear g2 gl
    go_wp2_with fail;go_loopw [44] (λi wr=>∃(j:Nat)(kj:Kn),j<=k/\i= .int .i64 j/\Hid (Fr (CkT P b) w wr)/\Hid (Bk wr w.heap.size 63 #[.string nm,.slice A1 k q1,.slice A2 body.len q2,.int .i64 at_])/\Hid (CkN wr P b (N+k) kj (zaq xG body (a2,0)))/\Hid (zcs ps xG=zcs (ps.drop j) kj)) (λi _=>k - (intOf i).toNat);case atStart=>exact⟨0,xG,Nat.zero_le _,rfl,G1.out,J6.out,ZZ.out,rfl⟩
    case round=>
     obtain⟨j,kj,hj,rfl,hb,KD,FJ,Hb⟩:=hrel;by_cases Hk:j < k
     ·obtain⟨⟨a0,a1⟩,ar,hd⟩:=zao (show j < ps.length from by rw[<-HM.out];exact Hk);obtain⟨B,o,rfl,Hg⟩:=HX.2.2 (by rw[<-HM.out];omega);have Hq:=(VaR.keep (MS _ hb.out) Hg).drop j;rw[hd.1]at Hq;obtain⟨⟨Gn,_,r1,c0,c1⟩,_⟩:=Hq;have JC:B < wr.heap.size:=(Wd _ hb.out _ Gn).1;have Gj:(j:Int) < (k:Int):=by omega
      have G9:(0:Int)<=(j:Int):=by omega
      simp only at c0 c1;obtain⟨wa,Kx⟩:=aF (wr.alloc (.cells #[.string a0,.int .i64 a1] 77));have He:Fr NoT wr wa:=by rw[Kx];exact aH.alloc _
      have Ui:Bk wa wr.heap.size 77 #[.string a0,.int .i64 a1]:=by rw[Kx];exact Bk.new _ _ _
      have K4:=FJ.fr0 He;have hbx:=K4.box;have p0:=hbx.cell 0;have U5:=hbx.lt;have v0:=Ui.cell 0;have Jx:=Ui.lt;simp only[aD]at p0 v0;have Hx:=Mw _ (za4 hd.1);simp only at Hx;obtain⟨w9,vR,h9,Gl⟩:=K4.del Hx 0;have Gb:=aA (Hb.trans (zjr hd));have Vu:=aA (aG h9 (aG ((hb.trans (He.any:Fr (CkT P b) wr _)).trans Gl) ((KD.fr0 He).fr Gl Ko.out)));have Z0:=aA Kx;clear hd Hg Hb hb Gn KD FJ He K4 hbx h9 Gl k1 kl Hx Ui Kx;go_wp2_with fail;rw[<-Z0.out];clear c0 c1;refine wp_region_still_tail 6 (by kernel_rfl) (by kernel_rfl) ?_;simp only[List.take_succ_cons,List.take_zero,List.drop_succ_cons,List.drop_zero]
      repeat still_step
      try refine wpStill_nil ?_
      go_wp2_with fail;go_roundw;case rel=>exact⟨j+1,kj.del a0.data.toList,by omega,by go_num,Vu.2.1,Vu.2.2,Vu.1,Gb.out⟩
      case measure=>simp[intOf];omega
     ·obtain rfl:j=k:=by omega
      have F7:zcs ps xG=kj:=by rw[Hb.out,List.drop_eq_nil_of_le (by rw[<-HM.out];omega)];rfl
      have hbx:=FJ.box;have p0:=hbx.cell 0;have U5:=hbx.lt;have uF:=KD.cell 0;have DN:=KD.cell 1;have kl:=KD.lt;simp only[aD]at p0 uF DN;obtain⟨w9,K1,h9,Gl⟩:=FJ.put Ma.out (3,j) (by have:=HN.out;omega);unfold thV at K1;simp only at K1;have Pq:=aA (show F=(kj.put nm.data.toList (3,j),zaq xG body (a2,0))from by rw[Lj.out,F7]);have Vu:=aA (aG h9 (hb.trans Gl));clear Hb F7 hb KD FJ hbx h9 Gl k1;go_wp2_with fail;refine wp_region_still_tail 10 (by kernel_rfl) (by kernel_rfl) ?_;simp only[List.take_succ_cons,List.take_zero,List.drop_succ_cons,List.drop_zero]
      repeat still_step
      try refine wpStill_nil ?_
      go_wp2_with fail;go_end0;exact⟨rfl,by rw[Pq.out];exact Vu.1,Vu.2⟩
def zjs (s:Cks)(x:Arr):Cks:=
 ((zbM s x.nm.data.toList x.at_ (2,0)).1,askC (zbM s x.nm.data.toList x.at_ (2,0)).2 (decide ((1:Int)<=x.size)&&decide (x.size<=(16:Int))) (x.at_,113))
def za5:List Arr->Cks->Cks
 | [],s=>s
 |x::r,s=>za5 r (zjs s x)
def za6:List Prc->Cks->Cks
 | [],s=>s
 |x::r,s=>za6 r (zbM s x.nm.data.toList x.at_ (4,0))
def zam:List Prc->Cks->Cks×Bool
 | [],s=>(s,false)
 |x::r,s=>if(zbB x.nm.data.toList x.params x.body x.at_ s).2.2 =0 then zam r (zbB x.nm.data.toList x.params x.body x.at_ s)else(zbB x.nm.data.toList x.params x.body x.at_ s,true)
def zbd (t:Tre):Cks:=za6 t.procs (za5 t.arrays (zaJ (1,0) t.vars (λ_=>none,(0,0))))
def fewT (t:Tre):Bool:=decide ((t.vars.length:Int)<=12)&&decide ((t.arrays.length:Int)<=4)&&decide ((t.procs.length:Int)<=8)
def zbw (t:Tre):Int×Int:=
 if okTr t then
  if fewT t then
   if(zam t.procs (zbd t)).2 then(zam t.procs (zbd t)).1.2 else zaq (zam t.procs (zbd t)).1.1 t.main (zam t.procs (zbd t)).1.2
  else(0,4)
 else(0,8)
theorem znj {t:Tre}(h:fewT t=true):t.vars.length<=12/\t.arrays.length<=4/\t.procs.length<=8:=by
 unfold fewT at h;simp only[Bool.and_eq_true,decide_eq_true_eq]at h;omega
theorem zgW {xs:List Arr}{i:Nat}{s:Cks}{a0 a1 a2 ar}(hd:xs.drop i=(⟨a0,a1,a2⟩:Arr)::ar/\xs.drop (i+1)=ar):za5 (xs.drop i) s=za5 (xs.drop (i+1)) (zjs s ⟨a0,a1,a2⟩):=by
 rw[hd.1,hd.2];rfl
theorem zgX {xs:List Prc}{i:Nat}{s:Cks}{a0 a1 a2 a3 ar}(hd:xs.drop i=(⟨a0,a1,a2,a3⟩:Prc)::ar/\xs.drop (i+1)=ar):za6 (xs.drop i) s=za6 (xs.drop (i+1)) (zbM s a0.data.toList a3 (4,0)):=by
 rw[hd.1,hd.2];rfl
def npP:List Prc->Nat
 | []=>0
 |x::r=>x.params.length+1+npP r
theorem znk {xs:List Prc}{i:Nat}{a0 a1 a2 a3 ar}(hd:xs.drop i=(⟨a0,a1,a2,a3⟩:Prc)::ar/\xs.drop (i+1)=ar):npP (xs.drop i)=a1.length+1+npP (xs.drop (i+1)):=by
 rw[hd.1,hd.2];rfl
theorem zoe {w:World}{S:Nat->Prop}{Z:Prop}:∀ {xs:List Prc} {b o:Nat},PrR w S Z xs b o->npP xs<=xs.length*140737488355329
 | [],_,_,_=>Nat.zero_le _
 |x::r,b,o,⟨_,⟨A,c,_,h⟩,_,hr⟩=>by
  have h1:=zoe hr;have h2:=h.2.1.2;simp only[npP,List.length_cons];omega
abbrev prcS (x:Prc)(s:Cks):Cks:=zbB x.nm.data.toList x.params x.body x.at_ s
theorem zlj {xs:List Prc}{i:Nat}{s:Cks}{a0 a1 a2 a3 ar}(hd:xs.drop i=(⟨a0,a1,a2,a3⟩:Prc)::ar/\xs.drop (i+1)=ar)(h:(prcS ⟨a0,a1,a2,a3⟩ s).2.2 =0):zam (xs.drop i) s=zam (xs.drop (i+1)) (prcS ⟨a0,a1,a2,a3⟩ s):=by
 rw[hd.1,hd.2];show(if _ then _ else _)=_
 rw[if_pos h]
theorem zjt {xs:List Prc}{i:Nat}{s:Cks}{a0 a1 a2 a3 ar}(hd:xs.drop i=(⟨a0,a1,a2,a3⟩:Prc)::ar/\xs.drop (i+1)=ar)(h:¬(prcS ⟨a0,a1,a2,a3⟩ s).2.2 =0):zam (xs.drop i) s=(prcS ⟨a0,a1,a2,a3⟩ s,true):=by
 rw[hd.1];show(if _ then _ else _)=_
 rw[if_neg h]
def SzP (x:Prc):Prop:=x.nm.size<=9223372036854775807/\(∀y∈x.params,y.nm.size<=9223372036854775807)/\szS x.body
def CkQ (P b N:Nat)(q:Bool)(s:Cks)(W:World)(e:Ending)(w':World):Prop:=e= .returned (.bool q)/\CkN w' P b N s.1 s.2/\Fr (CkT P b) W w'
theorem zju (P b N C:Nat)(s:Cks)(x:Prc)(A1 A2:Option Addr)(q1 q2:Nat)(w:World)(S:Nat->Prop)(Z:Prop)(hc:CkN w P b N s.1 s.2)(hk:Bk w C 134 #[.pointer (some ⟨P,0,none⟩)])(hC:¬CkT P b C)(Hx:SzP x)
  (hS:∀x,S x->x < w.heap.size/\¬CkT P b x) (hN:N+x.params.length+1 < maxLen) (s1:SlR (λb o=>VaR w S Z x.params b o) x.params.length 24 A1 q1) (s2:SlR (λb o=>StR w S Z x.body b o) x.body.len 128 A2 q2):
  Calls Tryz.prog 51 (#[.agg #[.string x.nm,.slice A1 x.params.length q1,.slice A2 x.body.len q2,.int .i64 x.at_]]++ #[.pointer (some ⟨C,0,none⟩)]) w
   (CkQ P b (N+x.params.length+1) ((prcS x s).2.2 != 0) (prcS x s) w):=by
 obtain⟨x0,x1,x2,x3⟩:=x;simp only at hN s1 s2 ⊢;have FU:Fr NoT w (w.alloc (.cells #[.string x0,.slice A1 x1.length q1,.slice A2 x2.len q2,.int .i64 x3] 63)):=aH.alloc _;have HC:=aA (zli P b N s.1 s.2 x0 x1 x2 x3 A1 A2 q1 q2 _ S Z (hc.fr0 FU) Hx.1 Hx.2.1 Hx.2.2 (λx hx=>⟨aM (hS x hx).1 FU.size,(hS x hx).2⟩) hN (s1.imp λ_ _ hx=>VaR.keep (FU.same λx hx=>⟨(hS x hx).1,id⟩) hx) (s2.imp λ_ _ hx=>StR.keep (FU.same λx hx=>⟨(hS x hx).1,id⟩) hx));obtain⟨⟨uL,at',e'⟩,hF⟩:=aF (prcS ⟨x0,x1,x2,x3⟩ s);rw[<-hF];have PS:zbB x0.data.toList x1 x2 x3 (s.1,s.2)=(uL,at',e'):=hF.symm;rw[PS]at HC;have c0:=hk.cell 0;have hl:=hk.lt;simp only[aD]at c0;have HK:=aA (hk.fr0 FU);have G0:=aA (FU.any:Fr (CkT P b) w _);have NO:=aA hC;obtain⟨p,hp⟩:=aF ((e' != 0));have J0:=hp.symm;simp only;rw[J0];clear hF PS hk hC hc Hx hS hN s1 s2 FU hp;go_enter Tryz.func51,Tryz.ntmps51;go_wp2_with fail;refine HC.mono ?_;rintro _ w2 ⟨rfl,h2,He⟩;have GS:=HK.fr He NO.out;have d0:=GS.cell 0;have FM:=GS.lt;have hbx:=h2.box;have p2:=hbx.cell 2;have pl:=hbx.lt;simp only[aD]at d0 p2;have HN:=aA (aG h2 (G0.trans He));clear h2 He GS hbx c0;go_wp2_with fail;go_ret;exact⟨rfl,HN.1,HN.2⟩
theorem zlk (P b N C:Nat)(s0:Cks)(xs:List Prc)(A:Option Addr)(c:Nat)(w:World)(S:Nat->Prop)(Z:Prop)(hc:CkN w P b N s0.1 s0.2)(hk:Bk w C 134 #[.pointer (some ⟨P,0,none⟩)])(hC:¬CkT P b C)(Hx:∀x∈xs,SzP x)
  (hS:∀x,S x->x < w.heap.size/\¬CkT P b x) (hN:N+npP xs < maxLen) (hx:SlR (λb o=>PrR w S Z xs b o) xs.length 72 A c):
  Calls Tryz.prog 100 #[.slice A xs.length c,.func (.func 51) #[] #[.pointer (some ⟨C,0,none⟩)]] w λe w'=>
   ∃n:Int,decide (0<=n)=(zam xs s0).2 /\e= .returned (.int .i64 n)/\CkN w' P b (N+npP xs) (zam xs s0).1.1 (zam xs s0).1.2 /\Fr (CkT P b) w w':=by
 have hl:xs.length<=9223372036854775807:=aK hx.1 hx.2.1.1;have hent:Enters Tryz.prog 51:=enters_of Tryz.func51 (by kernel_rfl) rfl;obtain⟨⟨F1,F2⟩,hF⟩:=aF (zam xs s0);rw[<-hF];simp only;have HF:=aA hF;have HX:=aA hx;have HS:=aA hS;have HC:=aA hc;have HK:=aA hk;have NO:=aA hC;have MB:=aA Hx;have HN:=aA hN;obtain⟨m,hm⟩:=aF xs.length;rw[<-hm]at hl ⊢;have HM:=aA hm;clear hF hx hS hc hk hC Hx hN hm;unfold Enters at hent;go_enter Tryz.func100,Tryz.ntmps100;go_wp2_with fail;go_loopw [8] (λi wr=>∃(k N':Nat)(s:Cks),k<=m/\i= .int .i64 k/\Hid (Fr (CkT P b) w wr)/\Hid (CkN wr P b N' s.1 s.2)/\Hid (N'+npP (xs.drop k)=N+npP xs)/\Hid ((F1,F2)=zam (xs.drop k) s)) (λi _=>m - (intOf i).toNat);case atStart=>exact⟨0,N,s0,Nat.zero_le _,rfl,aH,HC.out,rfl,HF.out⟩
 case round=>
  obtain⟨k,N',s,hk,rfl,hb,FJ,hn,Hb⟩:=hrel;by_cases Hk:k < m
  ·obtain⟨⟨a0,a1,a2,a3⟩,ar,hd⟩:=zao (show k < xs.length from by rw[<-HM.out];exact Hk);obtain⟨B,o,rfl,Hg⟩:=HX.2.2 (by rw[<-HM.out];omega);have Hq:=(PrR.keep (hb.same λb hb=>HS b hb) Hg).drop k;rw[hd.1]at Hq;obtain⟨⟨Gn,_,_,c0,c3⟩,⟨A1,q1,c1,s1⟩,⟨A2,q2,c2,s2⟩,_⟩:=Hq;have JC:B < wr.heap.size:=aM (HS _ Gn).1 hb.size;have Gj:(k:Int) < (m:Int):=by omega
   have G9:(0:Int)<=(k:Int):=by omega
   simp only at c0 c1 c2 c3 s1 s2;have NX:=znk hd;have PB:=hn.out;have vS:=HN.out;have JB:=aA (zju P b N' C s ⟨a0,a1,a2,a3⟩ A1 A2 q1 q2 wr S Z FJ.out (HK.fr hb.out NO.out) NO.out (MB _ (za4 hd.1)) (λx hx=>⟨aM (HS x hx).1 hb.size,(HS x hx).2⟩) (by simp only;omega) s1 s2);have jP:N'+a1.length+1+npP (xs.drop (k+1))=N+npP xs:=by omega
   have Sh:=aA jP;obtain⟨s',S9⟩:=aF (prcS ⟨a0,a1,a2,a3⟩ s);rw[<-S9]at JB;have WH:=aA (λ(h:s'.2.2=0)=>Hb.trans ((zlj hd (S9▸h)).trans (by rw[<-S9])));have NA:=aA (λ(h:¬s'.2.2=0)=>Hb.trans ((zjt hd (S9▸h)).trans (by rw[<-S9])));have HB:=aA hb.out;simp only at JB;clear hd Hg Hb hb Gn s1 s2 FJ hn PB vS NX S9 jP;obtain⟨uL,at',e'⟩:=s';simp only at JB WH NA;obtain⟨p,hp⟩:=aF ((e' != 0));rw[<-hp]at JB;have HP:=aA hp;clear hp;go_wp2_with fail;refine JB.mono ?_;rintro _ w1 ⟨rfl,h1,Hd⟩;have Gw:=aA (HB.trans Hd);have H1:=aA h1;clear h1 Hd c0 c1 c2 c3;cases p
   ·have he:e'=0:=by have:=HP.out;simpa using this
    have Gb:=aA (WH he);clear he;go_wp2_with fail;go_roundw;case rel=>exact⟨k+1,N'+a1.length+1,(uL,at',e'),by omega,by go_num,Gw.out,H1.out,Sh.out,Gb.out⟩
    case measure=>simp[intOf];omega
   ·have he:¬e'=0:=by have:=HP.out;simpa using this
    have Gb:=aA (NA he);clear he;go_wp2_with fail;go_ret;obtain⟨f1,f2⟩:=Prod.mk.inj Gb.out;refine⟨k,by rw[f2];simp,rfl,?_,Gw.out⟩;rw[f1];exact H1.mono (by have:=Sh.out;omega)
  ·have hz:zam (xs.drop k) s=(s,false):=by rw[List.drop_eq_nil_of_le (by rw[<-HM.out];omega)];rfl
   have Gb:=aA (Hb.trans hz);have HB:=aA hb.out;have LP:=aA FJ.out;have ZI:=aA hn.out;clear Hb hb FJ hn hz;go_wp2_with fail;go_ret;obtain⟨f1,f2⟩:=Prod.mk.inj Gb.out;refine⟨-1,by rw[f2];simp,rfl,?_,HB.out⟩;rw[f1];exact LP.mono (by have:=ZI.out;omega)
theorem zll (P b N C:Nat)(s0:Cks)(xs:List Prc)(A:Option Addr)(c:Nat)(w:World)(S:Nat->Prop)(Z:Prop)(hc:CkN w P b N s0.1 s0.2)(hk:Bk w C 134 #[.pointer (some ⟨P,0,none⟩)])(hC:¬CkT P b C)(Hx:∀x∈xs,SzP x)
  (hS:∀x,S x->x < w.heap.size/\¬CkT P b x) (hN:N+npP xs < maxLen) (hx:SlR (λb o=>PrR w S Z xs b o) xs.length 72 A c):
  Calls Tryz.prog 50 #[.slice A xs.length c,.func (.func 51) #[] #[.pointer (some ⟨C,0,none⟩)]] w
   (CkQ P b (N+npP xs) (zam xs s0).2 (zam xs s0).1 w):=by
 have HC:=aA (zlk P b N C s0 xs A c w S Z hc hk hC Hx hS hN hx);clear hc hk hC Hx hS hN hx;go_enter Tryz.func50,Tryz.ntmps50;go_wp2_with fail;refine HC.mono ?_;rintro e w1 ⟨n,hn,rfl,h1,Hd⟩;have HN:=aA hn;have H1:=aA (aG h1 Hd);clear hn h1 Hd;go_wp2_with fail;go_ret;exact⟨by rw[<-HN.out];rfl,H1.out⟩
def AtE (p:Int×Int)(W:World)(e:Ending)(w':World):Prop:=e= .returned (.tuple #[.int .i64 p.1,.int .i64 p.2])/\Fr NoT W w'
theorem zlm (t:Tre)(w:World)(S:Nat->Prop)(Z:Prop)(Av Aa Ap Am:Option Addr)(cv ca cp cm:Nat)(he:SpEnv w)(hS:∀b,S b->b < w.heap.size)(Hx:SzT t)(hx:TrR w S Z t Av Aa Ap Am cv ca cp cm)(ht:okTr t=false):
  Calls Tryz.prog 22 #[trV t Av Aa Ap Am cv ca cp cm] w (AtE (0,8) w):=by
 have Hd:Fr NoT w (w.alloc (.cells #[.slice Av t.vars.length cv,.slice Aa t.arrays.length ca,.slice Ap t.procs.length cp,.slice Am t.main.len cm] 27)):=aH.alloc _;have h1:=zdp t _ S Z Av Aa Ap Am cv ca cp cm (he.keep Hd.plain) (λb hb=>aM (hS b hb) Hd.size) Hx (hx.keep (Hd.same λb hb=>⟨hS b hb,id⟩));rw[ht]at h1;have H1:=aA h1;have Hl:=aA Hd;unfold trV at H1 ⊢;clear Hd h1 hx Hx hS he ht;go_enter Tryz.func22,Tryz.ntmps22;go_wp2_with fail;refine H1.mono ?_;rintro _ w1 ⟨rfl,hb⟩;have HB:=aA (Hl.trans hb);clear hb;simp only[Bool.false_eq_true,if_false];go_wp2_with fail
 go_ret2
 exact⟨rfl,HB.out⟩
theorem zjv (t:Tre)(w:World)(S:Nat->Prop)(Z:Prop)(Av Aa Ap Am:Option Addr)(cv ca cp cm:Nat)(he:SpEnv w)(hS:∀b,S b->b < w.heap.size)(Hx:SzT t)(hx:TrR w S Z t Av Aa Ap Am cv ca cp cm)(ht:okTr t=true)(hf:fewT t=false):
  Calls Tryz.prog 22 #[trV t Av Aa Ap Am cv ca cp cm] w (AtE (0,4) w):=by
 have Hd:Fr NoT w (w.alloc (.cells #[.slice Av t.vars.length cv,.slice Aa t.arrays.length ca,.slice Ap t.procs.length cp,.slice Am t.main.len cm] 27)):=aH.alloc _;have h1:=zdp t _ S Z Av Aa Ap Am cv ca cp cm (he.keep Hd.plain) (λb hb=>aM (hS b hb) Hd.size) Hx (hx.keep (Hd.same λb hb=>⟨hS b hb,id⟩));rw[ht]at h1;have H1:=aA h1;have Hl:=aA Hd;have K0:=aA (Bk.new w 27 #[.slice Av t.vars.length cv,.slice Aa t.arrays.length ca,.slice Ap t.procs.length cp,.slice Am t.main.len cm]);have l1:t.vars.length<=9223372036854775807:=aK hx.vars.1 hx.vars.2.1.1;have l2:t.arrays.length<=9223372036854775807:=aK hx.arrays.1 hx.arrays.2.1.1;have l3:t.procs.length<=9223372036854775807:=aK hx.procs.1 hx.procs.2.1.1;unfold fewT at hf;unfold trV at H1 ⊢;obtain⟨n1,FW⟩:=aF t.vars.length;obtain⟨n2,JT⟩:=aF t.arrays.length;obtain⟨n3,Nn⟩:=aF t.procs.length;rw[<-FW]at hf l1 H1 Hl K0 ⊢;rw[<-JT]at hf l2 H1 Hl K0 ⊢;rw[<-Nn]at hf l3 H1 Hl K0 ⊢;have LA:12 < n1\/(n1<=12/\4 < n2)\/(n1<=12/\n2<=4/\8 < n3):=by
  simp only[Bool.and_eq_false_iff,decide_eq_false_iff_not]at hf;omega
 clear Hd h1 hx Hx hS he ht hf FW JT Nn;have Uj:(decide ((12:Int) < n1)=true)\/(decide ((12:Int) < n1)=false/\decide ((4:Int) < n2)=true)\/(decide ((12:Int) < n1)=false/\decide ((4:Int) < n2)=false/\decide ((8:Int) < n3)=true):=by
  simp only[decide_eq_true_eq,decide_eq_false_iff_not];omega
 clear LA;rcases Uj with e1|⟨e1,e2⟩|⟨e1,e2,e3⟩;all_goals
  go_enter Tryz.func22,Tryz.ntmps22;go_wp2_with fail;refine H1.mono ?_;rintro _ w1 ⟨rfl,hb⟩;have HB:=aA (Hl.trans hb);obtain⟨x0,x1,x2,x3,Fw⟩:=bk4 (K0.fr0 hb);clear hb;simp only[if_true];go_wp2_with fail
  go_ret2
  exact⟨rfl,HB.out⟩
theorem CkN.made (w:World):CkN (((w.alloc (.map #[] 0)).alloc (.cells #[.map (some w.heap.size),.int .i64 0,.int .i64 0] 137)).alloc (.cells #[.pointer (some ⟨w.heap.size+1,0,none⟩)] 134)) (w.heap.size+1) w.heap.size 0 (λ_=>none) (0,0):=by
 have h1:=KnM.made w;have hf:Fr NoT (w.alloc (.map #[] 0)) (((w.alloc (.map #[] 0)).alloc (.cells #[.map (some w.heap.size),.int .i64 0,.int .i64 0] 137)).alloc (.cells #[.pointer (some ⟨w.heap.size+1,0,none⟩)] 134)):=(aH.alloc _).alloc _;exact⟨0,aL _,⟨(Bk.new_at _ _ _ (by simp)).alloc _,h1.fr hf id,by omega⟩⟩
def ConPr (xs:List Prc):Prop:=∀(P b N C:Nat)(s0:Cks)(A:Option Addr)(c:Nat)(w:World)(S:Nat->Prop)(Z:Prop),CkN w P b N s0.1 s0.2->Bk w C 134 #[.pointer (some ⟨P,0,none⟩)]->¬CkT P b C->(∀x∈xs,SzP x)->
  (∀x,S x->x < w.heap.size/\¬CkT P b x)->N+npP xs < maxLen->SlR (λb o=>PrR w S Z xs b o) xs.length 72 A c->
  Calls Tryz.prog 50 #[.slice A xs.length c,.func (.func 51) #[] #[.pointer (some ⟨C,0,none⟩)]] w (CkQ P b (N+npP xs) (zam xs s0).2 (zam xs s0).1 w)
theorem zln (t:Tre)(w:World)(S:Nat->Prop)(Z:Prop)(Av Aa Ap Am:Option Addr)(cv ca cp cm:Nat)(hS:∀b,S b->b < w.heap.size)(Hx:SzT t)(hx:TrR w S Z t Av Aa Ap Am cv ca cp cm)(ht:okTr t=true)(hf:fewT t=true)(TK:∀W,Fr NoT w W->Calls Tryz.prog 47 #[trV t Av Aa Ap Am cv ca cp cm] W (ErrI 0 W))(WI:ConPr t.procs):
  Calls Tryz.prog 22 #[trV t Av Aa Ap Am cv ca cp cm] w (AtE (zbw t) w):=by
 have hT:zbw t=if(zam t.procs (zbd t)).2 then(zam t.procs (zbd t)).1.2 else zaq (zam t.procs (zbd t)).1.1 t.main (zam t.procs (zbd t)).1.2 :=by
  unfold zbw;rw[if_pos ht,if_pos hf]
 unfold zbd at hT;obtain⟨⟨F1,F2⟩,hF⟩:=aF (zbw t);rw[<-hF]at hT ⊢;have Hd:Fr NoT w (w.alloc (.cells #[.slice Av t.vars.length cv,.slice Aa t.arrays.length ca,.slice Ap t.procs.length cp,.slice Am t.main.len cm] 27)):=aH.alloc _;have h1:=TK _ Hd;have H1:=aA h1;have Hl:=aA Hd;have K0:=aA (Bk.new w 27 #[.slice Av t.vars.length cv,.slice Aa t.arrays.length ca,.slice Ap t.procs.length cp,.slice Am t.main.len cm]);have Fl:=znj hf;have M1:npP t.procs<=1125899906842632:=by
  by_cases h0:t.procs.length=0
  ·have:t.procs= []:=List.eq_nil_of_length_eq_zero h0;rw[this];exact Nat.zero_le _
  ·obtain⟨b,o,_,h2⟩:=hx.procs.2.2 (by omega);exact aK (zoe h2) (Nat.mul_le_mul_right _ Fl.2.2)
 unfold trV at H1 ⊢;have HX:=aA hx;have HS:=aA hS;have MB:=aA Hx;have HT:=aA hT;have Uk:=aA WI;obtain⟨n1,FW⟩:=aF t.vars.length;obtain⟨n2,JT⟩:=aF t.arrays.length;obtain⟨n3,Nn⟩:=aF t.procs.length;obtain⟨n4,PZ⟩:=aF t.main.len;obtain⟨np,Ul⟩:=aF (npP t.procs);rw[<-Ul]at M1;rw[<-FW]at Fl H1 Hl K0 ⊢;rw[<-JT]at Fl H1 Hl K0 ⊢;rw[<-Nn]at Fl H1 Hl K0 ⊢;rw[<-PZ]at H1 Hl K0 ⊢;have Z1:=aA FW;have Sh:=aA JT;have ME:=aA Nn;have vU:=aA PZ;have Si:=aA Ul;obtain⟨q1,q2,q3⟩:=Fl;have e1:decide ((12:Int) < n1)=false:=by simp;omega
 have e2:decide ((4:Int) < n2)=false:=by simp;omega
 have e3:decide ((8:Int) < n3)=false:=by simp;omega
 have KN:= @run_makeMap Tryz.prog;have JI:= @makeF Tryz.prog;have hent:Enters Tryz.prog 101:=enters_of Tryz.func101 (by kernel_rfl) rfl;unfold Enters at hent;have jQ:=aA (rfl:w.heap.size=w.heap.size);clear Hd h1 hx Hx hS ht hf TK WI FW JT Nn PZ Ul hT hF;go_enter Tryz.func22,Tryz.ntmps22;go_wp2_with fail;refine H1.mono ?_;rintro _ w1 ⟨rfl,hb⟩;have Fo:=K0.fr0 hb;obtain⟨b,F3⟩:=aF w1.heap.size;obtain⟨w4,Fv⟩:=aF (((w1.alloc (.map #[] 0)).alloc (.cells #[.map (some w1.heap.size),.int .i64 0,.int .i64 0] 137)).alloc (.cells #[.pointer (some ⟨w1.heap.size+1,0,none⟩)] 134));have HJ:Fr NoT w1 w4:=by rw[Fv];exact((aH.alloc _).alloc _).alloc _
 have jR:CkN w4 (w1.heap.size+1) w1.heap.size 0 (λ_=>none) (0,0):=by rw[Fv];exact CkN.made w1
 have jS:Bk w4 (w1.heap.size+1+1) 134 #[.pointer (some ⟨w1.heap.size+1,0,none⟩)]:=by rw[Fv];exact Bk.new_at _ _ _ (by simp)
 obtain⟨x0,x1,x2,x3,Fw⟩:=bk4 Fo;have GG:=aA ((Hl.trans hb).trans HJ);have LO:=aA (Fo.fr0 HJ);have NP:=aA Fv;have Q0:=aA jR;have NY:=aA jS;have MC:=aA (HX.keep (GG.same λb hb=>⟨HS b hb,id⟩));have Kp:=aA (show ∀x,S x->x < w4.heap.size/\¬CkT (w1.heap.size+1) w1.heap.size x from λx hx=>⟨aM (HS x hx) GG.size,λe=>by
  have h1:=HS x hx;have h2:=(Hl.trans hb).size;rcases e with e|e<;>omega⟩)
 have Kl:=aA (show ¬CkT (w1.heap.size+1) w1.heap.size w.heap.size from λe=>by rcases e with e|e<;>omega);have NO:=aA (show ¬CkT (w1.heap.size+1) w1.heap.size (w1.heap.size+1+1)from λe=>by rcases e with e|e<;>omega);have Z2:=aA (show ∀W,Fr (CkT (w1.heap.size+1) w1.heap.size) w4 W->Fr NoT w W from λW h=>by
  have h2:=(Hl.trans hb).size;exact⟨h.os.trans GG.os,h.tape.trans GG.tape,h.output.trans GG.output,aK GG.size h.size,λi hi _=>(h.block i (aM hi GG.size) (λe=>by rcases e with e|e<;>omega)).trans (GG.block i hi id)⟩)
 have m0:=LO.cell 0;rw[Fv]at m0;simp only[aD]at m0;clear hb Fo Fv HJ jR jS;have Rz:=aA F3;clear F3;simp only[if_true];go_wp2_with fail;rw[<-NP.out];have F3:=Rz.out;rw[<-F3]at Q0 NY Kp Kl NO Z2 ⊢;clear F3;clear m0 x0 x1 x2 x3 Fw H1 Hl K0 Rz;go_loopw [38] (λi wr=>∃(k:Nat)(s:Cks),k<=n1/\i= .int .i64 k/\Hid (Fr (CkT (b+1) b) w4 wr)/\Hid (CkN wr (b+1) b k s.1 s.2)/\Hid (zaJ (1,0) t.vars (λ_=>none,(0,0))=zaJ (1,0) (t.vars.drop k) s)) (λi _=>n1 - (intOf i).toNat);case atStart=>exact⟨0,(λ_=>none,(0,0)),Nat.zero_le _,rfl,aH,Q0.out,rfl⟩
 case round=>
  obtain⟨k,s,hk,rfl,hb,FJ,Hb⟩:=hrel;have K8:=NY.fr hb.out NO.out;have d0:=K8.cell 0;have dl:=K8.lt;simp only[aD]at d0;clear K8;by_cases Hk:k < n1
  ·obtain⟨⟨a0,a1⟩,ar,hd⟩:=zao (show k < t.vars.length from by rw[<-Z1.out];exact Hk);obtain⟨B,o,rfl,Hg⟩:=MC.vars.2.2 (by rw[<-Z1.out];omega);have Hq:=(VaR.keep (hb.same λx hx=>Kp x hx) Hg).drop k;rw[hd.1]at Hq;obtain⟨⟨Gn,_,r1,c0,c1⟩,_⟩:=Hq;have JC:B < wr.heap.size:=aM (Kp _ Gn).1 hb.size;have Gj:(k:Int) < (n1:Int):=by omega
   have G9:(0:Int)<=(k:Int):=by omega
   simp only at c0 c1;have He:Fr NoT wr (wr.alloc (.cells #[.string a0,.int .i64 a1] 77)):=aH.alloc _;have J9:=zbz (b+1) b k s.1 s.2 a0 a1 (1,0) _ (FJ.fr0 He) (MB.vars _ (za4 hd.1)) (by unfold maxLen;omega);unfold thV at J9;simp only at J9;have HD:=aA J9;have Gb:=aA (Hb.trans (zey hd));have HB:=aA (hb.trans (He.any:Fr (CkT (b+1) b) wr _));clear hd Hg Hb hb Gn FJ He J9;go_wp2_with fail;refine HD.mono ?_;rintro _ w3 ⟨rfl,h3,Gg⟩;have ME:=aA (aG h3 (HB.trans Gg));clear h3 Gg c0 c1;go_wp2_with fail;go_roundw;case rel=>exact⟨k+1,zbM s a0.data.toList a1 (1,0),by omega,by go_num,ME.2,ME.1,Gb.out⟩
   case measure=>simp[intOf];omega
  ·obtain rfl:k=n1:=by omega
   have F7:zaJ (1,0) t.vars (λ_=>none,(0,0))=s:=by rw[Hb.out,List.drop_eq_nil_of_le (by rw[<-Z1.out];omega)];rfl
   have Ny:=aA F7;have Gj:¬(k:Int) < (k:Int):=by omega
   obtain⟨x0,x1,x2,x3,Fw⟩:=bk4 (LO.fr hb.out Kl.out);have HB:=aA hb.out;have LP:=aA FJ.out;clear Hb F7 hb FJ d0 dl;go_wp2_with fail;clear x0 x1 x2 x3 Fw;obtain⟨wo,rfl⟩:∃wo:World,wo=wr:=⟨_,rfl⟩;go_loopw [53] (λi wr=>∃(j:Nat)(sj:Cks),j<=n2/\i= .int .i64 j/\Hid (Fr (CkT (b+1) b) w4 wr)/\Hid (CkN wr (b+1) b (k+j) sj.1 sj.2)/\Hid (za5 t.arrays s=za5 (t.arrays.drop j) sj)) (λi _=>n2 - (intOf i).toNat);case atStart=>exact⟨0,s,Nat.zero_le _,rfl,HB.out,LP.out,rfl⟩
   case round=>
    clear HB LP;obtain⟨j,sj,hj,rfl,hb,FJ,Hb⟩:=hrel;have K8:=NY.fr hb.out NO.out;have d0:=K8.cell 0;have dl:=K8.lt;simp only[aD]at d0;clear K8;by_cases Hk:j < n2
    ·obtain⟨⟨a0,a1,a2⟩,ar,hd⟩:=zao (show j < t.arrays.length from by rw[<-Sh.out];exact Hk);obtain⟨B,o,rfl,Hg⟩:=MC.arrays.2.2 (by rw[<-Sh.out];omega);have Hq:=(ArR.keep (hb.same λx hx=>Kp x hx) Hg).drop j;rw[hd.1]at Hq;obtain⟨⟨Gn,_,r1,r2,c0,c1,c2⟩,_⟩:=Hq;have JC:B < wr.heap.size:=aM (Kp _ Gn).1 hb.size;have Sj:(j:Int) < (n2:Int):=by omega
     have Z3:(0:Int)<=(j:Int):=by omega
     simp only at c0 c1 c2;obtain⟨w2,Gc⟩:=aF (wr.alloc (.cells #[.string a0,.int .i64 a1,.int .i64 a2] 61));have He:Fr NoT wr w2:=by rw[Gc];exact aH.alloc _
     have GS:Bk w2 wr.heap.size 61 #[.string a0,.int .i64 a1,.int .i64 a2]:=by rw[Gc];exact Bk.new _ _ _
     have J9:=zbz (b+1) b (k+j) sj.1 sj.2 a0 a2 (2,0) w2 (FJ.fr0 He) (MB.arrays _ (za4 hd.1)) (by unfold maxLen;omega);unfold thV at J9;simp only at J9;have U4:=FJ.lt;have YZ:=aA (show ¬CkT (b+1) b wr.heap.size from λe=>by rcases e with e|e<;>omega);have HD:=aA J9;have Gb:=aA (Hb.trans (zgW hd));have HB:=aA (hb.trans (He.any:Fr (CkT (b+1) b) wr _));have JE:=aA GS;have Kz:=aA Gc;obtain⟨p1,Ks⟩:=aF (decide ((1:Int)<=a1));obtain⟨p2,J0⟩:=aF (decide (a1<=(16:Int)));have HP:=aA (show zjs sj ⟨a0,a1,a2⟩=((zbM sj a0.data.toList a2 (2,0)).1,askC (zbM sj a0.data.toList a2 (2,0)).2 (p1&&p2) (a2,113))from by rw[Ks,J0];rfl);have g1:=Ks.symm;have g2:=J0.symm;clear hd Hg Hb hb Gn FJ He J9 GS Gc Ks J0 U4;cases p1;all_goals cases p2
     all_goals
      go_wp2_with fail;rw[<-Kz.out];refine HD.mono ?_;rintro _ w3 ⟨rfl,h3,Gg⟩;have Jc:=JE.fr Gg YZ.out;have y1:=Jc.cell 1;have y2:=Jc.cell 2;have yl:=Jc.lt;have K8:=NY.fr (HB.trans Gg) NO.out;have d3:=K8.cell 0;have Ed:=K8.lt;simp only[aD]at y1 y2 d3;have Uh:=aA (λis=>zew (b+1) b _ _ _ is a2 113 w3 h3);have QB:=aA (HB.trans Gg);clear h3 Gg Jc K8 c0 c1 c2 d0 dl JC;go_wp2_with fail;refine(Uh _).mono ?_;rintro _ w5 ⟨rfl,h5,Hm⟩;have jT:=aA (aG h5 (QB.trans Hm));clear h5 Hm y1 y2 d3;go_wp2_with fail;go_roundw;case rel=>exact⟨j+1,zjs sj ⟨a0,a1,a2⟩,by omega,by go_num,jT.2,by rw[HP.out];exact jT.1,Gb.out⟩
      case measure=>simp[intOf];omega
    ·obtain rfl:j=n2:=by omega
     have F7:za5 t.arrays s=sj:=by rw[Hb.out,List.drop_eq_nil_of_le (by rw[<-Sh.out];omega)];rfl
     have Ki:=aA F7;have Sj:¬(j:Int) < (j:Int):=by omega
     obtain⟨x0,x1,x2,x3,Fw⟩:=bk4 (LO.fr hb.out Kl.out);have HB:=aA hb.out;have LP:=aA FJ.out;clear Hb F7 hb FJ d0 dl;go_wp2_with fail;clear x0 x1 x2 x3 Fw;obtain⟨wq,rfl⟩:∃wq:World,wq=wr:=⟨_,rfl⟩;go_loopw [80] (λi wr=>∃(l:Nat)(sl:Cks),l<=n3/\i= .int .i64 l/\Hid (Fr (CkT (b+1) b) w4 wr)/\Hid (CkN wr (b+1) b (k+j+l) sl.1 sl.2)/\Hid (za6 t.procs sj=za6 (t.procs.drop l) sl)) (λi _=>n3 - (intOf i).toNat);case atStart=>exact⟨0,sj,Nat.zero_le _,rfl,HB.out,LP.out,rfl⟩
     case round=>
      clear HB LP;obtain⟨l,sl,hl,rfl,hb,FJ,Hb⟩:=hrel;have K8:=NY.fr hb.out NO.out;have d0:=K8.cell 0;have dl:=K8.lt;simp only[aD]at d0;have Um:=aA K8;clear K8;by_cases Hk:l < n3
      ·obtain⟨⟨a0,a1,a2,a3⟩,ar,hd⟩:=zao (show l < t.procs.length from by rw[<-ME.out];exact Hk);obtain⟨B,o,rfl,Hg⟩:=MC.procs.2.2 (by rw[<-ME.out];omega);have Hq:=(PrR.keep (hb.same λx hx=>Kp x hx) Hg).drop l;rw[hd.1]at Hq;obtain⟨⟨Gn,_,r1,c0,c3⟩,⟨A1,q1,c1,_⟩,⟨A2,q2,c2,_⟩,_⟩:=Hq;have JC:B < wr.heap.size:=aM (Kp _ Gn).1 hb.size;have Z4:(l:Int) < (n3:Int):=by omega
       have vW:(0:Int)<=(l:Int):=by omega
       simp only at c0 c1 c2 c3;have He:Fr NoT wr (wr.alloc (.cells #[.string a0,.slice A1 a1.length q1,.slice A2 a2.len q2,.int .i64 a3] 63)):=aH.alloc _;have J9:=zbz (b+1) b (k+j+l) sl.1 sl.2 a0 a3 (4,0) _ (FJ.fr0 He) (MB.procs _ (za4 hd.1)).1 (by unfold maxLen;omega);unfold thV at J9;simp only at J9;have HD:=aA J9;have Gb:=aA (Hb.trans (zgX hd));have HB:=aA (hb.trans (He.any:Fr (CkT (b+1) b) wr _));clear hd Hg Hb hb Gn FJ He J9;go_wp2_with fail;refine HD.mono ?_;rintro _ w3 ⟨rfl,h3,Gg⟩;have WJ:=aA (aG h3 (HB.trans Gg));clear h3 Gg c0 c1 c2 c3;go_wp2_with fail;go_roundw;case rel=>exact⟨l+1,zbM sl a0.data.toList a3 (4,0),by omega,by go_num,WJ.2,WJ.1,Gb.out⟩
       case measure=>simp[intOf];omega
      ·obtain rfl:l=n3:=by omega
       have F7:za6 t.procs sj=sl:=by rw[Hb.out,List.drop_eq_nil_of_le (by rw[<-ME.out];omega)];rfl
       have Z4:¬(l:Int) < (l:Int):=by omega
       obtain⟨x0,x1,x2,x3,Fw⟩:=bk4 (LO.fr hb.out Kl.out);have ML:∀W,Fr (CkT (b+1) b) w4 W->∀x,S x->x < W.heap.size/\¬CkT (b+1) b x:=λW h x hx=>⟨aM (Kp x hx).1 h.size,(Kp x hx).2⟩;have Z5:∀W,Fr (CkT (b+1) b) w4 W->TrR W S Z t Av Aa Ap Am cv ca cp cm:=λW h=>MC.keep (h.same λx hx=>Kp x hx);have Sk:=aA (Uk (b+1) b (k+j+l) (b+1+1) sl Ap cp wr S Z FJ.out Um.out NO.out (λx hx=>MB.procs x hx) (ML _ hb.out) (by have:=Si.out;unfold maxLen;omega) (Z5 _ hb.out).procs);rw[<-ME.out]at Sk;have GU:=HT.out;rw[Ny.out,Ki.out,F7]at GU;obtain⟨⟨⟨kz,az,ez⟩,q⟩,Yi⟩:=aF (zam t.procs sl);rw[<-Yi]at GU Sk;simp only at GU;have jU:=aA GU;have ZD:=aA ML;have vX:=aA Z5;have HB:=aA hb.out;obtain⟨NN,jV⟩:=aF (k+j+l+npP t.procs);rw[<-jV]at Sk;clear Hb F7 hb FJ GU Yi ML Z5 Um jV;go_wp2_with fail;refine Sk.mono ?_;rintro _ w5 ⟨rfl,h5,Hm⟩;have Sl:=HB.trans Hm;have K8:=NY.fr Sl NO.out;have jW:=LO.fr Sl Kl.out;have Mm:=aA Sl;have H5:=aA h5;have Um:=aA K8;have jX:=aA jW;clear Sl K8 jW h5 Hm x0 x1 x2 x3 Fw d0 dl;cases q
       ·have Un:=jU.out;simp only[Bool.false_eq_true,if_false]at Un;have He:Fr NoT w5 w5.drew:=aH.drew;have ZX:=aA (zfn (b+1) b w5.drew (H5.fr0 He).lt.1 (H5.fr0 He).lt.2);have Gu:=λ(B1 B2:Nat)(W:World)(h:Fr NoT w5.drew W)(hw:WkAt W (b+1) b B1 B2)=>zfm kz t.main MB.main (b+1) b NN B1 B2 (az,ez) W S Z Am cm ((H5.fr0 He).fr0 h) hw (ZD W (Mm.trans ((He.trans h).any))) (vX W (Mm.trans ((He.trans h).any))).main;rw[<-Un,<-vU.out]at Gu;have ZY:=aA Gu;have WG:=aA He;have d5:=Um.cell 0;have Dk:=Um.lt;simp only[aD]at d5;obtain⟨x0,x1,x2,x3,Fw⟩:=bk4 jX.out;clear Un Gu He;go_wp2_with fail
        go_region_law
         (first
          |(go_simp
            go_at_call 53
            with_reducible refine ZX.out.mono ?_
            rintro _ w6 ⟨B1,B2,rfl,FO,GA⟩;have Uo:=(jX.fr0 WG.out).fr0 GA;have g3:=Uo.cell 3;have gl:=Uo.lt;simp only[aD]at g3;have ZZ:=aA (ZY B1 B2 w6 GA FO);have G1:=aA (WG.trans GA);clear FO GA Uo;dsimp only)
          |(go_simp
            go_at_call 101
            with_reducible refine ZZ.out.mono ?_
            rintro _ w7 ⟨rfl,h7,Hs⟩;have vY:=aA h7;have Fp:=aA (Mm.trans ((G1.any:Fr (CkT (b+1) b) w5 _).trans Hs));clear h7 Hs;dsimp only))
        all_goals
         have Up:=NY.fr Fp.out NO.out;have d7:=Up.cell 0;have Ee:=Up.lt;have hbx:=vY.box;have p1:=hbx.cell 1;have p2:=hbx.cell 2;have pl:=hbx.lt;simp only[aD]at d7 p1 p2;clear Up hbx d5 Dk x0 x1 x2 x3 Fw;try clear g3 gl
         go_wp2_with fail
         go_quiet (fail)
         go_wp2_with fail
         go_ret2
         exact⟨rfl,(Z2 _ Fp.out).drewN _⟩
       ·have Un:=jU.out;simp only[if_true]at Un;obtain⟨rfl,rfl⟩:=Prod.mk.inj Un;have d5:=Um.cell 0;have Dk:=Um.lt;have hbx:=H5.box;have p1:=hbx.cell 1;have p2:=hbx.cell 2;have pl:=hbx.lt;simp only[aD]at d5 p1 p2;clear Un hbx;go_wp2_with fail
        go_quiet (fail)
        go_wp2_with fail
        go_ret2
        exact⟨rfl,(Z2 _ Mm.out).drewN _⟩
theorem zlo (t:Tre)(w:World)(S:Nat->Prop)(Z:Prop)(Av Aa Ap Am:Option Addr)(cv ca cp cm:Nat)(he:SpEnv w)(hS:∀b,S b->b < w.heap.size)(Hx:SzT t)(hx:TrR w S Z t Av Aa Ap Am cv ca cp cm):
  Calls Tryz.prog 22 #[trV t Av Aa Ap Am cv ca cp cm] w (AtE (zbw t) w):=by
 cases h1:okTr t with
 |false=>
  have h:=zlm t w S Z Av Aa Ap Am cv ca cp cm he hS Hx hx h1;have e:zbw t=(0,8):=by unfold zbw;rw[if_neg (by simp[h1])]
  rw[e];exact h
 |true=>
  cases h2:fewT t with
  |false=>
   have h:=zjv t w S Z Av Aa Ap Am cv ca cp cm he hS Hx hx h1 h2;have e:zbw t=(0,4):=by unfold zbw;rw[if_pos h1,if_neg (by simp[h2])]
   rw[e];exact h
  |true=>
   refine zln t w S Z Av Aa Ap Am cv ca cp cm hS Hx hx h1 h2 (λW hf=>?_) λP b N C s0 A c w S Z k0 k1 k2 k3 k4 k5 k6=>zll P b N C s0 t.procs A c w S Z k0 k1 k2 k3 k4 k5 k6;have h:=zdp t W S Z Av Aa Ap Am cv ca cp cm (he.keep hf.plain) (λb hb=>aM (hS b hb) hf.size) Hx (hx.keep (hf.same λb hb=>⟨hS b hb,id⟩));rw[h1]at h;exact h
