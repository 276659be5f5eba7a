/- facetroomref12: Inline. -/
import Derived.Test.YtmopichdofgndaaGreatDoorJgR2St2
import Derived.Test.YtmopichdofgndaaGreatDoorJgRtTree
set_option linter.all false
namespace Go.Proofs.YtmopichdofgndaaGreatDoor
open Go.RowKit Go.Shelf Go.Maps
theorem zhD {w:World}{S:Nat->Prop}{Z:Prop}:∀ {xs:List Va} {b o:Nat},VaR w S Z xs b o->VaR w S False xs b o
 | [],_,_,h=>h
 |_::_,_,_,⟨⟨h1,_,h3⟩,h4⟩=>⟨⟨h1,λh=>h.elim,h3⟩,zhD h4⟩
theorem zkw {w:World}{S:Nat->Prop}{Z:Prop}:∀ {xs:List Prc} {b o:Nat},PrR w S Z xs b o->PrR w S False xs b o
 | [],_,_,h=>h
 |_::_,_,_,⟨⟨h1,_,h3⟩,⟨A,c,e1,h4⟩,⟨B,d,e2,h5⟩,h6⟩=>⟨⟨h1,λh=>h.elim,h3⟩,⟨A,c,e1,h4.imp λ_ _=>zhD⟩,⟨B,d,e2,h5.imp λ_ _=>StR.lax⟩,zkw h6⟩
set_option maxRecDepth 100000 in
set_option maxHeartbeats 3200000 in
theorem zlP (t:Tre)(w:World)(S:Nat->Prop)(Z:Prop)(Av Aa Ap Am:Option Addr)(cv ca cp cm:Nat)(Kr:Lib.TabIs Tryz.prog w "internal/strconv.uint64pow10" .u64 Lib.pow10Tab)(hS:∀b,S b->b < w.heap.size)(Ht:SzT t)(hx:TrR w S Z t Av Aa Ap Am cv ca cp cm):
  Calls Tryz.prog 9 #[trV t Av Aa Ap Am cv ca cp cm] w (InlP (inlT t) w):=by
 obtain⟨n1,Gk⟩:=nmq t.vars.length;obtain⟨n2,Gu⟩:=nmq t.arrays.length;obtain⟨n3,GJ⟩:=nmq t.procs.length;obtain⟨n4,GV⟩:=nmq t.main.len;obtain⟨F,hF⟩:=nmq (zbE t);obtain⟨w1,Hc⟩:=nmq ((w.alloc (.cells #[.slice Av n1 cv,.slice Aa n2 ca,.slice Ap n3 cp,.slice Am n4 cm] 27)).alloc (.cells #[.slice none 0 0,.slice none 0 0,.slice none 0 0,.slice none 0 0] 27));have Hi:Fr NoT w w1:=by rw[Hc];exact((Fr.refl _ _).alloc _).alloc _
 have kk:=zhu w #[.slice Av n1 cv,.slice Aa n2 ca,.slice Ap n3 cp,.slice Am n4 cm] #[.slice none 0 0,.slice none 0 0,.slice none 0 0,.slice none 0 0] 27 27;rw[<-Hc]at kk;have Sp:=zjv t w1 S Z Av Aa Ap Am cv ca cp cm (λb hb=>ltq (hS b hb) Hi.size) Ht (hx.keep (Hi.same λb hb=>⟨hS b hb,id⟩));unfold trV at Sp ⊢;rw[<-Gk,<-Gu,<-GJ,<-GV,<-hF]at Sp;rw[<-Gk,<-Gu,<-GJ,<-GV];have qa:=hdq Sp;have HN:=hdq (aiq Gk (aiq Gu (aiq GJ GV)));have HX:=hdq (aiq hS (aiq Ht (aiq hx Kr)));have Ga:=hdq Hc;have Hn:=hdq Hi;have Nq:=hdq kk.1;have Gv:=hdq kk.2;have PD:=hdq hF;have Rc:=hdq (show w1.heap.size=w.heap.size+2 from by rw[Hc];simp);clear Sp Gk Gu GJ GV hS Ht hx Kr Hc Hi kk hF;obtain⟨F1,F2⟩:=F;go_enter Tryz.func9,Tryz.ntmps9;go_wp2_with fail;rw[<-Ga.out];go_at_call 31;refine qa.mono ?_;rintro _ w2 ⟨rfl,Gd⟩;have Hy:=hdq Gd;have Mp:=hdq (Hn.trans Gd);have JP:=Nq.fr0 Gd;have Hp:=Gv.fr0 Gd;have T9:=hdq JP;have Na:=hdq Hp;clear Gd;by_cases h0:F2=0
 ·subst h0;have g0:=JP.cell 0;have g2:=JP.cell 2;have gl:=JP.lt;simp only[getsL]at g0 g2;have G9:OkT t:=zc9 (by rw[<-PD.out]);have PL:=hdq G9;obtain⟨csv,Ki,J9,N5,N6,Sq⟩:=slV HX.2.2.1.vars;obtain⟨iV,UZ,U0,U1,U2⟩:=info_parts zfI;have Nt:=hdq (aiq UZ (aiq U0 (aiq U1 U2)));have Xp:n1<=12:=by rw[HN.1];exact(fewT_iff.1 G9.few).1
  have SS:∀W,Fr NoT w2 W->csv.length=n1*2/\(Av=none->n1=0)/\(∀ad,Av=some ad->∀j u,csv[j]?=some u->W.cell? (ad.add j)=some u)/\(∀u∈csv,u.oneCell'=true):=λW hf=>⟨by rw[HN.1];exact Ki,λe=>by rw[HN.1];exact N6 e,λad e j u hj=>by
   have h1:=Sq ad e j u hj;exact((Mp.trans hf).cell (zbu h1) id).trans h1,N5⟩
  have Pe:=hdq SS;have KS:=hdq J9;clear JP Hp G9 Ki J9 N5 N6 Sq UZ U0 U1 U2 SS;go_wp2_with fail;go_cut [6] (λs6 wx=>∃(P:Nat)(vv:Value),s6= .pointer (some ⟨P,0,none⟩)/\Hid (Bk wx P 85 #[.slice Ap n3 cp,.int .i64 0,vv,.int .i64 0,.bool false])/\Hid (w2.heap.size<=P)/\Hid (wx.ownsRow w.heap.size 43 2 vv n1 csv)/\Hid (∀i,vv.ownBlock=some i->i≠P/\w2.heap.size<=i)/\Hid (Fr NoT w2 wx));case first=>
   refine zad (λW'=>w.heap.size < W'.heap.size/\W'.cell? ⟨w.heap.size,2,none⟩=some (.slice Ap n3 cp)/\W'.cell? ⟨w.heap.size,0,none⟩=some (.slice Av n1 cv)) (λi=>decide (i < 7)) (by kernel_rfl) ⟨gl,g2,g0⟩ (λhHeld=>?_);refine zaa 0 ?_;simp only[putsL];refine zaa 2 ?_;simp only[putsL];refine zaz 1 hHeld ?_;simp only[putsL];refine zaz 3 hHeld ?_;simp only[putsL];refine zgM 4 6 rfl rfl (by kernel_rfl) (λK' hK=>?_) (λK' hK=>?_)
   ·refine zbr _ (by rfl) _ _ _ (by rfl) w.heap.size 43 iV (.agg #[.string ⟨#[]⟩,.int .i64 0]) 2 24 Tryz.underlying22 Nt.1 Nt.2.1 Nt.2.2.1 Nt.2.2.2 rfl (by decide) (.slice none 0 0) 0 [] (by rfl) (World.ownsRow_nil _ _ _ _) Av n1 cv csv (by rfl) (Pe w2 (Fr.refl _ _)).2.1 (Pe w2 (Fr.refl _ _)).1 (Pe _ ((Fr.refl NoT w2).drew)).2.2.1 (Pe w2 (Fr.refl _ _)).2.2.2 (by unfold maxLen;omega) (by omega) (by have h1:=Mp.size;have h2:=((Fr.refl NoT w2).drew).size;omega) ?_;intro vv wA Hg hg GP;rw[Nat.zero_add,List.nil_append]at Hg;obtain⟨Avv,cvv,QA,_⟩:=zba Hg;subst QA;have MT:Fr NoT w2 wA:=((Fr.refl NoT w2).drew).trans (Fr.grown hg λg e _=>by simp[Value.ownBlock]at e);have PQ:w.heap.size < wA.heap.size/\wA.cell? ⟨w.heap.size,2,none⟩=some (.slice Ap n3 cp)/\wA.cell? ⟨w.heap.size,0,none⟩=some (.slice Av n1 cv):=⟨ltq gl MT.size,(MT.cell (p:=⟨w.heap.size,2,none⟩) gl id).trans g2,(MT.cell (p:=⟨w.heap.size,0,none⟩) gl id).trans g0⟩;try dsimp only
    refine hK _ _ (λ_ _=>PQ) ?_;clear hK K' hHeld;try simp only[putsL]
    refine zaa 5 ?_;simp only[putsL];refine zab 6 rfl (by kernel_rfl) (λKK hK=>?_);go_simp;obtain⟨wB,MA⟩:=nmq (wA.alloc (.cells #[.slice none 0 0,.int .i64 0,.slice none 0 0,.int .i64 0,.bool false] 85));rw[<-MA];have ST:Fr NoT wA wB:=by rw[MA];exact(Fr.refl _ _).alloc _
    have Ld:Bk wB wA.heap.size 85 #[.slice none 0 0,.int .i64 0,.slice none 0 0,.int .i64 0,.bool false]:=by rw[MA];exact Bk.new _ _ _
    have M8:=MT.trans ST;have Pf:=zag Hg ST λ_ _=>id;have US:w2.heap.size<=wA.heap.size:=MT.size;have ge:∀i,(Value.slice Avv n1 cvv).ownBlock =some i->i≠wA.heap.size/\w2.heap.size<=i:=λi e=>⟨by have:=(zaf Hg e).2;omega,by
     rcases GP with k|k
     ·rw[k]at e;simp[Value.ownBlock]at e
     ·rw[k]at e;have:=Option.some.inj e;have h9:w2.drew.heap.size=w2.heap.size:=rfl;omega⟩
    have RX:w.heap.size < wB.heap.size/\wB.cell? ⟨w.heap.size,2,none⟩=some (.slice Ap n3 cp)/\wB.cell? ⟨w.heap.size,0,none⟩=some (.slice Av n1 cv):=⟨ltq gl M8.size,(M8.cell (p:=⟨w.heap.size,2,none⟩) gl id).trans g2,(M8.cell (p:=⟨w.heap.size,0,none⟩) gl id).trans g0⟩;try dsimp only
    refine hK _ _ (λ_ _=>RX) ?_;clear hK KK PQ RX MA;try simp only[putsL]
    have y0:=Ld.frozen 0;have y1:=Ld.frozen 1;have y2:=Ld.frozen 2;have y3:=Ld.frozen 3;have y4:=Ld.frozen 4;have x0:=Ld.cell 0;have x1:=Ld.cell 1;have x2:=Ld.cell 2;have x3:=Ld.cell 3;have x4:=Ld.cell 4;simp only[getsL]at x0 x1 x2 x3 x4;have xl:=Ld.lt;have Tq:=hdq Ld;have HB:=hdq (aiq M8 Pf);clear Ld M8 Pf;refine zab 7 rfl (by kernel_rfl) (λKK hK=>?_);go_simp;refine hK _ _ (λh=>absurd h (by decide)) ?_;clear hK KK;try simp only[putsL]
    refine zai (by kernel_rfl) ?_;go_wp2_with fail
    go_meet
    have Jp:=((((Tq.set_ 0 (.slice Ap n3 cp)).set_ 1 (.int .i64 0)).set_ 2 (.slice Avv n1 cvv)).set_ 3 (.int .i64 0)).set_ 4 (.bool false);have SU:w2.heap.size<=wA.heap.size:=US;exact⟨wA.heap.size,.slice Avv n1 cvv,rfl,hdq (by simpa using Jp),hdq US,hdq (zag (T:=λi=>i=wA.heap.size) HB.2 (Fr.own (Fr.own (Fr.own (Fr.own (Fr.own (Fr.refl _ _) _ _) _ _) _ _) _ _) _ _) λi hi e=>(ge i hi).1 e),hdq ge,hdq (((((HB.1.high SU _ _).high SU _ _).high SU _ _).high SU _ _).high SU _ _)⟩
   ·go_simp;obtain⟨wA,Pp⟩:=nmq ((w2.alloc (.cells #[.slice none 0 0,.int .i64 0,.slice none 0 0,.int .i64 0,.bool false] 85)).drew );rw[<-Pp];have MT:Fr NoT w2 wA:=by rw[Pp];exact((Fr.refl _ _).alloc _).drew
    have za:Bk wA w2.heap.size 85 #[.slice none 0 0,.int .i64 0,.slice none 0 0,.int .i64 0,.bool false]:=by rw[Pp];exact(Bk.new _ _ _).fr0 ((Fr.refl _ _).drew)
    have PQ:w.heap.size < wA.heap.size/\wA.cell? ⟨w.heap.size,2,none⟩=some (.slice Ap n3 cp)/\wA.cell? ⟨w.heap.size,0,none⟩=some (.slice Av n1 cv):=⟨ltq gl MT.size,(MT.cell (p:=⟨w.heap.size,2,none⟩) gl id).trans g2,(MT.cell (p:=⟨w.heap.size,0,none⟩) gl id).trans g0⟩;try dsimp only
    refine hK _ _ (λ_ _=>PQ) ?_;clear hK K' hHeld Pp;try simp only[putsL]
    refine zab 4 rfl (by kernel_rfl) (λKK hK=>?_);refine zbr _ (by rfl) _ _ _ (by rfl) w.heap.size 43 iV (.agg #[.string ⟨#[]⟩,.int .i64 0]) 2 24 Tryz.underlying22 Nt.1 Nt.2.1 Nt.2.2.1 Nt.2.2.2 rfl (by decide) (.slice none 0 0) 0 [] (by rfl) (World.ownsRow_nil _ _ _ _) Av n1 cv csv (by rfl) (Pe w2 (Fr.refl _ _)).2.1 (Pe w2 (Fr.refl _ _)).1 (Pe _ MT).2.2.1 (Pe w2 (Fr.refl _ _)).2.2.2 (by unfold maxLen;omega) (by omega) (by have h1:=Mp.size;have h2:=MT.size;omega) ?_;intro vv wB Hg hg GP;rw[Nat.zero_add,List.nil_append]at Hg;obtain⟨Avv,cvv,QA,_⟩:=zba Hg;subst QA;have ST:Fr NoT wA wB:=Fr.grown hg λg e _=>by simp[Value.ownBlock]at e
    have Ld:=za.fr0 ST;have M8:=MT.trans ST;have Pf:=Hg;have US:w2.heap.size<=w2.heap.size:=lrq _;have ge:∀i,(Value.slice Avv n1 cvv).ownBlock =some i->i≠w2.heap.size/\w2.heap.size<=i:=λi e=>by
     rcases GP with k|k
     ·rw[k]at e;simp[Value.ownBlock]at e
     ·rw[k]at e;have:=Option.some.inj e;have:=za.lt;exact⟨by omega,by omega⟩
    have RX:w.heap.size < wB.heap.size/\wB.cell? ⟨w.heap.size,2,none⟩=some (.slice Ap n3 cp)/\wB.cell? ⟨w.heap.size,0,none⟩=some (.slice Av n1 cv):=⟨ltq gl M8.size,(M8.cell (p:=⟨w.heap.size,2,none⟩) gl id).trans g2,(M8.cell (p:=⟨w.heap.size,0,none⟩) gl id).trans g0⟩;try dsimp only
    refine hK _ _ (λ_ _=>RX) ?_;clear hK KK PQ RX;try simp only[putsL]
    refine zaa 5 ?_;simp only[putsL];have y0:=Ld.frozen 0;have y1:=Ld.frozen 1;have y2:=Ld.frozen 2;have y3:=Ld.frozen 3;have y4:=Ld.frozen 4;have x0:=Ld.cell 0;have x1:=Ld.cell 1;have x2:=Ld.cell 2;have x3:=Ld.cell 3;have x4:=Ld.cell 4;simp only[getsL]at x0 x1 x2 x3 x4;have xl:=Ld.lt;have Tq:=hdq Ld;have HB:=hdq (aiq M8 Pf);clear Ld M8 Pf;refine zab 7 rfl (by kernel_rfl) (λKK hK=>?_);go_simp;refine hK _ _ (λh=>absurd h (by decide)) ?_;clear hK KK;try simp only[putsL]
    refine zai (by kernel_rfl) ?_;go_wp2_with fail
    go_meet
    have Jp:=((((Tq.set_ 0 (.slice Ap n3 cp)).set_ 1 (.int .i64 0)).set_ 2 (.slice Avv n1 cvv)).set_ 3 (.int .i64 0)).set_ 4 (.bool false);have SU:w2.heap.size<=w2.heap.size:=US;exact⟨w2.heap.size,.slice Avv n1 cvv,rfl,hdq (by simpa using Jp),hdq US,hdq (zag (T:=λi=>i=w2.heap.size) HB.2 (Fr.own (Fr.own (Fr.own (Fr.own (Fr.own (Fr.refl _ _) _ _) _ _) _ _) _ _) _ _) λi hi e=>(ge i hi).1 e),hdq ge,hdq (((((HB.1.high SU _ _).high SU _ _).high SU _ _).high SU _ _).high SU _ _)⟩
  case rest=>
   obtain⟨P,vv,rfl,hP,vb,GA,GU,hF⟩:=hcut;have G9:=PL.out;obtain⟨K,Nv⟩:∃K:RK,K=⟨w,S,P,Ap,cp,t.procs,zaj t.procs⟩:=⟨_,rfl⟩;have Gb:∀x∈t.procs,in64 x.at_/\∀v∈x.params,in64 v.at_:=λx hm=>by
    obtain⟨b,o,_,h⟩:=HX.2.2.1.procs.2.2 (List.length_pos_iff.2 λe=>by rw[e]at hm;simp at hm);exact zke h x hm
   have WV:K.Ok:=by
    rw[Nv];exact⟨HX.2.2.2,HX.1,HX.2.2.1.procs.imp λ_ _=>zkw,λi x hi=>zgZ (zg0 G9) (List.mem_of_getElem? hi),λy x e=>zbd e,λy x e=>ziu G9 HX.2.1 Gb e⟩
   have Kk:Fr NoT w wc:=Mp.trans hF.out;have uy:=Mp.size;have gf:zaT ⟨0,t.vars,0⟩=false:=by
    unfold zaT;have:=HN.1;simp only[Bool.or_eq_false_iff,decide_eq_false_iff_not];omega
   have h7:RkAt K wc ⟨0,t.vars,0⟩ vv:=by
    unfold RkAt;rw[gf,Nv];refine⟨Kk,?_,⟨csv,?_,(RowR.imp (w':=w) zbD (SameS.refl _ _) (λ_ _=>trivial) KS.out:RowR oneV w (λ_=>True) t.vars csv).any⟩,by have:=vb.out;show w.heap.size<=P;omega,λe=>(GU _ e).1 rfl,by show 0<=261;omega,by show 0<=0+1;omega,?_⟩
    ·have:=hP.out;rw[HN.2.2.1]at this;exact this
    ·have:=GA.out;rw[HN.1]at this;exact this
    ·have:=HN.1;show t.vars.length<=36
     omega
   have LC:=zhC WV t.procs.length t.main (by rw[Nv];exact ze2 G9) (zm1 G9) wc ⟨0,t.vars,0⟩ vv (λ_=>none) Am cm [] [] none none 0 0 (λ_=>False) h7 (lrq _) ⟨⟨lrq 0,by decide,λh=>absurd h (Nat.lt_irrefl 0)⟩,⟨lrq 0,by decide,λh=>absurd h (Nat.lt_irrefl 0)⟩,rfl,λ_=>rfl⟩ (λb hb=>hb.elim) rfl (by rw[Nv];exact HX.2.2.1.main.imp λ_ _=>StR.lax);have hQ:inlF K.procs t.procs.length t.main (λ_=>none) ⟨0,t.vars,0⟩=inlQ t:=by rw[Nv];rfl
   have QR:K.P=P:=by rw[Nv]
   rw[hQ,QR,<-HN.2.2.2]at LC;simp only[List.length_nil]at LC;have QC:=hdq LC;have XP:=hdq Nv;have xX:=hdq WV;have K4:=hdq Kk;have qe:=hdq (Na.fr0 hF.out);have S5:=hdq (T9.fr0 hF.out);have P0:=hdq (show ∀i,vv.ownBlock=some i->w2.heap.size<=i/\i < wc.heap.size from λi hi=>⟨(GU i hi).2,(zaf GA.out hi).2⟩);have HZ:=hdq (show w.heap.size+2<=P/\P < wc.heap.size/\w.heap.size+2<=w2.heap.size/\w2.heap.size<=P from⟨by have h1:=Hy.size;have h2:=Rc.out;have h3:=vb.out;omega,hP.lt,by have h1:=Hy.size;have h2:=Rc.out;omega,vb.out⟩);have b3:=(S5.out).cell 3;have bl3:=(S5.out).lt;simp only[getsL]at b3;clear G9 Gb WV Kk gf h7 LC hQ QR Nv g0 g2 gl;go_wp2_with fail;go_at_call 32;refine QC.mono ?_;rintro _ w8 ⟨v8,vo8,DS,cs8,rfl,h8,Kb,WX,Gj,Ng,XQ,qg⟩;obtain⟨A8,c8,vc,MI⟩:=Kb.slice (by have:=h8.most.1;omega);subst vc;obtain⟨csv8,Gt,Jo⟩:=h8.row;obtain⟨V8,Em,uz,_⟩:=zba Gt;subst uz;have QR:K.P=P:=by rw[XP.out]
   have hz:=HZ.out;have K5:∀i,i < w2.heap.size->¬RT K vv i:=λi hi e=>by
    rcases e with e|e
    ·rw[QR]at e;omega
    ·have:=P0 i e;omega
   have KW:=qe.fr Gj (K5 _ (by omega));have QS:=S5.fr Gj (K5 _ (by omega));have Ss:Fr NoT w w8:=Fr.thenT K4.out Gj λi hi e=>K5 i (by omega) e;have TI:wc.heap.size<=w8.heap.size:=Gj.size;have QT:=h8.bk;rw[QR]at QT;obtain⟨s8,FH⟩:=nmq ((inlQ t).2 );rw[<-FH]at QT Gt Jo;have NS:∀i,(Value.slice V8 s8.vars.length Em).ownBlock =some i->¬i=w.heap.size+1:=λi hi e=>by
    rw[FH]at hi;rcases Ng with k9|⟨g9,k9,FI⟩
    ·have:=P0 i (k9▸hi);omega
    ·rw[k9]at hi;have:=Option.some.inj hi;omega
   have Mq:DS.length<=261:=by have:=h8.most.1;omega
   obtain⟨vl,Pl⟩:=nmq s8.vars.length;rw[<-Pl]at QT NS;have p2:=QT.cell 2;have p4:=QT.cell 4;have pl:=QT.lt;have q1:=QS.cell 1;have ql:=QS.lt;have z0:=KW.frozen 0;have z1:=KW.frozen 1;have z2:=KW.frozen 2;have z3:=KW.frozen 3;have y0:=KW.cell 0;have y1:=KW.cell 1;have y2:=KW.cell 2;have y3:=KW.cell 3;have yl:=KW.lt;simp only[getsL]at p2 p4 q1 y0 y1 y2 y3;have H8:=hdq (aiq MI (aiq Gt (aiq Jo (aiq WX (aiq NS Mq)))));have Ub:=hdq (aiq FH Pl);have KX:=hdq KW;have N7:=hdq Ss;have yx:=hdq TI;clear MI Gt Jo WX NS Mq FH Pl KW QS Ss QT TI QR K5 Gj Ng XQ qg h8 Kb b3 bl3;cases Ja:zaT s8 with
   |true=>
    have HR:=hdq (show inlT t=(zgC,9)from by unfold inlT;rw[<-PD.out,if_pos rfl,<-Ub.1,Ja];rfl);rw[Ja]at p4;obtain⟨wf,Fc⟩:=nmq ((((w8.setCell ⟨w.heap.size+1,0,none⟩ (.slice none 0 0)).setCell ⟨w.heap.size+1,1,none⟩ (.slice none 0 0)).setCell ⟨w.heap.size+1,2,none⟩ (.slice none 0 0)).setCell ⟨w.heap.size+1,3,none⟩ (.slice none 0 0));have GH:Fr NoT w wf:=by rw[Fc];exact(((N7.high (by omega) _ _).high (by omega) _ _).high (by omega) _ _).high (by omega) _ _
    have Jp:Bk wf (w.heap.size+1) 27 #[.slice none 0 0,.slice none 0 0,.slice none 0 0,.slice none 0 0]:=by
     have:=(((KX.set_ 0 (.slice none 0 0)).set_ 1 (.slice none 0 0)).set_ 2 (.slice none 0 0)).set_ 3 (.slice none 0 0);rw[Fc];simpa using this
    have LA:=hdq Fc;have FK:=hdq GH;have KR:=hdq Jp;clear Fc GH Jp Ja hz;go_wp2_with fail;rw[<-LA.out];refine bodyPost_ret (zam (p:=2) (q:=3) (ty:=27) rfl _ _ (w.heap.size+1) 27 _ (0,0) _ rfl KR.out Tryz.underlying27 rfl zeI) rfl ?_;rw[HR.out];exact⟨none,none,none,none,0,0,0,0,rfl,zdi _ _,FK.out⟩
   |false=>
    have HR:=hdq (show inlT t=(⟨s8.vars,t.arrays, [],zao DS⟩,0)from by
     unfold inlT;rw[<-PD.out,if_pos rfl,<-Ub.1,Ja];simp only[Bool.false_eq_true,if_false,H8.2.2.2.1])
    rw[Ja]at p4;obtain⟨csa,Su,Lq,N8,N9,Sv⟩:=slA HX.2.2.1.arrays;obtain⟨iA,zb,Za,PQ,zc⟩:=info_parts zi0;have TH:=hdq (aiq zb (aiq Za (aiq PQ zc)));have Jh:n2*32<=140737488355328:=by rw[HN.2.1];exact HX.2.2.1.arrays.2.1.2
    have SS:∀W,Fr NoT w8 W->csa.length=n2*3/\(Aa=none->n2=0)/\(∀ad,Aa=some ad->∀j u,csa[j]?=some u->W.cell? (ad.add j)=some u)/\(∀u∈csa,u.oneCell'=true):=λW hf=>⟨by rw[HN.2.1];exact Su,λe=>by rw[HN.2.1];exact N9 e,λad e j u hj=>by
     have h1:=Sv ad e j u hj;exact((N7.trans hf).cell (zbu h1) id).trans h1,N8⟩
    have Up:=hdq SS;have Sw:=hdq Lq;have QL:=hdq Ja;clear Su Lq N8 N9 Sv zb Za PQ zc SS Ja;go_wp2_with fail;refine zad (λW'=>P < W'.heap.size/\w.heap.size < W'.heap.size/\W'.cell? ⟨P,2,none⟩=some (.slice V8 vl Em)/\W'.cell? ⟨w.heap.size,1,none⟩=some (.slice Aa n2 ca)) (λi=>decide (i < 7)) (by kernel_rfl) ⟨pl,ql,p2,q1⟩ (λhHeld=>?_);refine zaa 0 ?_;simp only[putsL];refine zaa 2 ?_;simp only[putsL];refine zaa 5 ?_;simp only[putsL];refine zaz 1 hHeld ?_;simp only[putsL];refine zaz 3 hHeld ?_;simp only[putsL];refine zab 4 rfl (by kernel_rfl) (λKK hK=>?_);refine zbr _ (by rfl) _ _ _ (by rfl) w.heap.size 66 iA (.agg #[.string ⟨#[]⟩,.int .i64 0,.int .i64 0]) 3 32 Tryz.underlying23 TH.1 TH.2.1 TH.2.2.1 TH.2.2.2 rfl (by decide) (.slice none 0 0) 0 [] (by rfl) (World.ownsRow_nil _ _ _ _) Aa n2 ca csa (by rfl) (Up w8 (Fr.refl _ _)).2.1 (Up w8 (Fr.refl _ _)).1 (Up _ ((Fr.refl NoT w8).drew)).2.2.1 (Up w8 (Fr.refl _ _)).2.2.2 (by unfold maxLen;omega) (by omega) N7.size ?_;intro va DI Hg hg GP;rw[Nat.zero_add,List.nil_append]at Hg;obtain⟨Ax,cx,kZ,_⟩:=zba Hg;subst kZ;have Fo:Fr NoT w8 DI:=((Fr.refl NoT w8).drew).trans (Fr.grown hg λg e _=>by simp[Value.ownBlock]at e);have gR:∀i,(Value.slice Ax n2 cx).ownBlock =some i->¬i=w.heap.size+1:=λi hi e=>by
     rcases GP with k|k
     ·rw[k]at hi;simp[Value.ownBlock]at hi
     ·rw[k]at hi;have:=Option.some.inj hi;have h9:w8.drew.heap.size=w8.heap.size:=rfl;omega
    have Sx:P < DI.heap.size/\w.heap.size < DI.heap.size/\DI.cell? ⟨P,2,none⟩=some (.slice V8 vl Em)/\DI.cell? ⟨w.heap.size,1,none⟩=some (.slice Aa n2 ca):=⟨ltq pl Fo.size,ltq ql Fo.size,(Fo.cell (p:=⟨P,2,none⟩) pl id).trans p2,(Fo.cell (p:=⟨w.heap.size,1,none⟩) ql id).trans q1⟩;have Jq:=KX.fr0 Fo;clear z0 z1 z2 z3 y0 y1 y2 y3;have z0:=Jq.frozen 0;have z1:=Jq.frozen 1;have z2:=Jq.frozen 2;have z3:=Jq.frozen 3;have y0:=Jq.cell 0;have y1:=Jq.cell 1;have y2:=Jq.cell 2;have y3:=Jq.cell 3;have yl':=Jq.lt;simp only[getsL]at y0 y1 y2 y3;have J3:=hdq Fo;have Sl:=hdq Jq;have gY:=hdq (aiq Hg gR);clear Fo Jq Hg hHeld hg GP gR;try dsimp only
    refine hK _ _ (λ_ _=>Sx) ?_;clear hK KK Sx;try simp only[putsL]
    refine zaa 6 ?_;simp only[putsL];refine zab 7 rfl (by kernel_rfl) (λKK hK=>?_);go_simp;refine hK _ _ (λh=>absurd h (by decide)) ?_;clear hK KK;try simp only[putsL]
    refine zab 8 rfl (by kernel_rfl) (λKK hK=>?_);go_simp;refine hK _ _ (λh=>absurd h (by decide)) ?_;clear hK KK;try simp only[putsL]
    refine zai (by kernel_rfl) ?_;obtain⟨wf,Fc⟩:=nmq ((((DI.setCell ⟨w.heap.size+1,0,none⟩ (.slice V8 vl Em)).setCell ⟨w.heap.size+1,1,none⟩ (.slice Ax n2 cx)).setCell ⟨w.heap.size+1,2,none⟩ (.slice none 0 0)).setCell ⟨w.heap.size+1,3,none⟩ (.slice A8 DS.length c8));rw[<-Fc];have JM:Fr (λi=>i=w.heap.size+1) DI wf:=by rw[Fc];exact Fr.own (Fr.own (Fr.own (Fr.own (Fr.refl _ _) _ _) _ _) _ _) _ _
    have GH:Fr NoT w wf:=Fr.thenT (N7.trans J3.out) JM λi hi e=>by have e:i=w.heap.size+1:=e;omega
    have Jp:Bk wf (w.heap.size+1) 27 #[.slice V8 vl Em,.slice Ax n2 cx,.slice none 0 0,.slice A8 DS.length c8]:=by
     have:=(((Sl.set_ 0 (.slice V8 vl Em)).set_ 1 (.slice Ax n2 cx)).set_ 2 (.slice none 0 0)).set_ 3 (.slice A8 DS.length c8);rw[Fc];simpa using this
    have JY:=hdq JM;have FK:=hdq GH;have KR:=hdq Jp;clear Fc GH JM Jp z0 z1 z2 z3 y0 y1 y2 y3 yl p2 pl q1 ql yl';go_wp2_with fail;refine bodyPost_ret (zam (p:=2) (q:=3) (ty:=27) rfl _ _ (w.heap.size+1) 27 _ (0,0) _ rfl KR.out Tryz.underlying27 rfl zeI) rfl ?_;rw[HR.out];obtain⟨MI,Gt,Jo,WX,NS,Mq⟩:=H8.out;have qi:=J3.size;have TI:=yx.out;have xZ:=JY.size;have Sy:wf.ownsRow w.heap.size 43 2 (.slice V8 s8.vars.length Em) s8.vars.length csv8:=by
     rw[XP.out]at Gt;exact zag (zag Gt J3.out λ_ _=>id) JY.out (by rw[Ub.2]at NS;exact NS)
    have P2:wf.ownsRow w.heap.size 66 3 (.slice Ax t.arrays.length cx) t.arrays.length csa:=by
     have h1:=gY.1;have h2:=gY.2;rw[HN.2.1]at h1 h2;exact zag h1 JY.out h2
    have h9:s8.vars.length<=32:=by
     have h8:=QL.out;unfold zaT at h8;simp only[Bool.or_eq_false_iff,decide_eq_false_iff_not]at h8;omega
    obtain⟨B1,d1,e1,WY⟩:=RowR.slice zbD (sz:=24) Sy (RowR.anyV Jo) (by omega) (P:=λb o=>VaR wf (New w.heap.size wf) True s8.vars b o) λg hg hr hc=>rowV (o:=0) hg hr λj u hj=>by rw[Nat.zero_add];exact hc j u hj
    obtain⟨B2,d2,e2,L8⟩:=RowR.slice zbV (sz:=32) P2 (RowR.anyA Sw.out) (by exact HX.2.2.1.arrays.2.1.2) (P:=λb o=>ArR wf (New w.heap.size wf) True t.arrays b o) λg hg hr hc=>rowA (o:=0) hg hr λj u hj=>by rw[Nat.zero_add];exact hc j u hj
    injection e1 with e11 _ e12;injection e2 with e21 _ e22;subst e11 e12 e21 e22;have NT:(zao DS).len =DS.length:=za8 DS;refine⟨V8,Ax,none,A8,Em,cx,0,c8,?_,⟨WY,L8,slr0,?_⟩,FK.out⟩
    ·simp only[trV,NT,List.length_nil,Ub.2,HN.2.1];rfl
    ·show SlR _ (zao DS).len 128 A8 c8
     rw[NT];exact MI.imp λ_ _ hx=>StR.more (λi hi=>⟨by have:=hi.1;omega,by have:=hi.2.1;omega⟩) (StR.keep ((J3.same λi hi=>⟨hi.2.1,id⟩).trans (JY.same λi hi=>⟨by have:=hi.2.1;omega,λe=>by have e:i=w.heap.size+1:=e;have:=hi.1;omega⟩)) hx)
 ·have YU:¬F2=0:=h0;have z0:=Hp.frozen 0;have z1:=Hp.frozen 1;have z2:=Hp.frozen 2;have z3:=Hp.frozen 3;have y0:=Hp.cell 0;have y1:=Hp.cell 1;have y2:=Hp.cell 2;have y3:=Hp.cell 3;have yl:=Hp.lt;simp only[getsL]at y0 y1 y2 y3;have HR:=hdq (show inlT t=(zgC,F2)from by unfold inlT;rw[<-PD.out,if_neg h0]);clear JP Hp;obtain⟨wf,Fc⟩:=nmq ((((w2.setCell ⟨w.heap.size+1,0,none⟩ (.slice none 0 0)).setCell ⟨w.heap.size+1,1,none⟩ (.slice none 0 0)).setCell ⟨w.heap.size+1,2,none⟩ (.slice none 0 0)).setCell ⟨w.heap.size+1,3,none⟩ (.slice none 0 0));have GH:Fr NoT w wf:=by rw[Fc];exact(((Mp.high (by omega) _ _).high (by omega) _ _).high (by omega) _ _).high (by omega) _ _
  have Jp:Bk wf (w.heap.size+1) 27 #[.slice none 0 0,.slice none 0 0,.slice none 0 0,.slice none 0 0]:=by
   have:=(((Na.set_ 0 (.slice none 0 0)).set_ 1 (.slice none 0 0)).set_ 2 (.slice none 0 0)).set_ 3 (.slice none 0 0);rw[Fc];simpa using this
  have LA:=hdq Fc;have FK:=hdq GH;have KR:=hdq Jp;clear Fc GH Jp;go_wp2_with fail;rw[<-LA.out];refine bodyPost_ret (zam (p:=2) (q:=3) (ty:=27) rfl _ _ (w.heap.size+1) 27 _ (0,0) _ rfl KR.out Tryz.underlying27 rfl zeI) rfl ?_;rw[HR.out];exact⟨none,none,none,none,0,0,0,0,rfl,zdi _ _,FK.out⟩
