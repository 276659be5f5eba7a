/- big. -/
import Derived.Test.YtfomomaomggpbaaGreatDoorJgBgOk
set_option linter.all false
namespace Go.Proofs.YtfomomaomggpbaaGreatDoor
open Go.RowKit Go.Shelf
def bigE (t:Tre)(n:Nat)(steps:Int):Int:=if(zbw t).2 =0 then(if 4096 < n then 4 else if steps < 0\/65536 < steps then 2 else 0)else(zbw t).2
def bs0 (t:Tre)(script:List Int)(steps:Int):Bs:=⟨zers t.vars.length,begB (t.arrays.map (·.size)),script,steps.toNat, []⟩
def hoD (h:Option Ho):Ho:=h.getD ⟨1,0,0⟩
def zeV:Array Value:= #[.int .u8 0,.int .u8 0,.int .i64 0,.int .i64 0,.int .i64 0,.int .i64 0,.slice none 0 0,.slice none 0 0]
def BigP (t:Tre)(script:List Int)(steps:Int)(h:Option Ho)(u:Bs)(W:World)(e:Ending)(w':World):Prop:=
 Fr NoT W w'/\if bigE t script.length steps=0 then ∃V A c bs,e= .returned (.tuple #[.agg (zdG (hoD h).kind (hoD h).wrong (hoD h).at_ (.int .i64 0) (.int .i64 0) (.int .i64 u.left) (.slice (some ⟨V,0,none⟩) u.vs.length u.vs.length) (.slice A u.ls.length c)),.int .i64 0])/\Sto w' W.heap.size u.vs u.ls V A c bs
  else e= .returned (.tuple #[.agg zeV,.int .i64 (bigE t script.length steps)])
theorem zbp {X:World}{b:Nat}{c0 c1 c2 c3 c4 c5 c6 c7 er:Value}{R:Ending->World->Prop}{x0 x1 x2 x3 x4 x5:Value}{rest:List Value}(h:Bk X b 34 #[c0,c1,c2,c3,c4,c5,c6,c7])(hR:R (.returned (.tuple #[.agg #[c0,c1,c2,c3,c4,c5,c6,c7],er])) X):
  Leaves Tryz.prog Tryz.f9 (List.toArray (x0::x1::x2::x3::x4::x5:: .pointer (some ⟨b,0,none⟩)::er::rest)) R [] .returning X:=by
 have k0:=h.cell 0;have k1:=h.cell 1;have k2:=h.cell 2;have k3:=h.cell 3;have k4:=h.cell 4;have k5:=h.cell 5;have k6:=h.cell 6;have k7:=h.cell 7;have hl:=h.lt;simp only[aD]at k0 k1 k2 k3 k4 k5 k6 k7;refine⟨_,?_,hR⟩;simp[results,Tryz.results9,go_sem,k0,k1,k2,k3,k4,k5,k6,k7,hl]
def zlW (Q:Exit->Act->World->Prop):Exit->Act->World->Prop
 | .panic _,_,_=>False
 | .normal,a,w=>Q .normal a w
 |e,a,w=>Q e a w
theorem zbX {P:Program}{Q:Exit->Act->World->Prop}{id:Nat}{l:List Oper}{a:Act}{w:World}(S:World->Prop)(n:Nat->Bool)(hm:P.follows .mixedOrders =true)(hS:S w.drew)(h:S w.drew->wpE P .any l.toArray (zlW Q) S n l.length (Array.replicate l.length false) a w.drew):(Code.region id l.toArray true).wp P Q a w:=
 Code.wp_mono (λe a w he=>by cases e<;>first|exact he.elim|exact he) (zad S n hm hS h)
def A2S (b P MA:Nat)(nm:ByteArray)(n:Nat)(W:World):Prop:=W.cell? ⟨P,1,none⟩=some (.map (some MA))/\W.cell? ⟨b,0,none⟩=some (.string nm)/\W.cell? ⟨b,1,none⟩=some (.int .i64 n)
def A3S (b r R P MA:Nat)(nm:ByteArray)(v u:Value)(W:World):Prop:=W.cell? ⟨r,0,none⟩=some (.pointer (some ⟨R,0,none⟩))/\W.cell? ⟨R,8,none⟩=some v/\W.cell? ⟨P,1,none⟩=some (.map (some MA))/\W.cell? ⟨b,0,none⟩=some (.string nm)/\(Instr.lookup 70 (.map (some MA)) (.string nm) false).run Tryz.prog W= .ok u W
def A4S (b P MP:Nat)(nm:ByteArray)(v1 v2:Value)(W:World):Prop:=W.cell? ⟨P,2,none⟩=some (.map (some MP))/\W.cell? ⟨b,0,none⟩=some (.string nm)/\W.cell? ⟨b,1,none⟩=some v1/\W.cell? ⟨b,2,none⟩=some v2
def N1S (b r R V nv:Nat)(nm:ByteArray)(W:World):Prop:=W.cell? ⟨b,0,none⟩=some (.string nm)/\W.cell? ⟨r,0,none⟩=some (.pointer (some ⟨R,0,none⟩))/\W.cell? ⟨R,7,none⟩=some (.slice (some ⟨V,0,none⟩) nv nv)
set_option maxRecDepth 100000 in
set_option maxHeartbeats 3200000 in
theorem zok (t:Tre)(script:List Int)(steps:Int)(h:Option Ho)(u:Bs)(W:World)(S:Nat->Prop)(Z:Prop)(Av Aa Ap Am As:Option Addr)(cv ca cp cm cs:Nat)(he:SpEnv W)(hS:∀b,S b->b < W.heap.size)(Hx:SzT t)(hx:TrR W S Z t Av Aa Ap Am cv ca cp cm)(KS:IsSl W W.heap.size script As cs)(Kg:in64 steps)
  (GL:bigE t script.length steps=0->RunT (bnOf t) (.all [] t.main) (bs0 t script steps) h u):
  Calls Tryz.prog 9 #[trV t Av Aa Ap Am cv ca cp cm,.slice As script.length cs,.int .i64 steps] W (BigP t script steps h u W):=by
 have JI:= @makeF Tryz.prog;have KN:=run_makeMap (P:=Tryz.prog);obtain⟨w1,Hc⟩:=aF ((W.alloc (.cells #[.slice Av t.vars.length cv,.slice Aa t.arrays.length ca,.slice Ap t.procs.length cp,.slice Am t.main.len cm] 27)).alloc (.cells zeV 34));have Hd:Fr NoT W w1:=by rw[Hc];exact(aH.alloc _).alloc _
 have Jc:Bk w1 W.heap.size 27 #[.slice Av t.vars.length cv,.slice Aa t.arrays.length ca,.slice Ap t.procs.length cp,.slice Am t.main.len cm]:=by rw[Hc];exact(Bk.new _ _ _).alloc _
 have Fj:Bk w1 (W.heap.size+1) 34 zeV:=by rw[Hc];exact Bk.new_at _ _ _ (by simp)
 have Xl:=zlo t w1 S Z Av Aa Ap Am cv ca cp cm (he.keep Hd.plain) (λb hb=>aM (hS b hb) Hd.size) Hx (hx.keep (Hd.same λb hb=>⟨hS b hb,id⟩));obtain⟨nv,Nj⟩:=aF t.vars.length;obtain⟨na,Pc⟩:=aF t.arrays.length;obtain⟨np,M1⟩:=aF t.procs.length;obtain⟨nm,Jt⟩:=aF t.main.len;obtain⟨ns,NX⟩:=aF script.length;unfold trV at Xl ⊢;rw[<-Nj,<-Pc,<-M1,<-Jt]at Hc Jc Xl ⊢;rw[<-NX]at GL;obtain⟨E,Xm⟩:=aF (bigE t ns steps);obtain⟨RR,KI⟩:=aF (BigP t script steps h u W);rw[<-KI,<-NX];have UM:=Xm;unfold bigE at Xm;obtain⟨q1,q2,hq⟩:∃a b,zbw t=(a,b):=⟨_,_,rfl⟩;have Ge:=aA Hc;have Hl:=aA Hd;have Ly:=aA Jc;have J6:=aA Fj;have yN:=aA hq;rw[hq]at Xm Xl;have yO:=aA Xl;have Pq:=aA Xm;have kL:=aA NX;have Sq:=aA Nj;have Xn:=aA Pc;have Si:=aA M1;have Ma:=aA Jt;have HX:=aA (aG hx (aG hS (aG Hx (aG KS Kg))));have P8:=aA GL;have Yx:=aA (show ∀w',Fr NoT W w'->E≠0->RR (.returned (.tuple #[.agg zeV,.int .i64 E])) w' from λw' hf Gh=>by
  rw[KI];refine⟨hf,?_⟩;rw[<-NX,<-UM,if_neg Gh])
 have Fh:=aA KI;have Xo:=aA UM;have yP:ns<=9223372036854775807:=by rw[NX];exact aK KS.1 KS.2.1
 have gp:nv<=9223372036854775807:=by rw[Nj];exact aK hx.vars.1 hx.vars.2.1.1
 have k0:=Jc.cell 0;have k1:=Jc.cell 1;have k2:=Jc.cell 2;have k3:=Jc.cell 3;have kl:=Jc.lt;simp only[aD]at k0 k1 k2 k3;clear Hc Hd Jc Fj Xl Xm NX Nj Pc M1 Jt hx hS Hx KS Kg GL UM he hq KI
 go_enter_defers Tryz.func9,Tryz.ntmps9
 go_wp2_with fail;have Hc:=Ge.out;unfold zeV at Hc;rw[<-Hc];clear Hc;refine yO.mono ?_;rintro _ w2 ⟨rfl,He⟩;have Hu:=aA (Hl.trans He);have Fj:=J6.fr0 He;have Jc:=Ly.fr0 He;have Nb:=aA Fj;have Sw:=aA Jc;have z0:=Fj.cell 0;have z1:=Fj.cell 1;have z2:=Fj.cell 2;have z3:=Fj.cell 3;have z4:=Fj.cell 4;have z5:=Fj.cell 5;have z6:=Fj.cell 6;have z7:=Fj.cell 7;have y0:=Fj.frozen 0;have y1:=Fj.frozen 1;have y2:=Fj.frozen 2;have y3:=Fj.frozen 3;have y4:=Fj.frozen 4;have y5:=Fj.frozen 5;have y6:=Fj.frozen 6;have y7:=Fj.frozen 7;have zl:=Fj.lt;simp only[zeV,List.getElem?_toArray,List.getElem?_cons_succ,List.getElem?_cons_zero]at z0 z1 z2 z3 z4 z5 z6 z7;clear Fj Jc k0 k1 k2 k3 kl;have gI:=aA (show ∀w,Bk w (W.heap.size+1) 34 zeV->Bk ((((((((w.setCell ⟨W.heap.size+1,0,none⟩ (.int .u8 0)).setCell ⟨W.heap.size+1,1,none⟩ (.int .u8 0)).setCell ⟨W.heap.size+1,2,none⟩ (.int .i64 0)).setCell ⟨W.heap.size+1,3,none⟩ (.int .i64 0)).setCell ⟨W.heap.size+1,4,none⟩ (.int .i64 0)).setCell ⟨W.heap.size+1,5,none⟩ (.int .i64 0)).setCell ⟨W.heap.size+1,6,none⟩ (.slice none 0 0)).setCell ⟨W.heap.size+1,7,none⟩ (.slice none 0 0)) (W.heap.size+1) 34 zeV from λw hk=>by
  have:=(((((((hk.set_ 0 (.int .u8 0)).set_ 1 (.int .u8 0)).set_ 2 (.int .i64 0)).set_ 3 (.int .i64 0)).set_ 4 (.int .i64 0)).set_ 5 (.int .i64 0)).set_ 6 (.slice none 0 0)).set_ 7 (.slice none 0 0);simpa[zeV]using this)
 by_cases e2:q2=0
 rotate_left
 ·have e1:(q2 != 0)=true:=by simpa using e2
  have hE:E=q2:=by rw[Pq.out];simp only[if_neg e2]
  clear e2;go_wp2_with fail;have hr:=Yx w2 Hu.out (by rw[hE];simpa using e1);rw[hE]at hr;exact zbp Nb.out hr
 subst e2;have hE:E=if 4096 < ns then 4 else if steps < 0\/65536 < steps then 2 else 0:=by rw[Pq.out,if_pos rfl]
 have e1:((0:Int) != 0)=false:=by decide
 by_cases GX:4096 < ns
 ·have e3:decide ((ns:Int) > 4096)=true:=by simp;omega
  rw[if_pos GX]at hE;clear GX;go_wp2_with fail;have hr:=Yx _ ((((((((Hu.high (Nat.le_succ _) 0 (.int .u8 0)).high (Nat.le_succ _) 1 (.int .u8 0)).high (Nat.le_succ _) 2 (.int .i64 0)).high (Nat.le_succ _) 3 (.int .i64 0)).high (Nat.le_succ _) 4 (.int .i64 0)).high (Nat.le_succ _) 5 (.int .i64 0)).high (Nat.le_succ _) 6 (.slice none 0 0)).high (Nat.le_succ _) 7 (.slice none 0 0)) (by rw[hE];decide);rw[hE]at hr;exact zbp (gI w2 Nb.out) hr
 have e3:decide ((ns:Int) > 4096)=false:=by simp;omega
 rw[if_neg GX]at hE;by_cases Fk:steps < 0
 ·have e4:decide (steps < 0)=true:=by simpa using Fk
  rw[if_pos (.inl Fk)]at hE;clear Fk;go_wp2_with fail;have hr:=Yx _ ((((((((Hu.high (Nat.le_succ _) 0 (.int .u8 0)).high (Nat.le_succ _) 1 (.int .u8 0)).high (Nat.le_succ _) 2 (.int .i64 0)).high (Nat.le_succ _) 3 (.int .i64 0)).high (Nat.le_succ _) 4 (.int .i64 0)).high (Nat.le_succ _) 5 (.int .i64 0)).high (Nat.le_succ _) 6 (.slice none 0 0)).high (Nat.le_succ _) 7 (.slice none 0 0)) (by rw[hE];decide);rw[hE]at hr;exact zbp (gI w2 Nb.out) hr
 have e4:decide (steps < 0)=false:=by simpa using Fk
 by_cases Q4:65536 < steps
 ·have e5:decide (steps > 65536)=true:=by simpa using Q4
  rw[if_pos (.inr Q4)]at hE;go_wp2_with fail;have hr:=Yx _ ((((((((Hu.high (Nat.le_succ _) 0 (.int .u8 0)).high (Nat.le_succ _) 1 (.int .u8 0)).high (Nat.le_succ _) 2 (.int .i64 0)).high (Nat.le_succ _) 3 (.int .i64 0)).high (Nat.le_succ _) 4 (.int .i64 0)).high (Nat.le_succ _) 5 (.int .i64 0)).high (Nat.le_succ _) 6 (.slice none 0 0)).high (Nat.le_succ _) 7 (.slice none 0 0)) (by rw[hE];decide);rw[hE]at hr;exact zbp (gI w2 Nb.out) hr
 have e5:decide (steps > 65536)=false:=by simpa using Q4
 rw[if_neg (λe=>e.elim Fk Q4)]at hE;obtain⟨st,rfl⟩:∃n:Nat,steps=n:=⟨steps.toNat,by omega⟩;have Gu:st<=65536:=by omega
 have FC:OkT t:=zf2 (by rw[yN.out]);have kM:nv<=12:=by rw[Sq.out];exact(fewT_iff.1 FC.few).1
 have xe:=λw=>zhb nv (by omega) w;have uF:=Sw.cell 0;have kkl:=Sw.lt;simp only[aD]at uF;have Ni:=aA FC;have yQ:=aA hE;have Gb:=aA Gu;clear hE Fk Q4 GX FC Gu z0 z1 z2 z3 z4 z5 z6 z7 y0 y1 y2 y3 y4 y5 y6 y7;obtain⟨w3,GR⟩:=aF ((((((((w2.alloc (.cells (intL (zers nv)).toArray 3)).alloc (.cells #[.slice As ns cs,.int .u8 0,.int .u8 0,.int .i64 0,.int .i64 0,.int .i64 0,.int .i64 st,.slice (some ⟨w2.heap.size,0,none⟩) nv nv,.slice none 0 0] 68)).alloc (.cells #[.pointer (some ⟨w2.heap.size+1,0,none⟩)] 66)).alloc (.map #[] 0)).alloc (.map #[] 0)).alloc (.cells #[.pointer (some ⟨w2.heap.size+1,0,none⟩),.map (some (w2.heap.size+1+1+1)),.map (some (w2.heap.size+1+1+1+1))] 73)).alloc (.map #[] 0)));have Gg:Fr NoT w2 w3:=by rw[GR];exact((((((aH.alloc _).alloc _).alloc _).alloc _).alloc _).alloc _).alloc _
 have kb:=(Sw.fr0 Gg).cell 0;simp only[aD]at kb;obtain⟨gJ,GM,JA,gK,gL,VF,gM,KT⟩:Bk w3 w2.heap.size 3 (intL (zers nv)).toArray /\Bk w3 (w2.heap.size+1) 68 (zjI (.slice As ns cs) (.int .i64 st) (.slice (some ⟨w2.heap.size,0,none⟩) nv nv) (.slice none 0 0))/\Bk w3 (w2.heap.size+2) 66 #[.pointer (some ⟨w2.heap.size+1,0,none⟩)]/\MpV w3 (w2.heap.size+3) 0 (λ_=>none)/\MpV w3 (w2.heap.size+4) 0 (λ_=>none)/\Bk w3 (w2.heap.size+5) 73 #[.pointer (some ⟨w2.heap.size+1,0,none⟩),.map (some (w2.heap.size+3)),.map (some (w2.heap.size+4))]/\MpV w3 (w2.heap.size+6) 0 (λ_=>none)/\w3.heap.size=w2.heap.size+7:=by
  have mk:=λ(w:World)(k:Nat)(e:w.heap.size=k)=>(e▸MpV.made w:MpV (w.alloc (.map #[] 0)) k 0 λ_=>none);have up:∀ {w:World} {b:Nat} {o:Obj},MpV w b 0 (λ_=>none)->MpV (w.alloc o) b 0 (λ_=>none):=λh=>h.fr (T:=NoT) (aH.alloc _) id;rw[GR];refine⟨(((((((Bk.new _ _ _).alloc _).alloc _).alloc _).alloc _).alloc _).alloc _),((((((Bk.new_at _ _ _ (by simp)).alloc _).alloc _).alloc _).alloc _).alloc _),(((((Bk.new_at _ _ _ (by simp)).alloc _).alloc _).alloc _).alloc _),up (up (up (mk _ _ (by simp)))),up (up (mk _ _ (by simp))),(Bk.new_at _ _ _ (by simp)).alloc _,mk _ _ (by simp),by simp⟩
 have LT:=aA GR;have Gi:=aA Gg;rw[GR]at kb;clear GR Gg;go_wp2_with fail;rw[<-LT.out];obtain⟨V,eV⟩:∃y,w2.heap.size=y:=⟨_,rfl⟩;obtain⟨R,eR⟩:∃y,w2.heap.size+1=y:=⟨_,rfl⟩;obtain⟨r,er⟩:∃y,w2.heap.size+2=y:=⟨_,rfl⟩;obtain⟨MA,eMA⟩:∃y,w2.heap.size+3=y:=⟨_,rfl⟩;obtain⟨MP,eMP⟩:∃y,w2.heap.size+4=y:=⟨_,rfl⟩;obtain⟨P,eP⟩:∃y,w2.heap.size+5=y:=⟨_,rfl⟩;obtain⟨N,eN⟩:∃y,w2.heap.size+6=y:=⟨_,rfl⟩;rw[eR]at GM JA VF;rw[er]at JA;rw[eMA]at gK VF;rw[eMP]at gL VF;rw[eP]at VF;rw[eN]at gM;rw[eV]at gJ GM KT;rw[eR,show R+1=r by omega,show r+1=MA by omega,show MA+1=MP by omega,show MP+1=P by omega,show P+1=N by omega,eV];have yR:W.heap.size+2<=V:=by have h1:=Nb.lt;omega
 have kN:∀wr T,Fr T w3 wr->(∀b,T b->W.heap.size<=b)->TrR wr S Z t Av Aa Ap Am cv ca cp cm:=λwr T hf hT=>
  (HX.1.keep ((Hu.trans Gi.out).same λb hb=>⟨HX.2.1 b hb,id⟩)).keep (hf.same λb hb=>⟨aM (HX.2.1 b hb) (Hu.trans Gi.out).size,λe=>Nat.lt_irrefl _ (aM (HX.2.1 b hb) (hT b e))⟩)
 have Vs:=aA kN;obtain⟨nms,Sx⟩:=aF (nmV t.vars);have Li:nms.Nodup:=by rw[Sx];exact(freshL_iff.1 Ni.vars).2
 have U4:nms.length=nv:=by rw[Sx,Sq.out];simp[nmV]
 have Xp:W.heap.size+2<=V/\R=V+1/\r=V+2/\MA=V+3/\MP=V+4/\P=V+5/\N=V+6/\w3.heap.size=V+7:=by omega
 have kO:=aA Sx;have RC:=aA (aG Li U4);have J2:=aA Xp;have X7:=aA gJ;have Fe:=aA GM;have gN:=aA JA;have kP:=aA gK;have PI:=aA gL;have kQ:=aA VF;have ME:=aA gM;clear kN Sx Li U4 Xp gJ GM JA gK gL VF gM KT eV eR er eMA eMP eP eN kb uF kkl yR e1 e3 e4 e5;go_loopw [56] (λi wr=>∃k:Nat,k<=nv/\i= .int .i64 k/\Hid (Fr (λb=>b=N) w3 wr)/\Hid (MpV wr N k (fA (ptrL V k) (nms.take k)))) (λi _=>nv - (intOf i).toNat);case atStart=>exact⟨0,Nat.zero_le _,rfl,aA aH,aA ME.out⟩
 case round=>
  obtain⟨k,hk,rfl,HF,HM⟩:=hrel;have Rn:∀b,b < N->¬b=N:=λb hb e=>by omega
  by_cases Hk:k < nv
  ·have KQ:k < t.vars.length:=by rw[<-Sq.out];exact Hk
   obtain⟨b0,o0,rfl,Hg⟩:=(Vs wr _ HF.out (λb e=>by have e:b=N:=e;have:=J2.out;omega)).vars.2.2 (by omega);have LS:=List.drop_eq_getElem_cons KQ;obtain⟨⟨pn,pa⟩,GD⟩:=aF (t.vars[k]);rw[<-GD]at LS;have Hq:=VaR.drop k Hg;rw[LS]at Hq;obtain⟨⟨_,_,_,g0,g1⟩,_⟩:=Hq;simp only at g0 g1;have LF:pn.size<=9223372036854775807:=by
    have:=HX.2.2.1.vars _ (List.getElem_mem KQ);rw[<-GD]at this;exact this
   have PH:nms[k]?=some pn.data.toList:=by
    rw[kO.out];unfold nmV;rw[List.getElem?_map,List.getElem?_eq_getElem KQ,<-GD];rfl
   have Gj:(k:Int) < (nv:Int):=by omega
   obtain⟨w4,Fv⟩:=aF (wr.alloc (.cells #[.string pn,.int .i64 pa] 77));have HJ:Fr NoT wr w4:=by rw[Fv];exact aH.alloc _
   have Fq:Bk w4 wr.heap.size 77 #[.string pn,.int .i64 pa]:=by rw[Fv];exact Bk.new _ _ _
   have Ro:=J2.out;have Kp:=aA (show N1S wr.heap.size r R V nv pn w4.drew from
    ⟨(Fq.fr0 (Fr.refl NoT w4).drew).cell 0,((gN.fr HF.out (Rn _ (by omega))).fr0 HJ.drew).cell 0,((Fe.fr HF.out (Rn _ (by omega))).fr0 HJ.drew).cell 7⟩)
   obtain⟨w5,K1,Qb,W9⟩:=MpV.put (HM.fr HJ.drew id) Tryz.underlying75 (s:=pn) LF (.pointer (some ⟨V,k,none⟩)) (by unfold maxLen;omega);have Xq:MpV w5 N (k+1) (fA (ptrL V (k+1)) (nms.take (k+1))):=by
    have Ji:k < nms.length:=by rw[RC.2];exact Hk
    have RJ:nms.take (k+1)=nms.take k++ [pn.data.toList]:=by rw[List.take_add_one,PH];rfl
    have hx:pn.data.toList∉nms.take k:=λhm=>by
     have h1:=RC.1;rw[<-List.take_append_drop (k+1) nms,RJ]at h1;exact(List.nodup_append.1 (List.nodup_append.1 h1).1).2.2 _ hm _ List.mem_cons_self rfl
    rw[zlS,RJ,<-zlR (by rw[znB,List.length_take];omega) hx];exact Qb
   have W8:=aA Xq;have Gk:=aA (show Fr (λb=>b=N) w3 w5 from(HF.trans HJ.drew.any).trans (Fr.grown W9 λg e _=>(Option.some.inj e).symm));have NP:=aA Fv;clear KQ Hg LS GD LF PH Fv HJ Fq Ro Qb W9 Xq HM HF ME;go_wp2_with fail;rw[<-NP.out];refine zbX (N1S wr.heap.size r R V nv pn) (λi=>decide (i < 11)) (by kernel_rfl) Kp.out (λaC=>?_);refine zaa 0 ?_;simp only[aB];refine zaa 1 ?_;simp only[aB];refine zac 2 aC ?_;simp only[aB];refine zac 3 aC ?_;simp only[aB];refine zaa 4 ?_;simp only[aB];refine zaa 5 ?_;simp only[aB];refine zaa 6 ?_;simp only[aB];refine zaa 7 ?_;simp only[aB];refine zac 8 aC ?_;simp only[aB];refine zaa 9 ?_;simp only[aB];refine zaa 10 ?_;simp only[aB];refine zab 11 rfl (by kernel_rfl) (λKK hK=>?_);go_simp;refine hK _ _ (λh=>absurd h (by decide)) ?_;clear hK KK;try simp only[aB]
   refine zae (by kernel_rfl) ?_;unfold zlW;clear aC g0 g1;go_wp2_with fail;go_roundw;case rel=>exact⟨k+1,by omega,by go_num,Gk,W8⟩
   case measure=>simp[intOf];omega
  ·have Ji:k=nv:=by omega
   have G9:¬(k:Int) < (nv:Int):=by omega
   obtain⟨wn,RK⟩:=aF wr;have kR:MpV wn N nv (fA (ptrL V nv) nms):=by rw[RK,<-Ji];have:=HM.out;rw[List.take_of_length_le (by rw[RC.2];omega)]at this;exact this
   have Rp:Fr (λb=>b=N) w3 wn:=by rw[RK];exact HF.out
   rw[<-RK];have Yy:=aA kR;have Yz:=aA Rp;have Ro:=J2.out;have Px:=aA ((gN.fr Rp (Rn _ (by omega))));have Vz:=aA ((Fe.fr Rp (Rn _ (by omega))));have Xr:=aA ((kQ.fr Rp (Rn _ (by omega))));have kS:=aA ((kP.fr Rp (Rn _ (by omega))));have kT:=aA ((PI.fr Rp (Rn _ (by omega))));have kU:=aA ((X7.fr Rp (Rn _ (by omega))));have Sy:=(Sw.fr0 Gi.out).fr Rp (Rn _ (by omega));have Xt:=(Nb.fr0 Gi.out).fr Rp (Rn _ (by have:=Nb.lt;have:=Gi.size;have:=Hl.size;omega));have Dt:=Sy.cell 1;have kb1l:=Sy.lt;simp only[aD]at Dt;have Xu:=aA Sy;have Xv:=aA Xt;have Xw:w3.heap.size<=wn.heap.size:=Rp.size;have Ms:=aA Xw;clear Ji RK kR Rp HM HF ME hk kP Fe kQ gN PI X7 Sy Xt Xw;obtain⟨ans,Sz⟩:=aF (nmA t.arrays);obtain⟨zs,Qt⟩:=aF (t.arrays.map (·.size));have VG:=aA (show ans.Nodup/\ans.length=na/\zs.length=na/\ans=nmA t.arrays/\zs=t.arrays.map (·.size)from⟨by rw[Sz];exact(freshL_iff.1 Ni.arrays).2,by rw[Sz,Xn.out];simp[nmA],by rw[Qt,Xn.out];simp,Sz,Qt⟩);have yS:na<=4:=by rw[Xn.out];exact(fewT_iff.1 Ni.few).2.1
   clear Sz Qt Rn Ro;go_wp2_with fail;go_loopw [76] (λi wr=>∃(k:Nat)(v:Value)(bs:List Nat),k<=na/\i= .int .i64 k/\Hid (BgA wn R MA (.slice As ns cs) (.int .i64 st) (.slice (some ⟨V,0,none⟩) nv nv) ans zs v wr bs k)) (λi _=>na - (intOf i).toNat);case atStart=>
    refine⟨0,.slice none 0 0, [],Nat.zero_le _,rfl,aA ⟨aH,Vz.out,World.ownsRow_nil _ _ _ _,?_,rfl,λi b l hi=>by simp at hi,List.nodup_nil,λb hb=>by simp at hb,λb hb=>by simp at hb⟩⟩;exact kS.out
   case round=>
    clear kS Vz Dt kb1l;obtain⟨k,v,bs,hk,rfl,HB⟩:=hrel;by_cases Hk:k < na
    ·have KQ:k < t.arrays.length:=by rw[<-Xn.out];exact Hk
     have G6:Fr (λb=>b=N\/b=R\/b=MA) w3 wr:=(Yz.mono λ_ _ e=> .inl e).trans (HB.fr.mono λ_ _ e=> .inr e);obtain⟨b0,o0,rfl,Hg⟩:=(Vs wr _ G6 (λb e=>by have:=J2.out;omega)).arrays.2.2 (by omega);have LS:=List.drop_eq_getElem_cons KQ;obtain⟨⟨pn,pz,pa⟩,GD⟩:=aF (t.arrays[k]);rw[<-GD]at LS;have Hq:=ArR.drop k Hg;rw[LS]at Hq;obtain⟨⟨_,_,_,_,g0,g1,g2⟩,_⟩:=Hq;simp only at g0 g1 g2;have LF:pn.size<=9223372036854775807:=by
      have:=HX.2.2.1.arrays _ (List.getElem_mem KQ);rw[<-GD]at this;exact this
     have JG:1<=pz/\pz<=16:=by
      have:=Ni.sizes _ (List.getElem_mem KQ);rw[<-GD]at this;exact this
     obtain⟨n,rfl⟩:∃n:Nat,pz=n:=⟨pz.toNat,by omega⟩;have PH:ans[k]?=some pn.data.toList:=by
      rw[VG.2.2.2.1];unfold nmA;rw[List.getElem?_map,List.getElem?_eq_getElem KQ,<-GD];rfl
     have kV:zs[k]?=some (n:Int):=by
      rw[VG.2.2.2.2,List.getElem?_map,List.getElem?_eq_getElem KQ,<-GD];rfl
     have Yw:pn.data.toList∉ans.take k:=λhm=>by
      have h1:=VG.1;have RJ:ans.take (k+1)=ans.take k++ [pn.data.toList]:=by rw[List.take_add_one,PH];rfl
      rw[<-List.take_append_drop (k+1) ans,RJ]at h1;exact(List.nodup_append.1 (List.nodup_append.1 h1).1).2.2 _ hm _ List.mem_cons_self rfl
     have Gj:(k:Int) < (na:Int):=by omega
     obtain⟨w4,Fv⟩:=aF (wr.alloc (.cells #[.string pn,.int .i64 n,.int .i64 pa] 61));have HJ:Fr NoT wr w4:=by rw[Fv];exact aH.alloc _
     have Fq:Bk w4 wr.heap.size 61 #[.string pn,.int .i64 n,.int .i64 pa]:=by rw[Fv];exact Bk.new _ _ _
     have Ro:=J2.out;have gO:∀b,b < R->¬(b=R\/b=MA):=λb hb e=>by omega
     have SA:∀b,MA < b->¬(b=R\/b=MA):=λb hb e=>by omega
     have gP:¬(r=R\/r=MA):=by omega
     have xf:=aA gP;have yT:=aA SA;have Kp:=aA (show ∀w,Fr NoT w4 w->A2S wr.heap.size P MA pn n w from λw hf=>
      ⟨((Xr.fr HB.fr (SA _ (by omega))).fr0 (HJ.trans hf)).cell 1,(Fq.fr0 hf).cell 0,(Fq.fr0 hf).cell 1⟩)
     have gQ:=λw=>zhb n (by omega) w;obtain⟨w5,Jd⟩:=aF ((w4.alloc (.cells (intL (zers n)).toArray 3)).drew );have Hm:Fr NoT w4 w5:=by rw[Jd];exact((Fr.refl NoT w4).alloc _).drew
     obtain⟨w6,K1,Na,MF⟩:=MpV.put ((HB.map.fr HJ id).fr Hm id) Tryz.underlying70 (s:=pn) LF (slL w4.heap.size n) (by unfold maxLen;omega);have Fj:Bk w6 wr.heap.size 61 #[.string pn,.int .i64 n,.int .i64 pa]:=((Fq.fr0 Hm).fr (Fr.grown (T:=λb=>b=MA) MF λg e _=>(Option.some.inj e).symm) (λe=>by have e:wr.heap.size=MA:=e;have:=HB.fr.size;have:=Ms.out;omega));have Rq:Fr (λb=>b=MA) w4 w6:=Hm.any.trans (Fr.grown MF λg e _=>(Option.some.inj e).symm);have gR:=aA Rq;have Jx:∀b,v.ownBlock=some b->wn.heap.size<=b/\b < wr.heap.size:=λb hb=>HB.row.lt b hb;have RK:=Ms.out;have gS:=HB.fr.size;have Th:∀w,Fr (λb=>v.ownBlock=some b) w6 w->(Instr.lookup 70 (.map (some MA)) (.string pn) false).run Tryz.prog w= .ok (.slice (some ⟨w4.heap.size,0,none⟩) n n) w:=λw hf=>by
      have h9:=MpV.get (Na.fr hf (λe=>by have:=Jx _ e;omega)) Tryz.underlying70 (s:=pn) LF (z:= .slice none 0 0) (by kernel_rfl);rw[if_pos rfl]at h9;exact h9
     have Ss:=aA (show ∀w,Fr (λb=>v.ownBlock=some b) w6 w->A3S wr.heap.size r R P MA pn v (.slice (some ⟨w4.heap.size,0,none⟩) n n) w from λw hf=>
      ⟨((((Px.fr HB.fr gP).fr0 HJ).fr Rq (by omega)).fr hf (λe=>by have:=Jx _ e;omega)).cell 0,(((HB.bk.fr0 HJ).fr Rq (by omega)).fr hf (λe=>by have:=Jx _ e;omega)).cell 8,((((Xr.fr HB.fr (SA _ (by omega))).fr0 HJ).fr Rq (by omega)).fr hf (λe=>by have:=Jx _ e;omega)).cell 1,(Fj.fr hf (λe=>by have:=Jx _ e;omega)).cell 0,Th w hf⟩)
     have yU:=aA (show(w4.drew.alloc (.cells (intL (zers n)).toArray 3)).grownBy w6 (some MA) by rw[Jd]at MF;exact MF);have KB:=aA Na;have NP:=aA Fv;have X8:=aA Jd;have HK:=aA (aG kV (aG PH Yw));have GG:=aA HJ;have yV:=aA (show w4.drew.heap.size=w4.heap.size from rfl);unfold slL at K1;rw[Jd]at K1;clear KQ G6 Hg LS GD LF PH kV Yw Fv HJ Fq Na MF Fj Rq Hm Jd Th gO SA gP Ro Jx RK gS;go_wp2_with fail;rw[<-NP.out];refine zbX (A2S wr.heap.size P MA pn n) (λi=>decide (i < 9)) (by kernel_rfl) (Kp _ (Fr.refl NoT w4).drew) (λaC=>?_);refine zaa 0 ?_;simp only[aB];refine zaa 1 ?_;simp only[aB];refine zaa 2 ?_;simp only[aB];refine zac 3 aC ?_;simp only[aB];refine zaa 4 ?_;simp only[aB];refine zac 5 aC ?_;simp only[aB];refine zaa 6 ?_;simp only[aB];refine zac 7 aC ?_;simp only[aB];refine zab 8 rfl (by kernel_rfl) (λKK hK=>?_);go_simp;refine hK _ _ (λ_ _=>Kp _ ((Fr.refl NoT w4).alloc _).drew) ?_;clear hK KK;try simp only[aB]
     refine zab 9 rfl (by kernel_rfl) (λKK hK=>?_);go_simp;refine hK _ _ (λh=>absurd h (by decide)) ?_;clear hK KK;try simp only[aB]
     refine zae (by kernel_rfl) ?_;unfold zlW;clear aC g0 g1 g2 K1 gQ;go_wp2_with fail;obtain⟨iS,kW,kX,kY,Gn⟩:=info_parts zpv;have Ry:=aA (aG kW (aG kX (aG kY Gn)));clear kW kX kY Gn;have Mz:=Ss w6.drew (Fr.refl _ w6).drew;refine zbX (A3S wr.heap.size r R P MA pn v (.slice (some ⟨w4.heap.size,0,none⟩) n n)) (λi=>decide (i < 16)) (by kernel_rfl) Mz (λaC=>?_);clear Mz;refine zac 0 aC ?_;simp only[aB];refine zac 1 aC ?_;simp only[aB];refine zaa 2 ?_;simp only[aB];refine zaa 3 ?_;simp only[aB];refine zaa 4 ?_;simp only[aB];refine zaa 5 ?_;simp only[aB];refine zac 6 aC ?_;simp only[aB];refine zaa 7 ?_;simp only[aB];refine zaa 8 ?_;simp only[aB];refine zaa 9 ?_;simp only[aB];refine zac 10 aC ?_;simp only[aB];refine zaa 11 ?_;simp only[aB];refine zac 12 aC ?_;simp only[aB];refine zac 13 aC ?_;simp only[aB];refine zab 14 rfl (by kernel_rfl) (λKK hK=>?_);go_simp;obtain⟨w7,PC⟩:=aF ((w6.alloc (.cells #[slL w4.heap.size n] 28)).drew );have UN:=PC;unfold slL at UN;rw[<-UN];have Hs:Fr NoT w6 w7:=by rw[PC];exact(aH.alloc _).drew
     have KO:Bk w7 w6.heap.size 28 #[slL w4.heap.size n]:=by rw[PC];exact(Bk.new _ _ _).fr0 aI.drew
     have yW:=aA (show w7.heap.size=w6.heap.size+1 by rw[PC];simp);have Fp:=aA Hs;have UO:=aA KO;clear PC UN Hs KO;try dsimp only
     refine hK _ _ (λ_ _=>Ss _ Fp.any) ?_;clear hK KK;try simp only[aB]
     refine zab 15 rfl (by kernel_rfl) (λKK hK=>?_);have SB:Fr (λb=>b=MA) wr w7:=(GG.any.trans gR.out).trans Fp.any;have Ti:w7.ownsRow wn.heap.size 28 1 v k (rowL bs (begB (zs.take k))):=by
      refine⟨HB.row.1,HB.row.2.imp id ?_⟩;rintro⟨g',xO,cur,e1,e2,e3,e4⟩;refine⟨g',xO,cur,e1,e2,(SB.block g' (HB.row.lt g' (by rw[e1];rfl)).2 (λe=>?_)).trans e3,e4⟩;have e:g'=MA:=e;have h1:=(HB.row.lt g' (by rw[e1];rfl)).1;have h2:=Ms.out;have h3:=J2.out;omega
     have Xx:(rowL bs (begB (zs.take k))).length =k:=by
      have h1:=VG.2.2.1;unfold begB;rw[zfV (by rw[HB.len,List.length_map,List.length_take];omega),List.length_map,List.length_take];omega
     refine step_append_lies _ (by rfl) _ _ _ (by rfl) wn.heap.size 28 iS (.slice none 0 0) 1 24 Tryz.underlying30 Ry.1 Ry.2.1 Ry.2.2.1 Ry.2.2.2 rfl (by decide) v k _ (by rfl) Ti
      ⟨w6.heap.size,0,none⟩ 1 1 [slL w4.heap.size n] (by rfl) (by rfl) UO.newsK (by simp[slL,Value.oneCell']) (by omega) ?c63 ?cby ?cba w7.heap.size rfl ?_
     case c63=>unfold maxLen;omega
     case cby=>omega
     case cba=>have h1:=Yz.size;have h2:=HB.fr.size;have:=SB.size;omega
     intro gg cap w8 Ha Hf GN gT;have Gu:=HB.step (by have:=J2.out;have:=Ms.out;omega) (by have:=J2.out;have:=Ms.out;omega) (by have:=J2.out;omega) HK.1 HK.2.1 HK.2.2 GG.drew yU.out KB.out Fp.out Ha Hf GN;have Jx:∀b,v.ownBlock=some b->wn.heap.size<=b/\b < wr.heap.size:=λb hb=>HB.row.lt b hb;have GQ:Fr (λb=>v.ownBlock=some b) w7 w8:=Fr.grown Hf λg e _=>e;have yX:R < wn.heap.size:=by have:=J2.out;have:=Ms.out;omega
     have Kt:=(HB.bk.fr SB (by have:=J2.out;omega)).fr GQ (λe=>by have:=Jx _ e;omega);have c8:=Kt.cell 8;have f8:=Kt.frozen 8;have l8:=Kt.lt;have Gb:=aA Gu;have Vc:=aA (Ss w8 (Fp.any.trans GQ));simp only[zjI,List.getElem?_toArray,List.getElem?_cons_succ,List.getElem?_cons_zero]at c8;clear SB Ti Xx Ha Hf GN gT Gu Jx GQ yX Kt aC;try dsimp only
     refine hK _ _ (λ_ _=>Vc.out) ?_;clear hK KK;try simp only[aB]
     refine zaa 16 ?_;simp only[aB];refine zaa 17 ?_;simp only[aB];refine zaa 18 ?_;simp only[aB];refine zaa 19 ?_;simp only[aB];refine zab 20 rfl (by kernel_rfl) (λKK hK=>?_);go_simp;refine hK _ _ (λh=>absurd h (by decide)) ?_;clear hK KK;try simp only[aB]
     refine zae (by kernel_rfl) ?_;unfold zlW;clear c8 f8 l8;go_wp2_with fail;go_roundw;case rel=>exact⟨k+1,_,_,by omega,by go_num,Gb⟩
     case measure=>simp[intOf];omega
    ·have Ji:k=na:=by omega
     have G9:¬(k:Int) < (na:Int):=by omega
     have Ro:=J2.out;have RK:=Ms.out;have hb:=HB.out;obtain⟨wc,Tj⟩:=aF wr;rw[<-Tj]at hb ⊢;rw[Ji,VG.2.2.2.1,VG.2.2.2.2,Xn.out,kL.out,Sq.out]at hb;have Xk:=kU.out;rw[Sq.out]at Xk;have G6:Fr (λb=>W.heap.size<=b) W wc:=((Hu.trans Gi.out).any.trans (Yz.mono λb _ e=>by have e:b=N:=e;show W.heap.size<=b;omega)).trans (hb.fr.mono λb _ e=>by have e:b=R\/b=MA:=e;show W.heap.size<=b;omega);obtain⟨A,c,rfl,Jh⟩:=BgA.sets (V:=V) (P:=P) (MP:=MP) (B:=W.heap.size) Ni.out hb (by omega) (by omega) (by omega) (by omega) (by omega) (by omega) (by omega) (by omega) (by omega) Gb.out (HX.2.2.2.1.keep λp hp=>G6.cell hp (by omega)) Xk Xr.out;have SC:=Xu.fr hb.fr (by omega);have Xy:=Xv.fr hb.fr (λe=>by have e:W.heap.size+1=R\/W.heap.size+1=MA:=e;have:=Nb.lt;have:=Gi.size;have:=Hl.size;have:=Hu.size;omega);have yY:=aA (Px.fr hb.fr (by omega));have yZ:=aA (Xr.fr hb.fr (by omega));have Xz:=aA (kT.fr hb.fr (by omega));have NO:=aA (Yy.fr hb.fr (by omega));have kZ:=aA ((Yz.mono (T':=λb=>b=N\/b=R\/b=MA) λ_ _ e=> .inl e).trans (hb.fr.mono λ_ _ e=> .inr e));have uG:=SC.cell 2;have kc2l:=SC.lt;simp only[aD]at uG;have gU:=aA SC;have gV:=aA Xy;have PD:=aA Jh;have QO:=aA (show wn.heap.size<=wc.heap.size/\(∀n b,(Value.slice A n c).ownBlock =some b->wn.heap.size<=b)/\∀b∈bs,wn.heap.size<=b from⟨hb.fr.size,λn b GO=>(hb.row.lt b (by cases A<;>exact GO)).1,λb GO=>by
      obtain⟨i,hi⟩:=List.mem_iff_getElem?.1 GO;have hl:i < t.arrays.length:=by rw[<-hb.len];exact(List.getElem?_eq_some_iff.1 hi).1
      exact(hb.each i b _ hi (zhR (List.getElem?_eq_getElem hl))).1⟩)
     clear Ji Ro RK hb Tj Xk G6 Jh SC Xy HB hk Xu Xv Xr kT Px kU Yy;have y9:np<=8:=by rw[Si.out];exact(fewT_iff.1 Ni.few).2.2
     obtain⟨wfp,wfm⟩:=zlU Ni.out HX.2.2.1;have XA:=aA wfp;have za:=aA wfm;clear wfp wfm;go_wp2_with fail;go_loopw [113] (λi wr=>∃(k T:Nat)(f:List UInt8->Option Value),k<=np/\i= .int .i64 k/\Hid (wc.heap.size<=T/\T<=wr.heap.size)/\Hid (Fr (λb=>b=MP) wc wr)/\Hid (PrF (bgC t W.heap.size wc.heap.size R V P MA MP A c bs) T (kdL (t.procs.take k)) f k wr)) (λi _=>np - (intOf i).toNat);case atStart=>
      exact⟨0,wc.heap.size,λ_=>none,Nat.zero_le _,rfl,aA ⟨aL _,aL _⟩,aA aH,aA ⟨Xz.out,λnm p hk=>by obtain⟨x,hx,_⟩:=hk;simp at hx⟩⟩
     case round=>
      clear uG kc2l Xz;obtain⟨k,T,f,hk,rfl,HT,HF,HP⟩:=hrel;by_cases Hk:k < np
      ·have KQ:k < t.procs.length:=by rw[<-Si.out];exact Hk
       have Ro:=J2.out;have G6:Fr (λb=>b=N\/b=R\/b=MA\/b=MP) w3 wr:=(kZ.mono λ_ _ e=>by omega).trans (HF.mono λ_ _ e=> .inr (.inr (.inr e)));have XB:=Vs wr _ G6 (λb e=>by have:=J2.out;omega);obtain⟨b0,o0,rfl,Hg⟩:=XB.procs.2.2 (by omega);have LS:=List.drop_eq_getElem_cons KQ;obtain⟨x,GD⟩:=aF (t.procs[k]);rw[<-GD]at LS;have Hq:=PrR.drop k Hg;rw[LS]at Hq;obtain⟨⟨_,_,_,g0,g3⟩,⟨A5,c5,g1,s5⟩,⟨A6,c6,g2,s6⟩,_⟩:=Hq;have VB:x∈t.procs:=by rw[GD];exact List.getElem_mem KQ
       have YA:t.procs[k]?=some x:=by rw[List.getElem?_eq_getElem KQ,<-GD]
       obtain⟨LF,L4,_⟩:=HX.2.2.1.procs x VB;obtain⟨Du,Dv,Dw⟩:=XA k x YA;have UP:(nmP t.procs).Nodup :=(freshL_iff.1 Ni.procs).2;have qa:∀p,(bnOf t).procs x.nm.data.toList=some p->p=x:=λp hp=>by
        have h9:zaX t.procs x.nm.data.toList=some x:=zcD UP VB;exact Option.some.inj (hp.symm.trans h9)
       have NU:¬kdL (t.procs.take k) x.nm.data.toList:=λhm=>by
        obtain⟨y,hy,e⟩:=hm;have RJ:(nmP t.procs).take (k+1)=(t.procs.take k).map (·.nm.data.toList)++ [x.nm.data.toList]:=by
         unfold nmP;rw[<-List.map_take,List.take_add_one,YA];simp
        have h1:=UP;rw[<-List.take_append_drop (k+1) (nmP t.procs),RJ]at h1;exact(List.nodup_append.1 (List.nodup_append.1 h1).1).2.2 y.nm.data.toList (List.mem_map.2 ⟨y,hy,rfl⟩) _ List.mem_cons_self e.symm
       have qb:kdL (t.procs.take (k+1))=λy=>kdL (t.procs.take k) y\/y=x.nm.data.toList:=by
        funext y
        rw[List.take_add_one,YA];apply propext;unfold kdL;simp only[Option.toList_some,List.mem_append,List.mem_singleton];constructor
        ·rintro⟨z,hz|rfl,e⟩
         ·exact .inl ⟨z,hz,e⟩
         ·exact .inr e
        ·rintro(⟨z,hz,e⟩|e)
         ·exact⟨z,.inl hz,e⟩
         ·exact⟨x,.inr rfl,e⟩
       have Gj:(k:Int) < (np:Int):=by omega
       obtain⟨l5,Jr⟩:=aF x.params.length;obtain⟨l6,Jb⟩:=aF x.body.len;obtain⟨pn,W4⟩:=aF x.nm;obtain⟨pa,GP⟩:=aF x.at_;obtain⟨w4,Fv⟩:=aF (wr.alloc (.cells #[.string pn,.slice A5 l5 c5,.slice A6 l6 c6,.int .i64 pa] 63));have HJ:Fr NoT wr w4:=by rw[Fv];exact aH.alloc _
       have Fq:Bk w4 wr.heap.size 63 #[.string pn,.slice A5 l5 c5,.slice A6 l6 c6,.int .i64 pa]:=by rw[Fv];exact Bk.new _ _ _
       have XC:=HF.size;have Fu:W.heap.size<=wr.heap.size:=by have:=QO.1;have:=Ms.out;omega
       have N2:∀w,Fr NoT w4 w->SameS S wr w:=λw hf=>(HJ.trans hf).same λb hb=>⟨aM (HX.2.1 b hb) Fu,id⟩;have Kp:=aA (show ∀w,Fr NoT w4 w->A4S wr.heap.size P MP pn (.slice A5 l5 c5) (.slice A6 l6 c6) w from λw hf=>
        ⟨((yZ.fr HF.out (by omega)).fr0 (HJ.trans hf)).cell 2,(Fq.fr0 hf).cell 0,(Fq.fr0 hf).cell 1,(Fq.fr0 hf).cell 2⟩)
       have Jh:=PD w4.drew.heap.size (by have h9:=HJ.drew.size;omega);have LJ:=PD wc.heap.size (aL _);have LX:=HP.up (T2:=w4.drew.heap.size) HT.2 Fu (by show W.heap.size<=MP;omega) HJ.drew (aK HT.2 HJ.drew.size) (aL _);have GE:PgAt (bgC t W.heap.size w4.drew.heap.size R V P MA MP A c bs) w4.drew:=(LJ.2.1.later LJ.1 (Later.of (lo:=0) (hi:=0) ((HF.mono λb _ e=> .inr (.inr (.inr e))).trans HJ.drew.any) (Nat.zero_le _) (aL _))).to (C:=(bgC t W.heap.size wc.heap.size R V P MA MP A c bs)) (T:=wc.heap.size) (aK XC HJ.drew.size);have Pd:=aA (show Calls Tryz.prog 23 #[.pointer (some ⟨P,0,none⟩),.slice A6 l6 c6] w4.drew (MkD (bgC t W.heap.size w4.drew.heap.size R V P MA MP A c bs) (x.params.map (·.nm.data.toList)) (RunT (bnOf t) (.all (x.params.map (·.nm.data.toList)) x.body)) w4.drew) by
        rw[Jb];exact zg9 (bgC t W.heap.size w4.drew.heap.size R V P MA MP A c bs) _ _ Jh.1 x.body Du w4.drew S Z A6 c6 (aL _) GE LX.at_ HX.2.1 (s6.imp λ_ _ hx=>StR.keep (N2 _ (Fr.refl NoT w4).drew) hx))
       have zb:=aA (show ∀w,Fr NoT w4 w->SlR (VaR w S Z x.params) x.params.length 24 A5 c5 from λw hf=>s5.imp λ_ _ hx=>VaR.keep (N2 w hf) hx);have MK:=aA (show x.nm.size<=9223372036854775807/\(∀y∈x.params,y.nm.size<=9223372036854775807)/\(x.params.map (·.nm.data.toList)).Nodup /\(∀nm∈x.params.map (·.nm.data.toList),posI (bnOf t).vars nm=none)from⟨LF,L4,Dv,Dw⟩);have zc:=aA qa;have gW:=aA NU;have ze:=aA qb;have U8:=aA LX;have NP:=aA Fv;have GG:=aA HJ;have XD:=aA (aG W4 (aG Jr (aG Jb GP)));have RH:=aA Fu;have gY:=aA (show W.heap.size<=MP by omega);rw[<-W4]at g0;rw[<-GP]at g3;rw[<-Jr]at g1;rw[<-Jb]at g2;clear KQ G6 XB Hg LS GD s5 s6 VB YA LF L4 Du Dv Dw UP qa NU qb Jr Jb W4 GP Fv HJ Fq Ro XC Fu N2 Jh LJ LX GE;go_wp2_with fail;rw[<-NP.out];refine zbX (A4S wr.heap.size P MP pn (.slice A5 l5 c5) (.slice A6 l6 c6)) (λi=>decide (i < 13)) (by kernel_rfl) (Kp _ (Fr.refl NoT w4).drew) (λaC=>?_);refine zaa 0 ?_;simp only[aB];refine zaa 1 ?_;simp only[aB];refine zaa 2 ?_;simp only[aB];refine zac 3 aC ?_;simp only[aB];refine zaa 4 ?_;simp only[aB];refine zac 5 aC ?_;simp only[aB];refine zaa 6 ?_;simp only[aB];refine zac 7 aC ?_;simp only[aB];refine zaa 8 ?_;simp only[aB];refine zaa 9 ?_;simp only[aB];refine zac 10 aC ?_;simp only[aB];refine zab 11 rfl (by kernel_rfl) (λKK hK=>?_);go_simp;go_at_call 23;refine Pd.mono ?_;rintro _ w5 ⟨vb,rfl,Hm,gZ⟩;obtain⟨gg,cps,rfl⟩:=gZ.func;have Gk:=aA Hm;have zf:=aA gZ
       clear Hm gZ;try dsimp only
       refine hK _ _ (λ_ _=>Kp _ ((Fr.refl NoT w4).drew.trans Gk.out)) ?_;clear hK KK;try simp only[aB]
       refine zaa 12 ?_;simp only[aB];obtain⟨w6,K1,Na,MF⟩:=MpV.put ((show MpV w4.drew MP k f from U8.1).fr Gk.out id) Tryz.underlying71 (s:=pn) (by rw[XD.1];exact MK.1) (.agg #[.slice A5 l5 c5,.func (.func gg) #[] cps]) (by unfold maxLen;omega);have Gu:PrF (bgC t W.heap.size wc.heap.size R V P MA MP A c bs) w5.heap.size (λy=>kdL (t.procs.take k) y\/y=x.nm.data.toList) _ (k+1) w6:=U8.step (aL _) (aK RH.out GG.drew.size) gY.out Gk.out zc.out zf.out (zb w5 ((Fr.refl NoT w4).drew.trans Gk.out)) HX.2.1 MK.2.1 MK.2.2.1 MK.2.2.2 MF (by rw[<-XD.1,<-XD.2.1];exact Na) gW.out;rw[<-ze.out]at Gu;have Pr:=aA Gu;have G1:=aA (show Fr (λb=>b=MP) wc w6 from HF.trans (((GG.drew.trans Gk.out).any).trans (Fr.grown MF λg e _=>(Option.some.inj e).symm)));have Zm:=aA (show wc.heap.size<=w5.heap.size/\w5.heap.size<=w6.heap.size from⟨aK HF.size (GG.drew.trans Gk.out).size,MF.size⟩);clear Gu Na MF aC;refine zab 13 rfl (by kernel_rfl) (λKK hK=>?_);go_simp;refine hK _ _ (λh=>absurd h (by decide)) ?_;clear hK KK;try simp only[aB]
       refine zae (by kernel_rfl) ?_;unfold zlW;clear g0 g1 g2 g3 K1;go_wp2_with fail;go_roundw;case rel=>exact⟨k+1,_,_,by omega,by go_num,Zm,G1,Pr⟩
       case measure=>simp[intOf];omega
      ·have Ji:k=np:=by omega
       have G9:¬(k:Int) < (np:Int):=by omega
       have Ro:=J2.out;have SD:=QO.out;have RK:=Ms.out;obtain⟨wd,Vn⟩:=aF wr;have hf:=HF.out;have hT:=HT.out;have hp:=HP.out;rw[Ji,List.take_of_length_le (by rw[Si.out];exact aL _)]at hp;rw[<-Vn]at hf hT hp ⊢;have Fu:W.heap.size<=wd.heap.size:=by have:=hf.size;omega
       have Jh:=PD wd.heap.size hf.size;have LJ:=PD wc.heap.size (aL _);have LX:=hp.up (T2:=wd.heap.size) hT.2 Fu (by show W.heap.size<=MP;omega) (Fr.refl NoT wd) hT.2 (aL _);have GE:PgAt (bgC t W.heap.size wd.heap.size R V P MA MP A c bs) wd:=(LJ.2.1.later LJ.1 (Later.of (lo:=0) (hi:=0) (hf.mono λb _ e=> .inr (.inr (.inr e))) (Nat.zero_le _) (aL _))).to (C:=bgC t W.heap.size wc.heap.size R V P MA MP A c bs) (T:=wc.heap.size) hf.size;have JH:Fr (λb=>b=N\/b=R\/b=MA\/b=MP) w3 wd:=(kZ.mono λ_ _ e=>by omega).trans (hf.mono λ_ _ e=> .inr (.inr (.inr e)));have XB:=Vs wd _ JH (λb e=>by have:=J2.out;omega);have Tl:=za.out;have H9:Calls Tryz.prog 23 #[.pointer (some ⟨P,0,none⟩),.slice Am nm cm] wd (MkD (bgC t W.heap.size wd.heap.size R V P MA MP A c bs) [] (RunT (bnOf t) (.all [] t.main)) wd):=by
        rw[Ma.out];exact zg9 (bgC t W.heap.size wd.heap.size R V P MA MP A c bs) _ _ Jh.1 t.main Tl wd S Z Am cm (aL _) GE LX.at_ HX.2.1 XB.main
       have UQ:=gU.fr hf (by omega);have XE:=gV.fr hf (by omega);have RF:=yY.fr hf (by omega);have qc:=NO.fr hf (by omega);have DW:=UQ.cell 3;have kd3l:=UQ.lt;simp only[aD]at DW;have VD:∀b,b < wn.heap.size->b∉bs:=λb hb hm=>by have:=SD.2.2 b hm;omega
       have XF:=Jh.2.2.fr Jh.1 hf (by show ¬R=MP;omega) (by show ¬V=MP;omega) (λb hb e=>VD MP (by omega) (by have e:b=MP:=e;exact e▸hb)) (λb hb e=>by have h9:=SD.2.1 _ b hb;have e:b=MP:=e;omega) (λb hb=>by simp at hb) (λb hb e=>by have hb:b < W.heap.size:=hb;have e:b=MP:=e;omega);have Rr:bigE t ns st=0:=by rw[<-Xo.out,yQ.out]
       have GL:=P8 Rr;have PN:∀w5,Fr NoT wd w5->RunAt (bgC t W.heap.size wd.heap.size R V P MA MP A c bs) wd.heap.size w5.heap.size w5 w5 [] [] N (bs0 t script st):=λw5 Hm=>
        ⟨Later.refl (aL _) Hm.size,λb hb=>by simp at hb,XF.fr0 Jh.1 Hm,
         ⟨nv,_,qc.fr Hm id,by show nv+(st:Int).toNat <=1000000;have:=Gb.out;omega,λnm i hi=>by
          unfold fA;have hi:posI nms nm=some i:=by rw[kO.out];exact hi
          have g8:=zcF hi;rw[hi];exact zpu (by rw[<-RC.2];exact g8),λnm k hk=>by simp[posI]at hk⟩,λnm k hk=>by simp[posI]at hk,λe=>by
          rcases e with(e|e|e|e)|e
          ·have e:N=R:=e;omega
          ·have e:N=V:=e;omega
          ·exact VD N (by omega) e
          ·have e:N=MP:=e;omega
          ·simp at e⟩
       have K3:∀b,b < wn.heap.size->b≠R->b≠V->b≠MP->¬(bgC t W.heap.size wd.heap.size R V P MA MP A c bs).MutO [] b:=λb h1 h2 h3 h4 e=>by
        rcases e with(e|e|e|e)|e
        ·exact h2 e
        ·exact h3 e
        ·exact VD b h1 e
        ·exact h4 e
        ·simp at e
       have Tm:∀b,(bgC t W.heap.size wd.heap.size R V P MA MP A c bs).MutO [] b->W.heap.size<=b:=λb e=>by
        rcases e with(e|e|e|e)|e
        ·have e:b=R:=e;omega
        ·have e:b=V:=e;omega
        ·have:=SD.2.2 b e;omega
        ·have e:b=MP:=e;omega
        ·simp at e
       have Fk:Fr (λb=>W.heap.size<=b) W wd:=(Hu.trans Gi.out).any.trans (JH.mono λb _ e=>by have e:b=N\/b=R\/b=MA\/b=MP:=e;show W.heap.size<=b;omega);have MW:=aA (show ∀w5 w6 w7,Fr NoT wd w5->Fr ((bgC t W.heap.size wd.heap.size R V P MA MP A c bs).MutO []) w5 w6->BgSt (bgC t W.heap.size wd.heap.size R V P MA MP A c bs) [] u w6->Fr (λb=>b=W.heap.size+1) w6 w7->BigP t script st h u W (.returned (.tuple #[.agg (zdG (hoD h).kind (hoD h).wrong (hoD h).at_ (.int .i64 0) (.int .i64 0) (.int .i64 u.left) (.slice (some ⟨V,0,none⟩) u.vs.length u.vs.length) (.slice A u.ls.length c)),.int .i64 0])) w7 from λw5 w6 w7 g5 g6 gs g7=>by
        refine⟨((Fk.trans g5.any).trans ((g6.mono λb _ e=>Tm b e).trans (g7.mono λb _ e=>by have e:b=W.heap.size+1:=e;show W.heap.size<=b;omega))).mono λb hb e=>by have e:W.heap.size<=b:=e;omega,?_⟩;rw[<-kL.out,if_pos Rr];exact⟨V,A,c,bs,rfl,gs.sto.fr g7 (by show ¬V=W.heap.size+1;omega) (λb hb e=>by have:=SD.2.2 b hb;have e:b=W.heap.size+1:=e;omega) λb hb e=>by have h9:=SD.2.1 _ b hb;have e:b=W.heap.size+1:=e;omega⟩)
       have XG:=aA (show ∀w5 w6,Fr NoT wd w5->Fr ((bgC t W.heap.size wd.heap.size R V P MA MP A c bs).MutO []) w5 w6->BgSt (bgC t W.heap.size wd.heap.size R V P MA MP A c bs) [] u w6->∃xx xh,bgRcS r R (W.heap.size+1) zeV (.slice xx u.script.length xh) (.int .u8 0) (.int .u8 0) (.int .i64 0) (.int .i64 0) (.int .i64 0) (.int .i64 u.left) (.slice (some ⟨V,0,none⟩) u.vs.length u.vs.length) (.slice A u.ls.length c) w6 from λw5 w6 g5 g6 gs=>by
        obtain⟨xx,xh,_,Pk⟩:=gs.run;exact⟨xx,xh,(RF.fr0 g5).fr g6 (K3 r (by omega) (by omega) (by omega) (by omega)),Pk,(XE.fr0 g5).fr g6 (K3 _ (by omega) (by omega) (by omega) (by omega)),by omega,by omega⟩)
       have Pd:=aA H9;have Tn:=aA GL;have WH:=aA PN;clear Ji Ro SD RK Vn hf hT hp Fu Jh LJ LX GE JH XB Tl H9 UQ XE RF qc VD XF Rr GL PN K3 Tm Fk hk HF HT HP;go_wp2_with fail;refine Pd.mono ?_;rintro _ w5 ⟨vb,rfl,Hm,g,caps,rfl,hg,GC⟩;have qd:=aA (GC w5 [] N _ h u (WH w5 Hm) Tn.out);have Gk:=aA Hm;unfold Enters at hg;clear Hm GC WH Tn Pd;go_wp2_with fail;refine qd.mono ?_;rintro e w6 ⟨rfl,Mz,GA⟩;obtain⟨xx,xh,SD⟩:=XG w5 w6 Gk.out GA Mz;have XH:=aA SD;have PU:=aA (λw7 h7=>MW w5 w6 w7 Gk.out GA Mz h7);clear Mz GA SD qd MW XG;cases h with
       |none=>
        unfold zeI;go_wp2_with fail;refine leaves_cons (f:=24) (args:= #[.pointer (some ⟨r,0,none⟩),.pointer (some ⟨W.heap.size+1,0,none⟩)]) (by simp) (by simp[go_sem]) ?_;refine(zlD r R (W.heap.size+1) _ _ _ _ _ _ _ _ _ _ _ _ _ _ _ _ _ w6 XH.out ⟨rfl,rfl,⟨_,rfl⟩,⟨_,_,_,rfl⟩,⟨_,_,_,rfl⟩,⟨_,rfl⟩,⟨_,rfl⟩,⟨_,rfl⟩⟩).mono ?_;rintro e u' w7 ⟨rfl,rfl,Hh,Hs⟩;exact zbp Hh (by rw[Fh.out];exact PU w7 Hs)
       |some ho=>
        unfold zeI endE;go_wp2_with fail;refine leaves_cons (f:=24) (args:= #[.pointer (some ⟨r,0,none⟩),.pointer (some ⟨W.heap.size+1,0,none⟩)]) (by simp) (by simp[go_sem]) ?_;refine(zjF ho.kind ho.wrong ho.at_ [] r R (W.heap.size+1) _ _ _ _ _ _ _ _ _ _ _ _ _ _ _ _ _ w6 XH.out ⟨rfl,rfl,⟨_,rfl⟩,⟨_,_,_,rfl⟩,⟨_,_,_,rfl⟩,⟨_,rfl⟩,⟨_,rfl⟩,⟨_,rfl⟩⟩).mono ?_;rintro e u' w7 ⟨rfl,rfl,Hh,Hs⟩;exact zbp Hh (by rw[Fh.out];exact PU w7 Hs)
