/- big.Run: THE CONTRACT. -/
import Derived.Test.YtfomomaomggpbaaGreatDoorJgBgOk
import Derived.Test.YtfomomaomggpbaaGreatDoorBgCat
set_option linter.all false
namespace Go.Proofs.YtfomomaomggpbaaGreatDoor
open Go.RowKit Go.Shelf
def bigE (t:Tre)(n:Nat)(steps:Int):Int:=if(zcn t).2 =0 then(if 4096 < n then 4 else if steps < 0\/65536 < steps then 2 else 0)else(zcn t).2
def bs0 (t:Tre)(script:List Int)(steps:Int):Bs:=⟨zers t.vars.length,begB (t.arrays.map (·.size)),script,steps.toNat, []⟩
def hoD (h:Option Ho):Ho:=h.getD ⟨1,0,0⟩
def zex:Array Value:= #[.int .u8 0,.int .u8 0,.int .i64 0,.int .i64 0,.int .i64 0,.int .i64 0,.slice none 0 0,.slice none 0 0]
def BigP (t:Tre)(script:List Int)(steps:Int)(h:Option Ho)(u:Bs)(W:World)(e:Ending)(w':World):Prop:=
 Fr NoT W w'/\if bigE t script.length steps=0 then ∃V A c bs,e= .returned (.tuple #[.agg (zds (hoD h).kind (hoD h).wrong (hoD h).at_ (.int .i64 0) (.int .i64 0) (.int .i64 u.left) (.slice (some ⟨V,0,none⟩) u.vs.length u.vs.length) (.slice A u.ls.length c)),.int .i64 0])/\Sto w' W.heap.size u.vs u.ls V A c bs
  else e= .returned (.tuple #[.agg zex,.int .i64 (bigE t script.length steps)])
theorem zbn {X:World}{b:Nat}{c0 c1 c2 c3 c4 c5 c6 c7 er:Value}{R:Ending->World->Prop}{x0 x1 x2 x3 x4 x5:Value}{rest:List Value}(h:Bk X b 34 #[c0,c1,c2,c3,c4,c5,c6,c7])(hR:R (.returned (.tuple #[.agg #[c0,c1,c2,c3,c4,c5,c6,c7],er])) X):
  Leaves Tryz.prog Tryz.f9 (List.toArray (x0::x1::x2::x3::x4::x5:: .pointer (some ⟨b,0,none⟩)::er::rest)) R [] .returning X:=by
 have k0:=h.cell 0;have k1:=h.cell 1;have k2:=h.cell 2;have k3:=h.cell 3;have k4:=h.cell 4;have k5:=h.cell 5;have k6:=h.cell 6;have k7:=h.cell 7;have hl:=h.lt;simp only[getsL]at k0 k1 k2 k3 k4 k5 k6 k7;refine⟨_,?_,hR⟩;simp[results,Tryz.results9,go_sem,k0,k1,k2,k3,k4,k5,k6,k7,hl]
def zkT (Q:Exit->Act->World->Prop):Exit->Act->World->Prop
 | .panic _,_,_=>False
 | .normal,a,w=>Q .normal a w
 |e,a,w=>Q e a w
theorem zbR {P:Program}{Q:Exit->Act->World->Prop}{id:Nat}{l:List Oper}{a:Act}{w:World}(S:World->Prop)(n:Nat->Bool)(hm:P.follows .mixedOrders =true)(hS:S w.drew)(h:S w.drew->wpE P .any l.toArray (zkT Q) S n l.length (Array.replicate l.length false) a w.drew):(Code.region id l.toArray true).wp P Q a w:=
 Code.wp_mono (λe a w he=>by cases e<;>first|exact he.elim|exact he) (zad S n hm hS h)
def A2S (b P MA:Nat)(nm:ByteArray)(n:Nat)(W:World):Prop:=W.cell? ⟨P,1,none⟩=some (.map (some MA))/\W.cell? ⟨b,0,none⟩=some (.string nm)/\W.cell? ⟨b,1,none⟩=some (.int .i64 n)
def A3S (b r R P MA:Nat)(nm:ByteArray)(v u:Value)(W:World):Prop:=W.cell? ⟨r,0,none⟩=some (.pointer (some ⟨R,0,none⟩))/\W.cell? ⟨R,8,none⟩=some v/\W.cell? ⟨P,1,none⟩=some (.map (some MA))/\W.cell? ⟨b,0,none⟩=some (.string nm)/\(Instr.lookup 70 (.map (some MA)) (.string nm) false).run Tryz.prog W= .ok u W
def A4S (b P MP:Nat)(nm:ByteArray)(v1 v2:Value)(W:World):Prop:=W.cell? ⟨P,2,none⟩=some (.map (some MP))/\W.cell? ⟨b,0,none⟩=some (.string nm)/\W.cell? ⟨b,1,none⟩=some v1/\W.cell? ⟨b,2,none⟩=some v2
def N1S (b r R V nv:Nat)(nm:ByteArray)(W:World):Prop:=W.cell? ⟨b,0,none⟩=some (.string nm)/\W.cell? ⟨r,0,none⟩=some (.pointer (some ⟨R,0,none⟩))/\W.cell? ⟨R,7,none⟩=some (.slice (some ⟨V,0,none⟩) nv nv)
set_option maxRecDepth 100000 in
set_option maxHeartbeats 3200000 in
theorem zm4 (t:Tre)(script:List Int)(steps:Int)(h:Option Ho)(u:Bs)(W:World)(S:Nat->Prop)(Z:Prop)(Av Aa Ap Am As:Option Addr)(cv ca cp cm cs:Nat)(he:SpEnv W)(hS:∀b,S b->b < W.heap.size)(Ht:SzT t)(hx:TrR W S Z t Av Aa Ap Am cv ca cp cm)(Kx:IsSl W W.heap.size script As cs)(KB:in64 steps)
  (GH:bigE t script.length steps=0->RunT (bnOf t) (.all [] t.main) (bs0 t script steps) h u):
  Calls Tryz.prog 9 #[trV t Av Aa Ap Am cv ca cp cm,.slice As script.length cs,.int .i64 steps] W (BigP t script steps h u W):=by
 have Jt:= @makeF Tryz.prog;have LS:=run_makeMap (P:=Tryz.prog);obtain⟨w1,Hc⟩:=nmq ((W.alloc (.cells #[.slice Av t.vars.length cv,.slice Aa t.arrays.length ca,.slice Ap t.procs.length cp,.slice Am t.main.len cm] 27)).alloc (.cells zex 34));have Hg:Fr NoT W w1:=by rw[Hc];exact((Fr.refl _ _).alloc _).alloc _
 have FV:Bk w1 W.heap.size 27 #[.slice Av t.vars.length cv,.slice Aa t.arrays.length ca,.slice Ap t.procs.length cp,.slice Am t.main.len cm]:=by rw[Hc];exact(Bk.new _ _ _).alloc _
 have G5:Bk w1 (W.heap.size+1) 34 zex:=by rw[Hc];exact Bk.new_at _ _ _ (by simp)
 have Ww:=zj9 t w1 S Z Av Aa Ap Am cv ca cp cm (he.keep Hg.plain) (λb hb=>ltq (hS b hb) Hg.size) Ht (hx.keep (Hg.same λb hb=>⟨hS b hb,id⟩));obtain⟨nv,M2⟩:=nmq t.vars.length;obtain⟨na,NS⟩:=nmq t.arrays.length;obtain⟨np,MF⟩:=nmq t.procs.length;obtain⟨nm,Jp⟩:=nmq t.main.len;obtain⟨ns,NC⟩:=nmq script.length;unfold trV at Ww ⊢;rw[<-M2,<-NS,<-MF,<-Jp]at Hc FV Ww ⊢;rw[<-NC]at GH;obtain⟨E,Wx⟩:=nmq (bigE t ns steps);obtain⟨RR,Ks⟩:=nmq (BigP t script steps h u W);rw[<-Ks,<-NC];have T9:=Wx;unfold bigE at Wx;obtain⟨q1,q2,hq⟩:∃a b,zcn t=(a,b):=⟨_,_,rfl⟩;have Gg:=hdq Hc;have Hs:=hdq Hg;have LP:=hdq FV;have JL:=hdq G5;have vf:=hdq hq;rw[hq]at Wx Ww;have vg:=hdq Ww;have N6:=hdq Wx;have jm:=hdq NC;have RH:=hdq M2;have Wy:=hdq NS;have Rr:=hdq MF;have LO:=hdq Jp;have HX:=hdq (aiq hx (aiq hS (aiq Ht (aiq Kx KB))));have NU:=hdq GH;have Xy:=hdq (show ∀w',Fr NoT W w'->E≠0->RR (.returned (.tuple #[.agg zex,.int .i64 E])) w' from λw' hf Gc=>by
  rw[Ks];refine⟨hf,?_⟩;rw[<-NC,<-T9,if_neg Gc])
 have G3:=hdq Ks;have ZH:=hdq T9;have vh:ns<=9223372036854775807:=by rw[NC];exact leq9 Kx.1 Kx.2.1
 have Zn:nv<=9223372036854775807:=by rw[M2];exact leq9 hx.vars.1 hx.vars.2.1.1
 have k0:=FV.cell 0;have k1:=FV.cell 1;have k2:=FV.cell 2;have k3:=FV.cell 3;have kl:=FV.lt;simp only[getsL]at k0 k1 k2 k3;clear Hc Hg FV G5 Ww Wx NC M2 NS MF Jp hx hS Ht Kx KB GH T9 he hq Ks
 go_enter_defers Tryz.func9,Tryz.ntmps9
 go_wp2_with fail;have Hc:=Gg.out;unfold zex at Hc;rw[<-Hc];clear Hc;refine vg.mono ?_;rintro _ w2 ⟨rfl,He⟩;have Hv:=hdq (Hs.trans He);have G5:=JL.fr0 He;have FV:=LP.fr0 He;have MW:=hdq G5;have RN:=hdq FV;have z0:=G5.cell 0;have z1:=G5.cell 1;have z2:=G5.cell 2;have z3:=G5.cell 3;have z4:=G5.cell 4;have z5:=G5.cell 5;have z6:=G5.cell 6;have z7:=G5.cell 7;have y0:=G5.frozen 0;have y1:=G5.frozen 1;have y2:=G5.frozen 2;have y3:=G5.frozen 3;have y4:=G5.frozen 4;have y5:=G5.frozen 5;have y6:=G5.frozen 6;have y7:=G5.frozen 7;have zl:=G5.lt;simp only[zex,List.getElem?_toArray,List.getElem?_cons_succ,List.getElem?_cons_zero]at z0 z1 z2 z3 z4 z5 z6 z7;clear G5 FV k0 k1 k2 k3 kl;have Xz:=hdq (show ∀w,Bk w (W.heap.size+1) 34 zex->Bk ((((((((w.setCell ⟨W.heap.size+1,0,none⟩ (.int .u8 0)).setCell ⟨W.heap.size+1,1,none⟩ (.int .u8 0)).setCell ⟨W.heap.size+1,2,none⟩ (.int .i64 0)).setCell ⟨W.heap.size+1,3,none⟩ (.int .i64 0)).setCell ⟨W.heap.size+1,4,none⟩ (.int .i64 0)).setCell ⟨W.heap.size+1,5,none⟩ (.int .i64 0)).setCell ⟨W.heap.size+1,6,none⟩ (.slice none 0 0)).setCell ⟨W.heap.size+1,7,none⟩ (.slice none 0 0)) (W.heap.size+1) 34 zex from λw hk=>by
  have:=(((((((hk.set_ 0 (.int .u8 0)).set_ 1 (.int .u8 0)).set_ 2 (.int .i64 0)).set_ 3 (.int .i64 0)).set_ 4 (.int .i64 0)).set_ 5 (.int .i64 0)).set_ 6 (.slice none 0 0)).set_ 7 (.slice none 0 0);simpa[zex]using this)
 by_cases e2:q2=0
 rotate_left
 ·have e1:(q2 != 0)=true:=by simpa using e2
  have hE:E=q2:=by rw[N6.out];simp only[if_neg e2]
  clear e2;go_wp2_with fail;have hr:=Xy w2 Hv.out (by rw[hE];simpa using e1);rw[hE]at hr;exact zbn MW.out hr
 subst e2;have hE:E=if 4096 < ns then 4 else if steps < 0\/65536 < steps then 2 else 0:=by rw[N6.out,if_pos rfl]
 have e1:((0:Int) != 0)=false:=by decide
 by_cases GX:4096 < ns
 ·have e3:decide ((ns:Int) > 4096)=true:=by simp;omega
  rw[if_pos GX]at hE;clear GX;go_wp2_with fail;have hr:=Xy _ ((((((((Hv.high (Nat.le_succ _) 0 (.int .u8 0)).high (Nat.le_succ _) 1 (.int .u8 0)).high (Nat.le_succ _) 2 (.int .i64 0)).high (Nat.le_succ _) 3 (.int .i64 0)).high (Nat.le_succ _) 4 (.int .i64 0)).high (Nat.le_succ _) 5 (.int .i64 0)).high (Nat.le_succ _) 6 (.slice none 0 0)).high (Nat.le_succ _) 7 (.slice none 0 0)) (by rw[hE];decide);rw[hE]at hr;exact zbn (Xz w2 MW.out) hr
 have e3:decide ((ns:Int) > 4096)=false:=by simp;omega
 rw[if_neg GX]at hE;by_cases FZ:steps < 0
 ·have e4:decide (steps < 0)=true:=by simpa using FZ
  rw[if_pos (.inl FZ)]at hE;clear FZ;go_wp2_with fail;have hr:=Xy _ ((((((((Hv.high (Nat.le_succ _) 0 (.int .u8 0)).high (Nat.le_succ _) 1 (.int .u8 0)).high (Nat.le_succ _) 2 (.int .i64 0)).high (Nat.le_succ _) 3 (.int .i64 0)).high (Nat.le_succ _) 4 (.int .i64 0)).high (Nat.le_succ _) 5 (.int .i64 0)).high (Nat.le_succ _) 6 (.slice none 0 0)).high (Nat.le_succ _) 7 (.slice none 0 0)) (by rw[hE];decide);rw[hE]at hr;exact zbn (Xz w2 MW.out) hr
 have e4:decide (steps < 0)=false:=by simpa using FZ
 by_cases Qx:65536 < steps
 ·have e5:decide (steps > 65536)=true:=by simpa using Qx
  rw[if_pos (.inr Qx)]at hE;go_wp2_with fail;have hr:=Xy _ ((((((((Hv.high (Nat.le_succ _) 0 (.int .u8 0)).high (Nat.le_succ _) 1 (.int .u8 0)).high (Nat.le_succ _) 2 (.int .i64 0)).high (Nat.le_succ _) 3 (.int .i64 0)).high (Nat.le_succ _) 4 (.int .i64 0)).high (Nat.le_succ _) 5 (.int .i64 0)).high (Nat.le_succ _) 6 (.slice none 0 0)).high (Nat.le_succ _) 7 (.slice none 0 0)) (by rw[hE];decide);rw[hE]at hr;exact zbn (Xz w2 MW.out) hr
 have e5:decide (steps > 65536)=false:=by simpa using Qx
 rw[if_neg (λe=>e.elim FZ Qx)]at hE;obtain⟨st,rfl⟩:∃n:Nat,steps=n:=⟨steps.toNat,by omega⟩;have Gu:st<=65536:=by omega
 have Fh:OkT t:=zfw (by rw[vf.out]);have jn:nv<=12:=by rw[RH.out];exact(fewT_iff.1 Fh.few).1
 have yc:=λw=>zgD nv (by omega) w;have zi:=RN.cell 0;have kkl:=RN.lt;simp only[getsL]at zi;have M1:=hdq Fh;have vi:=hdq hE;have Gi:=hdq Gu;clear hE FZ Qx GX Fh Gu z0 z1 z2 z3 z4 z5 z6 z7 y0 y1 y2 y3 y4 y5 y6 y7;obtain⟨w3,GL⟩:=nmq ((((((((w2.alloc (.cells (intL (zers nv)).toArray 3)).alloc (.cells #[.slice As ns cs,.int .u8 0,.int .u8 0,.int .i64 0,.int .i64 0,.int .i64 0,.int .i64 st,.slice (some ⟨w2.heap.size,0,none⟩) nv nv,.slice none 0 0] 68)).alloc (.cells #[.pointer (some ⟨w2.heap.size+1,0,none⟩)] 66)).alloc (.map #[] 0)).alloc (.map #[] 0)).alloc (.cells #[.pointer (some ⟨w2.heap.size+1,0,none⟩),.map (some (w2.heap.size+1+1+1)),.map (some (w2.heap.size+1+1+1+1))] 73)).alloc (.map #[] 0)));have Ga:Fr NoT w2 w3:=by rw[GL];exact(((((((Fr.refl _ _).alloc _).alloc _).alloc _).alloc _).alloc _).alloc _).alloc _
 have kb:=(RN.fr0 Ga).cell 0;simp only[getsL]at kb;obtain⟨ZI,GE,JY,ZJ,ZK,UW,ZL,Md⟩:Bk w3 w2.heap.size 3 (intL (zers nv)).toArray /\Bk w3 (w2.heap.size+1) 68 (ziP (.slice As ns cs) (.int .i64 st) (.slice (some ⟨w2.heap.size,0,none⟩) nv nv) (.slice none 0 0))/\Bk w3 (w2.heap.size+2) 66 #[.pointer (some ⟨w2.heap.size+1,0,none⟩)]/\MpV w3 (w2.heap.size+3) 0 (λ_=>none)/\MpV w3 (w2.heap.size+4) 0 (λ_=>none)/\Bk w3 (w2.heap.size+5) 73 #[.pointer (some ⟨w2.heap.size+1,0,none⟩),.map (some (w2.heap.size+3)),.map (some (w2.heap.size+4))]/\MpV w3 (w2.heap.size+6) 0 (λ_=>none)/\w3.heap.size=w2.heap.size+7:=by
  have mk:=λ(w:World)(k:Nat)(e:w.heap.size=k)=>(e▸MpV.made w:MpV (w.alloc (.map #[] 0)) k 0 λ_=>none);have up:∀ {w:World} {b:Nat} {o:Obj},MpV w b 0 (λ_=>none)->MpV (w.alloc o) b 0 (λ_=>none):=λh=>h.fr (T:=NoT) ((Fr.refl _ _).alloc _) id;rw[GL];refine⟨(((((((Bk.new _ _ _).alloc _).alloc _).alloc _).alloc _).alloc _).alloc _),((((((Bk.new_at _ _ _ (by simp)).alloc _).alloc _).alloc _).alloc _).alloc _),(((((Bk.new_at _ _ _ (by simp)).alloc _).alloc _).alloc _).alloc _),up (up (up (mk _ _ (by simp)))),up (up (mk _ _ (by simp))),(Bk.new_at _ _ _ (by simp)).alloc _,mk _ _ (by simp),by simp⟩
 have L0:=hdq GL;have Ge:=hdq Ga;rw[GL]at kb;clear GL Ga;go_wp2_with fail;rw[<-L0.out];obtain⟨V,eV⟩:∃y,w2.heap.size=y:=⟨_,rfl⟩;obtain⟨R,eR⟩:∃y,w2.heap.size+1=y:=⟨_,rfl⟩;obtain⟨r,er⟩:∃y,w2.heap.size+2=y:=⟨_,rfl⟩;obtain⟨MA,eMA⟩:∃y,w2.heap.size+3=y:=⟨_,rfl⟩;obtain⟨MP,eMP⟩:∃y,w2.heap.size+4=y:=⟨_,rfl⟩;obtain⟨P,eP⟩:∃y,w2.heap.size+5=y:=⟨_,rfl⟩;obtain⟨N,eN⟩:∃y,w2.heap.size+6=y:=⟨_,rfl⟩;rw[eR]at GE JY UW;rw[er]at JY;rw[eMA]at ZJ UW;rw[eMP]at ZK UW;rw[eP]at UW;rw[eN]at ZL;rw[eV]at ZI GE Md;rw[eR,show R+1=r by omega,show r+1=MA by omega,show MA+1=MP by omega,show MP+1=P by omega,show P+1=N by omega,eV];have vj:W.heap.size+2<=V:=by have h1:=MW.lt;omega
 have jo:∀wr T,Fr T w3 wr->(∀b,T b->W.heap.size<=b)->TrR wr S Z t Av Aa Ap Am cv ca cp cm:=λwr T hf hT=>
  (HX.1.keep ((Hv.trans Ge.out).same λb hb=>⟨HX.2.1 b hb,id⟩)).keep (hf.same λb hb=>⟨ltq (HX.2.1 b hb) (Hv.trans Ge.out).size,λe=>Nat.lt_irrefl _ (ltq (HX.2.1 b hb) (hT b e))⟩)
 have Ux:=hdq jo;obtain⟨nms,RO⟩:=nmq (nmV t.vars);have KU:nms.Nodup:=by rw[RO];exact(freshL_iff.1 M1.vars).2
 have Un:nms.length=nv:=by rw[RO,RH.out];simp[nmV]
 have Wz:W.heap.size+2<=V/\R=V+1/\r=V+2/\MA=V+3/\MP=V+4/\P=V+5/\N=V+6/\w3.heap.size=V+7:=by omega
 have jp:=hdq RO;have Q3:=hdq (aiq KU Un);have JI:=hdq Wz;have Xc:=hdq ZI;have G8:=hdq GE;have ZM:=hdq JY;have jq:=hdq ZJ;have Pl:=hdq ZK;have jr:=hdq UW;have Ml:=hdq ZL;clear jo RO KU Un Wz ZI GE JY ZJ ZK UW ZL Md eV eR er eMA eMP eP eN kb zi kkl vj e1 e3 e4 e5;go_loopw [56] (λi wr=>∃k:Nat,k<=nv/\i= .int .i64 k/\Hid (Fr (λb=>b=N) w3 wr)/\Hid (MpV wr N k (fA (ptrL V k) (nms.take k)))) (λi _=>nv - (intOf i).toNat);case atStart=>exact⟨0,Nat.zero_le _,rfl,hdq (Fr.refl _ _),hdq Ml.out⟩
 case round=>
  obtain⟨k,hk,rfl,HF,HM⟩:=hrel;have QP:∀b,b < N->¬b=N:=λb hb e=>by omega
  by_cases Hl:k < nv
  ·have Kv:k < t.vars.length:=by rw[<-RH.out];exact Hl
   obtain⟨b0,o0,rfl,Hh⟩:=(Ux wr _ HF.out (λb e=>by have e:b=N:=e;have:=JI.out;omega)).vars.2.2 (by omega);have Lw:=List.drop_eq_getElem_cons Kv;obtain⟨⟨pn,pa⟩,Gx⟩:=nmq (t.vars[k]);rw[<-Gx]at Lw;have Hm:=VaR.drop k Hh;rw[Lw]at Hm;obtain⟨⟨_,_,_,g0,g1⟩,_⟩:=Hm;simp only at g0 g1;have Lf:pn.size<=9223372036854775807:=by
    have:=HX.2.2.1.vars _ (List.getElem_mem Kv);rw[<-Gx]at this;exact this
   have RJ:nms[k]?=some pn.data.toList:=by
    rw[jp.out];unfold nmV;rw[List.getElem?_map,List.getElem?_eq_getElem Kv,<-Gx];rfl
   have GD:(k:Int) < (nv:Int):=by omega
   obtain⟨w4,Fb⟩:=nmq (wr.alloc (.cells #[.string pn,.int .i64 pa] 77));have Hx:Fr NoT wr w4:=by rw[Fb];exact(Fr.refl _ _).alloc _
   have Ft:Bk w4 wr.heap.size 77 #[.string pn,.int .i64 pa]:=by rw[Fb];exact Bk.new _ _ _
   have QQ:=JI.out;have J5:=hdq (show N1S wr.heap.size r R V nv pn w4.drew from
    ⟨(Ft.fr0 (Fr.refl NoT w4).drew).cell 0,((ZM.fr HF.out (QP _ (by omega))).fr0 Hx.drew).cell 0,((G8.fr HF.out (QP _ (by omega))).fr0 Hx.drew).cell 7⟩)
   obtain⟨w5,KC,Sb,Wk⟩:=MpV.put (HM.fr Hx.drew id) Tryz.underlying75 (s:=pn) Lf (.pointer (some ⟨V,k,none⟩)) (by unfold maxLen;omega);have WB:MpV w5 N (k+1) (fA (ptrL V (k+1)) (nms.take (k+1))):=by
    have F7:k < nms.length:=by rw[Q3.2];exact Hl
    have Q9:nms.take (k+1)=nms.take k++ [pn.data.toList]:=by rw[List.take_add_one,RJ];rfl
    have hx:pn.data.toList∉nms.take k:=λhm=>by
     have h1:=Q3.1;rw[<-List.take_append_drop (k+1) nms,Q9]at h1;exact(List.nodup_append.1 (List.nodup_append.1 h1).1).2.2 _ hm _ List.mem_cons_self rfl
    rw[zkO,Q9,<-zkN (by rw[zmv,List.length_take];omega) hx];exact Sb
   have Wj:=hdq WB;have Gl:=hdq (show Fr (λb=>b=N) w3 w5 from(HF.trans Hx.drew.any).trans (Fr.grown Wk λg e _=>(Option.some.inj e).symm));have Nm:=hdq Fb;clear Kv Hh Lw Gx Lf RJ Fb Hx Ft QQ Sb Wk WB HM HF Ml;go_wp2_with fail;rw[<-Nm.out];refine zbR (N1S wr.heap.size r R V nv pn) (λi=>decide (i < 11)) (by kernel_rfl) J5.out (λhHeld=>?_);refine zaa 0 ?_;simp only[putsL];refine zaa 1 ?_;simp only[putsL];refine zac 2 (v:=?_) rfl (by kernel_rfl) (λ_ _ _ h=>h) hHeld (by rfl) ?_ ?_;rotate_left
   ·intro wz Hn;(try dsimp only[A2S,A3S,A4S,N1S]at Hn);go_simp;try with_reducible rfl
   try simp only[putsL]
   refine zac 3 (v:=?_) rfl (by kernel_rfl) (λ_ _ _ h=>h) hHeld (by rfl) ?_ ?_;rotate_left
   ·intro wz Hn;(try dsimp only[A2S,A3S,A4S,N1S]at Hn);go_simp;try with_reducible rfl
   try simp only[putsL]
   refine zaa 4 ?_;simp only[putsL];refine zaa 5 ?_;simp only[putsL];refine zaa 6 ?_;simp only[putsL];refine zaa 7 ?_;simp only[putsL];refine zac 8 (v:=?_) rfl (by kernel_rfl) (λ_ _ _ h=>h) hHeld (by rfl) ?_ ?_;rotate_left
   ·intro wz Hn;(try dsimp only[A2S,A3S,A4S,N1S]at Hn);go_simp;try with_reducible rfl
   try simp only[putsL]
   refine zaa 9 ?_;simp only[putsL];refine zaa 10 ?_;simp only[putsL];refine zab 11 rfl (by kernel_rfl) (λKK hK=>?_);go_simp;refine hK _ _ (λh=>absurd h (by decide)) ?_;clear hK KK;try simp only[putsL]
   refine zaf (by kernel_rfl) ?_;unfold zkT;clear hHeld g0 g1;go_wp2_with fail;go_roundw;case rel=>exact⟨k+1,by omega,by go_num,Gl,Wj⟩
   case measure=>simp[intOf];omega
  ·have F7:k=nv:=by omega
   have Fz:¬(k:Int) < (nv:Int):=by omega
   obtain⟨wn,Ra⟩:=nmq wr;have js:MpV wn N nv (fA (ptrL V nv) nms):=by rw[Ra,<-F7];have:=HM.out;rw[List.take_of_length_le (by rw[Q3.2];omega)]at this;exact this
   have QR:Fr (λb=>b=N) w3 wn:=by rw[Ra];exact HF.out
   rw[<-Ra];have XA:=hdq js;have XB:=hdq QR;have QQ:=JI.out;have Pg:=hdq ((ZM.fr QR (QP _ (by omega))));have UQ:=hdq ((G8.fr QR (QP _ (by omega))));have WC:=hdq ((jr.fr QR (QP _ (by omega))));have jt:=hdq ((jq.fr QR (QP _ (by omega))));have ju:=hdq ((Pl.fr QR (QP _ (by omega))));have jv:=hdq ((Xc.fr QR (QP _ (by omega))));have RP:=(RN.fr0 Ge.out).fr QR (QP _ (by omega));have WD:=(MW.fr0 Ge.out).fr QR (QP _ (by have:=MW.lt;have:=Ge.size;have:=Hs.size;omega));have zO:=RP.cell 1;have kb1l:=RP.lt;simp only[getsL]at zO;have WE:=hdq RP;have WF:=hdq WD;have WG:w3.heap.size<=wn.heap.size:=QR.size;have Mc:=hdq WG;clear F7 Ra js QR HM HF Ml hk jq G8 jr ZM Pl Xc RP WD WG;obtain⟨ans,RQ⟩:=nmq (nmA t.arrays);obtain⟨zs,To⟩:=nmq (t.arrays.map (·.size));have UX:=hdq (show ans.Nodup/\ans.length=na/\zs.length=na/\ans=nmA t.arrays/\zs=t.arrays.map (·.size)from⟨by rw[RQ];exact(freshL_iff.1 M1.arrays).2,by rw[RQ,Wy.out];simp[nmA],by rw[To,Wy.out];simp,RQ,To⟩);have vk:na<=4:=by rw[Wy.out];exact(fewT_iff.1 M1.few).2.1
   clear RQ To QP QQ;go_wp2_with fail;go_loopw [76] (λi wr=>∃(k:Nat)(v:Value)(bs:List Nat),k<=na/\i= .int .i64 k/\Hid (BgA wn R MA (.slice As ns cs) (.int .i64 st) (.slice (some ⟨V,0,none⟩) nv nv) ans zs v wr bs k)) (λi _=>na - (intOf i).toNat);case atStart=>
    refine⟨0,.slice none 0 0, [],Nat.zero_le _,rfl,hdq ⟨Fr.refl _ _,UQ.out,World.ownsRow_nil _ _ _ _,?_,rfl,λi b l hi=>by simp at hi,List.nodup_nil,λb hb=>by simp at hb,λb hb=>by simp at hb⟩⟩;exact jt.out
   case round=>
    clear jt UQ zO kb1l;obtain⟨k,v,bs,hk,rfl,HB⟩:=hrel;by_cases Hl:k < na
    ·have Kv:k < t.arrays.length:=by rw[<-Wy.out];exact Hl
     have GU:Fr (λb=>b=N\/b=R\/b=MA) w3 wr:=(XB.mono λ_ _ e=> .inl e).trans (HB.fr.mono λ_ _ e=> .inr e);obtain⟨b0,o0,rfl,Hh⟩:=(Ux wr _ GU (λb e=>by have:=JI.out;omega)).arrays.2.2 (by omega);have Lw:=List.drop_eq_getElem_cons Kv;obtain⟨⟨pn,pz,pa⟩,Gx⟩:=nmq (t.arrays[k]);rw[<-Gx]at Lw;have Hm:=ArR.drop k Hh;rw[Lw]at Hm;obtain⟨⟨_,_,_,_,g0,g1,g2⟩,_⟩:=Hm;simp only at g0 g1 g2;have Lf:pn.size<=9223372036854775807:=by
      have:=HX.2.2.1.arrays _ (List.getElem_mem Kv);rw[<-Gx]at this;exact this
     have Js:1<=pz/\pz<=16:=by
      have:=M1.sizes _ (List.getElem_mem Kv);rw[<-Gx]at this;exact this
     obtain⟨n,rfl⟩:∃n:Nat,pz=n:=⟨pz.toNat,by omega⟩;have RJ:ans[k]?=some pn.data.toList:=by
      rw[UX.2.2.2.1];unfold nmA;rw[List.getElem?_map,List.getElem?_eq_getElem Kv,<-Gx];rfl
     have jw:zs[k]?=some (n:Int):=by
      rw[UX.2.2.2.2,List.getElem?_map,List.getElem?_eq_getElem Kv,<-Gx];rfl
     have Xx:pn.data.toList∉ans.take k:=λhm=>by
      have h1:=UX.1;have Q9:ans.take (k+1)=ans.take k++ [pn.data.toList]:=by rw[List.take_add_one,RJ];rfl
      rw[<-List.take_append_drop (k+1) ans,Q9]at h1;exact(List.nodup_append.1 (List.nodup_append.1 h1).1).2.2 _ hm _ List.mem_cons_self rfl
     have GD:(k:Int) < (na:Int):=by omega
     obtain⟨w4,Fb⟩:=nmq (wr.alloc (.cells #[.string pn,.int .i64 n,.int .i64 pa] 61));have Hx:Fr NoT wr w4:=by rw[Fb];exact(Fr.refl _ _).alloc _
     have Ft:Bk w4 wr.heap.size 61 #[.string pn,.int .i64 n,.int .i64 pa]:=by rw[Fb];exact Bk.new _ _ _
     have QQ:=JI.out;have ZN:∀b,b < R->¬(b=R\/b=MA):=λb hb e=>by omega
     have RS:∀b,MA < b->¬(b=R\/b=MA):=λb hb e=>by omega
     have ZO:¬(r=R\/r=MA):=by omega
     have yd:=hdq ZO;have vm:=hdq RS;have J5:=hdq (show ∀w,Fr NoT w4 w->A2S wr.heap.size P MA pn n w from λw hf=>
      ⟨((WC.fr HB.fr (RS _ (by omega))).fr0 (Hx.trans hf)).cell 1,(Ft.fr0 hf).cell 0,(Ft.fr0 hf).cell 1⟩)
     have ZP:=λw=>zgD n (by omega) w;obtain⟨w5,FY⟩:=nmq ((w4.alloc (.cells (intL (zers n)).toArray 3)).drew );have Hj:Fr NoT w4 w5:=by rw[FY];exact((Fr.refl NoT w4).alloc _).drew
     obtain⟨w6,KC,MV,Mp⟩:=MpV.put ((HB.map.fr Hx id).fr Hj id) Tryz.underlying70 (s:=pn) Lf (slL w4.heap.size n) (by unfold maxLen;omega);have G5:Bk w6 wr.heap.size 61 #[.string pn,.int .i64 n,.int .i64 pa]:=((Ft.fr0 Hj).fr (Fr.grown (T:=λb=>b=MA) Mp λg e _=>(Option.some.inj e).symm) (λe=>by have e:wr.heap.size=MA:=e;have:=HB.fr.size;have:=Mc.out;omega));have QS:Fr (λb=>b=MA) w4 w6:=Hj.any.trans (Fr.grown Mp λg e _=>(Option.some.inj e).symm);have ZQ:=hdq QS;have Jl:∀b,v.ownBlock=some b->wn.heap.size<=b/\b < wr.heap.size:=λb hb=>HB.row.lt b hb;have Ra:=Mc.out;have ZR:=HB.fr.size;have SB:∀w,Fr (λb=>v.ownBlock=some b) w6 w->(Instr.lookup 70 (.map (some MA)) (.string pn) false).run Tryz.prog w= .ok (.slice (some ⟨w4.heap.size,0,none⟩) n n) w:=λw hf=>by
      have h9:=MpV.get (MV.fr hf (λe=>by have:=Jl _ e;omega)) Tryz.underlying70 (s:=pn) Lf (z:= .slice none 0 0) (by kernel_rfl);rw[if_pos rfl]at h9;exact h9
     have RK:=hdq (show ∀w,Fr (λb=>v.ownBlock=some b) w6 w->A3S wr.heap.size r R P MA pn v (.slice (some ⟨w4.heap.size,0,none⟩) n n) w from λw hf=>
      ⟨((((Pg.fr HB.fr ZO).fr0 Hx).fr QS (by omega)).fr hf (λe=>by have:=Jl _ e;omega)).cell 0,(((HB.bk.fr0 Hx).fr QS (by omega)).fr hf (λe=>by have:=Jl _ e;omega)).cell 8,((((WC.fr HB.fr (RS _ (by omega))).fr0 Hx).fr QS (by omega)).fr hf (λe=>by have:=Jl _ e;omega)).cell 1,(G5.fr hf (λe=>by have:=Jl _ e;omega)).cell 0,SB w hf⟩)
     have vn:=hdq (show(w4.drew.alloc (.cells (intL (zers n)).toArray 3)).grownBy w6 (some MA) by rw[FY]at Mp;exact Mp);have Kk:=hdq MV;have Nm:=hdq Fb;have Xd:=hdq FY;have HK:=hdq (aiq jw (aiq RJ Xx));have GN:=hdq Hx;have vo:=hdq (show w4.drew.heap.size=w4.heap.size from rfl);unfold slL at KC;rw[FY]at KC;clear Kv GU Hh Lw Gx Lf RJ jw Xx Fb Hx Ft MV Mp G5 QS Hj FY SB ZN RS ZO QQ Jl Ra ZR;go_wp2_with fail;rw[<-Nm.out];refine zbR (A2S wr.heap.size P MA pn n) (λi=>decide (i < 9)) (by kernel_rfl) (J5 _ (Fr.refl NoT w4).drew) (λhHeld=>?_);refine zaa 0 ?_;simp only[putsL];refine zaa 1 ?_;simp only[putsL];refine zaa 2 ?_;simp only[putsL];refine zac 3 (v:=?_) rfl (by kernel_rfl) (λ_ _ _ h=>h) hHeld (by rfl) ?_ ?_;rotate_left
     ·intro wz Hn;(try dsimp only[A2S,A3S,A4S,N1S]at Hn);go_simp;try with_reducible rfl
     try simp only[putsL]
     refine zaa 4 ?_;simp only[putsL];refine zac 5 (v:=?_) rfl (by kernel_rfl) (λ_ _ _ h=>h) hHeld (by rfl) ?_ ?_;rotate_left
     ·intro wz Hn;(try dsimp only[A2S,A3S,A4S,N1S]at Hn);go_simp;try with_reducible rfl
     try simp only[putsL]
     refine zaa 6 ?_;simp only[putsL];refine zac 7 (v:=?_) rfl (by kernel_rfl) (λ_ _ _ h=>h) hHeld (by rfl) ?_ ?_;rotate_left
     ·intro wz Hn;(try dsimp only[A2S,A3S,A4S,N1S]at Hn);go_simp;try with_reducible rfl
     try simp only[putsL]
     refine zab 8 rfl (by kernel_rfl) (λKK hK=>?_);go_simp;refine hK _ _ (λ_ _=>J5 _ ((Fr.refl NoT w4).alloc _).drew) ?_;clear hK KK;try simp only[putsL]
     refine zab 9 rfl (by kernel_rfl) (λKK hK=>?_);go_simp;refine hK _ _ (λh=>absurd h (by decide)) ?_;clear hK KK;try simp only[putsL]
     refine zaf (by kernel_rfl) ?_;unfold zkT;clear hHeld g0 g1 g2 KC ZP;go_wp2_with fail;obtain⟨iS,jx,jy,jz,Gh⟩:=info_parts zn6;have QX:=hdq (aiq jx (aiq jy (aiq jz Gh)));clear jx jy jz Gh;have Mn:=RK w6.drew (Fr.refl _ w6).drew;refine zbR (A3S wr.heap.size r R P MA pn v (.slice (some ⟨w4.heap.size,0,none⟩) n n)) (λi=>decide (i < 16)) (by kernel_rfl) Mn (λhHeld=>?_);clear Mn;refine zac 0 (v:=?_) rfl (by kernel_rfl) (λ_ _ _ h=>h) hHeld (by rfl) ?_ ?_;rotate_left
     ·intro wz Hn;(try dsimp only[A2S,A3S,A4S,N1S]at Hn);go_simp;try with_reducible rfl
     try simp only[putsL]
     refine zac 1 (v:=?_) rfl (by kernel_rfl) (λ_ _ _ h=>h) hHeld (by rfl) ?_ ?_;rotate_left
     ·intro wz Hn;(try dsimp only[A2S,A3S,A4S,N1S]at Hn);go_simp;try with_reducible rfl
     try simp only[putsL]
     refine zaa 2 ?_;simp only[putsL];refine zaa 3 ?_;simp only[putsL];refine zaa 4 ?_;simp only[putsL];refine zaa 5 ?_;simp only[putsL];refine zac 6 (v:=?_) rfl (by kernel_rfl) (λ_ _ _ h=>h) hHeld (by rfl) ?_ ?_;rotate_left
     ·intro wz Hn;(try dsimp only[A2S,A3S,A4S,N1S]at Hn);go_simp;try with_reducible rfl
     try simp only[putsL]
     refine zaa 7 ?_;simp only[putsL];refine zaa 8 ?_;simp only[putsL];refine zaa 9 ?_;simp only[putsL];refine zac 10 (v:=?_) rfl (by kernel_rfl) (λ_ _ _ h=>h) hHeld (by rfl) ?_ ?_;rotate_left
     ·intro wz Hn;(try dsimp only[A2S,A3S,A4S,N1S]at Hn);go_simp;try with_reducible rfl
     try simp only[putsL]
     refine zaa 11 ?_;simp only[putsL];refine zac 12 (v:=?_) rfl (by kernel_rfl) (λ_ _ _ h=>h) hHeld (by rfl) ?_ ?_;rotate_left
     ·intro wz Hn;(try dsimp only[A2S,A3S,A4S,N1S]at Hn);go_simp;try with_reducible rfl
     try simp only[putsL]
     refine zac 13 (v:=?_) rfl (by kernel_rfl) (λ_ _ _ h=>h) hHeld (by rfl) ?_ ?_;rotate_left
     ·intro wz Hn;(try dsimp only[A2S,A3S,A4S,N1S]at Hn);go_simp;try with_reducible rfl
     try simp only[putsL]
     refine zab 14 rfl (by kernel_rfl) (λKK hK=>?_);go_simp;obtain⟨w7,Mo⟩:=nmq ((w6.alloc (.cells #[slL w4.heap.size n] 28)).drew );have Ua:=Mo;unfold slL at Ua;rw[<-Ua];have Hp:Fr NoT w6 w7:=by rw[Mo];exact((Fr.refl _ _).alloc _).drew
     have Lp:Bk w7 w6.heap.size 28 #[slL w4.heap.size n]:=by rw[Mo];exact(Bk.new _ _ _).fr0 (Fr.refl NoT _).drew
     have vp:=hdq (show w7.heap.size=w6.heap.size+1 by rw[Mo];simp);have GV:=hdq Hp;have vq:=hdq Lp;clear Mo Ua Hp Lp;try dsimp only
     refine hK _ _ (λ_ _=>RK _ GV.any) ?_;clear hK KK;try simp only[putsL]
     refine zab 15 rfl (by kernel_rfl) (λKK hK=>?_);have RT:Fr (λb=>b=MA) wr w7:=(GN.any.trans ZQ.out).trans GV.any;have SC:w7.ownsRow wn.heap.size 28 1 v k (rowL bs (begB (zs.take k))):=by
      refine⟨HB.row.1,HB.row.2.imp id ?_⟩;rintro⟨g',yN,cur,e1,e2,e3,e4⟩;refine⟨g',yN,cur,e1,e2,(RT.block g' (HB.row.lt g' (by rw[e1];rfl)).2 (λe=>?_)).trans e3,e4⟩;have e:g'=MA:=e;have h1:=(HB.row.lt g' (by rw[e1];rfl)).1;have h2:=Mc.out;have h3:=JI.out;omega
     have WH:(rowL bs (begB (zs.take k))).length =k:=by
      have h1:=UX.2.2.1;unfold begB;rw[zfo (by rw[HB.len,List.length_map,List.length_take];omega),List.length_map,List.length_take];omega
     refine step_append_lies _ (by rfl) _ _ _ (by rfl) wn.heap.size 28 iS (.slice none 0 0) 1 24 Tryz.underlying30 QX.1 QX.2.1 QX.2.2.1 QX.2.2.2 rfl (by decide) v k _ (by rfl) SC
      ⟨w6.heap.size,0,none⟩ 1 1 [slL w4.heap.size n] (by rfl) (by rfl) vq.newsK (by simp[slL,Value.oneCell']) (by omega) ?c63 ?cby ?cba w7.heap.size rfl ?_
     case c63=>unfold maxLen;omega
     case cby=>omega
     case cba=>have h1:=XB.size;have h2:=HB.fr.size;have:=RT.size;omega
     intro gg cap w8 Hb Hd GG ZS;have Gu:=HB.step (by have:=JI.out;have:=Mc.out;omega) (by have:=JI.out;have:=Mc.out;omega) (by have:=JI.out;omega) HK.1 HK.2.1 HK.2.2 GN.drew vn.out Kk.out GV.out Hb Hd GG;have Jl:∀b,v.ownBlock=some b->wn.heap.size<=b/\b < wr.heap.size:=λb hb=>HB.row.lt b hb;have GF:Fr (λb=>v.ownBlock=some b) w7 w8:=Fr.grown Hd λg e _=>e;have vr:R < wn.heap.size:=by have:=JI.out;have:=Mc.out;omega
     have J8:=(HB.bk.fr RT (by have:=JI.out;omega)).fr GF (λe=>by have:=Jl _ e;omega);have c8:=J8.cell 8;have f8:=J8.frozen 8;have l8:=J8.lt;have Gi:=hdq Gu;have Uv:=hdq (RK w8 (GV.any.trans GF));simp only[ziP,List.getElem?_toArray,List.getElem?_cons_succ,List.getElem?_cons_zero]at c8;clear RT SC WH Hb Hd GG ZS Gu Jl GF vr J8 hHeld;try dsimp only
     refine hK _ _ (λ_ _=>Uv.out) ?_;clear hK KK;try simp only[putsL]
     refine zaa 16 ?_;simp only[putsL];refine zaa 17 ?_;simp only[putsL];refine zaa 18 ?_;simp only[putsL];refine zaa 19 ?_;simp only[putsL];refine zab 20 rfl (by kernel_rfl) (λKK hK=>?_);go_simp;refine hK _ _ (λh=>absurd h (by decide)) ?_;clear hK KK;try simp only[putsL]
     refine zaf (by kernel_rfl) ?_;unfold zkT;clear c8 f8 l8;go_wp2_with fail;go_roundw;case rel=>exact⟨k+1,_,_,by omega,by go_num,Gi⟩
     case measure=>simp[intOf];omega
    ·have F7:k=na:=by omega
     have Fz:¬(k:Int) < (na:Int):=by omega
     have QQ:=JI.out;have Ra:=Mc.out;have hb:=HB.out;obtain⟨wc,jA⟩:=nmq wr;rw[<-jA]at hb ⊢;rw[F7,UX.2.2.2.1,UX.2.2.2.2,Wy.out,jm.out,RH.out]at hb;have Wv:=jv.out;rw[RH.out]at Wv;have GU:Fr (λb=>W.heap.size<=b) W wc:=((Hv.trans Ge.out).any.trans (XB.mono λb _ e=>by have e:b=N:=e;show W.heap.size<=b;omega)).trans (hb.fr.mono λb _ e=>by have e:b=R\/b=MA:=e;show W.heap.size<=b;omega);obtain⟨A,c,rfl,F6⟩:=BgA.sets (V:=V) (P:=P) (MP:=MP) (B:=W.heap.size) M1.out hb (by omega) (by omega) (by omega) (by omega) (by omega) (by omega) (by omega) (by omega) (by omega) Gi.out (HX.2.2.2.1.keep λp hp=>GU.cell hp (by omega)) Wv WC.out;have RU:=WE.fr hb.fr (by omega);have WI:=WF.fr hb.fr (λe=>by have e:W.heap.size+1=R\/W.heap.size+1=MA:=e;have:=MW.lt;have:=Ge.size;have:=Hs.size;have:=Hv.size;omega);have vt:=hdq (Pg.fr hb.fr (by omega));have vu:=hdq (WC.fr hb.fr (by omega));have jB:=hdq (ju.fr hb.fr (by omega));have Nk:=hdq (XA.fr hb.fr (by omega));have jC:=hdq ((XB.mono (T':=λb=>b=N\/b=R\/b=MA) λ_ _ e=> .inl e).trans (hb.fr.mono λ_ _ e=> .inr e));have yV:=RU.cell 2;have kc2l:=RU.lt;simp only[getsL]at yV;have ZT:=hdq RU;have ZU:=hdq WI;have Pi:=hdq F6;have Qq:=hdq (show wn.heap.size<=wc.heap.size/\(∀n b,(Value.slice A n c).ownBlock =some b->wn.heap.size<=b)/\∀b∈bs,wn.heap.size<=b from⟨hb.fr.size,λn b FJ=>(hb.row.lt b (by cases A<;>exact FJ)).1,λb FJ=>by
      obtain⟨i,hi⟩:=List.mem_iff_getElem?.1 FJ;have hl:i < t.arrays.length:=by rw[<-hb.len];exact(List.getElem?_eq_some_iff.1 hi).1
      exact(hb.each i b _ hi (zhd (List.getElem?_eq_getElem hl))).1⟩)
     clear F7 QQ Ra hb jA Wv GU F6 RU WI HB hk WE WF WC ju Pg jv XA;have vv:np<=8:=by rw[Rr.out];exact(fewT_iff.1 M1.few).2.2
     obtain⟨wfp,wfm⟩:=zkQ M1.out HX.2.2.1;have ZV:=hdq wfp;have vw:=hdq wfm;clear wfp wfm;go_wp2_with fail;go_loopw [113] (λi wr=>∃(k T:Nat)(f:List UInt8->Option Value),k<=np/\i= .int .i64 k/\Hid (wc.heap.size<=T/\T<=wr.heap.size)/\Hid (Fr (λb=>b=MP) wc wr)/\Hid (PrF (bgC t W.heap.size wc.heap.size R V P MA MP A c bs) T (kdL (t.procs.take k)) f k wr)) (λi _=>np - (intOf i).toNat);case atStart=>
      exact⟨0,wc.heap.size,λ_=>none,Nat.zero_le _,rfl,hdq ⟨lrq _,lrq _⟩,hdq (Fr.refl _ _),hdq ⟨jB.out,λnm p hk=>by obtain⟨x,hx,_⟩:=hk;simp at hx⟩⟩
     case round=>
      clear yV kc2l jB;obtain⟨k,T,f,hk,rfl,HT,HF,HP⟩:=hrel;by_cases Hl:k < np
      ·have Kv:k < t.procs.length:=by rw[<-Rr.out];exact Hl
       have QQ:=JI.out;have GU:Fr (λb=>b=N\/b=R\/b=MA\/b=MP) w3 wr:=(jC.mono λ_ _ e=>by omega).trans (HF.mono λ_ _ e=> .inr (.inr (.inr e)));have WJ:=Ux wr _ GU (λb e=>by have:=JI.out;omega);obtain⟨b0,o0,rfl,Hh⟩:=WJ.procs.2.2 (by omega);have Lw:=List.drop_eq_getElem_cons Kv;obtain⟨x,Gx⟩:=nmq (t.procs[k]);rw[<-Gx]at Lw;have Hm:=PrR.drop k Hh;rw[Lw]at Hm;obtain⟨⟨_,_,_,g0,g3⟩,⟨A5,c5,g1,s5⟩,⟨A6,c6,g2,s6⟩,_⟩:=Hm;have US:x∈t.procs:=by rw[Gx];exact List.getElem_mem Kv
       have XC:t.procs[k]?=some x:=by rw[List.getElem?_eq_getElem Kv,<-Gx]
       obtain⟨Lf,LI,_⟩:=HX.2.2.1.procs x US;obtain⟨zP,zQ,zR⟩:=ZV k x XC;have Ub:(nmP t.procs).Nodup :=(freshL_iff.1 M1.procs).2;have jD:∀p,(bnOf t).procs x.nm.data.toList=some p->p=x:=λp hp=>by
        have h9:zbr t.procs x.nm.data.toList=some x:=zcw Ub US;exact Option.some.inj (hp.symm.trans h9)
       have NB:¬kdL (t.procs.take k) x.nm.data.toList:=λhm=>by
        obtain⟨y,hy,e⟩:=hm;have Q9:(nmP t.procs).take (k+1)=(t.procs.take k).map (·.nm.data.toList)++ [x.nm.data.toList]:=by
         unfold nmP;rw[<-List.map_take,List.take_add_one,XC];simp
        have h1:=Ub;rw[<-List.take_append_drop (k+1) (nmP t.procs),Q9]at h1;exact(List.nodup_append.1 (List.nodup_append.1 h1).1).2.2 y.nm.data.toList (List.mem_map.2 ⟨y,hy,rfl⟩) _ List.mem_cons_self e.symm
       have jE:kdL (t.procs.take (k+1))=λy=>kdL (t.procs.take k) y\/y=x.nm.data.toList:=by
        funext y
        rw[List.take_add_one,XC];apply propext;unfold kdL;simp only[Option.toList_some,List.mem_append,List.mem_singleton];constructor
        ·rintro⟨z,hz|rfl,e⟩
         ·exact .inl ⟨z,hz,e⟩
         ·exact .inr e
        ·rintro(⟨z,hz,e⟩|e)
         ·exact⟨z,.inl hz,e⟩
         ·exact⟨x,.inr rfl,e⟩
       have GD:(k:Int) < (np:Int):=by omega
       obtain⟨l5,Jf⟩:=nmq x.params.length;obtain⟨l6,FU⟩:=nmq x.body.len;obtain⟨pn,Wf⟩:=nmq x.nm;obtain⟨pa,GI⟩:=nmq x.at_;obtain⟨w4,Fb⟩:=nmq (wr.alloc (.cells #[.string pn,.slice A5 l5 c5,.slice A6 l6 c6,.int .i64 pa] 63));have Hx:Fr NoT wr w4:=by rw[Fb];exact(Fr.refl _ _).alloc _
       have Ft:Bk w4 wr.heap.size 63 #[.string pn,.slice A5 l5 c5,.slice A6 l6 c6,.int .i64 pa]:=by rw[Fb];exact Bk.new _ _ _
       have WK:=HF.size;have Fa:W.heap.size<=wr.heap.size:=by have:=Qq.1;have:=Mc.out;omega
       have NG:∀w,Fr NoT w4 w->SameS S wr w:=λw hf=>(Hx.trans hf).same λb hb=>⟨ltq (HX.2.1 b hb) Fa,id⟩;have J5:=hdq (show ∀w,Fr NoT w4 w->A4S wr.heap.size P MP pn (.slice A5 l5 c5) (.slice A6 l6 c6) w from λw hf=>
        ⟨((vu.fr HF.out (by omega)).fr0 (Hx.trans hf)).cell 2,(Ft.fr0 hf).cell 0,(Ft.fr0 hf).cell 1,(Ft.fr0 hf).cell 2⟩)
       have F6:=Pi w4.drew.heap.size (by have h9:=Hx.drew.size;omega);have Lj:=Pi wc.heap.size (lrq _);have LA:=HP.up (T2:=w4.drew.heap.size) HT.2 Fa (by show W.heap.size<=MP;omega) Hx.drew (leq9 HT.2 Hx.drew.size) (lrq _);have Gy:PgAt (bgC t W.heap.size w4.drew.heap.size R V P MA MP A c bs) w4.drew:=(Lj.2.1.later Lj.1 (Later.of (lo:=0) (hi:=0) ((HF.mono λb _ e=> .inr (.inr (.inr e))).trans Hx.drew.any) (Nat.zero_le _) (lrq _))).to (C:=(bgC t W.heap.size wc.heap.size R V P MA MP A c bs)) (T:=wc.heap.size) (leq9 WK Hx.drew.size);have NT:=hdq (show Calls Tryz.prog 23 #[.pointer (some ⟨P,0,none⟩),.slice A6 l6 c6] w4.drew (MkD (bgC t W.heap.size w4.drew.heap.size R V P MA MP A c bs) (x.params.map (·.nm.data.toList)) (RunT (bnOf t) (.all (x.params.map (·.nm.data.toList)) x.body)) w4.drew) by
        rw[FU];exact zgB (bgC t W.heap.size w4.drew.heap.size R V P MA MP A c bs) _ _ F6.1 x.body zP w4.drew S Z A6 c6 (lrq _) Gy LA.at_ HX.2.1 (s6.imp λ_ _ hx=>StR.keep (NG _ (Fr.refl NoT w4).drew) hx))
       have vy:=hdq (show ∀w,Fr NoT w4 w->SlR (VaR w S Z x.params) x.params.length 24 A5 c5 from λw hf=>s5.imp λ_ _ hx=>VaR.keep (NG w hf) hx);have Mw:=hdq (show x.nm.size<=9223372036854775807/\(∀y∈x.params,y.nm.size<=9223372036854775807)/\(x.params.map (·.nm.data.toList)).Nodup /\(∀nm∈x.params.map (·.nm.data.toList),posI (bnOf t).vars nm=none)from⟨Lf,LI,zQ,zR⟩);have vz:=hdq jD;have ZW:=hdq NB;have vB:=hdq jE;have Ut:=hdq LA;have Nm:=hdq Fb;have GN:=hdq Hx;have ZX:=hdq (aiq Wf (aiq Jf (aiq FU GI)));have Q7:=hdq Fa;have ZY:=hdq (show W.heap.size<=MP by omega);rw[<-Wf]at g0;rw[<-GI]at g3;rw[<-Jf]at g1;rw[<-FU]at g2;clear Kv GU WJ Hh Lw Gx s5 s6 US XC Lf LI zP zQ zR Ub jD NB jE Jf FU Wf GI Fb Hx Ft QQ WK Fa NG F6 Lj LA Gy;go_wp2_with fail;rw[<-Nm.out];refine zbR (A4S wr.heap.size P MP pn (.slice A5 l5 c5) (.slice A6 l6 c6)) (λi=>decide (i < 13)) (by kernel_rfl) (J5 _ (Fr.refl NoT w4).drew) (λhHeld=>?_);refine zaa 0 ?_;simp only[putsL];refine zaa 1 ?_;simp only[putsL];refine zaa 2 ?_;simp only[putsL];refine zac 3 (v:=?_) rfl (by kernel_rfl) (λ_ _ _ h=>h) hHeld (by rfl) ?_ ?_;rotate_left
       ·intro wz Hn;(try dsimp only[A2S,A3S,A4S,N1S]at Hn);go_simp;try with_reducible rfl
       try simp only[putsL]
       refine zaa 4 ?_;simp only[putsL];refine zac 5 (v:=?_) rfl (by kernel_rfl) (λ_ _ _ h=>h) hHeld (by rfl) ?_ ?_;rotate_left
       ·intro wz Hn;(try dsimp only[A2S,A3S,A4S,N1S]at Hn);go_simp;try with_reducible rfl
       try simp only[putsL]
       refine zaa 6 ?_;simp only[putsL];refine zac 7 (v:=?_) rfl (by kernel_rfl) (λ_ _ _ h=>h) hHeld (by rfl) ?_ ?_;rotate_left
       ·intro wz Hn;(try dsimp only[A2S,A3S,A4S,N1S]at Hn);go_simp;try with_reducible rfl
       try simp only[putsL]
       refine zaa 8 ?_;simp only[putsL];refine zaa 9 ?_;simp only[putsL];refine zac 10 (v:=?_) rfl (by kernel_rfl) (λ_ _ _ h=>h) hHeld (by rfl) ?_ ?_;rotate_left
       ·intro wz Hn;(try dsimp only[A2S,A3S,A4S,N1S]at Hn);go_simp;try with_reducible rfl
       try simp only[putsL]
       refine zab 11 rfl (by kernel_rfl) (λKK hK=>?_);go_simp;go_at_call 23;refine NT.mono ?_;rintro _ w5 ⟨vb,rfl,Hj,ZZ⟩;obtain⟨gg,cps,rfl⟩:=ZZ.func;have Gl:=hdq Hj;have vC:=hdq ZZ;clear Hj ZZ;try dsimp only
       refine hK _ _ (λ_ _=>J5 _ ((Fr.refl NoT w4).drew.trans Gl.out)) ?_;clear hK KK;try simp only[putsL]
       refine zaa 12 ?_;simp only[putsL];obtain⟨w6,KC,MV,Mp⟩:=MpV.put ((show MpV w4.drew MP k f from Ut.1).fr Gl.out id) Tryz.underlying71 (s:=pn) (by rw[ZX.1];exact Mw.1) (.agg #[.slice A5 l5 c5,.func (.func gg) #[] cps]) (by unfold maxLen;omega);have Gu:PrF (bgC t W.heap.size wc.heap.size R V P MA MP A c bs) w5.heap.size (λy=>kdL (t.procs.take k) y\/y=x.nm.data.toList) _ (k+1) w6:=Ut.step (lrq _) (leq9 Q7.out GN.drew.size) ZY.out Gl.out vz.out vC.out (vy w5 ((Fr.refl NoT w4).drew.trans Gl.out)) HX.2.1 Mw.2.1 Mw.2.2.1 Mw.2.2.2 Mp (by rw[<-ZX.1,<-ZX.2.1];exact MV) ZW.out;rw[<-vB.out]at Gu;have N8:=hdq Gu;have G1:=hdq (show Fr (λb=>b=MP) wc w6 from HF.trans (((GN.drew.trans Gl.out).any).trans (Fr.grown Mp λg e _=>(Option.some.inj e).symm)));have YC:=hdq (show wc.heap.size<=w5.heap.size/\w5.heap.size<=w6.heap.size from⟨leq9 HF.size (GN.drew.trans Gl.out).size,Mp.size⟩);clear Gu MV Mp hHeld;refine zab 13 rfl (by kernel_rfl) (λKK hK=>?_);go_simp;refine hK _ _ (λh=>absurd h (by decide)) ?_;clear hK KK;try simp only[putsL]
       refine zaf (by kernel_rfl) ?_;unfold zkT;clear g0 g1 g2 g3 KC;go_wp2_with fail;go_roundw;case rel=>exact⟨k+1,_,_,by omega,by go_num,YC,G1,N8⟩
       case measure=>simp[intOf];omega
      ·have F7:k=np:=by omega
       have Fz:¬(k:Int) < (np:Int):=by omega
       have QQ:=JI.out;have RV:=Qq.out;have Ra:=Mc.out;obtain⟨wd,UI⟩:=nmq wr;have hf:=HF.out;have hT:=HT.out;have hp:=HP.out;rw[F7,List.take_of_length_le (by rw[Rr.out];exact lrq _)]at hp;rw[<-UI]at hf hT hp ⊢;have Fa:W.heap.size<=wd.heap.size:=by have:=hf.size;omega
       have F6:=Pi wd.heap.size hf.size;have Lj:=Pi wc.heap.size (lrq _);have LA:=hp.up (T2:=wd.heap.size) hT.2 Fa (by show W.heap.size<=MP;omega) (Fr.refl NoT wd) hT.2 (lrq _);have Gy:PgAt (bgC t W.heap.size wd.heap.size R V P MA MP A c bs) wd:=(Lj.2.1.later Lj.1 (Later.of (lo:=0) (hi:=0) (hf.mono λb _ e=> .inr (.inr (.inr e))) (Nat.zero_le _) (lrq _))).to (C:=bgC t W.heap.size wc.heap.size R V P MA MP A c bs) (T:=wc.heap.size) hf.size;have Kl:Fr (λb=>b=N\/b=R\/b=MA\/b=MP) w3 wd:=(jC.mono λ_ _ e=>by omega).trans (hf.mono λ_ _ e=> .inr (.inr (.inr e)));have WJ:=Ux wd _ Kl (λb e=>by have:=JI.out;omega);have SD:=vw.out;have Hw:Calls Tryz.prog 23 #[.pointer (some ⟨P,0,none⟩),.slice Am nm cm] wd (MkD (bgC t W.heap.size wd.heap.size R V P MA MP A c bs) [] (RunT (bnOf t) (.all [] t.main)) wd):=by
        rw[LO.out];exact zgB (bgC t W.heap.size wd.heap.size R V P MA MP A c bs) _ _ F6.1 t.main SD wd S Z Am cm (lrq _) Gy LA.at_ HX.2.1 WJ.main
       have Uc:=ZT.fr hf (by omega);have WL:=ZU.fr hf (by omega);have Q6:=vt.fr hf (by omega);have jF:=Nk.fr hf (by omega);have xq:=Uc.cell 3;have kd3l:=Uc.lt;simp only[getsL]at xq;have UU:∀b,b < wn.heap.size->b∉bs:=λb hb hm=>by have:=RV.2.2 b hm;omega
       have WM:=F6.2.2.fr F6.1 hf (by show ¬R=MP;omega) (by show ¬V=MP;omega) (λb hb e=>UU MP (by omega) (by have e:b=MP:=e;exact e▸hb)) (λb hb e=>by have h9:=RV.2.1 _ b hb;have e:b=MP:=e;omega) (λb hb=>by simp at hb) (λb hb e=>by have hb:b < W.heap.size:=hb;have e:b=MP:=e;omega);have Pm:bigE t ns st=0:=by rw[<-ZH.out,vi.out]
       have GH:=NU Pm;have Pn:∀w5,Fr NoT wd w5->RunAt (bgC t W.heap.size wd.heap.size R V P MA MP A c bs) wd.heap.size w5.heap.size w5 w5 [] [] N (bs0 t script st):=λw5 Hj=>
        ⟨Later.refl (lrq _) Hj.size,λb hb=>by simp at hb,WM.fr0 F6.1 Hj,
         ⟨nv,_,jF.fr Hj id,by show nv+(st:Int).toNat <=1000000;have:=Gi.out;omega,λnm i hi=>by
          unfold fA;have hi:posI nms nm=some i:=by rw[jp.out];exact hi
          have Z0:=zcA hi;rw[hi];exact zn5 (by rw[<-Q3.2];exact Z0),λnm k hk=>by simp[posI]at hk⟩,λnm k hk=>by simp[posI]at hk,λe=>by
          rcases e with(e|e|e|e)|e
          ·have e:N=R:=e;omega
          ·have e:N=V:=e;omega
          ·exact UU N (by omega) e
          ·have e:N=MP:=e;omega
          ·simp at e⟩
       have KF:∀b,b < wn.heap.size->b≠R->b≠V->b≠MP->¬(bgC t W.heap.size wd.heap.size R V P MA MP A c bs).MutO [] b:=λb h1 h2 h3 h4 e=>by
        rcases e with(e|e|e|e)|e
        ·exact h2 e
        ·exact h3 e
        ·exact UU b h1 e
        ·exact h4 e
        ·simp at e
       have SE:∀b,(bgC t W.heap.size wd.heap.size R V P MA MP A c bs).MutO [] b->W.heap.size<=b:=λb e=>by
        rcases e with(e|e|e|e)|e
        ·have e:b=R:=e;omega
        ·have e:b=V:=e;omega
        ·have:=RV.2.2 b e;omega
        ·have e:b=MP:=e;omega
        ·simp at e
       have FZ:Fr (λb=>W.heap.size<=b) W wd:=(Hv.trans Ge.out).any.trans (Kl.mono λb _ e=>by have e:b=N\/b=R\/b=MA\/b=MP:=e;show W.heap.size<=b;omega);have MM:=hdq (show ∀w5 w6 w7,Fr NoT wd w5->Fr ((bgC t W.heap.size wd.heap.size R V P MA MP A c bs).MutO []) w5 w6->BgSt (bgC t W.heap.size wd.heap.size R V P MA MP A c bs) [] u w6->Fr (λb=>b=W.heap.size+1) w6 w7->BigP t script st h u W (.returned (.tuple #[.agg (zds (hoD h).kind (hoD h).wrong (hoD h).at_ (.int .i64 0) (.int .i64 0) (.int .i64 u.left) (.slice (some ⟨V,0,none⟩) u.vs.length u.vs.length) (.slice A u.ls.length c)),.int .i64 0])) w7 from λw5 w6 w7 g5 g6 gs g7=>by
        refine⟨((FZ.trans g5.any).trans ((g6.mono λb _ e=>SE b e).trans (g7.mono λb _ e=>by have e:b=W.heap.size+1:=e;show W.heap.size<=b;omega))).mono λb hb e=>by have e:W.heap.size<=b:=e;omega,?_⟩;rw[<-jm.out,if_pos Pm];exact⟨V,A,c,bs,rfl,gs.sto.fr g7 (by show ¬V=W.heap.size+1;omega) (λb hb e=>by have:=RV.2.2 b hb;have e:b=W.heap.size+1:=e;omega) λb hb e=>by have h9:=RV.2.1 _ b hb;have e:b=W.heap.size+1:=e;omega⟩)
       have WN:=hdq (show ∀w5 w6,Fr NoT wd w5->Fr ((bgC t W.heap.size wd.heap.size R V P MA MP A c bs).MutO []) w5 w6->BgSt (bgC t W.heap.size wd.heap.size R V P MA MP A c bs) [] u w6->∃yt yf,bgRcS r R (W.heap.size+1) zex (.slice yt u.script.length yf) (.int .u8 0) (.int .u8 0) (.int .i64 0) (.int .i64 0) (.int .i64 0) (.int .i64 u.left) (.slice (some ⟨V,0,none⟩) u.vs.length u.vs.length) (.slice A u.ls.length c) w6 from λw5 w6 g5 g6 gs=>by
        obtain⟨yt,yf,_,NZ⟩:=gs.run;exact⟨yt,yf,(Q6.fr0 g5).fr g6 (KF r (by omega) (by omega) (by omega) (by omega)),NZ,(WL.fr0 g5).fr g6 (KF _ (by omega) (by omega) (by omega) (by omega)),by omega,by omega⟩)
       have NT:=hdq Hw;have SF:=hdq GH;have Vs:=hdq Pn;clear F7 QQ RV Ra UI hf hT hp Fa F6 Lj LA Gy Kl WJ SD Hw Uc WL Q6 jF UU WM Pm GH Pn KF SE FZ hk HF HT HP;go_wp2_with fail;refine NT.mono ?_;rintro _ w5 ⟨vb,rfl,Hj,g,caps,rfl,hg,FI⟩;have jG:=hdq (FI w5 [] N _ h u (Vs w5 Hj) SF.out);have Gl:=hdq Hj;unfold Enters at hg;clear Hj FI Vs SF NT;go_wp2_with fail;refine jG.mono ?_;rintro e w6 ⟨rfl,Mn,Gt⟩;obtain⟨yt,yf,RV⟩:=WN w5 w6 Gl.out Gt Mn;have WO:=hdq RV;have Pu:=hdq (λw7 h7=>MM w5 w6 w7 Gl.out Gt Mn h7);clear Mn Gt RV jG MM WN;cases h with
       |none=>
        unfold zem;go_wp2_with fail;refine leaves_cons (f:=24) (args:= #[.pointer (some ⟨r,0,none⟩),.pointer (some ⟨W.heap.size+1,0,none⟩)]) (by simp) (by simp[go_sem]) ?_;refine(zkS r R (W.heap.size+1) _ _ _ _ _ _ _ _ _ _ _ _ _ _ _ _ _ w6 WO.out ⟨rfl,rfl,⟨_,rfl⟩,⟨_,_,_,rfl⟩,⟨_,_,_,rfl⟩,⟨_,rfl⟩,⟨_,rfl⟩,⟨_,rfl⟩⟩).mono ?_;rintro e u' w7 ⟨rfl,rfl,Hf,Hp⟩;exact zbn Hf (by rw[G3.out];exact Pu w7 Hp)
       |some ho=>
        unfold zem endE;go_wp2_with fail;refine leaves_cons (f:=24) (args:= #[.pointer (some ⟨r,0,none⟩),.pointer (some ⟨W.heap.size+1,0,none⟩)]) (by simp) (by simp[go_sem]) ?_;refine(ziQ ho.kind ho.wrong ho.at_ [] r R (W.heap.size+1) _ _ _ _ _ _ _ _ _ _ _ _ _ _ _ _ _ w6 WO.out ⟨rfl,rfl,⟨_,rfl⟩,⟨_,_,_,rfl⟩,⟨_,_,_,rfl⟩,⟨_,rfl⟩,⟨_,rfl⟩,⟨_,rfl⟩⟩).mono ?_;rintro e u' w7 ⟨rfl,rfl,Hf,Hp⟩;exact zbn Hf (by rw[G3.out];exact Pu w7 Hp)
