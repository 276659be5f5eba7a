/- law15: ran, alive; BigNames. -/
import Derived.Test.YtfomomaomggpbaaGreatDoorJgSrL
import Derived.Test.YtfomomaomggpbaaGreatDoorJnPs
import Derived.Test.YtfomomaomggpbaaGreatDoorJnCq
set_option linter.all false
set_option maxHeartbeats 6400000
set_option maxRecDepth 100000
namespace Go.Proofs.YtfomomaomggpbaaGreatDoor
open Go.RowKit Go.Shelf Go.Maps
def TrueB (W:World)(e:Ending)(w':World):Prop:=e= .returned (.bool true)/\Fr NoT W w'
def al0:List UInt8:= [118,97,114,32,120,59,112,114,111,99,32,112,40,117,41,123,120,61,120,43,117,59,125,109,97,105,110,123,99,97,108,108,32,112,40,50,41,59,99,97,108,108,32,112,40,120,41,59,125]
def alX:ByteArray:=⟨#[120]⟩
def alU:ByteArray:=⟨#[117]⟩
def alP:ByteArray:=⟨#[112]⟩
def alN:ByteArray:=⟨#[]⟩
def alB:Sts:= .cons 2 alX (.cons 5 alN 0 (.cons 2 alX 0 .nil 18 (.cons 2 alU 0 .nil 20 .nil)) 19 .nil) .nil .nil .nil 16 .nil
def al1:Tre:=⟨[⟨alX,4⟩], [], [⟨alP, [⟨alU,13⟩],alB,11⟩],
 .cons 9 alP (.cons 1 alN 2 .nil 35 .nil) .nil .nil .nil 28 (.cons 9 alP (.cons 2 alX 0 .nil 45 .nil) .nil .nil .nil 38 .nil)⟩
theorem zmx:zcS al0=(al1,0,0):=by kernel_rfl
theorem zn9:zcn al1=(0,0):=by kernel_rfl
theorem al_sz:SzT al1:=by
 refine⟨by decide+kernel,by decide+kernel,λx hx=>?_,?_⟩
 ·obtain rfl:x=⟨alP, [⟨alU,13⟩],alB,11⟩:=List.mem_singleton.1 hx;refine⟨by decide,by decide+kernel,?_⟩;unfold alB
  repeat' first|exact trivial|apply aiq|(show ByteArray.size _<=_;decide)
 ·show szS al1.main
  repeat' first|exact trivial|apply aiq|(show ByteArray.size _<=_;decide)
theorem RunT.plainE {n:Bn}{ps:List (List UInt8)}{k:Int}{nm:ByteArray}{args:Exs}{cond:Cds}{body els:Sts}{at_:Int}{s t:Bs}{h:Option Ho}(hk:k<=4)(e:za4 n ps s k nm args at_=(h,t)):RunT n (.one ps k nm args cond body els at_) s h t:=by
 have:=RunT.plain (n:=n) (ps:=ps) (k:=k) (nm:=nm) (args:=args) (cond:=cond) (body:=body) (els:=els) (at_:=at_) (s:=s) hk;rw[e]at this;exact this
theorem zoR:RunT (bnOf al1) (.all [] al1.main) (bs0 al1 [] 9) none ⟨[4], [], [],3, []⟩:=by
 have hp:(bnOf al1).procs alP.data.toList=some ⟨alP, [⟨alU,13⟩],alB,11⟩:=by kernel_rfl
 refine .next (s1:=⟨[2], [], [],6, []⟩) ?_ (.next (s1:=⟨[4], [], [],3, []⟩) ?_ .nil)
 ·exact .call (m:=8) (xs:= [2]) (t:=⟨[0], [], [],7, []⟩) (u:=⟨[2], [], [],6, [2]⟩) (by kernel_rfl) hp (by kernel_rfl) (.next (s1:=⟨[2], [], [],6, [2]⟩) (.plainE (by decide) (by kernel_rfl)) .nil)
 ·exact .call (m:=5) (xs:= [2]) (t:=⟨[2], [], [],4, []⟩) (u:=⟨[4], [], [],3, [2]⟩) (by kernel_rfl) hp (by kernel_rfl) (.next (s1:=⟨[4], [], [],3, [2]⟩) (.plainE (by decide) (by kernel_rfl)) .nil)
def zoS (h:Option Ho)(u:Bs)(W:World)(e:Ending)(w':World):Prop:=Fr NoT W w'/\∃V A c bs,e= .returned (.tuple #[.agg (zds (hoD h).kind (hoD h).wrong (hoD h).at_ (.int .i64 0) (.int .i64 0) (.int .i64 u.left) (.slice (some ⟨V,0,none⟩) u.vs.length u.vs.length) (.slice A u.ls.length c)),.bool true])/\Sto w' W.heap.size u.vs u.ls V A c bs
theorem zmy (x:List UInt8)(hx:x.toArray.size<=9223372036854775807)(t:Tre)(hp:zcS x=(t,0,0))(ht:zcn t=(0,0))(hz:SzT t)(steps:Int)(hs:0<=steps/\steps<=65536)(h:Option Ho)(u:Bs)(hr:RunT (bnOf t) (.all [] t.main) (bs0 t [] steps) h u)(w:World)(he:NameEnv w):
  Calls Tryz.prog 13 #[.string ⟨x.toArray⟩,.int .i64 steps] w (zoS h u w):=by
 obtain⟨w1,Hc⟩:=nmq (w.alloc (.cells #[.int .u8 0,.int .u8 0,.int .i64 0,.int .i64 0,.int .i64 0,.int .i64 0,.slice none 0 0,.slice none 0 0] 34));have Hg:Fr NoT w w1:=by rw[Hc];exact(Fr.refl _ _).alloc _
 have F0:Bk w1 w.heap.size 34 #[.int .u8 0,.int .u8 0,.int .i64 0,.int .i64 0,.int .i64 0,.int .i64 0,.slice none 0 0,.slice none 0 0]:=by rw[Hc];exact Bk.new _ _ _
 obtain⟨X,hX⟩:=nmq ((⟨x.toArray⟩:ByteArray));have h1:=zkv X (by rw[hX];exact hx) w1 (he.keep Hg.plain);rw[show X.data.toList=x from by rw[hX],hp]at h1;rw[<-hX];have jK:bigE t ([]:List Int).length steps=0:=by
  unfold bigE;rw[ht,if_pos rfl,if_neg (by decide),if_neg (by omega)]
 have Gg:=hdq Hc;have Hs:=hdq Hg;have Lq:=hdq F0;have H1:=hdq (show Calls Tryz.prog 29 _ w1 (λe w'=>∃Av Aa Ap Am cv ca cp cm,e= .returned (.tuple #[trV t Av Aa Ap Am cv ca cp cm,.int .i64 0,.int .i64 0])/\TrR w' (New w1.heap.size w') False t Av Aa Ap Am cv ca cp cm/\Below w1.heap.size w1 w')from h1);have HE:=hdq he;have ZH:=hdq jK;have HR:=hdq (aiq hr (aiq hz hs));clear Hc Hg F0 h1 he jK hX hx hp ht hz hs hr;unfold trV at H1;obtain⟨nv,M2⟩:=nmq t.vars.length;obtain⟨na,NS⟩:=nmq t.arrays.length;obtain⟨np,MF⟩:=nmq t.procs.length;obtain⟨nm,Jp⟩:=nmq t.main.len;rw[<-M2,<-NS,<-MF,<-Jp]at H1;have HN:=hdq (aiq M2 (aiq NS (aiq MF Jp)));clear M2 NS MF Jp;go_enter Tryz.func13,Tryz.ntmps13;go_wp2_with fail;rw[<-Gg.out];refine H1.mono ?_;rintro _ w2 ⟨Av,Aa,Ap,Am,cv,ca,cp,cm,rfl,hT,hb⟩;have He:Fr NoT w1 w2:=Fr.below hb;obtain⟨w3,GL⟩:=nmq (w2.alloc (.cells #[.slice Av nv cv,.slice Aa na ca,.slice Ap np cp,.slice Am nm cm] 27));have Ga:Fr NoT w2 w3:=by rw[GL];exact(Fr.refl _ _).alloc _
 have Ud:Fr NoT w w3:=(Hs.trans He).trans Ga;have h3:=(zm4 t [] steps h u w3 (New w1.heap.size w2) False Av Aa Ap Am none cv ca cp cm 0 (HE.keep Ud.plain).toSp (λb hb=>ltq hb.2 Ga.size) HR.2.1 (hT.keep (Ga.same λb hb=>⟨hb.2,id⟩)) ⟨lrq _,by decide,λh=>absurd h (by decide)⟩ (by have:=HR.2.2;unfold in64;omega) λ_=>HR.1).mono (λe w' (q:BigP t [] steps h u w3 e w')=>(⟨q.1,by have h1:=q.2;rwa [if_pos ZH.out]at h1⟩:Fr NoT w3 w'/\∃V A c bs,e= .returned (.tuple #[.agg (zds (hoD h).kind (hoD h).wrong (hoD h).at_ (.int .i64 0) (.int .i64 0) (.int .i64 u.left) (.slice (some ⟨V,0,none⟩) u.vs.length u.vs.length) (.slice A u.ls.length c)),.int .i64 0])/\Sto w' w3.heap.size u.vs u.ls V A c bs));unfold trV at h3;rw[<-HN.1,<-HN.2.1,<-HN.2.2.1,<-HN.2.2.2,show([]:List Int).length =0 from rfl]at h3;obtain⟨k0,Gz⟩:=nmq ((hoD h).kind );obtain⟨k1,F0⟩:=nmq ((hoD h).wrong );obtain⟨k2,FK⟩:=nmq ((hoD h).at_ );obtain⟨k5,Gb⟩:∃k:Int,k=u.left:=⟨_,rfl⟩;obtain⟨k6,G5⟩:=nmq u.vs.length;obtain⟨k7,Lp⟩:=nmq u.ls.length;unfold zoS;rw[<-Gz,<-F0,<-FK,<-Gb,<-G5,<-Lp]at h3 ⊢;have Sg:=hdq (aiq Gz (aiq F0 (aiq FK (aiq Gb (aiq G5 Lp)))));have H3:=hdq h3;have L0:=hdq GL;have Z2:=hdq Ud;have LP:=hdq ((Lq.fr0 He).fr0 Ga);clear hT hb He GL Ga Ud h3 Gz F0 FK Gb G5 Lp;go_wp2_with fail;rw[<-L0.out];go_at_call 9;refine H3.mono ?_;rintro _ w6 ⟨Gt,V,A,c,bs,rfl,Gu⟩;unfold zds;have G5:=LP.fr0 Gt;have jL:w.heap.size < w3.heap.size:=LP.lt
 obtain⟨w7,Mo⟩:=nmq ((((((((w6.setCell ⟨w.heap.size,0,none⟩ (.int .u8 k0)).setCell ⟨w.heap.size,1,none⟩ (.int .u8 k1)).setCell ⟨w.heap.size,2,none⟩ (.int .i64 k2)).setCell ⟨w.heap.size,3,none⟩ (.int .i64 0)).setCell ⟨w.heap.size,4,none⟩ (.int .i64 0)).setCell ⟨w.heap.size,5,none⟩ (.int .i64 k5)).setCell ⟨w.heap.size,6,none⟩ (.slice (some ⟨V,0,none⟩) k6 k6)).setCell ⟨w.heap.size,7,none⟩ (.slice A k7 c));have Ue:Fr (λi=>i=w.heap.size) w6 w7:=by rw[Mo];exact(Fr.own (Fr.own (Fr.own (Fr.own (Fr.own (Fr.own (Fr.own (Fr.own (Fr.refl _ _) _ _) _ _) _ _) _ _) _ _) _ _) _ _) _ _)
 have Lp:Bk w7 w.heap.size 34 #[.int .u8 k0,.int .u8 k1,.int .i64 k2,.int .i64 0,.int .i64 0,.int .i64 k5,.slice (some ⟨V,0,none⟩) k6 k6,.slice A k7 c]:=by
  have:=((((((((G5.set_ 0 (.int .u8 k0)).set_ 1 (.int .u8 k1)).set_ 2 (.int .i64 k2)).set_ 3 (.int .i64 0)).set_ 4 (.int .i64 0)).set_ 5 (.int .i64 k5)).set_ 6 (.slice (some ⟨V,0,none⟩) k6 k6)).set_ 7 (.slice A k7 c));rw[Mo];simpa using this
 obtain⟨wf,Z3⟩:=nmq (w7.alloc (.cells #[.int .u8 k0,.int .u8 k1,.int .i64 k2,.int .i64 0,.int .i64 0,.int .i64 k5,.slice (some ⟨V,0,none⟩) k6 k6,.slice A k7 c] 34));have Hp:Fr NoT w7 wf:=by rw[Z3];exact(Fr.refl _ _).alloc _
 have jM:=Lp.fr0 Hp;have K4:Fr NoT w wf:=(zm5 (Z2.trans Gt) Ue λi hi e=>by have e:i=w.heap.size:=e;omega).trans Hp;have Qh:=zdG Gu Ue λb e=> .inl (by have e:b=w.heap.size:=e;omega);have Gi:=hdq ((zdG Qh Hp λb e=>e.elim).lower (Nat.le_of_lt jL));have WP:=hdq Mo;have JL:=hdq G5;have ZV:=hdq Z3;have Kc:=hdq K4;have vG:=hdq jM;clear Gt Gu Qh G5 Mo Hp Lp Z3 Ue jM K4 jL;have xD:=JL.frozen 0;have xE:=JL.frozen 1;have xF:=JL.frozen 2;have xG:=JL.frozen 3;have xH:=JL.frozen 4;have xt:=JL.frozen 5;have xI:=JL.frozen 6;have xJ:=JL.frozen 7;have zx:=JL.cell 0;have zy:=JL.cell 1;have yV:=JL.cell 2;have zz:=JL.cell 3;have zA:=JL.cell 4;have zB:=JL.cell 5;have zC:=JL.cell 6;have zD:=JL.cell 7;have kl:=JL.lt;simp only[getsL]at zx zy yV zz zA zB zC zD;go_wp2_with fail;rw[<-WP.out,<-ZV.out];refine bodyPost_ret (zdy (p:=4) (q:=5) (ty:=34) rfl _ _ w.heap.size 34 _ (0,0) _ rfl vG.out Tryz.underlying34 rfl zn7) rfl ?_;obtain⟨rfl,rfl,rfl,rfl,rfl,rfl⟩:=Sg.out;exact⟨Kc.out,V,A,c,bs,rfl,Gi.out⟩
theorem ziS (w:World)(he:NameEnv w):Calls Tryz.prog 14 #[] w (TrueB w):=by
 have h1:=zmy al0 (by decide) al1 zmx zn9 al_sz 9 (by decide) none ⟨[4], [], [],3, []⟩ zoR w he;unfold al0 at h1;have H1:=hdq (show Calls Tryz.prog 13 _ w (λe w'=>Fr NoT w w'/\∃V A c bs,e= .returned (.tuple #[.agg #[.int .u8 1,.int .u8 0,.int .i64 0,.int .i64 0,.int .i64 0,.int .i64 3,.slice (some ⟨V,0,none⟩) 1 1,.slice A 0 c],.bool true])/\Sto w' w.heap.size [4] [] V A c bs)from h1);clear h1 he;go_enter Tryz.func14,Tryz.ntmps14;go_wp2_with fail;refine H1.mono ?_;rintro _ w2 ⟨hf,V,A,c,bs,rfl,Gu⟩;have kv:=Gu.v.cell 0;have kl:=Gu.v.lt;simp only[intL,List.map_cons,List.map_nil,List.getElem?_toArray,List.getElem?_cons_zero]at kv;have HF:=hdq hf;clear hf Gu;go_wp2_with fail;go_ret;exact⟨rfl,HF.alloc _⟩
def zoT (W:World)(e:Ending)(w':World):Prop:=e= .returned (.bool true)/\Below W.heap.size W w'
theorem TrueB.plain {W:World}{e:Ending}{w':World}(h:TrueB W e w'):zoT W e w':=⟨h.1,h.2.plain⟩
theorem zld {t:Tre}{n:Nat}{a b:Int}(ha:0<=a/\a<=65536)(hb:0<=b/\b<=65536):bigE t n a=bigE t n b:=by
 unfold bigE;rw[if_neg (show ¬(a < 0\/65536 < a)from by omega),if_neg (show ¬(b < 0\/65536 < b)from by omega)]
theorem zmz (t:Tre)(script:List Int){a b:Int}(ha:0<=a)(hb:0<=b):bs0 t script (a+b)=(bs0 t script a).up b.toNat:=by
 unfold bs0 Bs.up;rw[Int.toNat_add ha hb]
theorem zmA {h:Option Ho}(e:(hoD h).kind ≠2):∀x,h=some x->x.kind≠2:=λx hx=>by subst hx;exact e
theorem zoa {h:Option Ho}(e:(hoD h).kind =2):∃x,h=some x/\x.kind=2:=by
 cases h with
 |none=>exact absurd e (by decide)
 |some x=>exact⟨x,rfl,e⟩
theorem zmB {t:Tre}(hz:SzT t)(script:List Int){a b:Int}(ha:0<=a/\a<=2000)(hb:0<=b/\b<=2000):∃h u h' u',(bigE t script.length a=0->RunT (bnOf t) (.all [] t.main) (bs0 t script a) h u)/\(bigE t script.length (a+b)=0->RunT (bnOf t) (.all [] t.main) (bs0 t script (a+b)) h' u')/\
  (bigE t script.length a=0->((hoD h).kind =2->u.left=0)/\((hoD h).kind ≠2->h'=h/\u'=u.up b.toNat)/\(u.left:Int)<=a):=by
 obtain⟨h,u,h1⟩:=zkY hz script.length a (bs0 t script a);by_cases h0:bigE t script.length a=0
 ·have r:=h1 h0;have hl:=r.left_le;have Fp:((bs0 t script a).left :Int)=a:=by show(a.toNat:Int)=a;omega
  by_cases h2:(hoD h).kind =2
  ·obtain⟨h',u',h3⟩:=zkY hz script.length (a+b) (bs0 t script (a+b));refine⟨h,u,h',u',h1,h3,λ_=>⟨λ_=>?_,λe=>absurd h2 e,by omega⟩⟩;obtain⟨x,hx,hk⟩:=zoa h2;exact r.dry x hx hk
  ·refine⟨h,u,h,u.up b.toNat,h1,λ_=>?_,λ_=>⟨λe=>absurd e h2,λ_=>⟨rfl,rfl⟩,by omega⟩⟩;rw[zmz t script ha.1 hb.1];exact r.more _ (zmA h2)
 ·obtain⟨h',u',h3⟩:=zkY hz script.length (a+b) (bs0 t script (a+b));exact⟨h,u,h',u',h1,h3,λe=>absurd e h0⟩
def zoU (t:Tre)(script:List Int)(T:Array Value)(As:Option Addr)(ns cs:Nat)(w:World):Prop:=
 ∀(st:Int)(h:Option Ho)(u:Bs)(W:World),Fr NoT w W->in64 st->(bigE t script.length st=0->RunT (bnOf t) (.all [] t.main) (bs0 t script st) h u)->Calls Tryz.prog 9 #[.agg T,.slice As ns cs,.int .i64 st] W (BigU (bigE t script.length st) h u W)
theorem ziT (t:Tre)(script:List Int)(steps more:Int)(w:World)(S:Nat->Prop)(Z:Prop)(Av Aa Ap Am As:Option Addr)(cv ca cp cm cs:Nat)(he:NameEnv w)(hS:∀b,S b->b < w.heap.size)(Ht:SzT t)(hx:TrR w S Z t Av Aa Ap Am cv ca cp cm)(Kx:IsSl w w.heap.size script As cs):
  Calls Tryz.prog 5 #[trV t Av Aa Ap Am cv ca cp cm,.slice As script.length cs,.int .i64 steps,.int .i64 more] w (TrueB w):=by
 have vH:=leq9 Kx.1 Kx.2.1;have GH:zoU t script #[.slice Av t.vars.length cv,.slice Aa t.arrays.length ca,.slice Ap t.procs.length cp,.slice Am t.main.len cm] As script.length cs w:=λst h u W hf KB hr=>run_u t script st h u W S Z Av Aa Ap Am As cv ca cp cm cs (he.keep hf.plain).toSp (λb hb=>ltq (hS b hb) hf.size) Ht (hx.keep (hf.same λb hb=>⟨hS b hb,id⟩)) ((Kx.keep (Same.of_fr hf (lrq _) λ_ h=>h.elim)).up hf.size) KB hr;have Z4:∀W,Fr NoT w W->Calls Tryz.prog 8 #[.agg #[.slice Av t.vars.length cv,.slice Aa t.arrays.length ca,.slice Ap t.procs.length cp,.slice Am t.main.len cm]] W (AnyB W):=λW hf=>ziR t W S Z Av Aa Ap Am cv ca cp cm (λb hb=>ltq (hS b hb) hf.size) (hx.keep (hf.same λb hb=>⟨hS b hb,id⟩));unfold trV;obtain⟨nv,M2⟩:=nmq t.vars.length;obtain⟨na,NS⟩:=nmq t.arrays.length;obtain⟨np,MF⟩:=nmq t.procs.length;obtain⟨nm,Jp⟩:=nmq t.main.len;obtain⟨ns,NC⟩:=nmq script.length;rw[<-M2,<-NS,<-MF,<-Jp,<-NC]at GH;rw[<-M2,<-NS,<-MF,<-Jp]at Z4;rw[<-NC]at vH;rw[<-M2,<-NS,<-MF,<-Jp,<-NC];obtain⟨w1,Hc⟩:=nmq (w.alloc (.cells #[.slice Av nv cv,.slice Aa na ca,.slice Ap np cp,.slice Am nm cm] 27));have Hg:Fr NoT w w1:=by rw[Hc];exact(Fr.refl _ _).alloc _
 have F0:Bk w1 w.heap.size 27 #[.slice Av nv cv,.slice Aa na ca,.slice Ap np cp,.slice Am nm cm]:=by rw[Hc];exact Bk.new _ _ _
 have Vy:=hdq (ziS w1 (he.keep Hg.plain));have vI:=hdq Z4;have NU:=hdq GH;have Gg:=hdq Hc;have Hs:=hdq Hg;have Lq:=hdq F0;have LR:=hdq Ht;clear hx Kx Z4 GH M2 NS MF Jp NC Hc Hg F0 he Ht hS;go_enter Tryz.func5,Tryz.ntmps5;go_wp2_with fail;rw[<-Gg.out];refine Vy.mono ?_;rintro _ w2 ⟨rfl,Uf⟩;have Hv:=hdq (Hs.trans Uf);have Kh:=hdq (Lq.fr0 Uf);clear Uf;have yz:=Kh.cell 0;have yA:=Kh.cell 1;have yB:=Kh.cell 2;have yC:=Kh.cell 3;have gl:=Kh.lt;simp only[getsL]at yz yA yB yC;go_wp2_with fail;go_at_call 8;refine(vI w2 Hv.out).mono ?_;rintro _ w3 ⟨b,rfl,Ug⟩;have Ge:=hdq (Hv.trans Ug);have LP:=hdq (Kh.fr0 Ug);clear Ug yz yA yB yC gl;rcases(show b=true\/(b=false/\(10000:Int) < (ns:Int))\/(b=false/\¬(10000:Int) < (ns:Int)/\steps < 0)\/(b=false/\¬(10000:Int) < (ns:Int)/\¬steps < 0/\2000 < steps)\/(b=false/\¬(10000:Int) < (ns:Int)/\¬steps < 0/\¬2000 < steps/\more < 0)\/(b=false/\¬(10000:Int) < (ns:Int)/\¬steps < 0/\¬2000 < steps/\¬more < 0/\2000 < more)\/(b=false/\¬(10000:Int) < (ns:Int)/\¬steps < 0/\¬2000 < steps/\¬more < 0/\¬2000 < more)from by cases b<;>simp<;>omega)with rfl|⟨rfl,g1⟩|⟨rfl,g1,g2⟩|⟨rfl,g1,g2,g3⟩|⟨rfl,g1,g2,g3,g4⟩|⟨rfl,g1,g2,g3,g4,g5⟩|⟨rfl,g1,g2,g3,g4,g5⟩
 ·
  go_wp2_with fail;go_ret;exact⟨rfl,Ge.out⟩
 ·
  go_wp2_with fail;go_ret;exact⟨rfl,Ge.out⟩
 ·
  go_wp2_with fail;go_ret;exact⟨rfl,Ge.out⟩
 ·
  go_wp2_with fail;go_ret;exact⟨rfl,Ge.out⟩
 ·
  go_wp2_with fail;go_ret;exact⟨rfl,Ge.out⟩
 ·
  go_wp2_with fail;go_ret;exact⟨rfl,Ge.out⟩
 ·
  obtain⟨h,u,h',u',F5,Fj,hrel⟩:=zmB LR.out script (a:=steps) (b:=more) (by omega) (by omega);have WQ:wrap64 (steps+more)=steps+more:=by unfold wrap64;omega
  have jN:bigE t script.length (steps+more)=bigE t script.length steps:=zld (by omega) (by omega);have SG:=hdq (NU steps h u w3 Ge.out (by unfold in64;omega) F5);have QT:=hdq (λW hf=>NU (steps+more) h' u' W hf (by unfold in64;omega) Fj);rw[jN]at QT;obtain⟨E,hE⟩:=nmq (bigE t script.length steps);rw[<-hE]at SG QT hrel;have WR:=hdq hrel;have Z5:=hdq WQ;clear F5 Fj hrel WQ jN hE;have yz:=LP.cell 0;have yA:=LP.cell 1;have yB:=LP.cell 2;have yC:=LP.cell 3;have gl:=LP.lt;simp only[getsL]at yz yA yB yC;go_wp2_with fail;go_at_call 9;refine SG.mono ?_;rintro _ w4 ⟨Hx,k0,k1,k2,k5,kA,kn,kd,kB,km,kc,rfl,hk,ZD⟩;obtain⟨w5,FY⟩:=nmq (w4.alloc (.cells #[.int .u8 k0,.int .u8 k1,.int .i64 k2,.int .i64 0,.int .i64 0,.int .i64 k5,.slice kA kn kd,.slice kB km kc] 34));have Hj:Fr NoT w4 w5:=by rw[FY];exact(Fr.refl _ _).alloc _
  have Jw:Bk w5 w4.heap.size 34 #[.int .u8 k0,.int .u8 k1,.int .i64 k2,.int .i64 0,.int .i64 0,.int .i64 k5,.slice kA kn kd,.slice kB km kc]:=by rw[FY];exact Bk.new _ _ _
  have Vk:w5.heap.size=w4.heap.size+1:=by rw[FY];simp
  have Lr:=hdq (LP.fr0 Hx);have JU:=hdq ((LP.fr0 Hx).fr0 Hj);have GN:=hdq (Ge.trans Hx);have Gl:=hdq ((Ge.trans Hx).trans Hj);have L6:=hdq Hj;have Xd:=hdq FY;have jO:=hdq Jw;have jP:=hdq Vk;have Sg:=hdq (aiq hk ZD);clear Hx FY Hj Jw Vk hk ZD yz yA yB yC gl;have zS:=Lr.cell 0;have zT:=Lr.cell 1;have zU:=Lr.cell 2;have zV:=Lr.cell 3;have jl:=Lr.lt;simp only[getsL]at zS zT zU zV;have yz:=JU.cell 0;have yA:=JU.cell 1;have yB:=JU.cell 2;have yC:=JU.cell 3;have gl:=JU.lt;simp only[getsL]at yz yA yB yC;go_wp2_with fail;rw[<-Xd.out];clear zS zT zU zV jl;try rw[Z5.out]
  go_at_call 9;refine(QT w5 Gl.out).mono ?_;rintro _ w6 ⟨Gt,m0,m1,m2,m5,mA,mn,md,mB,mm,mc,rfl,hm,vJ⟩;obtain⟨w7,Mo⟩:=nmq (w6.alloc (.cells #[.int .u8 m0,.int .u8 m1,.int .i64 m2,.int .i64 0,.int .i64 0,.int .i64 m5,.slice mA mn md,.slice mB mm mc] 34));have Hp:Fr NoT w6 w7:=by rw[Mo];exact(Fr.refl _ _).alloc _
  have Hf:Bk w7 w6.heap.size 34 #[.int .u8 m0,.int .u8 m1,.int .i64 m2,.int .i64 0,.int .i64 0,.int .i64 m5,.slice mA mn md,.slice mB mm mc]:=by rw[Mo];exact Bk.new _ _ _
  have LC:=hdq (jO.fr0 Gt);have vK:=hdq (jO.fr0 (Gt.trans Hp));have GV:=hdq (Gl.trans (Gt.trans Hp));have Uh:=hdq (aiq Gt Hp);have WP:=hdq Mo;have WZ:=hdq Hf;have XA:=hdq hm;have WS:w4.heap.size < w6.heap.size:=by have:=Gt.size;have:=jP.out;omega
  have Xz:=hdq WS;clear Gt Mo Hp Hf hm vJ WS yz yA yB yC gl;have z2:(E != E)=false:=by simp
  have zx:=LC.cell 0;have zy:=LC.cell 1;have yV:=LC.cell 2;have zz:=LC.cell 3;have zA:=LC.cell 4;have zB:=LC.cell 5;have zC:=LC.cell 6;have zD:=LC.cell 7;have kl:=LC.lt;simp only[getsL]at zx zy yV zz zA zB zC zD;by_cases Pm:E=0
  ·
   by_cases FK:k0=2
   ·
    have Ui:k5=0:=by
     obtain⟨q0,q1,q2,q5,_⟩:=Sg.1 Pm;have:=(WR Pm).1 (by rw[<-q0];exact FK);omega
    subst FK Ui Pm;clear z2;go_wp2_with fail;rw[<-WP.out];go_ret;exact⟨rfl,GV.out⟩
   ·
    obtain⟨q0,q1,q2,q5,q6,q7,q8,V,xK,rfl,Pb⟩:=Sg.1 Pm;obtain⟨p0,p1,p2,p5,p6,p7,p8,V',xL,rfl,MI⟩:=XA Pm;obtain⟨_,hrel,hle⟩:=WR Pm;obtain⟨rfl,rfl⟩:=hrel (by rw[<-q0];exact FK);have WU:wrap64 (k5+more)=((u.left+more.toNat:Nat):Int):=by
     unfold wrap64;omega
    have Z6:=hdq (show(w6.setCell ⟨w4.heap.size,5,none⟩ (.int .i64 (wrap64 (k5+more)))).alloc (.cells #[.int .u8 m0,.int .u8 m1,.int .i64 m2,.int .i64 0,.int .i64 0,.int .i64 m5,.slice (some ⟨V',0,none⟩) mn md,.slice mB mm mc] 34)=w7.setCell ⟨w4.heap.size,5,none⟩ (.int .i64 (wrap64 (k5+more))) by
     rw[WP.out];exact(World.setCell_alloc_past _ _ _ _ LC.lt).symm)
    obtain⟨w8,GS⟩:=nmq (w7.setCell ⟨w4.heap.size,5,none⟩ (.int .i64 (wrap64 (k5+more))));have GF:Fr (λi=>i=w4.heap.size) w7 w8:=by rw[GS];exact Fr.own (Fr.refl _ _) _ _
    have SH:=zdG Pb (((L6.trans Uh.1).trans Uh.2).any.trans GF) (λb e=> .inr (by have e:b=w4.heap.size:=e;omega));have SI:=zdG MI (Uh.2.any.trans GF) (λb e=> .inl (by have e:b=w4.heap.size:=e;have:=jP.out;omega));have Xa:zkU w8 (enB h' (u.up more.toNat)) (.agg #[.int .u8 k0,.int .u8 k1,.int .i64 k2,.int .i64 0,.int .i64 0,.int .i64 (wrap64 (k5+more)),.slice (some ⟨V,0,none⟩) kn kd,.slice kB km kc]):=zkZ q0 q1 q2 WU q6 q7 q8 SH;have Xk:zkU w8 (enB h' (u.up more.toNat)) (.agg #[.int .u8 m0,.int .u8 m1,.int .i64 m2,.int .i64 0,.int .i64 0,.int .i64 m5,.slice (some ⟨V',0,none⟩) mn md,.slice mB mm mc]):=zkZ p0 p1 p2 p5 p6 p7 p8 SI;have FA:=zkW Xa Xk;rw[zkV]at FA;have WV:=hdq FA;have Zb:=hdq GS;have QY:=hdq (zm5 GV.out GF λi hi e=>by have e:i=w4.heap.size:=e;have:=GN.size;omega);subst Pm;clear Pb MI SH SI Xa Xk FA GS GF WU hrel hle q0 q1 q2 q5 q6 q7 q8 p0 p1 p2 p5 p6 p7 p8 z2;have xt:=LC.frozen 5;go_wp2_with fail;rw[Z6.out,<-Zb.out];go_at_call 15;refine WV.mono ?_;rintro _ w9 ⟨rfl,NZ⟩;have W3:=hdq NZ;clear NZ;go_wp2_with fail;go_ret;exact⟨rfl,QY.trans (Fr.below W3.out)⟩
  ·
   have Ui:k5=0:=Sg.2 Pm;subst Ui;have z1:(E != 0)=true:=by simpa using Pm
   go_wp2_with fail;rw[<-WP.out];go_ret;exact⟨rfl,GV.out⟩
theorem ziU (t:Tre)(w:World)(S:Nat->Prop)(Z:Prop)(Av Aa Ap Am:Option Addr)(cv ca cp cm:Nat)(script:List Int)(As:Option Addr)(cs:Nat)(steps more:Int)(he:NameEnv w)(hS:∀b,S b->b < w.heap.size)(Ht:SzT t)(hx:TrR w S Z t Av Aa Ap Am cv ca cp cm)(Kx:IsSl w w.heap.size script As cs)(_:As=none->cs=0)(_:in64 steps)(_:in64 more):
  Calls Tryz.prog 5 #[trV t Av Aa Ap Am cv ca cp cm,.slice As script.length cs,.int .i64 steps,.int .i64 more] w (zoT w):=(ziT t script steps more w S Z Av Aa Ap Am As cv ca cp cm cs he hS Ht hx Kx).mono λ_ _ h=>h.plain
